/- The law FnNumbers answers true for every draw: a number comes back from its bytes, in as few as can be and in so many; whatever stands there, it is one, or none. Conditions: those of the given row, and no others. -/
import Derived.Test.YtdjgnooacaoomaaMFnNumbersx5
namespace Go.Proofs.Ytdjgnooacaoomaa.Pure
open Go.RowKit Go.Proofs.Ytdjgnooacaoomaa.MFnNumbers Go.Proofs.YtdjgnooacaoomaaW.PrintWords Go.Proofs.YtdjgnooacaoomaaW.PrintLast Go.Proofs.YtdjgnooacaoomaaW.PrintMore
set_option linter.unusedVariables false
set_option linter.unusedSimpArgs false
/-! ### Whole numbers and bits -/
theorem wrap64_id {x : Int} (h0 : -9223372036854775808 ≤ x) (h1 : x ≤ 9223372036854775807) : wrap64 x = x := by unfold wrap64; omega
theorem wf_i64 {x : Int} (h : (Lit.int .i64 x).wf = true) : -9223372036854775808 ≤ x ∧ x ≤ 9223372036854775807 := by
  simp only [Lit.wf, IntKind.min, IntKind.max, IntKind.signed, IntKind.bits, Bool.and_eq_true, decide_eq_true_eq, if_true] at h
  omega
theorem mod_toNat_nat (a : Nat) (m : Nat) : (((a : Int) % (m : Int)).toNat) = a % m := by
  rw [← Int.natCast_emod, Int.toNat_natCast]
theorem bv_mask (j : Nat) (hj : j < 64) (x : Int) : (BitVec.ofInt 64 x &&& BitVec.ofInt 64 ((2 ^ j - 1 : Nat) : Int)).toNat = (x % ((2 ^ j : Nat) : Int)).toNat := by
  have hle : 2 ^ j ≤ 2 ^ 63 := Nat.pow_le_pow_right (by decide) (by omega)
  have hpos : 0 < 2 ^ j := Nat.two_pow_pos j
  have hlt : 2 ^ j - 1 < 2 ^ 64 := by omega
  have hd : (2 : Nat) ^ j ∣ 2 ^ 64 := Nat.pow_dvd_pow 2 (by omega)
  rw [BitVec.ofInt_natCast, BitVec.toNat_and, BitVec.toNat_ofNat, Nat.mod_eq_of_lt hlt, Nat.and_two_pow_sub_one_eq_mod, BitVec.toNat_ofInt]
  have h0 : 0 ≤ x % ((2 ^ 64 : Nat) : Int) := Int.emod_nonneg _ (by simp)
  have h1 : 0 ≤ x % ((2 ^ j : Nat) : Int) := Int.emod_nonneg _ (by omega)
  have : (((x % ((2 ^ 64 : Nat) : Int)).toNat % 2 ^ j : Nat) : Int) = x % ((2 ^ j : Nat) : Int) := by
    rw [Int.natCast_emod, Int.toNat_of_nonneg h0]
    exact Int.emod_emod_of_dvd x (Int.natCast_dvd_natCast.mpr hd)
  omega
/-- A mask of the lowest j bits, of any i64. -/
theorem i64_mask (j : Nat) (hj : j < 64) (x : Int) : Go.bits .and .i64 x (((2 ^ j - 1 : Nat) : Int)) = x % ((2 ^ j : Nat) : Int) := by
  have hpos : 0 < 2 ^ j := Nat.two_pow_pos j
  have hle : 2 ^ j ≤ 2 ^ 63 := Nat.pow_le_pow_right (by decide) (by omega)
  show IntKind.i64.wrap (((BitVec.ofInt 64 x &&& BitVec.ofInt 64 ((2 ^ j - 1 : Nat) : Int)).toNat : Nat) : Int) = _
  rw [bv_mask j hj x]
  have h1 : 0 ≤ x % ((2 ^ j : Nat) : Int) := Int.emod_nonneg _ (by omega)
  have h2 : x % ((2 ^ j : Nat) : Int) < ((2 ^ j : Nat) : Int) := Int.emod_lt_of_pos _ (by omega)
  rw [Int.toNat_of_nonneg h1, IntKind.wrap_i64]
  have h3 : ((2 ^ j : Nat) : Int) ≤ ((2 ^ 63 : Nat) : Int) := Int.ofNat_le.mpr hle
  have h5 : ((2 ^ 63 : Nat) : Int) = 9223372036854775808 := by decide
  omega
theorem i64_mask32 (x : Int) : Go.bits .and .i64 x 4294967295 = x % 4294967296 := i64_mask 32 (by decide) x
theorem i64_mask8 (x : Int) : Go.bits .and .i64 x 255 = x % 256 := i64_mask 8 (by decide) x
theorem i64_mask7 (x : Int) : Go.bits .and .i64 x 127 = x % 128 := i64_mask 7 (by decide) x
theorem i64_mask4 (x : Int) : Go.bits .and .i64 x 15 = x % 16 := i64_mask 4 (by decide) x
theorem i64_mask1 (x : Int) : Go.bits .and .i64 x 1 = x % 2 := i64_mask 1 (by decide) x
theorem xor_nat (k : IntKind) (j : Nat) (hj : j ≤ k.bits) (hk : ∀ n : Int, 0 ≤ n → n < 2 ^ j → k.wrap n = n) (a b : Nat) (ha : a < 2 ^ j) (hb : b < 2 ^ j) :
    Go.bits .xor k a b = ((a ^^^ b : Nat) : Int) := by
  have hp : 2 ^ j ≤ 2 ^ k.bits := Nat.pow_le_pow_right (by decide) hj
  have ha' : a % 2 ^ k.bits = a := Nat.mod_eq_of_lt (Nat.lt_of_lt_of_le ha hp)
  have hb' : b % 2 ^ k.bits = b := Nat.mod_eq_of_lt (Nat.lt_of_lt_of_le hb hp)
  simp only [Go.bits, BitVec.ofInt_natCast, BitVec.toNat_xor, BitVec.toNat_ofNat, ha', hb']
  exact hk _ (Int.natCast_nonneg _) (by exact_mod_cast Nat.xor_lt_two_pow ha hb)
theorem wraps_i64 (n : Int) (h0 : 0 ≤ n) (h1 : n < 2 ^ 63) : IntKind.i64.wrap n = n := by rw [IntKind.wrap_i64]; omega
theorem wraps_u32 (n : Int) (h0 : 0 ≤ n) (h1 : n < 2 ^ 32) : IntKind.u32.wrap n = n := by rw [IntKind.wrap_u32]; omega
theorem i64_xor (a b : Nat) (ha : a < 2 ^ 63) (hb : b < 2 ^ 63) : Go.bits .xor .i64 a b = ((a ^^^ b : Nat) : Int) := xor_nat .i64 63 (by decide) wraps_i64 a b ha hb
theorem u32_xor (a b : Nat) (ha : a < 2 ^ 32) (hb : b < 2 ^ 32) : Go.bits .xor .u32 a b = ((a ^^^ b : Nat) : Int) := xor_nat .u32 32 (by decide) wraps_u32 a b ha hb
theorem i64_or (a b : Nat) (ha : a < 2 ^ 63) (hb : b < 2 ^ 63) : Go.bits .or .i64 a b = ((a ||| b : Nat) : Int) := (Go.bits_nat .i64 63 (by decide) wraps_i64 a b ha hb).2
theorem u8_or (a b : Nat) (ha : a < 2 ^ 8) (hb : b < 2 ^ 8) : Go.bits .or .u8 a b = ((a ||| b : Nat) : Int) := (Go.bits_nat .u8 8 (by decide) Go.wraps_u8 a b ha hb).2
theorem u32_and1 (a : Nat) (ha : a < 2 ^ 32) : Go.bits .and .u32 a 1 = ((a % 2 : Nat) : Int) := by
  rw [show (1 : Int) = ((1 : Nat) : Int) from rfl, (Go.bits_nat .u32 32 (by decide) wraps_u32 a 1 ha (by decide)).1, show (1 : Nat) = 2 ^ 1 - 1 from rfl, Nat.and_two_pow_sub_one_eq_mod]
/-! ### Bytes of a text -/
theorem bt_list (s : ByteArray) (i : Nat) (h : i < s.data.toList.length) : bt s (i : Int) = ((s.data.toList[i]).toNat : Int) := by
  have h' : i < s.size := by rw [Array.length_toList] at h; exact h
  have hn : (i : Int).toNat < s.size := by rw [Int.toNat_natCast]; exact h'
  rw [← bt_at s i hn]
  rfl
theorem size_list (s : ByteArray) : s.data.toList.length = s.size := by rw [Array.length_toList]; rfl
theorem drop_cons (s : ByteArray) (i : Nat) (h : i < s.size) : s.data.toList.drop i = s.data.toList[i]'(by rw [size_list]; exact h) :: s.data.toList.drop (i + 1) :=
  List.drop_eq_getElem_cons (by rw [size_list]; exact h)
/-! ### From some number of rounds on -/
section
variable {α : Type} {f g : Nat → Option α} {r : α} {c : Prop} [Decidable c]
theorem Ev.pos (h : c) (e : Ev f r) : Ev (fun k => if c then f k else g k) r := Ev.congr (fun _ => if_pos h) e
theorem Ev.neg (h : ¬ c) (e : Ev g r) : Ev (fun k => if c then f k else g k) r := Ev.congr (fun _ => if_neg h) e
theorem Ev.const {o : Option α} (h : o = some r) : Ev (fun _ => o) r := ⟨0, fun _ _ => h⟩
theorem Ev.at (K : Nat) (h : ∀ k, K ≤ k → f k = some r) : Ev f r := ⟨K, h⟩
theorem Ev.of_eq {r' : α} (e : Ev f r) (h : r = r') : Ev f r' := h ▸ e
end
theorem Ev.both {α β : Type} {f : Nat → Option α} {g : Nat → Option β} {a : α} {b : β} (h : Ev f a) (h' : Ev g b) : ∃ k, f k = some a ∧ g k = some b := by
  obtain ⟨K, h⟩ := h
  obtain ⟨K', h'⟩ := h'
  exact ⟨max K K', h _ (by omega), h' _ (by omega)⟩
theorem big_f (l : List Int) : laws_big.f l = some (decide ((l.length : Int) > 1048576)) := rfl
/-! ### A number in bytes of seven bits -/
def vn : Nat → Nat → List Int
  | 0, n => [((n % 256 : Nat) : Int)]
  | f + 1, n => if n ≥ 128 then ((n % 128 + 128 : Nat) : Int) :: vn f (n / 128) else [((n % 256 : Nat) : Int)]
def varText (n : Int) : ByteArray := if 0 ≤ n ∧ n ≤ 1000000000 then strOfNums (vn 5 n.toNat) else ⟨#[]⟩
theorem vn_length (f n : Nat) : (vn f n).length ≤ f + 1 := by
  induction f generalizing n with
  | zero => simp [vn]
  | succ f ih =>
    unfold vn
    split
    · have := ih (n / 128); rw [List.length_cons]; omega
    · simp
theorem byte_or128 : ∀ b : Nat, b < 256 → b ||| 128 = b % 128 + 128 := by decide +kernel
/-! ### The number that stands at a place -/
def rvr : Nat → Nat → Nat → List UInt8 → Option (Nat × Nat)
  | 0, _, _, _ => none
  | _ + 1, _, _, [] => none
  | f + 1, i, n, c :: l => if c.toNat ≥ 128 then rvr f (i + 1) (n + c.toNat % 128 * 128 ^ i) l
    else if (0 < i ∧ c.toNat = 0) ∨ 1000000000 < n + c.toNat * 128 ^ i then none else some (n + c.toNat * 128 ^ i, i + 1)
def rvOut (a : Nat) : Option (Nat × Nat) → Int × Int × Bool
  | none => (0, 0, false)
  | some (n, m) => ((n : Int), ((a + m : Nat) : Int), true)
def readVar (b : ByteArray) (i : Int) : Int × Int × Bool := if 0 ≤ i ∧ i ≤ b.size then rvOut i.toNat (rvr 5 0 0 (b.data.toList.drop i.toNat)) else (0, 0, false)
def bytesUpto (l : List UInt8) (i j : Nat) : List UInt8 := (l.drop i).take (j - i)
def vl : List UInt8 → Nat
  | [] => 0
  | c :: l => c.toNat % 128 + 128 * vl l
theorem vl_snoc (l : List UInt8) (c : UInt8) : vl (l ++ [c]) = vl l + c.toNat % 128 * 128 ^ l.length := by
  induction l with
  | nil => simp [vl]
  | cons d l ih =>
    rw [List.cons_append, vl, vl, ih, List.length_cons, Nat.pow_succ, Nat.mul_add, Nat.add_assoc, Nat.mul_comm (128 ^ l.length) 128, ← Nat.mul_assoc, ← Nat.mul_assoc, Nat.mul_comm 128 (c.toNat % 128)]
theorem vl_lt (l : List UInt8) : vl l < 128 ^ l.length := by
  induction l with
  | nil => decide
  | cons c l ih => rw [vl, List.length_cons, Nat.pow_succ]; omega
theorem pow128 (i : Nat) : (128 : Nat) ^ i = 2 ^ (7 * i) := by rw [show (128 : Nat) = 2 ^ 7 from rfl, ← Nat.pow_mul]
def bytesOfNums (l : List Int) : List UInt8 := l.map fun n => UInt8.ofNat n.toNat
theorem strOfNums_bytes (l : List Int) : (strOfNums l).data.toList = bytesOfNums l := rfl
theorem ofNat_toNat8 (c : UInt8) : UInt8.ofNat ((c.toNat : Int)).toNat = c := by rw [Int.toNat_natCast]; exact UInt8.ofNat_toNat
/-- The bytes of the number that stands in these bytes are these, if the last one isn't needless. -/
theorem vn_of (p : List UInt8) : ∀ (f : Nat) (c : UInt8), (∀ d ∈ p, d.toNat ≥ 128) → c.toNat < 128 → (p ≠ [] → c.toNat ≠ 0) → p.length ≤ f → bytesOfNums (vn f (vl (p ++ [c]))) = p ++ [c] := by
  induction p with
  | nil =>
    intro f c _ hc _ _
    have e : vl ([] ++ [c]) = c.toNat := by simp [vl]; omega
    rw [e]
    have ec : ((c.toNat % 256 : Nat) : Int) = (c.toNat : Int) := by omega
    cases f with
    | zero => rw [vn, ec]; simp only [bytesOfNums, List.map_cons, List.map_nil, ofNat_toNat8, List.nil_append]
    | succ f => rw [vn, if_neg (by omega), ec]; simp only [bytesOfNums, List.map_cons, List.map_nil, ofNat_toNat8, List.nil_append]
  | cons d p ih =>
    intro f c hp hc h0 hl
    have hd := hp d (List.mem_cons_self ..)
    have hd2 := d.toNat_lt
    have h0' : c.toNat ≠ 0 := h0 (by simp)
    obtain ⟨f, rfl⟩ : ∃ g, f = g + 1 := ⟨f - 1, by rw [List.length_cons] at hl; omega⟩
    have hpos : 1 ≤ vl (p ++ [c]) := by
      rw [vl_snoc]
      have : 0 < 128 ^ p.length := Nat.pow_pos (by decide)
      have : 1 ≤ c.toNat % 128 * 128 ^ p.length := Nat.mul_pos (by omega) this
      omega
    rw [List.cons_append, vl, vn, if_pos (by omega), show (d.toNat % 128 + 128 * vl (p ++ [c])) / 128 = vl (p ++ [c]) by omega, show ((d.toNat % 128 + 128 * vl (p ++ [c])) % 128 + 128 : Nat) = d.toNat by omega]
    have := ih f c (fun x hx => hp x (List.mem_cons_of_mem _ hx)) hc (fun _ => h0') (by rw [List.length_cons] at hl; omega)
    show UInt8.ofNat ((d.toNat : Int)).toNat :: bytesOfNums (vn f (vl (p ++ [c]))) = _
    rw [this, ofNat_toNat8]
theorem vn_short (f : Nat) : ∀ (n i : Nat), 1 ≤ i → n < 128 ^ i → (vn f n).length ≤ i := by
  induction f with
  | zero => intro n i hi _; simpa [vn] using hi
  | succ f ih =>
    intro n i hi hn
    unfold vn
    split
    · rename_i h
      obtain ⟨i, rfl⟩ : ∃ j, i = j + 1 := ⟨i - 1, by omega⟩
      have : 1 ≤ i := by
        rcases Nat.eq_zero_or_pos i with h0 | h0
        · subst h0; simp at hn; omega
        · exact h0
      have := ih (n / 128) i this (by rw [Nat.pow_succ] at hn; exact Nat.div_lt_of_lt_mul (by rw [Nat.mul_comm]; exact hn))
      rw [List.length_cons]; omega
    · simpa using hi
theorem vn_needless (p : List UInt8) (f : Nat) (c : UInt8) (hc : c.toNat = 0) (hp : p ≠ []) : bytesOfNums (vn f (vl (p ++ [c]))) ≠ p ++ [c] := by
  intro h
  have h1 := congrArg List.length h
  rw [bytesOfNums, List.length_map, List.length_append, List.length_singleton] at h1
  have h2 : vl (p ++ [c]) < 128 ^ p.length := by
    rw [vl_snoc, hc]
    have := vl_lt p
    simpa using this
  have := vn_short f _ p.length (by rcases p with _ | ⟨x, l⟩; exact absurd rfl hp; simp) h2
  omega
theorem varText_bytes' (n : Nat) (h : n ≤ 1000000000) : (varText (n : Int)).data.toList = bytesOfNums (vn 5 n) := by
  unfold varText
  rw [if_pos (by omega), Int.toNat_natCast]; rfl
theorem rvr_bytes (f : Nat) : ∀ (p l : List UInt8) (r : Nat × Nat), p.length + f = 5 → (∀ d ∈ p, d.toNat ≥ 128) → rvr f p.length (vl p) l = some r →
    bytesOfNums (vn 5 r.1) = (p ++ l).take r.2 ∧ r.1 ≤ 1000000000 ∧ r.2 ≤ p.length + l.length := by
  induction f with
  | zero => intro p l r _ _ h; simp [rvr] at h
  | succ f ih =>
    intro p l r hl hp h
    cases l with
    | nil => simp [rvr] at h
    | cons c l =>
      unfold rvr at h
      split at h
      · rename_i hc
        have h' : rvr f (p ++ [c]).length (vl (p ++ [c])) l = some r := by rw [List.length_append, List.length_singleton, vl_snoc]; exact h
        have := ih (p ++ [c]) l r (by rw [List.length_append, List.length_singleton]; omega) (by
          intro d hd
          rcases List.mem_append.1 hd with h | h
          · exact hp d h
          · rw [List.mem_singleton] at h; subst h; exact hc) h'
        rw [List.append_assoc, List.singleton_append, List.length_append, List.length_singleton] at this
        rw [List.length_cons]
        exact ⟨this.1, this.2.1, by omega⟩
      · rename_i hc
        split at h
        · cases h
        · rename_i h2
          have e := Option.some.inj h
          subst e
          dsimp only
          have hv : vl (p ++ [c]) = vl p + c.toNat * 128 ^ p.length := by rw [vl_snoc, show c.toNat % 128 = c.toNat by omega]
          refine ⟨?_, by omega, by rw [List.length_cons]; omega⟩
          rw [← hv, vn_of p 5 c hp (by omega) (fun hne h0 => h2 (.inl ⟨List.length_pos_iff.mpr hne, h0⟩)) (by omega)]
          rw [show p ++ c :: l = (p ++ [c]) ++ l by simp, List.take_append_of_le_length (by simp), List.take_of_length_le (by simp)]
theorem readVar_bytes (b : ByteArray) (i : Int) (h : (readVar b i).2.2 = true) : 0 ≤ i ∧ i ≤ (readVar b i).2.1 ∧ (readVar b i).2.1 ≤ b.size ∧ 0 ≤ (readVar b i).1 ∧ (readVar b i).1 ≤ 1000000000 ∧
    (varText (readVar b i).1).toList = (b.extract i.toNat ((readVar b i).2.1).toNat).toList := by
  unfold readVar at *
  by_cases hi : 0 ≤ i ∧ i ≤ b.size
  · rw [if_pos hi] at h ⊢
    cases e : rvr 5 0 0 (b.data.toList.drop i.toNat) with
    | none => rw [e] at h; cases h
    | some r =>
      have hr := rvr_bytes 5 [] _ r rfl (by simp) e
      rw [List.length_drop, size_list, List.nil_append, List.length_nil] at hr
      obtain ⟨n, m⟩ := r
      obtain ⟨h1, h2, h3⟩ := hr
      unfold rvOut
      dsimp only at *
      refine ⟨by omega, by omega, by omega, by omega, by omega, ?_⟩
      rw [ByteArray.toList_eq, ByteArray.toList_eq, varText_bytes' _ h2, h1, ByteArray.data_extract, Array.toList_extract, Int.toNat_natCast]
      show _ = (b.data.toList.drop i.toNat).take (i.toNat + m - i.toNat)
      rw [Nat.add_sub_cancel_left]
  · rw [if_neg hi] at h; cases h
theorem rvr_vn (f : Nat) : ∀ (g i acc n : Nat) (rest : List UInt8), n < 128 ^ (f + 1) → f ≤ g → (i = 0 ∨ 1 ≤ n) → acc + n * 128 ^ i ≤ 1000000000 →
    rvr (f + 1) i acc (bytesOfNums (vn g n) ++ rest) = some (acc + n * 128 ^ i, i + (vn g n).length) := by
  induction f with
  | zero =>
    intro g i acc n rest hn hg hi ha
    have e : vn g n = [((n : Nat) : Int)] := by
      cases g with
      | zero => rw [vn, show n % 256 = n by omega]
      | succ g => rw [vn, if_neg (by omega), show n % 256 = n by omega]
    have e2 : (UInt8.ofNat ((n : Int)).toNat).toNat = n := by rw [Int.toNat_natCast, UInt8.toNat_ofNat']; omega
    rw [e]
    show rvr 1 i acc (UInt8.ofNat ((n : Int)).toNat :: rest) = _
    rw [rvr, e2, if_neg (by omega), if_neg (by omega)]; rfl
  | succ f ih =>
    intro g i acc n rest hn hg hi ha
    obtain ⟨g, rfl⟩ : ∃ j, g = j + 1 := ⟨g - 1, by omega⟩
    rw [vn]
    by_cases h : n ≥ 128
    · rw [if_pos h]
      have e2 : (UInt8.ofNat (((n % 128 + 128 : Nat) : Int)).toNat).toNat = n % 128 + 128 := by rw [Int.toNat_natCast, UInt8.toNat_ofNat']; omega
      show rvr (f + 2) i acc (UInt8.ofNat (((n % 128 + 128 : Nat) : Int)).toNat :: (bytesOfNums (vn g (n / 128)) ++ rest)) = _
      have e3 : acc + n % 128 * 128 ^ i + n / 128 * 128 ^ (i + 1) = acc + n * 128 ^ i := by
        rw [Nat.pow_succ, Nat.add_assoc, ← Nat.mul_assoc, Nat.mul_right_comm, ← Nat.add_mul, Nat.mod_add_div']
      have := ih g (i + 1) (acc + n % 128 * 128 ^ i) (n / 128) rest (Nat.div_lt_of_lt_mul (by rw [Nat.mul_comm, ← Nat.pow_succ]; exact hn)) (by omega) (.inr (by omega)) (by rw [e3]; exact ha)
      rw [rvr, e2, if_pos (by omega), show (n % 128 + 128) % 128 = n % 128 by omega, this, e3, List.length_cons]
      rw [Nat.add_assoc, Nat.add_comm 1]
    · rw [if_neg h]
      have e2 : (UInt8.ofNat (((n % 256 : Nat) : Int)).toNat).toNat = n := by rw [Int.toNat_natCast, UInt8.toNat_ofNat']; omega
      show rvr (f + 2) i acc (UInt8.ofNat (((n % 256 : Nat) : Int)).toNat :: rest) = _
      rw [rvr, e2, if_neg (by omega), if_neg (by omega)]; rfl
/-- A number comes back from its bytes, whatever is ahead and behind. -/
theorem readVar_back (a r : ByteArray) (n : Int) (h : 0 ≤ n ∧ n ≤ 1000000000) : readVar ((a ++ varText n) ++ r) (a.size : Int) = (n, ((a.size + (varText n).size : Nat) : Int), true) := by
  obtain ⟨m, rfl⟩ := Int.eq_ofNat_of_zero_le h.1
  have hb : ((a ++ varText (m : Int)) ++ r).data.toList.drop a.size = bytesOfNums (vn 5 m) ++ r.data.toList := by
    rw [ByteArray.data_append, Array.toList_append, ByteArray.data_append, Array.toList_append, varText_bytes' _ (by omega), List.append_assoc, ← size_list a, List.drop_left]
  have hsz : (varText (m : Int)).size = (vn 5 m).length := by rw [← size_list, varText_bytes' _ (by omega), bytesOfNums, List.length_map]
  unfold readVar
  rw [if_pos (by rw [ByteArray.size_append, ByteArray.size_append]; omega), Int.toNat_natCast, hb, rvr_vn 4 5 0 0 m _ (Nat.lt_of_lt_of_le (m := 2 ^ 31) (by omega) (by decide)) (by decide) (.inl rfl) (by omega), hsz]
  unfold rvOut
  simp
/-! ### The number of so many bytes -/
def rv : List UInt8 → Nat
  | [] => 0
  | c :: l => c.toNat + 256 * rv l
theorem rv_lt (l : List UInt8) : rv l < 256 ^ l.length := by
  induction l with
  | nil => decide
  | cons c l ih =>
    rw [rv, List.length_cons, Nat.pow_succ]
    have := c.toNat_lt
    omega
theorem rv_snoc (l : List UInt8) (c : UInt8) : rv (l ++ [c]) = rv l + c.toNat * 256 ^ l.length := by
  induction l with
  | nil => simp [rv]
  | cons d l ih =>
    rw [List.cons_append, rv, rv, ih, List.length_cons, Nat.pow_succ, Nat.mul_add, Nat.add_assoc, Nat.mul_comm (256 ^ l.length) 256, ← Nat.mul_assoc, ← Nat.mul_assoc, Nat.mul_comm 256 c.toNat]
theorem pow256' (i : Nat) : (256 : Nat) ^ i = 2 ^ (8 * i) := by rw [show (256 : Nat) = 2 ^ 8 from rfl, ← Nat.pow_mul]
def bytesAt (b : List UInt8) (i w : Nat) : List UInt8 := (b.drop i).take w
def readFix (b : ByteArray) (i w : Int) : Int × Bool :=
  if 1 ≤ w ∧ w ≤ 8 ∧ 0 ≤ i ∧ i ≤ b.size - w ∧ rv (bytesAt b.data.toList i.toNat w.toNat) < 2 ^ 63 then ((rv (bytesAt b.data.toList i.toNat w.toNat) : Nat), true) else (0, false)
theorem bytesAt_length (b : ByteArray) (i w : Nat) (h : i + w ≤ b.size) : (bytesAt b.data.toList i w).length = w := by
  unfold bytesAt
  rw [List.length_take, List.length_drop, size_list]; omega
theorem bytesAt_get (b : ByteArray) (i w j : Nat) (h : i + w ≤ b.size) (hj : j < w) : (bytesAt b.data.toList i w)[j]'(by rw [bytesAt_length b i w h]; exact hj) = b.data.toList[i + j]'(by rw [size_list]; omega) := by
  unfold bytesAt
  rw [List.getElem_take, List.getElem_drop]
theorem or_join (x i y : Nat) (hy : y < 2 ^ i) : (2 ^ i * x) ||| y = 2 ^ i * x + y := (Nat.two_pow_add_eq_or_of_lt hy x).symm
/-! ### A number in so many bytes -/
def fx : Nat → Nat → List Int
  | 0, _ => []
  | w + 1, n => ((n % 256 : Nat) : Int) :: fx w (n / 256)
def fixText (n w : Int) : ByteArray := if 0 ≤ n ∧ 1 ≤ w ∧ w ≤ 8 ∧ n.toNat / 256 ^ w.toNat = 0 then strOfNums (fx w.toNat n.toNat) else ⟨#[]⟩
theorem fx_length (w n : Nat) : (fx w n).length = w := by
  induction w generalizing n with
  | zero => rfl
  | succ w ih => rw [fx, List.length_cons, ih]
theorem fx_get (w : Nat) : ∀ (n i : Nat) (h : i < (fx w n).length), (fx w n)[i] = ((n / 256 ^ i % 256 : Nat) : Int) := by
  induction w with
  | zero => intro n i h; simp [fx] at h
  | succ w ih =>
    intro n i h
    cases i with
    | zero => simp [fx]
    | succ i =>
      simp only [fx, List.getElem_cons_succ]
      rw [ih, Nat.div_div_eq_div_mul, Nat.pow_succ, Nat.mul_comm 256]
theorem pow256 (i : Nat) : (256 : Nat) ^ i = 2 ^ (8 * i) := by rw [show (256 : Nat) = 2 ^ 8 from rfl, ← Nat.pow_mul]
theorem rv_fx (w : Nat) : ∀ n : Nat, rv (bytesOfNums (fx w n)) = n % 256 ^ w := by
  induction w with
  | zero => intro n; simp [fx, bytesOfNums, rv, Nat.mod_one]
  | succ w ih =>
    intro n
    have e2 : (UInt8.ofNat (((n % 256 : Nat) : Int)).toNat).toNat = n % 256 := by rw [Int.toNat_natCast, UInt8.toNat_ofNat']; omega
    show (UInt8.ofNat (((n % 256 : Nat) : Int)).toNat).toNat + 256 * rv (bytesOfNums (fx w (n / 256))) = _
    rw [e2, ih, Nat.pow_succ, Nat.mul_comm (256 ^ w) 256, Nat.mod_mul]
theorem fixText_is (n w : Nat) (hw : 1 ≤ w ∧ w ≤ 8) (hn : n < 256 ^ w) : (fixText (n : Int) (w : Int)) = strOfNums (fx w n) := by
  unfold fixText
  rw [if_pos (by refine ⟨by omega, by omega, by omega, ?_⟩; rw [Int.toNat_natCast, Int.toNat_natCast]; exact Nat.div_eq_of_lt hn), Int.toNat_natCast, Int.toNat_natCast]
theorem readFix_back (a : ByteArray) (n w : Nat) (hw : 1 ≤ w ∧ w ≤ 8) (hn : n < 256 ^ w) (hn2 : n < 2 ^ 63) : readFix (a ++ fixText (n : Int) (w : Int)) (a.size : Int) (w : Int) = ((n : Int), true) ∧ (fixText (n : Int) (w : Int)).size = w := by
  rw [fixText_is n w hw hn]
  have hsz : (strOfNums (fx w n)).size = w := by rw [strOfNums_size, fx_length]
  refine ⟨?_, hsz⟩
  have hb : bytesAt (a ++ strOfNums (fx w n)).data.toList a.size w = bytesOfNums (fx w n) := by
    unfold bytesAt
    rw [ByteArray.data_append, Array.toList_append, ← size_list a, List.drop_left, strOfNums_bytes]
    exact List.take_of_length_le (by rw [bytesOfNums, List.length_map, fx_length]; exact Nat.le_refl _)
  unfold readFix
  rw [Int.toNat_natCast, Int.toNat_natCast, hb, rv_fx, Nat.mod_eq_of_lt hn, ByteArray.size_append, hsz, if_pos (by omega)]
/-! ### The reference's cursor over a draw -/
def Inside (b : List Int) (i : Int) : Prop := 0 ≤ i ∧ i ≤ (b.length : Int)
theorem l01Byte_f (b : List Int) (hb : b.length ≤ 140737488355328) (i h : Int) (hi : Inside b i) : ∃ x i' h', spec_l01Byte.f b i h = some (x, i', h') ∧ (0 ≤ x ∧ x ≤ 255) ∧ Inside b i' := by
  unfold Inside at *
  unfold spec_l01Byte.f
  by_cases c : i < (b.length : Int)
  · rw [if_pos c, if_pos hi.1, i64_mask8, wrap64_id (x := i + 1) (by omega) (by omega)]
    refine ⟨_, _, _, rfl, ⟨?_, ?_⟩, by omega⟩
    · exact Int.emod_nonneg _ (by decide)
    · have := Int.emod_lt_of_pos (wrap64 (Go.bits .and .i64 (Go.bits .xor .i64 ((wrap64 ((wrap64 (h * 6364136223846793005)) + 1442695040888963407)) / 8589934592) ((wrap64 ((wrap64 (h * 6364136223846793005)) + 1442695040888963407)) / 35184372088832)) 255 + wrap64 (rd b i))) (show (0 : Int) < 256 by decide)
      omega
  · rw [if_neg c, i64_mask8]
    refine ⟨_, _, _, rfl, ⟨?_, ?_⟩, hi⟩
    · exact Int.emod_nonneg _ (by decide)
    · have := Int.emod_lt_of_pos (Go.bits .xor .i64 ((wrap64 ((wrap64 (h * 6364136223846793005)) + 1442695040888963407)) / 8589934592) ((wrap64 ((wrap64 (h * 6364136223846793005)) + 1442695040888963407)) / 35184372088832)) (show (0 : Int) < 256 by decide)
      omega
theorem l01New_l0 (b : List Int) (m : Nat) : ∀ (j : Nat) (h : Int), j + m = 4001 → ∃ h', Ev (fun k => spec_l01New.l0 k b h (j : Int)) (b, 0, h') := by
  induction m with
  | zero =>
    intro j h hj
    refine ⟨h, Ev.step (fun k => by rw [spec_l01New.l0]) ?_⟩
    by_cases c : (j : Int) < (b.length : Int)
    · exact Ev.pos c (Ev.neg (by omega) (Ev.now _))
    · exact Ev.neg c (Ev.now _)
  | succ m ih =>
    intro j h hj
    by_cases c : (j : Int) < (b.length : Int)
    · by_cases c2 : (j : Int) < 4000
      · obtain ⟨h', e⟩ := ih (j + 1) (Go.bits .and .i64 (wrap64 ((wrap64 ((wrap64 (h * 131)) + (wrap64 (rd b (j : Int))))) + 7)) 1073741823) (by omega)
        refine ⟨h', Ev.step (fun k => by rw [spec_l01New.l0]) (Ev.pos c (Ev.pos c2 (Ev.pos (by omega) ?_)))⟩
        rw [wrap64_id (x := (j : Int) + 1) (by omega) (by omega)]
        exact e
      · exact ⟨h, Ev.step (fun k => by rw [spec_l01New.l0]) (Ev.pos c (Ev.neg c2 (Ev.now _)))⟩
    · exact ⟨h, Ev.step (fun k => by rw [spec_l01New.l0]) (Ev.neg c (Ev.now _))⟩
theorem l01New_ev (b : List Int) : ∃ h', Ev (fun k => spec_l01New.f k b) (b, 0, h') := by
  unfold spec_l01New.f
  exact l01New_l0 b 4001 0 _ (by decide)
theorem inside0 (b : List Int) : Inside b 0 := ⟨by decide, by omega⟩
theorem l01Below_f (b : List Int) (hb : b.length ≤ 140737488355328) (i h : Int) (hi : Inside b i) (n : Int) : ∃ x i' h', spec_l01Below.f b i h n = some (x, i', h') ∧ 0 ≤ x ∧ (1 ≤ n → x < n) ∧ (n ≤ 0 → x = 0) ∧ Inside b i' := by
  unfold spec_l01Below.f
  by_cases c0 : n ≤ 0
  · rw [if_pos c0]; exact ⟨0, i, h, rfl, by decide, fun h => by omega, fun _ => rfl, hi⟩
  rw [if_neg c0]
  by_cases c1 : n ≤ 256
  · rw [if_pos c1]
    obtain ⟨x, i1, h1, e1, hx, hi1⟩ := l01Byte_f b hb i h hi
    rw [e1]
    simp only [Option.bind_some]
    rw [if_neg (by omega)]
    refine ⟨_, _, _, rfl, ?_, fun _ => ?_, fun h => by omega, hi1⟩
    · rw [Int.tmod_eq_emod_of_nonneg hx.1]; exact Int.emod_nonneg _ (by omega)
    · rw [Int.tmod_eq_emod_of_nonneg hx.1]; exact Int.emod_lt_of_pos _ (by omega)
  · rw [if_neg c1]
    obtain ⟨x, i1, h1, e1, hx, hi1⟩ := l01Byte_f b hb i h hi
    obtain ⟨y, i2, h2, e2, hy, hi2⟩ := l01Byte_f b hb i1 h1 hi1
    obtain ⟨z, i3, h3, e3, hz, hi3⟩ := l01Byte_f b hb i2 h2 hi2
    obtain ⟨w, i4, h4, e4, hw, hi4⟩ := l01Byte_f b hb i3 h3 hi3
    rw [e1]; simp only [Option.bind_some]
    rw [e2]; simp only [Option.bind_some]
    rw [e3]; simp only [Option.bind_some]
    rw [e4]; simp only [Option.bind_some]
    rw [if_neg (by omega), wrap64_id (x := x * 16777216) (by omega) (by omega), wrap64_id (x := y * 65536) (by omega) (by omega), wrap64_id (x := z * 256) (by omega) (by omega), wrap64_id (x := x * 16777216 + y * 65536) (by omega) (by omega), wrap64_id (x := x * 16777216 + y * 65536 + z * 256) (by omega) (by omega), wrap64_id (by omega) (by omega)]
    have hs : 0 ≤ x * 16777216 + y * 65536 + z * 256 + w := by omega
    refine ⟨_, _, _, rfl, ?_, fun _ => ?_, fun h => by omega, hi4⟩
    · rw [Int.tmod_eq_emod_of_nonneg hs]; exact Int.emod_nonneg _ (by omega)
    · rw [Int.tmod_eq_emod_of_nonneg hs]; exact Int.emod_lt_of_pos _ (by omega)
theorem spec_DrawPlaces_l0 (b : List Int) (hb : b.length ≤ 140737488355328) (m : Nat) : ∀ (j : Nat) (acc : List Int) (i h : Int), j + m = 12 → acc.length = j → (∀ x ∈ acc, 0 ≤ x ∧ x < 10000) → Inside b i →
    ∃ s, Ev (fun k => spec_DrawPlaces.l0 k acc (j : Int) b i h) s ∧ s.length = 12 ∧ (∀ x ∈ s, 0 ≤ x ∧ x < 10000) := by
  induction m with
  | zero =>
    intro j acc i h hj ha hx hi
    refine ⟨acc, Ev.step (fun k => by rw [spec_DrawPlaces.l0]) ?_, by omega, hx⟩
    exact Ev.neg (by omega) (Ev.now _)
  | succ m ih =>
    intro j acc i h hj ha hx hi
    obtain ⟨y, i1, h1, e1, h0, hlt, _, hi1⟩ := l01Below_f b hb i h hi 10000
    obtain ⟨s, e, hs, hsx⟩ := ih (j + 1) (acc ++ [y]) i1 h1 (by omega) (by rw [List.length_append, List.length_singleton]; omega) (by
      intro x hxm
      rcases List.mem_append.1 hxm with h | h
      · exact hx x h
      · rw [List.mem_singleton] at h; subst h; exact ⟨h0, hlt (by decide)⟩) hi1
    refine ⟨s, Ev.step (fun k => by rw [spec_DrawPlaces.l0]) (Ev.pos (by omega) (Ev.bind (Ev.const e1) ?_)), hs, hsx⟩
    refine Ev.pos (by omega) ?_
    rw [wrap64_id (by omega) (by omega)]
    exact e
theorem spec_DrawPlaces_ev (b : List Int) (hb : b.length ≤ 140737488355328) : ∃ s, Ev (fun k => spec_DrawPlaces.f k b) s ∧ s.length = 12 ∧ (∀ x ∈ s, 0 ≤ x ∧ x < 10000) := by
  obtain ⟨h1, e1⟩ := l01New_ev b
  obtain ⟨s, e, hs⟩ := spec_DrawPlaces_l0 b hb 12 0 [] 0 h1 (by decide) rfl (by simp) (inside0 b)
  refine ⟨s, ?_, hs⟩
  unfold spec_DrawPlaces.f
  exact Ev.bind e1 e
theorem l01Pick_f (b : List Int) (hb : b.length ≤ 140737488355328) (i h : Int) (hi : Inside b i) (l : List ByteArray) (hl : l ≠ []) : ∃ x i' h', spec_l01Pick.f b i h l = some (x, i', h') ∧ x ∈ l ∧ Inside b i' := by
  obtain ⟨x, i1, h1, e1, h0, hlt, _, hi1⟩ := l01Below_f b hb i h hi (l.length : Int)
  have hpos : 1 ≤ (l.length : Int) := by have := List.length_pos_iff.mpr hl; omega
  unfold spec_l01Pick.f
  rw [e1]
  simp only [Option.bind_some]
  rw [if_pos h0, if_pos (hlt hpos)]
  refine ⟨_, _, _, rfl, ?_, hi1⟩
  have hx : x.toNat < l.length := by have := hlt hpos; omega
  unfold rdOf
  rw [List.getD_eq_getElem?_getD, List.getElem?_eq_getElem hx]
  exact List.getElem_mem hx
theorem l01PickInt_f (b : List Int) (hb : b.length ≤ 140737488355328) (i h : Int) (hi : Inside b i) (l : List Int) (hl : l ≠ []) : ∃ x i' h', spec_l01PickInt.f b i h l = some (x, i', h') ∧ x ∈ l ∧ Inside b i' := by
  obtain ⟨x, i1, h1, e1, h0, hlt, _, hi1⟩ := l01Below_f b hb i h hi (l.length : Int)
  have hpos : 1 ≤ (l.length : Int) := by have := List.length_pos_iff.mpr hl; omega
  unfold spec_l01PickInt.f
  rw [e1]
  simp only [Option.bind_some]
  rw [if_pos h0, if_pos (hlt hpos)]
  refine ⟨_, _, _, rfl, ?_, hi1⟩
  have hx : x.toNat < l.length := by have := hlt hpos; omega
  unfold rd
  rw [List.getD_eq_getElem?_getD, List.getElem?_eq_getElem hx]
  exact List.getElem_mem hx
theorem l01Text_l0 (b : List Int) (hb : b.length ≤ 140737488355328) (n : Int) (hn : n ≤ 5000) (m : Nat) : ∀ (j : Nat) (acc : List Int) (i h : Int), ((j : Int) + m = n ∨ (m = 0 ∧ n ≤ j)) → acc.length = j → j ≤ 5000 → Inside b i →
    ∃ s i' h', Ev (fun k => spec_l01Text.l0 k n acc (j : Int) b i h) (s, i', h') ∧ s.size ≤ 5000 ∧ Inside b i' := by
  induction m with
  | zero =>
    intro j acc i h hj ha hj2 hi
    refine ⟨strOfNums acc, i, h, ?_, by rw [strOfNums_size]; omega, hi⟩
    refine Ev.step (fun k => by rw [spec_l01Text.l0]) ?_
    exact Ev.neg (by omega) (Ev.now _)
  | succ m ih =>
    intro j acc i h hj ha hj2 hi
    obtain ⟨x, i1, h1, e1, hx, hi1⟩ := l01Byte_f b hb i h hi
    obtain ⟨s, i', h', e, hs, hi'⟩ := ih (j + 1) (acc ++ [x % 256]) i1 h1 (by omega) (by rw [List.length_append, List.length_singleton]; omega) (by omega) hi1
    refine ⟨s, i', h', ?_, hs, hi'⟩
    refine Ev.step (fun k => by rw [spec_l01Text.l0]) (Ev.pos (by omega) ?_)
    rw [e1, wrap64_id (by omega) (by omega)]
    refine Ev.bind (Ev.const rfl) ?_
    exact Ev.pos (by omega) e
theorem l01Text_ev (b : List Int) (hb : b.length ≤ 140737488355328) (i h : Int) (hi : Inside b i) (n : Int) : ∃ s i' h', Ev (fun k => spec_l01Text.f k b i h n) (s, i', h') ∧ s.size ≤ 5000 ∧ Inside b i' := by
  by_cases c : n > 5000
  · obtain ⟨s, i', h', e, hs, hi'⟩ := l01Text_l0 b hb 5000 (by decide) 5000 0 [] i h (.inl (by decide)) rfl (by decide) hi
    refine ⟨s, i', h', ?_, hs, hi'⟩
    unfold spec_l01Text.f
    refine Ev.pos c (Ev.step (fun k => by rw [spec_l01Text.j0]) ?_)
    exact e
  · obtain ⟨s, i', h', e, hs, hi'⟩ := l01Text_l0 b hb n (by omega) n.toNat 0 [] i h (by omega) rfl (by decide) hi
    refine ⟨s, i', h', ?_, hs, hi'⟩
    unfold spec_l01Text.f
    refine Ev.neg c (Ev.step (fun k => by rw [spec_l01Text.j0]) ?_)
    exact e
theorem l01In_f (a b c : Int) : spec_l01In.f a b c = some (decide (b ≤ a ∧ a ≤ c)) := by
  unfold spec_l01In.f
  by_cases h : a ≥ b
  · rw [if_pos h]; congr 1; rw [decide_eq_decide]; omega
  · rw [if_neg h]; congr 1; symm; rw [decide_eq_false_iff_not]; omega
theorem spec_VarText_l0 (f : Nat) : ∀ (n : Nat) (acc : List Int), n < 128 ^ (f + 1) → n < 2 ^ 31 → acc.length + f < 1000 →
    Ev (fun k => spec_VarText.l0 k (n : Int) acc) (strOfNums (acc ++ vn f n)) := by
  induction f with
  | zero =>
    intro n acc hn hb ha
    refine Ev.step (fun k => by rw [spec_VarText.l0]) ?_
    refine Ev.neg (by omega) (Ev.pos (by omega) (Ev.const ?_))
    rw [show ((n : Int) % 256) = ((n % 256 : Nat) : Int) by omega]; rfl
  | succ f ih =>
    intro n acc hn hb ha
    refine Ev.step (fun k => by rw [spec_VarText.l0]) ?_
    unfold vn
    by_cases h : n ≥ 128
    · rw [if_pos h]
      refine Ev.pos (by omega) (Ev.pos (by omega) ?_)
      rw [i64_mask7, show ((n : Int) % 128) = ((n % 128 : Nat) : Int) by omega, show (128 : Int) = ((128 : Nat) : Int) from rfl, i64_or _ _ (by omega) (by decide), byte_or128 _ (by omega)]
      rw [show (((n % 128 % 128 + 128 : Nat) : Int) % 256) = ((n % 128 + 128 : Nat) : Int) by omega, show ((n : Int) / ((128 : Nat) : Int)) = ((n / 128 : Nat) : Int) by omega]
      refine Ev.of_eq (ih (n / 128) _ ?_ (by omega) (by rw [List.length_append, List.length_singleton]; omega)) (by rw [List.append_assoc]; rfl)
      rw [Nat.pow_succ] at hn
      exact Nat.div_lt_of_lt_mul (by rw [Nat.mul_comm]; exact hn)
    · rw [if_neg h]
      refine Ev.neg (by omega) (Ev.pos (by omega) (Ev.const ?_))
      rw [show ((n : Int) % 256) = ((n % 256 : Nat) : Int) by omega]
theorem spec_VarText_ev (n : Int) : Ev (fun k => spec_VarText.f k n) (varText n) := by
  unfold spec_VarText.f varText
  rw [l01In_f]
  refine Ev.bind (Ev.const rfl) ?_
  simp only [decide_eq_true_eq]
  by_cases h : 0 ≤ n ∧ n ≤ 1000000000
  · rw [if_pos h]
    refine Ev.pos h ?_
    have e : n = ((n.toNat : Nat) : Int) := by omega
    rw [e, Int.toNat_natCast]
    exact spec_VarText_l0 5 n.toNat [] (Nat.lt_of_lt_of_le (m := 2 ^ 31) (by omega) (by decide)) (by omega) (by decide)
  · rw [if_neg h]
    exact Ev.neg h (Ev.now _)
theorem varText_short (n : Int) : (varText n).size ≤ 6 := by
  unfold varText
  split
  · rw [strOfNums_size]; exact vn_length 5 _
  · decide
theorem spec_DrawReadVar_ev (b : List Int) (hb : b.length ≤ 140737488355328) : ∃ s n, Ev (fun k => spec_DrawReadVar.f k b) (s, n) ∧ s.size ≤ 10000 ∧ (-9223372036854775808 ≤ n ∧ n ≤ 9223372036854775807) := by
  obtain ⟨h1, e1⟩ := l01New_ev b
  obtain ⟨a, i2, h2, e2, ha, hi2⟩ := l01Pick_f b hb 0 h1 (inside0 b) [(⟨#[]⟩ : ByteArray), (⟨#[120]⟩ : ByteArray), (⟨#[97, 98]⟩ : ByteArray)] (by simp)
  have ha2 : a.size ≤ 2 := by
    simp only [List.mem_cons, List.not_mem_nil, or_false] at ha
    rcases ha with rfl | rfl | rfl <;> decide
  obtain ⟨v, i3, h3, e3, _, _, _, hi3⟩ := l01Below_f b hb i2 h2 hi2 1000000000
  have ev := spec_VarText_ev v
  have hv := varText_short v
  generalize varText v = t at ev hv
  obtain ⟨c, i4, h4, e4, _, _, _, hi4⟩ := l01Below_f b hb i3 h3 hi3 6
  have hat : (a ++ t).size ≤ 8 := by rw [ByteArray.size_append]; omega
  unfold spec_DrawReadVar.f
  by_cases c0 : c = 0
  · obtain ⟨d, i5, h5, e5, hd, hi5⟩ := l01Pick_f b hb i4 h4 hi4 [(⟨#[128]⟩ : ByteArray), (⟨#[128, 0]⟩ : ByteArray), (⟨#[255, 255, 255, 255, 15]⟩ : ByteArray), (⟨#[128, 148, 235, 220, 3]⟩ : ByteArray), (⟨#[129, 148, 235, 220, 3]⟩ : ByteArray), (⟨#[128, 128, 128, 128, 128, 1]⟩ : ByteArray)] (by simp)
    have hd2 : d.size ≤ 6 := by
      simp only [List.mem_cons, List.not_mem_nil, or_false] at hd
      rcases hd with rfl | rfl | rfl | rfl | rfl | rfl <;> decide
    obtain ⟨y, i6, h6, e6, _, _, _, hi6⟩ := l01Below_f b hb i5 h5 hi5 3
    obtain ⟨s, i7, h7, e7, hs, hi7⟩ := l01Text_ev b hb i6 h6 hi6 y
    have had : (a ++ d).size ≤ 8 := by rw [ByteArray.size_append]; omega
    refine ⟨(a ++ d) ++ s, (a.size : Int), ?_, by rw [ByteArray.size_append]; omega, by omega⟩
    refine Ev.bind e1 (Ev.bind (Ev.const e2) (Ev.bind (Ev.const e3) (Ev.bind ev (Ev.pos (by dsimp only; omega) (Ev.bind (Ev.const e4) (Ev.pos c0 ?_))))))
    refine Ev.bind (Ev.const e5) (Ev.pos (by dsimp only; omega) (Ev.bind (Ev.const e6) (Ev.bind e7 (Ev.pos (by dsimp only; omega) (Ev.now _)))))
  · by_cases c1 : c = 1
    · obtain ⟨n, i5, h5, e5, hn, hi5⟩ := l01PickInt_f b hb i4 h4 hi4 [(-1), ((a ++ t).size : Int), wrap64 (((a ++ t).size : Int) + 1), 9223372036854775807] (by simp)
      refine ⟨a ++ t, n, ?_, by omega, ?_⟩
      · refine Ev.bind e1 (Ev.bind (Ev.const e2) (Ev.bind (Ev.const e3) (Ev.bind ev (Ev.pos (by dsimp only; omega) (Ev.bind (Ev.const e4) (Ev.neg c0 (Ev.pos c1 ?_)))))))
        exact Ev.bind (Ev.const e5) (Ev.now _)
      · rw [wrap64_id (x := ((a ++ t).size : Int) + 1) (by omega) (by omega)] at hn
        simp only [List.mem_cons, List.not_mem_nil, or_false] at hn
        rcases hn with rfl | rfl | rfl | rfl <;> omega
    · obtain ⟨y, i6, h6, e6, _, _, _, hi6⟩ := l01Below_f b hb i4 h4 hi4 3
      obtain ⟨s, i7, h7, e7, hs, hi7⟩ := l01Text_ev b hb i6 h6 hi6 y
      refine ⟨(a ++ t) ++ s, (a.size : Int), ?_, by rw [ByteArray.size_append]; omega, by omega⟩
      refine Ev.bind e1 (Ev.bind (Ev.const e2) (Ev.bind (Ev.const e3) (Ev.bind ev (Ev.pos (by dsimp only; omega) (Ev.bind (Ev.const e4) (Ev.neg c0 (Ev.neg c1 ?_)))))))
      refine Ev.bind (Ev.const e6) (Ev.bind e7 (Ev.pos (by dsimp only; omega) (Ev.now _)))
theorem l01Once_f (b : List Int) (hb : b.length ≤ 140737488355328) (i h : Int) (hi : Inside b i) (n : Int) : ∃ x i' h', spec_l01Once.f b i h n = some (x, i', h') ∧ Inside b i' := by
  obtain ⟨x, i1, h1, e1, _, _, _, hi1⟩ := l01Below_f b hb i h hi n
  unfold spec_l01Once.f
  rw [e1]
  exact ⟨_, _, _, rfl, hi1⟩
theorem l01Long_l0 (c : Int) (N : Nat) (hN : N ≤ 1000) (m : Nat) : ∀ (j : Nat) (xs : List Int), j + m = N → xs.length = N → ∃ s, Ev (fun k => spec_l01Long.l0 k (N : Int) c xs (j : Int)) s ∧ s.size = N := by
  induction m with
  | zero =>
    intro j xs hj hl
    refine ⟨strOfNums xs, Ev.step (fun k => by rw [spec_l01Long.l0]) ?_, by rw [strOfNums_size, hl]⟩
    exact Ev.neg (by omega) (Ev.now _)
  | succ m ih =>
    intro j xs hj hl
    obtain ⟨s, e, hs⟩ := ih (j + 1) (xs.set j c) (by omega) (by rw [List.length_set]; exact hl)
    refine ⟨s, Ev.step (fun k => by rw [spec_l01Long.l0]) (Ev.pos (by omega) (Ev.pos (by omega) (Ev.pos (by omega) ?_))), hs⟩
    rw [wrap64_id (by omega) (by omega), Int.toNat_natCast]
    exact e
theorem l01Long_ev (c : Int) (N : Nat) (hN : N ≤ 1000) : ∃ s, Ev (fun k => spec_l01Long.f k (N : Int) c) s ∧ s.size = N := by
  obtain ⟨s, e, hs⟩ := l01Long_l0 c N hN N 0 (List.replicate N 0) (by omega) (List.length_replicate ..)
  refine ⟨s, ?_, hs⟩
  unfold spec_l01Long.f
  refine Ev.pos (by omega) (Ev.pos (by omega) ?_)
  rw [Int.toNat_natCast]
  exact e
theorem drawnPlace (L : Nat) (hL : L ≤ 10000) (n : Int) (h : n ∈ ([0, 1, 4, (L : Int), (-1), 9223372036854775807, wrap64 ((L : Int) - 8)] : List Int)) : -9223372036854775808 ≤ n ∧ n ≤ 9223372036854775807 := by
  rw [wrap64_id (x := (L : Int) - 8) (by omega) (by omega)] at h
  simp only [List.mem_cons, List.not_mem_nil, or_false] at h
  rcases h with rfl | rfl | rfl | rfl | rfl | rfl | rfl <;> omega
theorem drawnWidth (n : Int) (h : n ∈ ([1, 2, 4, 8, 0, 9] : List Int)) : -9223372036854775808 ≤ n ∧ n ≤ 9223372036854775807 := by
  simp only [List.mem_cons, List.not_mem_nil, or_false] at h
  rcases h with rfl | rfl | rfl | rfl | rfl | rfl <;> decide
theorem spec_DrawReadFix_ev (b : List Int) (hb : b.length ≤ 140737488355328) : ∃ s i w, Ev (fun k => spec_DrawReadFix.f k b) (s, i, w) ∧ s.size ≤ 10000 ∧ (-9223372036854775808 ≤ i ∧ i ≤ 9223372036854775807) ∧ (-9223372036854775808 ≤ w ∧ w ≤ 9223372036854775807) := by
  obtain ⟨h1, e1⟩ := l01New_ev b
  obtain ⟨y, i2, h2, e2, _, _, _, hi2⟩ := l01Below_f b hb 0 h1 (inside0 b) 12
  obtain ⟨s, i3, h3, e3, hs, hi3⟩ := l01Text_ev b hb i2 h2 hi2 y
  obtain ⟨c, i4, h4, e4, hi4⟩ := l01Once_f b hb i3 h3 hi3 4
  unfold spec_DrawReadFix.f
  cases c with
  | true =>
    obtain ⟨t, et, ht⟩ := l01Long_ev 255 8 (by decide)
    have hst : (s ++ t).size ≤ 5008 := by rw [ByteArray.size_append]; omega
    obtain ⟨n, i5, h5, e5, hn, hi5⟩ := l01PickInt_f b hb i4 h4 hi4 [0, 1, 4, ((s ++ t).size : Int), (-1), 9223372036854775807, wrap64 (((s ++ t).size : Int) - 8)] (by simp)
    obtain ⟨w, i6, h6, e6, hw, hi6⟩ := l01PickInt_f b hb i5 h5 hi5 [1, 2, 4, 8, 0, 9] (by simp)
    refine ⟨s ++ t, n, w, ?_, by omega, drawnPlace _ (by omega) n hn, drawnWidth w hw⟩
    refine Ev.bind e1 (Ev.bind (Ev.const e2) (Ev.bind e3 (Ev.bind (Ev.const e4) (Ev.pos rfl (Ev.bind et (Ev.pos (by dsimp only; omega) ?_))))))
    exact Ev.bind (Ev.const e5) (Ev.bind (Ev.const e6) (Ev.now _))
  | false =>
    obtain ⟨n, i5, h5, e5, hn, hi5⟩ := l01PickInt_f b hb i4 h4 hi4 [0, 1, 4, (s.size : Int), (-1), 9223372036854775807, wrap64 ((s.size : Int) - 8)] (by simp)
    obtain ⟨w, i6, h6, e6, hw, hi6⟩ := l01PickInt_f b hb i5 h5 hi5 [1, 2, 4, 8, 0, 9] (by simp)
    refine ⟨s, n, w, ?_, by omega, drawnPlace _ (by omega) n hn, drawnWidth w hw⟩
    refine Ev.bind e1 (Ev.bind (Ev.const e2) (Ev.bind e3 (Ev.bind (Ev.const e4) (Ev.neg Bool.false_ne_true ?_))))
    exact Ev.bind (Ev.const e5) (Ev.bind (Ev.const e6) (Ev.now _))
theorem within_f (a b c : Int) : impl_within.f a b c = some (decide (b ≤ a ∧ a ≤ c)) := by
  unfold impl_within.f
  by_cases h : a ≥ b
  · rw [if_pos h]; congr 1; rw [decide_eq_decide]; omega
  · rw [if_neg h]; congr 1; symm; rw [decide_eq_false_iff_not]; omega
theorem isNumber_f (a : Int) : impl_isNumber.f a = some (decide (0 ≤ a ∧ a ≤ 1000000000)) := by
  unfold impl_isNumber.f
  rw [within_f]; rfl
theorem shl7 (c : Nat) (hc : c < 128) (i : Nat) (hi : i ≤ 4) : shl .i64 (c : Int) (7 * (i : Int)) = ((2 ^ (7 * i) * c : Nat) : Int) := by
  unfold shl
  rw [show min ((7 * (i : Int)).toNat) IntKind.i64.bits = 7 * i by have : IntKind.i64.bits = 64 := rfl; omega]
  have : 2 ^ (7 * i) * c < 2 ^ 35 := by
    refine Nat.lt_of_lt_of_le (m := 2 ^ (7 * i) * 2 ^ 7) ((Nat.mul_lt_mul_left (Nat.two_pow_pos _)).2 hc) ?_
    rw [← Nat.pow_add]
    exact Nat.pow_le_pow_right (by decide) (by omega)
  rw [show ((c : Int) * 2 ^ (7 * i)) = ((2 ^ (7 * i) * c : Nat) : Int) by rw [Int.natCast_mul, Int.natCast_pow, Int.mul_comm]; rfl]
  exact wraps_i64 _ (Int.natCast_nonneg _) (by omega)
/-- A round's number. -/
theorem or7 (n c : Nat) (i : Nat) (hi : i ≤ 4) (hn : n < 128 ^ i) : Go.bits .or .i64 (n : Int) (shl .i64 (Go.bits .and .i64 (c : Int) 127) (7 * (i : Int))) = ((n + c % 128 * 128 ^ i : Nat) : Int) := by
  rw [i64_mask7, show ((c : Int) % 128) = ((c % 128 : Nat) : Int) by omega, shl7 _ (by omega) i hi]
  have hp : (2 : Nat) ^ (7 * i) ≤ 2 ^ 28 := Nat.pow_le_pow_right (by decide) (by omega)
  have hm : 2 ^ (7 * i) * (c % 128) ≤ 2 ^ 28 * 128 := Nat.mul_le_mul hp (by omega)
  rw [pow128] at hn ⊢
  rw [i64_or _ _ (by omega) (by omega), Nat.or_comm, ← Nat.two_pow_add_eq_or_of_lt hn, Nat.mul_comm, Nat.add_comm]
theorem impl_ReadVar_l0 (b : ByteArray) (hb : b.size ≤ 140737488355328) (a : Nat) (ha : a ≤ b.size) (f : Nat) : ∀ (i n : Nat), i + f = 5 → n < 128 ^ i →
    Ev (fun k => impl_ReadVar.l0 k b (a : Int) (n : Int) (i : Int)) (rvOut a (rvr f i n (b.data.toList.drop (a + i)))) := by
  induction f with
  | zero =>
    intro i n hi hn
    refine Ev.of_eq (r := ((0 : Int), (0 : Int), false)) (Ev.step (fun k => by rw [impl_ReadVar.l0]) ?_) rfl
    exact Ev.neg (by omega) (Ev.now _)
  | succ f ih =>
    intro i n hi hn
    have hi4 : i ≤ 4 := by omega
    refine Ev.step (fun k => by rw [impl_ReadVar.l0]) (Ev.pos (by omega) ?_)
    rw [within_f, wrap64_id (x := (b.size : Int) - 1) (by omega) (by omega), wrap64_id (x := (b.size : Int) - 1 - i) (by omega) (by omega)]
    refine Ev.bind (Ev.const rfl) ?_
    by_cases h1 : a + i < b.size
    · refine Ev.pos (decide_eq_true (by omega)) ?_
      rw [wrap64_id (x := (a : Int) + i) (by omega) (by omega), wrap64_id (x := 7 * (i : Int)) (by omega) (by omega), wrap64_id (x := (i : Int) + 1) (by omega) (by omega)]
      refine Ev.pos (by omega) (Ev.pos (by omega) (Ev.pos (by omega) ?_))
      rw [show (a : Int) + i = ((a + i : Nat) : Int) by omega, bt_list b (a + i) (by rw [size_list]; omega), drop_cons b (a + i) h1]
      have hc := (b.data.toList[a + i]'(by rw [size_list]; omega)).toNat_lt
      generalize (b.data.toList[a + i]'(by rw [size_list]; omega)) = c at hc ⊢
      rw [wrap64_id (x := (c.toNat : Int)) (by omega) (by omega), or7 n c.toNat i hi4 hn]
      unfold rvr
      have hpw : 128 ^ (i + 1) = 128 ^ i * 128 := Nat.pow_succ ..
      have hlt : n + c.toNat % 128 * 128 ^ i < 128 ^ (i + 1) := by
        have : c.toNat % 128 * 128 ^ i ≤ 127 * 128 ^ i := Nat.mul_le_mul_right _ (by omega)
        omega
      by_cases h2 : c.toNat ≥ 128
      · refine Ev.of_eq (r := rvOut a (rvr f (i + 1) (n + c.toNat % 128 * 128 ^ i) (b.data.toList.drop (a + i + 1)))) ?_ (congrArg (rvOut a) (if_pos h2)).symm
        refine Ev.pos (by omega) ?_
        exact ih (i + 1) _ (by omega) hlt
      · rw [show c.toNat % 128 = c.toNat by omega]
        refine Ev.of_eq (r := rvOut a (if (0 < i ∧ c.toNat = 0) ∨ 1000000000 < n + c.toNat * 128 ^ i then none else some (n + c.toNat * 128 ^ i, i + 1))) ?_ (congrArg (rvOut a) (if_neg h2)).symm
        refine Ev.neg (by omega) ?_
        rw [isNumber_f]
        have last : (¬ (0 < i ∧ c.toNat = 0)) → Ev (fun k => (some (decide (0 ≤ ((n + c.toNat * 128 ^ i : Nat) : Int) ∧ ((n + c.toNat * 128 ^ i : Nat) : Int) ≤ 1000000000))).bind fun t => if t = true then some (((n + c.toNat * 128 ^ i : Nat) : Int), wrap64 (((a + i : Nat) : Int) + 1), true) else some (0, 0, false)) (rvOut a (if (0 < i ∧ c.toNat = 0) ∨ 1000000000 < n + c.toNat * 128 ^ i then none else some (n + c.toNat * 128 ^ i, i + 1))) := by
          intro h3
          refine Ev.bind (Ev.const rfl) ?_
          by_cases h4 : 1000000000 < n + c.toNat * 128 ^ i
          · refine Ev.of_eq (r := rvOut a none) ?_ (congrArg (rvOut a) (if_pos (.inr h4))).symm
            exact Ev.neg (by rw [decide_eq_false (by omega)]; decide) (Ev.now _)
          · refine Ev.of_eq (r := rvOut a (some (n + c.toNat * 128 ^ i, i + 1))) ?_ (congrArg (rvOut a) (if_neg (by rintro (h | h); exact h3 h; exact h4 h))).symm
            refine Ev.pos (decide_eq_true (by omega)) (Ev.const ?_)
            rw [wrap64_id (by omega) (by omega)]
            rfl
        by_cases h3 : (i : Int) > 0
        · refine Ev.pos h3 ?_
          by_cases h4 : (c.toNat : Int) = 0
          · refine Ev.of_eq (r := rvOut a none) ?_ (congrArg (rvOut a) (if_pos (.inl ⟨by omega, by omega⟩))).symm
            exact Ev.pos h4 (Ev.now _)
          · exact Ev.neg h4 (last (by omega))
        · exact Ev.neg h3 (last (by omega))
    · rw [List.drop_eq_nil_of_le (by rw [size_list]; omega)]
      refine Ev.of_eq (r := ((0 : Int), (0 : Int), false)) ?_ rfl
      exact Ev.neg (by rw [decide_eq_false (by omega)]; decide) (Ev.now _)
theorem impl_ReadVar_ev (b : ByteArray) (hb : b.size ≤ 140737488355328) (i : Int) (hi : -9223372036854775808 ≤ i ∧ i ≤ 9223372036854775807) : Ev (fun k => impl_ReadVar.f k b i) (readVar b i) := by
  unfold impl_ReadVar.f readVar
  by_cases h : 0 ≤ i ∧ i ≤ b.size
  · rw [if_pos h]
    obtain ⟨a, rfl⟩ := Int.eq_ofNat_of_zero_le h.1
    rw [Int.toNat_natCast]
    exact impl_ReadVar_l0 b hb a (by omega) 5 0 0 rfl (by decide)
  · rw [if_neg h]
    refine Ev.step (fun k => by rw [impl_ReadVar.l0]) (Ev.pos (by decide) ?_)
    rw [within_f, wrap64_id (x := (b.size : Int) - 1) (by omega) (by omega), wrap64_id (x := (b.size : Int) - 1 - 0) (by omega) (by omega)]
    refine Ev.bind (Ev.const rfl) ?_
    exact Ev.neg (by rw [decide_eq_false (by omega)]; decide) (Ev.now _)
theorem u64_wrap7 (i : Nat) (hi : i ≤ 4) : IntKind.u64.wrap (7 * (i : Int)) = 7 * (i : Int) := by
  simp [IntKind.wrap, IntKind.bits, IntKind.signed]; omega
theorem extract_bytes (b : ByteArray) (i j : Nat) : (b.extract i j).data.toList = bytesUpto b.data.toList i j := by
  rw [ByteArray.data_extract, Array.toList_extract]; rfl
theorem varText_bytes (n : Nat) (h : n ≤ 1000000000) : (varText (n : Int)).data.toList = bytesOfNums (vn 5 n) := by
  unfold varText
  rw [if_pos (by omega), Int.toNat_natCast]; rfl
theorem vn_ne (f n : Nat) : bytesOfNums (vn f n) ≠ [] := by
  cases f with
  | zero => simp [vn, bytesOfNums]
  | succ f => unfold vn; split <;> simp [bytesOfNums]
theorem spec_ReadVar_l0 (b : ByteArray) (hb : b.size ≤ 140737488355328) (a : Nat) (ha : a ≤ b.size) (f : Nat) : ∀ (i n : Nat), i + f = 5 → i ≤ b.size - a → n = vl ((b.data.toList.drop a).take i) → (∀ d ∈ (b.data.toList.drop a).take i, d.toNat ≥ 128) →
    Ev (fun k => spec_ReadVar.l0 k b (a : Int) (n : Int) (i : Int)) (rvOut a (rvr f i n (b.data.toList.drop (a + i)))) := by
  induction f with
  | zero =>
    intro i n hi hia hn hp
    refine Ev.of_eq (r := ((0 : Int), (0 : Int), false)) (Ev.step (fun k => by rw [spec_ReadVar.l0]) ?_) rfl
    refine Ev.neg (by omega) (Ev.step (fun k => by rw [spec_ReadVar.j1]) ?_)
    exact Ev.neg (by decide) (Ev.now _)
  | succ f ih =>
    intro i n hi hia hn hp
    have hi4 : i ≤ 4 := by omega
    have htl : ((b.data.toList.drop a).take i).length = i := by rw [List.length_take, List.length_drop, size_list]; omega
    have hnl : n < 128 ^ i := by have := vl_lt ((b.data.toList.drop a).take i); rw [htl, ← hn] at this; exact this
    refine Ev.step (fun k => by rw [spec_ReadVar.l0]) (Ev.pos (by omega) (Ev.step (fun k => by rw [spec_ReadVar.j1]) ?_))
    rw [wrap64_id (x := (a : Int) + i) (by omega) (by omega), wrap64_id (x := 7 * (i : Int)) (by omega) (by omega), wrap64_id (x := (i : Int) + 1) (by omega) (by omega), u64_wrap7 i hi4]
    by_cases h1 : a + i < b.size
    · refine Ev.pos (decide_eq_true (by omega)) (Ev.pos (by omega) (Ev.pos (by omega) (Ev.pos (by omega) ?_)))
      rw [show (a : Int) + i = ((a + i : Nat) : Int) by omega, bt_list b (a + i) (by rw [size_list]; omega), drop_cons b (a + i) h1]
      have hget : (b.data.toList.drop a)[i]'(by rw [List.length_drop, size_list]; omega) = b.data.toList[a + i]'(by rw [size_list]; omega) := by rw [List.getElem_drop]
      have hsn : (b.data.toList.drop a).take (i + 1) = (b.data.toList.drop a).take i ++ [b.data.toList[a + i]'(by rw [size_list]; omega)] := by
        rw [List.take_succ_eq_append_getElem (by rw [List.length_drop, size_list]; omega), hget]
      have hc := (b.data.toList[a + i]'(by rw [size_list]; omega)).toNat_lt
      generalize (b.data.toList[a + i]'(by rw [size_list]; omega)) = c at hc hsn ⊢
      have hv : vl ((b.data.toList.drop a).take (i + 1)) = n + c.toNat % 128 * 128 ^ i := by rw [hsn, vl_snoc, htl, ← hn]
      rw [wrap64_id (x := (c.toNat : Int)) (by omega) (by omega), or7 n c.toNat i hi4 hnl]
      unfold rvr
      by_cases h2 : c.toNat ≥ 128
      · refine Ev.of_eq (r := rvOut a (rvr f (i + 1) (n + c.toNat % 128 * 128 ^ i) (b.data.toList.drop (a + i + 1)))) ?_ (congrArg (rvOut a) (if_pos h2)).symm
        refine Ev.neg (by omega) ?_
        refine ih (i + 1) _ (by omega) (by omega) hv.symm ?_
        rw [hsn]
        intro d hd
        rcases List.mem_append.1 hd with h | h
        · exact hp d h
        · rw [List.mem_singleton] at h; subst h; exact h2
      · rw [show c.toNat % 128 = c.toNat by omega] at hv ⊢
        refine Ev.of_eq (r := rvOut a (if (0 < i ∧ c.toNat = 0) ∨ 1000000000 < n + c.toNat * 128 ^ i then none else some (n + c.toNat * 128 ^ i, i + 1))) ?_ (congrArg (rvOut a) (if_neg h2)).symm
        refine Ev.pos (by omega) (Ev.bind (spec_VarText_ev _) ?_)
        rw [wrap64_id (x := ((a + i : Nat) : Int) + 1) (by omega) (by omega)]
        simp only [ByteArray.toList_eq]
        by_cases h3 : n + c.toNat * 128 ^ i ≤ 1000000000
        · rw [varText_bytes _ h3]
          refine Ev.neg (vn_ne _ _) (Ev.pos (by omega) (Ev.pos (by omega) (Ev.pos (by omega) ?_)))
          rw [show (((a + i : Nat) : Int) + 1).toNat = a + (i + 1) by omega, Int.toNat_natCast, extract_bytes, bytesUpto, Nat.add_sub_cancel_left, ← hv, hsn]
          by_cases h4 : 0 < i ∧ c.toNat = 0
          · refine Ev.of_eq (r := rvOut a none) ?_ (congrArg (rvOut a) (if_pos (.inl h4))).symm
            refine Ev.neg ?_ (Ev.now _)
            refine vn_needless _ 5 c h4.2 ?_
            intro h; rw [h] at htl; simp at htl; omega
          · refine Ev.of_eq (r := rvOut a (some (vl ((b.data.toList.drop a).take i ++ [c]), i + 1))) ?_ (congrArg (rvOut a) (if_neg (by rintro (h | h); exact h4 h; rw [← hsn, hv] at h; omega))).symm
            refine Ev.pos ?_ (Ev.const ?_)
            · refine vn_of _ 5 c hp (by omega) ?_ (by rw [htl]; omega)
              intro h hc0
              refine h4 ⟨?_, hc0⟩
              rcases Nat.eq_zero_or_pos i with h0 | h0
              · exfalso; apply h; apply List.eq_nil_of_length_eq_zero; rw [htl, h0]
              · exact h0
            · refine congrArg some ?_; show (_, ((a + i : Nat) : Int) + 1, true) = (_, ((a + (i + 1) : Nat) : Int), true); rw [show ((a + (i + 1) : Nat) : Int) = ((a + i : Nat) : Int) + 1 by omega]
        · refine Ev.of_eq (r := rvOut a none) ?_ (congrArg (rvOut a) (if_pos (.inr (by omega)))).symm
          refine Ev.pos ?_ (Ev.now _)
          unfold varText
          rw [if_neg (by omega)]
    · rw [List.drop_eq_nil_of_le (by rw [size_list]; omega)]
      refine Ev.of_eq (r := ((0 : Int), (0 : Int), false)) ?_ rfl
      exact Ev.neg (by rw [decide_eq_false (by omega)]; decide) (Ev.now _)
theorem spec_ReadVar_ev (b : ByteArray) (hb : b.size ≤ 140737488355328) (i : Int) : Ev (fun k => spec_ReadVar.f k b i) (readVar b i) := by
  unfold spec_ReadVar.f readVar
  rw [l01In_f]
  refine Ev.bind (Ev.const rfl) ?_
  by_cases h : 0 ≤ i ∧ i ≤ b.size
  · rw [if_pos h]
    refine Ev.pos (decide_eq_true h) ?_
    obtain ⟨a, rfl⟩ := Int.eq_ofNat_of_zero_le h.1
    rw [Int.toNat_natCast]
    exact spec_ReadVar_l0 b hb a (by omega) 5 0 0 rfl (by omega) (by simp [vl]) (by simp)
  · rw [if_neg h]
    exact Ev.neg (by rw [decide_eq_false h]; decide) (Ev.now _)
theorem impl_VarText_l0 (f : Nat) : ∀ (n : Nat) (acc : List Int), n < 128 ^ (f + 1) → n < 2 ^ 31 → acc.length + f < 1000 →
    Ev (fun k => impl_VarText.l0 k (n : Int) acc) (strOfNums (acc ++ vn f n)) := by
  induction f with
  | zero =>
    intro n acc hn hb ha
    refine Ev.step (fun k => by rw [impl_VarText.l0]) ?_
    refine Ev.neg (by omega) (Ev.pos (by omega) (Ev.const ?_))
    rw [show ((n : Int) % 256) = ((n % 256 : Nat) : Int) by omega]; rfl
  | succ f ih =>
    intro n acc hn hb ha
    refine Ev.step (fun k => by rw [impl_VarText.l0]) ?_
    unfold vn
    by_cases h : n ≥ 128
    · rw [if_pos h]
      refine Ev.pos (by omega) (Ev.pos (by omega) ?_)
      rw [show ((n : Int) % 256) = ((n % 256 : Nat) : Int) by omega, show (128 : Int) = ((128 : Nat) : Int) from rfl, u8_or _ _ (by omega) (by decide), byte_or128 _ (by omega)]
      rw [show ((n % 256 % 128 + 128 : Nat) : Int) = ((n % 128 + 128 : Nat) : Int) by omega, show ((n : Int) / ((128 : Nat) : Int)) = ((n / 128 : Nat) : Int) by omega]
      refine Ev.of_eq (ih (n / 128) _ ?_ (by omega) (by rw [List.length_append, List.length_singleton]; omega)) (by rw [List.append_assoc]; rfl)
      rw [Nat.pow_succ] at hn
      exact Nat.div_lt_of_lt_mul (by rw [Nat.mul_comm]; exact hn)
    · rw [if_neg h]
      refine Ev.neg (by omega) (Ev.pos (by omega) (Ev.const ?_))
      rw [show ((n : Int) % 256) = ((n % 256 : Nat) : Int) by omega]
theorem impl_VarText_ev (n : Int) : Ev (fun k => impl_VarText.f k n) (varText n) := by
  unfold impl_VarText.f varText
  rw [isNumber_f]
  refine Ev.bind (Ev.const rfl) ?_
  simp only [decide_eq_true_eq]
  by_cases h : 0 ≤ n ∧ n ≤ 1000000000
  · rw [if_pos h]
    refine Ev.pos h ?_
    have e : n = ((n.toNat : Nat) : Int) := by omega
    rw [e, Int.toNat_natCast]
    exact impl_VarText_l0 5 n.toNat [] (Nat.lt_of_lt_of_le (m := 2 ^ 31) (by omega) (by decide)) (by omega) (by decide)
  · rw [if_neg h]
    exact Ev.neg h (Ev.now _)
theorem impl_FixText_l0 (n : Nat) (m : Nat) (hm : m ≤ 8) (w : Nat) : ∀ (i : Nat) (xs : List Int), i + w = m → xs.length = m → (∀ j, j < i → xs[j]? = (fx m n)[j]?) →
    Ev (fun k => impl_FixText.l0 k (n : Int) xs (m : Int) (i : Int)) (strOfNums (fx m n)) := by
  induction w with
  | zero =>
    intro i xs hi hl hx
    refine Ev.step (fun k => by rw [impl_FixText.l0]) (Ev.neg (by omega) (Ev.const ?_))
    refine congrArg some (congrArg strOfNums ?_)
    apply List.ext_getElem?
    intro j
    by_cases hj : j < i
    · exact hx j hj
    · rw [List.getElem?_eq_none (by omega), List.getElem?_eq_none (by rw [fx_length]; omega)]
  | succ w ih =>
    intro i xs hi hl hx
    refine Ev.step (fun k => by rw [impl_FixText.l0]) (Ev.pos (by omega) ?_)
    rw [wrap64_id (x := 8 * (i : Int)) (by omega) (by omega), wrap64_id (x := (i : Int) + 1) (by omega) (by omega)]
    refine Ev.pos (by omega) (Ev.pos (by omega) (Ev.pos (by omega) ?_))
    rw [Int.toNat_natCast]
    refine ih (i + 1) _ (by omega) (by rw [List.length_set]; exact hl) ?_
    intro j hj
    by_cases h : j < i
    · rw [List.getElem?_set_ne (by omega)]; exact hx j h
    · obtain rfl : j = i := by omega
      rw [List.getElem?_set_self (by omega), List.getElem?_eq_getElem (by rw [fx_length]; omega), fx_get]
      refine congrArg some ?_
      unfold shr
      rw [show min ((8 * (j : Int)).toNat) IntKind.i64.bits = 8 * j by have : IntKind.i64.bits = 64 := rfl; omega, pow256]
      rw [Int.natCast_emod, Int.natCast_ediv, Int.natCast_pow]
      rfl
theorem impl_FixText_ev (n w : Int) (hn : n < 2 ^ 63) : Ev (fun k => impl_FixText.f k n w) (fixText n w) := by
  unfold impl_FixText.f fixText
  by_cases h0 : n < 0
  · rw [if_neg (by omega)]
    refine Ev.pos h0 (Ev.step (fun k => by rw [impl_FixText.j0]) ?_)
    exact Ev.pos rfl (Ev.now _)
  · refine Ev.neg h0 ?_
    rw [within_f]
    refine Ev.bind (Ev.const rfl) ?_
    by_cases h1 : 1 ≤ w ∧ w ≤ 8
    · refine Ev.pos (decide_eq_true h1) ?_
      obtain ⟨a, rfl⟩ := Int.eq_ofNat_of_zero_le (show 0 ≤ n by omega)
      obtain ⟨m, rfl⟩ := Int.eq_ofNat_of_zero_le (show 0 ≤ w by omega)
      have ha : a < 2 ^ 63 := by omega
      have go : Ev (fun k => impl_FixText.j0 k (a : Int) (m : Int) false) (strOfNums (fx m a)) := by
        refine Ev.step (fun k => by rw [impl_FixText.j0]) (Ev.neg (by decide) (Ev.pos (by omega) (Ev.pos (by omega) (Ev.bind (Ev.const rfl) ?_))))
        rw [Int.toNat_natCast, List.length_replicate]
        exact impl_FixText_l0 a m (by omega) m 0 _ (by omega) (List.length_replicate ..) (fun j hj => absurd hj (Nat.not_lt_zero _))
      rw [Int.toNat_natCast, Int.toNat_natCast]
      by_cases h2 : (m : Int) < 8
      · refine Ev.pos h2 (Ev.pos (by rw [wrap64_id (by omega) (by omega)]; omega) ?_)
        rw [wrap64_id (x := 8 * (m : Int)) (by omega) (by omega)]
        have e : shr .i64 (a : Int) (8 * (m : Int)) = ((a / 256 ^ m : Nat) : Int) := by
          unfold shr
          rw [show min ((8 * (m : Int)).toNat) IntKind.i64.bits = 8 * m by have : IntKind.i64.bits = 64 := rfl; omega, pow256, Int.natCast_ediv, Int.natCast_pow]
          rfl
        rw [e]
        by_cases h3 : a / 256 ^ m = 0
        · rw [if_pos ⟨by omega, h1.1, h1.2, h3⟩, h3]
          exact go
        · rw [if_neg (by rintro ⟨_, _, _, h⟩; exact h3 h)]
          have : (((a / 256 ^ m : Nat) : Int) != 0) = true := by rw [bne_iff_ne]; omega
          rw [this]
          refine Ev.step (fun k => by rw [impl_FixText.j0]) ?_
          exact Ev.pos rfl (Ev.now _)
      · obtain rfl : m = 8 := by omega
        rw [if_pos ⟨by omega, h1.1, h1.2, Nat.div_eq_of_lt (Nat.lt_of_lt_of_le ha (by decide))⟩]
        exact Ev.neg h2 go
    · rw [if_neg (by rintro ⟨_, a, b, _⟩; exact h1 ⟨a, b⟩)]
      refine Ev.neg (by rw [decide_eq_false h1]; decide) (Ev.step (fun k => by rw [impl_FixText.j0]) ?_)
      exact Ev.pos rfl (Ev.now _)
theorem or_neg (x y : Nat) (hx : x < 2 ^ 56) (hy : y < 256) : Go.bits .or .i64 (x : Int) (shl .i64 (y : Int) 56) = if y < 128 then ((x + y * 2 ^ 56 : Nat) : Int) else ((x + y * 2 ^ 56 : Nat) : Int) - 18446744073709551616 := by
  have e1 : shl .i64 (y : Int) 56 = IntKind.i64.wrap ((y * 2 ^ 56 : Nat) : Int) := by
    unfold shl
    rw [show min ((56 : Int).toNat) IntKind.i64.bits = 56 from rfl]
    refine congrArg _ ?_
    rw [Int.natCast_mul]; rfl
  have e2 : BitVec.ofInt 64 (shl .i64 (y : Int) 56) = BitVec.ofNat 64 (y * 2 ^ 56) := by
    rw [e1, IntKind.wrap_i64]
    apply BitVec.eq_of_toNat_eq
    rw [BitVec.toNat_ofInt, BitVec.toNat_ofNat]
    have : y * 2 ^ 56 < 2 ^ 64 := by omega
    omega
  show IntKind.i64.wrap (((BitVec.ofInt 64 (x : Int) ||| BitVec.ofInt 64 (shl .i64 (y : Int) 56)).toNat : Nat) : Int) = _
  rw [e2, BitVec.ofInt_natCast, BitVec.toNat_or, BitVec.toNat_ofNat, BitVec.toNat_ofNat, Nat.mod_eq_of_lt (by omega), Nat.mod_eq_of_lt (by omega), Nat.mul_comm, Nat.or_comm, or_join _ _ _ hx, IntKind.wrap_i64]
  split <;> omega
theorem impl_ReadFix_l0 (b : ByteArray) (hb : b.size ≤ 140737488355328) (a w : Nat) (hw : w ≤ 8) (h : a + w ≤ b.size) (n : Nat) : ∀ (i x : Nat), i + n = w → x < 2 ^ 63 →
    x = rv ((bytesAt b.data.toList a w).take i) →
    Ev (fun k => impl_ReadFix.l0 k b (a : Int) (x : Int) (w : Int) (i : Int)) (if rv (bytesAt b.data.toList a w) < 2 ^ 63 then ((rv (bytesAt b.data.toList a w) : Nat), true) else (0, false)) := by
  have hl := bytesAt_length b a w h
  induction n with
  | zero =>
    intro i x hi hxx hx
    rw [List.take_of_length_le (by omega)] at hx
    refine Ev.of_eq (r := ((x : Int), true)) ?_ ?_
    · refine Ev.step (fun k => by rw [impl_ReadFix.l0]) (Ev.neg (by omega) ?_)
      exact Ev.neg (by omega) (Ev.now _)
    · rw [← hx, if_pos hxx]
  | succ n ih =>
    intro i x hi hxx hx
    have hg := bytesAt_get b a w i h (by omega)
    have ht : (bytesAt b.data.toList a w).take (i + 1) = (bytesAt b.data.toList a w).take i ++ [(bytesAt b.data.toList a w)[i]'(by omega)] := by
      rw [List.take_succ_eq_append_getElem (by omega)]
    have htl : ((bytesAt b.data.toList a w).take i).length = i := by rw [List.length_take]; omega
    have hr := rv_snoc ((bytesAt b.data.toList a w).take i) ((bytesAt b.data.toList a w)[i]'(by omega))
    rw [← ht, ← hx, htl] at hr
    have hxl := rv_lt ((bytesAt b.data.toList a w).take i)
    rw [← hx, htl, pow256'] at hxl
    refine Ev.step (fun k => by rw [impl_ReadFix.l0]) (Ev.pos (by omega) ?_)
    rw [wrap64_id (x := (a : Int) + i) (by omega) (by omega)]
    refine Ev.pos (by omega) (Ev.pos (by omega) ?_)
    rw [wrap64_id (x := 8 * (i : Int)) (by omega) (by omega), wrap64_id (x := (i : Int) + 1) (by omega) (by omega)]
    refine Ev.pos (by omega) ?_
    rw [show (a : Int) + i = ((a + i : Nat) : Int) by omega, bt_list b (a + i) (by rw [size_list]; omega), ← hg]
    have hc := ((bytesAt b.data.toList a w)[i]'(by omega)).toNat_lt
    generalize ((bytesAt b.data.toList a w)[i]'(by omega)) = c at *
    rw [wrap64_id (x := (c.toNat : Int)) (by omega) (by omega)]
    by_cases h7 : i = 7
    · subst h7
      obtain rfl : w = 8 := by omega
      obtain rfl : n = 0 := by omega
      have e8 : (bytesAt b.data.toList a 8).take (7 + 1) = bytesAt b.data.toList a 8 := List.take_of_length_le (by omega)
      rw [e8] at hr
      rw [show (8 * ((7 : Nat) : Int)) = 56 from rfl, or_neg x c.toNat (by omega) hc]
      have e3 : (256 : Nat) ^ 7 = 72057594037927936 := by decide
      rw [e3] at hr
      by_cases h128 : c.toNat < 128
      · rw [if_pos h128]
        have := ih 8 (x + c.toNat * 2 ^ 56) (by omega) (by omega) (by rw [e8, hr])
        exact this
      · rw [if_neg h128]
        refine Ev.of_eq (r := (0, false)) ?_ ?_
        · refine Ev.step (fun k => by rw [impl_ReadFix.l0]) (Ev.neg (by omega) ?_)
          exact Ev.pos (by omega) (Ev.now _)
        · rw [if_neg (by omega)]
    · have hsh : shl .i64 (c.toNat : Int) (8 * (i : Int)) = ((2 ^ (8 * i) * c.toNat : Nat) : Int) := by
        unfold shl
        rw [show min ((8 * (i : Int)).toNat) IntKind.i64.bits = 8 * i by have : IntKind.i64.bits = 64 := rfl; omega]
        have : 2 ^ (8 * i) * c.toNat < 2 ^ 56 := by
          refine Nat.lt_of_lt_of_le (m := 2 ^ (8 * i) * 2 ^ 8) ((Nat.mul_lt_mul_left (Nat.two_pow_pos _)).2 hc) ?_
          rw [← Nat.pow_add]
          exact Nat.pow_le_pow_right (by decide) (by omega)
        rw [show ((c.toNat : Int) * 2 ^ (8 * i)) = ((2 ^ (8 * i) * c.toNat : Nat) : Int) by rw [Int.natCast_mul, Int.natCast_pow, Int.mul_comm]; rfl]
        exact wraps_i64 _ (Int.natCast_nonneg _) (by omega)
      have hb2 : 2 ^ (8 * i) * c.toNat + x < 2 ^ 56 := by
        have : 2 ^ (8 * i) * c.toNat + x < 2 ^ (8 * i) * 2 ^ 8 := by
          have : 2 ^ (8 * i) * (c.toNat + 1) ≤ 2 ^ (8 * i) * 2 ^ 8 := Nat.mul_le_mul_left _ hc
          rw [Nat.mul_add, Nat.mul_one] at this
          omega
        refine Nat.lt_of_lt_of_le this ?_
        rw [← Nat.pow_add]
        exact Nat.pow_le_pow_right (by decide) (by omega)
      rw [hsh, i64_or _ _ (by omega) (by omega), Nat.or_comm, or_join _ _ _ hxl]
      refine ih (i + 1) _ (by omega) (by omega) ?_
      rw [hr, pow256', Nat.mul_comm, Nat.add_comm]
theorem impl_ReadFix_ev (b : ByteArray) (hb : b.size ≤ 140737488355328) (i w : Int) : Ev (fun k => impl_ReadFix.f k b i w) (readFix b i w) := by
  unfold impl_ReadFix.f
  rw [within_f]
  refine Ev.bind (Ev.const rfl) ?_
  by_cases h1 : 1 ≤ w ∧ w ≤ 8
  · refine Ev.pos (decide_eq_true h1) ?_
    rw [within_f, wrap64_id (by omega) (by omega)]
    refine Ev.bind (Ev.const rfl) (Ev.step (fun k => by rw [impl_ReadFix.j0]) ?_)
    by_cases h2 : 0 ≤ i ∧ i ≤ (b.size : Int) - w
    · refine Ev.neg (by rw [decide_eq_true h2]; decide) ?_
      obtain ⟨a, rfl⟩ := Int.eq_ofNat_of_zero_le h2.1
      obtain ⟨m, rfl⟩ := Int.eq_ofNat_of_zero_le (show 0 ≤ w by omega)
      refine Ev.of_eq (impl_ReadFix_l0 b hb a m (by omega) (by omega) m 0 0 (by omega) (by decide) rfl) ?_
      unfold readFix
      rw [Int.toNat_natCast, Int.toNat_natCast]
      by_cases hv : rv (bytesAt b.data.toList a m) < 2 ^ 63
      · rw [if_pos hv, if_pos ⟨h1.1, h1.2, h2.1, h2.2, hv⟩]
      · rw [if_neg hv, if_neg (by rintro ⟨_, _, _, _, h⟩; exact hv h)]
    · refine Ev.of_eq (r := (0, false)) ?_ ?_
      · refine Ev.pos ?_ (Ev.now _)
        rw [decide_eq_false h2]; rfl
      · unfold readFix
        rw [if_neg]
        rintro ⟨_, _, c, d, _⟩
        exact h2 ⟨c, d⟩
  · refine Ev.neg (by rw [decide_eq_false h1]; decide) (Ev.step (fun k => by rw [impl_ReadFix.j0]) ?_)
    refine Ev.of_eq (r := (0, false)) ?_ ?_
    · exact Ev.pos rfl (Ev.now _)
    · unfold readFix
      rw [if_neg]
      rintro ⟨c, d, _⟩
      exact h1 ⟨c, d⟩
theorem spec_ReadFix_l0 (b : ByteArray) (hb : b.size ≤ 140737488355328) (a w : Nat) (hw : w ≤ 8) (h : a + w ≤ b.size) (hv : rv (bytesAt b.data.toList a w) < 2 ^ 63) (n : Nat) : ∀ (x : Nat), n ≤ w →
    x = rv ((bytesAt b.data.toList a w).drop n) →
    Ev (fun k => spec_ReadFix.l0 k b (a : Int) (x : Int) ((n : Int) - 1)) ((rv (bytesAt b.data.toList a w) : Nat), true) := by
  have hl := bytesAt_length b a w h
  induction n with
  | zero =>
    intro x hn hx
    refine Ev.step (fun k => by rw [spec_ReadFix.l0]) (Ev.neg (by omega) (Ev.const ?_))
    rw [hx, List.drop_zero]
  | succ n ih =>
    intro x hn hx
    have hd : (bytesAt b.data.toList a w).drop n = (bytesAt b.data.toList a w)[n]'(by omega) :: (bytesAt b.data.toList a w).drop (n + 1) := List.drop_eq_getElem_cons (by omega)
    have hg := bytesAt_get b a w n h (by omega)
    refine Ev.step (fun k => by rw [spec_ReadFix.l0]) (Ev.pos (by omega) ?_)
    rw [show ((n + 1 : Nat) : Int) - 1 = (n : Int) by omega, wrap64_id (x := (a : Int) + n) (by omega) (by omega)]
    refine Ev.pos (by omega) (Ev.pos (by omega) ?_)
    rw [show (a : Int) + n = ((a + n : Nat) : Int) by omega, bt_list b (a + n) (by rw [size_list]; omega), ← hg]
    have hc := ((bytesAt b.data.toList a w)[n]'(by omega)).toNat_lt
    have hle : rv ((bytesAt b.data.toList a w).drop n) < 2 ^ 63 := by
      refine Nat.lt_of_le_of_lt ?_ hv
      have key : ∀ (l : List UInt8) (n : Nat), rv (l.drop n) ≤ rv l := by
        intro l
        induction l with
        | nil => intro n; simp
        | cons c l ih =>
          intro n
          cases n with
          | zero => exact Nat.le_refl _
          | succ n => rw [List.drop_succ_cons, rv]; have := ih n; omega
      exact key _ _
    rw [hd, rv, ← hx] at hle
    rw [wrap64_id (x := (x : Int) * 256) (by omega) (by omega), wrap64_id (by omega) (by omega), wrap64_id (x := (n : Int) - 1) (by omega) (by omega), show (x : Int) * 256 = ((2 ^ 8 * x : Nat) : Int) by omega, i64_or _ _ (by omega) (by omega), or_join _ _ _ hc]
    refine ih _ (by omega) ?_
    rw [hd, rv, ← hx]; omega
theorem rv_top (l : List UInt8) (hl : l.length = 8) : rv l < 2 ^ 63 ↔ (l[7]'(by omega)).toNat ≤ 127 := by
  have e : l = l.take 7 ++ [l[7]'(by omega)] := by
    have := List.take_append_drop 7 l
    rw [List.drop_eq_getElem_cons (by omega), List.drop_eq_nil_of_le (by omega)] at this
    exact this.symm
  have ht : (l.take 7).length = 7 := by rw [List.length_take]; omega
  have h1 := rv_lt (l.take 7)
  have h2 : rv l = rv (l.take 7) + (l[7]'(by omega)).toNat * 256 ^ 7 := by
    have h3 := rv_snoc (l.take 7) (l[7]'(by omega))
    rw [← e, ht] at h3
    exact h3
  rw [ht] at h1
  have e3 : (256 : Nat) ^ 7 = 72057594037927936 := by decide
  rw [e3] at h1 h2
  omega
theorem spec_ReadFix_ev (b : ByteArray) (hb : b.size ≤ 140737488355328) (i w : Int) : Ev (fun k => spec_ReadFix.f k b i w) (readFix b i w) := by
  unfold spec_ReadFix.f
  rw [l01In_f]
  refine Ev.bind (Ev.const rfl) ?_
  by_cases h1 : 1 ≤ w ∧ w ≤ 8
  · refine Ev.pos (decide_eq_true h1) ?_
    rw [l01In_f, wrap64_id (by omega) (by omega)]
    refine Ev.bind (Ev.const rfl) (Ev.step (fun k => by rw [spec_ReadFix.j0]) ?_)
    by_cases h2 : 0 ≤ i ∧ i ≤ (b.size : Int) - w
    · refine Ev.neg (by rw [decide_eq_true h2]; decide) ?_
      obtain ⟨a, rfl⟩ := Int.eq_ofNat_of_zero_le h2.1
      obtain ⟨m, rfl⟩ := Int.eq_ofNat_of_zero_le (show 0 ≤ w by omega)
      have hl := bytesAt_length b a m (by omega)
      have go (hv : rv (bytesAt b.data.toList a m) < 2 ^ 63) : Ev (fun k => spec_ReadFix.j1 k b (a : Int) (m : Int) false) (readFix b a m) := by
        refine Ev.step (fun k => by rw [spec_ReadFix.j1]) (Ev.neg (by decide) ?_)
        rw [wrap64_id (by omega) (by omega)]
        refine Ev.of_eq (spec_ReadFix_l0 b hb a m (by omega) (by omega) hv m 0 (Nat.le_refl _) (by rw [List.drop_eq_nil_of_le (by omega)]; rfl)) ?_
        unfold readFix
        rw [Int.toNat_natCast, Int.toNat_natCast, if_pos ⟨h1.1, h1.2, h2.1, h2.2, hv⟩]
      by_cases h3 : (m : Int) = 8
      · refine Ev.pos h3 ?_
        obtain rfl : m = 8 := by omega
        have ht := rv_top _ hl
        rw [bytesAt_get b a 8 7 (by omega) (by decide)] at ht
        rw [wrap64_id (by omega) (by omega)]
        refine Ev.pos (by omega) (Ev.pos (by omega) ?_)
        rw [show (a : Int) + 7 = ((a + 7 : Nat) : Int) by omega, bt_list b (a + 7) (by rw [size_list]; omega)]
        by_cases h4 : (b.data.toList[a + 7]'(by rw [size_list]; omega)).toNat ≤ 127
        · rw [decide_eq_false (by omega)]
          exact go (ht.2 h4)
        · rw [decide_eq_true (by omega)]
          refine Ev.step (fun k => by rw [spec_ReadFix.j1]) ?_
          refine Ev.of_eq (r := (0, false)) ?_ ?_
          · exact Ev.pos rfl (Ev.now _)
          · unfold readFix
            rw [if_neg]
            rintro ⟨_, _, _, _, h⟩
            exact h4 (ht.1 h)
      · refine Ev.neg h3 (go ?_)
        refine Nat.lt_of_lt_of_le (rv_lt _) ?_
        rw [hl, pow256']
        exact Nat.le_trans (Nat.pow_le_pow_right (by decide) (show 8 * m ≤ 56 by omega)) (by decide)
    · refine Ev.of_eq (r := (0, false)) ?_ ?_
      · refine Ev.pos ?_ (Ev.now _)
        rw [decide_eq_false h2]; rfl
      · unfold readFix
        rw [if_neg]
        rintro ⟨_, _, c, d, _⟩
        exact h2 ⟨c, d⟩
  · refine Ev.neg (by rw [decide_eq_false h1]; decide) (Ev.step (fun k => by rw [spec_ReadFix.j0]) ?_)
    refine Ev.of_eq (r := (0, false)) ?_ ?_
    · exact Ev.pos rfl (Ev.now _)
    · unfold readFix
      rw [if_neg]
      rintro ⟨c, d, _⟩
      exact h1 ⟨c, d⟩
theorem rd_nth (l : List Int) (i : Nat) (h : i < l.length) : rd l (i : Int) ∈ l := by
  unfold rd
  rw [List.getD_eq_getElem?_getD, Int.toNat_natCast, List.getElem?_eq_getElem h]
  exact List.getElem_mem h
theorem FnNumbers_j0 (l : List Int) (hl : l.length ≤ 1048576) : Ev (fun k => laws_FnNumbers.j0 k l false) true := by
  refine Ev.step (fun k => by rw [laws_FnNumbers.j0]) (Ev.neg (by decide) ?_)
  obtain ⟨p, ep, hp, hpx⟩ := spec_DrawPlaces_ev l (by omega)
  refine Ev.bind ep (Ev.pos (by omega) (Ev.pos (by omega) ?_))
  have h0 := hpx _ (rd_nth p 0 (by omega))
  have h1 := hpx _ (rd_nth p 1 (by omega))
  rw [show ((0 : Nat) : Int) = 0 from rfl] at h0
  rw [show ((1 : Nat) : Int) = 1 from rfl] at h1
  rw [wrap64_id (x := rd p 0 * 10000) (by omega) (by omega), wrap64_id (x := rd p 0 * 10000 + rd p 1) (by omega) (by omega)]
  obtain ⟨n, hn⟩ := Int.eq_ofNat_of_zero_le (show 0 ≤ rd p 0 * 10000 + rd p 1 by omega)
  have hlt : n < 100000000 := by omega
  rw [hn]
  have hv := varText_short (n : Int)
  have hbk := readVar_back (⟨#[97, 98]⟩ : ByteArray) (⟨#[122]⟩ : ByteArray) (n : Int) (by omega)
  have hfx := readFix_back (⟨#[97]⟩ : ByteArray) n 4 (by decide) (Nat.lt_of_lt_of_le hlt (by decide)) (by omega)
  have s2 : (⟨#[97, 98]⟩ : ByteArray).size = 2 := rfl
  have s1 : (⟨#[97]⟩ : ByteArray).size = 1 := rfl
  have sz : (⟨#[122]⟩ : ByteArray).size = 1 := rfl
  obtain ⟨hf1, hf2⟩ := hfx
  have er := impl_ReadVar_ev (((⟨#[97, 98]⟩ : ByteArray) ++ varText (n : Int)) ++ (⟨#[122]⟩ : ByteArray)) (by rw [ByteArray.size_append, ByteArray.size_append]; omega) 2 (by decide)
  rw [show (2 : Int) = (((⟨#[97, 98]⟩ : ByteArray).size : Nat) : Int) from rfl, hbk] at er
  have ef := impl_ReadFix_ev ((⟨#[97]⟩ : ByteArray) ++ fixText (n : Int) ((4 : Nat) : Int)) (by rw [ByteArray.size_append]; omega) 1 4
  rw [show (1 : Int) = (((⟨#[97]⟩ : ByteArray).size : Nat) : Int) from rfl, show (4 : Int) = ((4 : Nat) : Int) from rfl, hf1] at ef
  obtain ⟨s, i, w, ed, hs, hi, hw⟩ := spec_DrawReadFix_ev l (by omega)
  have evt := impl_VarText_ev (n : Int)
  refine Ev.bind evt (Ev.pos (by omega) (Ev.pos (by omega) ?_))
  refine Ev.bind er (Ev.bind (impl_FixText_ev (n : Int) 4 (by omega)) (Ev.pos (by show 1 + (fixText (n : Int) ((4 : Nat) : Int)).size ≤ _; omega) ?_))
  refine Ev.bind ef (Ev.bind ed (Ev.bind (impl_ReadFix_ev s (by omega) i w) (Ev.bind (spec_ReadFix_ev s (by omega) i w) ?_)))
  refine Ev.pos rfl (Ev.pos rfl (Ev.pos ?_ ?_))
  · dsimp only
    rw [s2, wrap64_id (by omega) (by omega)]; omega
  · unfold impl_VarSize.f
    refine Ev.bind (Ev.bind evt (Ev.now _)) (Ev.pos rfl (Ev.pos rfl (Ev.pos rfl (Ev.pos ?_ (Ev.pos rfl (Ev.pos (by simp) ?_))))))
    · show ((fixText (n : Int) ((4 : Nat) : Int)).size : Int) = 4
      omega
    · exact Ev.bind (impl_VarText_ev 300) (Ev.const (by decide +kernel))
theorem FnNumbers : laws_FnNumbers.Pure := by
  intro l _ hl _
  refine Ev.rounds (g := fun k => laws_FnNumbers.f k l) ?_
  unfold laws_FnNumbers.f
  rw [big_f]
  refine Ev.bind (Ev.const rfl) ?_
  by_cases h : (l.length : Int) > 1048576
  · exact Ev.pos (decide_eq_true h) (Ev.now _)
  refine Ev.neg (by rw [decide_eq_false h]; decide) ?_
  obtain ⟨s, i, ed, hs, hi⟩ := spec_DrawReadVar_ev l (by omega)
  refine Ev.bind ed (Ev.bind (impl_ReadVar_ev s (by omega) i hi) (Ev.bind (spec_ReadVar_ev s (by omega) i) (Ev.pos rfl (Ev.pos rfl (Ev.neg (by simp) ?_)))))
  by_cases hr : (readVar s i).2.2 = true
  · obtain ⟨h1, h2, h3, h4, h5, h6⟩ := readVar_bytes s i hr
    refine Ev.pos hr (Ev.bind (impl_VarText_ev _) (Ev.pos h1 (Ev.pos h2 (Ev.pos h3 ?_))))
    rw [show ((varText (readVar s i).1).toList != (s.extract i.toNat (readVar s i).2.1.toNat).toList) = false by rw [h6]; simp]
    exact FnNumbers_j0 l (by omega)
  · exact Ev.neg hr (FnNumbers_j0 l (by omega))
end Go.Proofs.Ytdjgnooacaoomaa.Pure
