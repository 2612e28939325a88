/- The law FnExactReadVars answers true for every text and every whole number: the program's ReadVars tells what the reference's tells, in memory that nothing else shares. Conditions: those of the given row, and no others. -/
import Derived.Test.YtcblnckmmlamlaaPFnExactReadVarsx3
namespace Go.Proofs.Ytcblnckmmlamlaa.Pure
open Go.RowKit Go.Proofs.Ytcblnckmmlamlaa.PFnExactReadVars Go.Proofs.YtcblnckmmlamlaaW.PrintWords Go.Proofs.YtcblnckmmlamlaaW.PrintLast Go.Proofs.YtcblnckmmlamlaaW.PrintMore
set_option linter.unusedVariables false
set_option linter.unusedSimpArgs false
/-! ### Whole numbers and bits -/
theorem wrap64_id {x : Int} (h0 : -9223372036854775808 ≤ x) (h1 : x ≤ 9223372036854775807) : wrap64 x = x := by unfold wrap64; omega
theorem wf_i64 {x : Int} (h : (Lit.int .i64 x).wf = true) : -9223372036854775808 ≤ x ∧ x ≤ 9223372036854775807 := by
  simp only [Lit.wf, IntKind.min, IntKind.max, IntKind.signed, IntKind.bits, Bool.and_eq_true, decide_eq_true_eq, if_true] at h
  omega
theorem mod_toNat_nat (a : Nat) (m : Nat) : (((a : Int) % (m : Int)).toNat) = a % m := by
  rw [← Int.natCast_emod, Int.toNat_natCast]
theorem bv_mask (j : Nat) (hj : j < 64) (x : Int) : (BitVec.ofInt 64 x &&& BitVec.ofInt 64 ((2 ^ j - 1 : Nat) : Int)).toNat = (x % ((2 ^ j : Nat) : Int)).toNat := by
  have hle : 2 ^ j ≤ 2 ^ 63 := Nat.pow_le_pow_right (by decide) (by omega)
  have hpos : 0 < 2 ^ j := Nat.two_pow_pos j
  have hlt : 2 ^ j - 1 < 2 ^ 64 := by omega
  have hd : (2 : Nat) ^ j ∣ 2 ^ 64 := Nat.pow_dvd_pow 2 (by omega)
  rw [BitVec.ofInt_natCast, BitVec.toNat_and, BitVec.toNat_ofNat, Nat.mod_eq_of_lt hlt, Nat.and_two_pow_sub_one_eq_mod, BitVec.toNat_ofInt]
  have h0 : 0 ≤ x % ((2 ^ 64 : Nat) : Int) := Int.emod_nonneg _ (by simp)
  have h1 : 0 ≤ x % ((2 ^ j : Nat) : Int) := Int.emod_nonneg _ (by omega)
  have : (((x % ((2 ^ 64 : Nat) : Int)).toNat % 2 ^ j : Nat) : Int) = x % ((2 ^ j : Nat) : Int) := by
    rw [Int.natCast_emod, Int.toNat_of_nonneg h0]
    exact Int.emod_emod_of_dvd x (Int.natCast_dvd_natCast.mpr hd)
  omega
/-- A mask of the lowest j bits, of any i64. -/
theorem i64_mask (j : Nat) (hj : j < 64) (x : Int) : Go.bits .and .i64 x (((2 ^ j - 1 : Nat) : Int)) = x % ((2 ^ j : Nat) : Int) := by
  have hpos : 0 < 2 ^ j := Nat.two_pow_pos j
  have hle : 2 ^ j ≤ 2 ^ 63 := Nat.pow_le_pow_right (by decide) (by omega)
  show IntKind.i64.wrap (((BitVec.ofInt 64 x &&& BitVec.ofInt 64 ((2 ^ j - 1 : Nat) : Int)).toNat : Nat) : Int) = _
  rw [bv_mask j hj x]
  have h1 : 0 ≤ x % ((2 ^ j : Nat) : Int) := Int.emod_nonneg _ (by omega)
  have h2 : x % ((2 ^ j : Nat) : Int) < ((2 ^ j : Nat) : Int) := Int.emod_lt_of_pos _ (by omega)
  rw [Int.toNat_of_nonneg h1, IntKind.wrap_i64]
  have h3 : ((2 ^ j : Nat) : Int) ≤ ((2 ^ 63 : Nat) : Int) := Int.ofNat_le.mpr hle
  have h5 : ((2 ^ 63 : Nat) : Int) = 9223372036854775808 := by decide
  omega
theorem i64_mask32 (x : Int) : Go.bits .and .i64 x 4294967295 = x % 4294967296 := i64_mask 32 (by decide) x
theorem i64_mask8 (x : Int) : Go.bits .and .i64 x 255 = x % 256 := i64_mask 8 (by decide) x
theorem i64_mask7 (x : Int) : Go.bits .and .i64 x 127 = x % 128 := i64_mask 7 (by decide) x
theorem i64_mask4 (x : Int) : Go.bits .and .i64 x 15 = x % 16 := i64_mask 4 (by decide) x
theorem i64_mask1 (x : Int) : Go.bits .and .i64 x 1 = x % 2 := i64_mask 1 (by decide) x
theorem xor_nat (k : IntKind) (j : Nat) (hj : j ≤ k.bits) (hk : ∀ n : Int, 0 ≤ n → n < 2 ^ j → k.wrap n = n) (a b : Nat) (ha : a < 2 ^ j) (hb : b < 2 ^ j) :
    Go.bits .xor k a b = ((a ^^^ b : Nat) : Int) := by
  have hp : 2 ^ j ≤ 2 ^ k.bits := Nat.pow_le_pow_right (by decide) hj
  have ha' : a % 2 ^ k.bits = a := Nat.mod_eq_of_lt (Nat.lt_of_lt_of_le ha hp)
  have hb' : b % 2 ^ k.bits = b := Nat.mod_eq_of_lt (Nat.lt_of_lt_of_le hb hp)
  simp only [Go.bits, BitVec.ofInt_natCast, BitVec.toNat_xor, BitVec.toNat_ofNat, ha', hb']
  exact hk _ (Int.natCast_nonneg _) (by exact_mod_cast Nat.xor_lt_two_pow ha hb)
theorem wraps_i64 (n : Int) (h0 : 0 ≤ n) (h1 : n < 2 ^ 63) : IntKind.i64.wrap n = n := by rw [IntKind.wrap_i64]; omega
theorem wraps_u32 (n : Int) (h0 : 0 ≤ n) (h1 : n < 2 ^ 32) : IntKind.u32.wrap n = n := by rw [IntKind.wrap_u32]; omega
theorem i64_xor (a b : Nat) (ha : a < 2 ^ 63) (hb : b < 2 ^ 63) : Go.bits .xor .i64 a b = ((a ^^^ b : Nat) : Int) := xor_nat .i64 63 (by decide) wraps_i64 a b ha hb
theorem u32_xor (a b : Nat) (ha : a < 2 ^ 32) (hb : b < 2 ^ 32) : Go.bits .xor .u32 a b = ((a ^^^ b : Nat) : Int) := xor_nat .u32 32 (by decide) wraps_u32 a b ha hb
theorem i64_or (a b : Nat) (ha : a < 2 ^ 63) (hb : b < 2 ^ 63) : Go.bits .or .i64 a b = ((a ||| b : Nat) : Int) := (Go.bits_nat .i64 63 (by decide) wraps_i64 a b ha hb).2
theorem u8_or (a b : Nat) (ha : a < 2 ^ 8) (hb : b < 2 ^ 8) : Go.bits .or .u8 a b = ((a ||| b : Nat) : Int) := (Go.bits_nat .u8 8 (by decide) Go.wraps_u8 a b ha hb).2
theorem u32_and1 (a : Nat) (ha : a < 2 ^ 32) : Go.bits .and .u32 a 1 = ((a % 2 : Nat) : Int) := by
  rw [show (1 : Int) = ((1 : Nat) : Int) from rfl, (Go.bits_nat .u32 32 (by decide) wraps_u32 a 1 ha (by decide)).1, show (1 : Nat) = 2 ^ 1 - 1 from rfl, Nat.and_two_pow_sub_one_eq_mod]
/-! ### Bytes of a text -/
theorem bt_list (s : ByteArray) (i : Nat) (h : i < s.data.toList.length) : bt s (i : Int) = ((s.data.toList[i]).toNat : Int) := by
  have h' : i < s.size := by rw [Array.length_toList] at h; exact h
  have hn : (i : Int).toNat < s.size := by rw [Int.toNat_natCast]; exact h'
  rw [← bt_at s i hn]
  rfl
theorem size_list (s : ByteArray) : s.data.toList.length = s.size := by rw [Array.length_toList]; rfl
theorem drop_cons (s : ByteArray) (i : Nat) (h : i < s.size) : s.data.toList.drop i = s.data.toList[i]'(by rw [size_list]; exact h) :: s.data.toList.drop (i + 1) :=
  List.drop_eq_getElem_cons (by rw [size_list]; exact h)
/-! ### From some number of rounds on -/
section
variable {α : Type} {f g : Nat → Option α} {r : α} {c : Prop} [Decidable c]
theorem Ev.pos (h : c) (e : Ev f r) : Ev (fun k => if c then f k else g k) r := Ev.congr (fun _ => if_pos h) e
theorem Ev.neg (h : ¬ c) (e : Ev g r) : Ev (fun k => if c then f k else g k) r := Ev.congr (fun _ => if_neg h) e
theorem Ev.const {o : Option α} (h : o = some r) : Ev (fun _ => o) r := ⟨0, fun _ _ => h⟩
theorem Ev.at (K : Nat) (h : ∀ k, K ≤ k → f k = some r) : Ev f r := ⟨K, h⟩
theorem Ev.of_eq {r' : α} (e : Ev f r) (h : r = r') : Ev f r' := h ▸ e
end
theorem Ev.both {α β : Type} {f : Nat → Option α} {g : Nat → Option β} {a : α} {b : β} (h : Ev f a) (h' : Ev g b) : ∃ k, f k = some a ∧ g k = some b := by
  obtain ⟨K, h⟩ := h
  obtain ⟨K', h'⟩ := h'
  exact ⟨max K K', h _ (by omega), h' _ (by omega)⟩
/-! ### A number in bytes of seven bits -/
def vn : Nat → Nat → List Int
  | 0, n => [((n % 256 : Nat) : Int)]
  | f + 1, n => if n ≥ 128 then ((n % 128 + 128 : Nat) : Int) :: vn f (n / 128) else [((n % 256 : Nat) : Int)]
def varText (n : Int) : ByteArray := if 0 ≤ n ∧ n ≤ 1000000000 then strOfNums (vn 5 n.toNat) else ⟨#[]⟩
theorem vn_length (f n : Nat) : (vn f n).length ≤ f + 1 := by
  induction f generalizing n with
  | zero => simp [vn]
  | succ f ih =>
    unfold vn
    split
    · have := ih (n / 128); rw [List.length_cons]; omega
    · simp
theorem byte_or128 : ∀ b : Nat, b < 256 → b ||| 128 = b % 128 + 128 := by decide +kernel
/-! ### The number that stands at a place -/
def rvr : Nat → Nat → Nat → List UInt8 → Option (Nat × Nat)
  | 0, _, _, _ => none
  | _ + 1, _, _, [] => none
  | f + 1, i, n, c :: l => if c.toNat ≥ 128 then rvr f (i + 1) (n + c.toNat % 128 * 128 ^ i) l
    else if (0 < i ∧ c.toNat = 0) ∨ 1000000000 < n + c.toNat * 128 ^ i then none else some (n + c.toNat * 128 ^ i, i + 1)
def rvOut (a : Nat) : Option (Nat × Nat) → Int × Int × Bool
  | none => (0, 0, false)
  | some (n, m) => ((n : Int), ((a + m : Nat) : Int), true)
def readVar (b : ByteArray) (i : Int) : Int × Int × Bool := if 0 ≤ i ∧ i ≤ b.size then rvOut i.toNat (rvr 5 0 0 (b.data.toList.drop i.toNat)) else (0, 0, false)
def bytesUpto (l : List UInt8) (i j : Nat) : List UInt8 := (l.drop i).take (j - i)
def vl : List UInt8 → Nat
  | [] => 0
  | c :: l => c.toNat % 128 + 128 * vl l
theorem vl_snoc (l : List UInt8) (c : UInt8) : vl (l ++ [c]) = vl l + c.toNat % 128 * 128 ^ l.length := by
  induction l with
  | nil => simp [vl]
  | cons d l ih =>
    rw [List.cons_append, vl, vl, ih, List.length_cons, Nat.pow_succ, Nat.mul_add, Nat.add_assoc, Nat.mul_comm (128 ^ l.length) 128, ← Nat.mul_assoc, ← Nat.mul_assoc, Nat.mul_comm 128 (c.toNat % 128)]
theorem vl_lt (l : List UInt8) : vl l < 128 ^ l.length := by
  induction l with
  | nil => decide
  | cons c l ih => rw [vl, List.length_cons, Nat.pow_succ]; omega
theorem pow128 (i : Nat) : (128 : Nat) ^ i = 2 ^ (7 * i) := by rw [show (128 : Nat) = 2 ^ 7 from rfl, ← Nat.pow_mul]
def bytesOfNums (l : List Int) : List UInt8 := l.map fun n => UInt8.ofNat n.toNat
theorem strOfNums_bytes (l : List Int) : (strOfNums l).data.toList = bytesOfNums l := rfl
theorem ofNat_toNat8 (c : UInt8) : UInt8.ofNat ((c.toNat : Int)).toNat = c := by rw [Int.toNat_natCast]; exact UInt8.ofNat_toNat
/-- The bytes of the number that stands in these bytes are these, if the last one isn't needless. -/
theorem vn_of (p : List UInt8) : ∀ (f : Nat) (c : UInt8), (∀ d ∈ p, d.toNat ≥ 128) → c.toNat < 128 → (p ≠ [] → c.toNat ≠ 0) → p.length ≤ f → bytesOfNums (vn f (vl (p ++ [c]))) = p ++ [c] := by
  induction p with
  | nil =>
    intro f c _ hc _ _
    have e : vl ([] ++ [c]) = c.toNat := by simp [vl]; omega
    rw [e]
    have ec : ((c.toNat % 256 : Nat) : Int) = (c.toNat : Int) := by omega
    cases f with
    | zero => rw [vn, ec]; simp only [bytesOfNums, List.map_cons, List.map_nil, ofNat_toNat8, List.nil_append]
    | succ f => rw [vn, if_neg (by omega), ec]; simp only [bytesOfNums, List.map_cons, List.map_nil, ofNat_toNat8, List.nil_append]
  | cons d p ih =>
    intro f c hp hc h0 hl
    have hd := hp d (List.mem_cons_self ..)
    have hd2 := d.toNat_lt
    have h0' : c.toNat ≠ 0 := h0 (by simp)
    obtain ⟨f, rfl⟩ : ∃ g, f = g + 1 := ⟨f - 1, by rw [List.length_cons] at hl; omega⟩
    have hpos : 1 ≤ vl (p ++ [c]) := by
      rw [vl_snoc]
      have : 0 < 128 ^ p.length := Nat.pow_pos (by decide)
      have : 1 ≤ c.toNat % 128 * 128 ^ p.length := Nat.mul_pos (by omega) this
      omega
    rw [List.cons_append, vl, vn, if_pos (by omega), show (d.toNat % 128 + 128 * vl (p ++ [c])) / 128 = vl (p ++ [c]) by omega, show ((d.toNat % 128 + 128 * vl (p ++ [c])) % 128 + 128 : Nat) = d.toNat by omega]
    have := ih f c (fun x hx => hp x (List.mem_cons_of_mem _ hx)) hc (fun _ => h0') (by rw [List.length_cons] at hl; omega)
    show UInt8.ofNat ((d.toNat : Int)).toNat :: bytesOfNums (vn f (vl (p ++ [c]))) = _
    rw [this, ofNat_toNat8]
theorem vn_short (f : Nat) : ∀ (n i : Nat), 1 ≤ i → n < 128 ^ i → (vn f n).length ≤ i := by
  induction f with
  | zero => intro n i hi _; simpa [vn] using hi
  | succ f ih =>
    intro n i hi hn
    unfold vn
    split
    · rename_i h
      obtain ⟨i, rfl⟩ : ∃ j, i = j + 1 := ⟨i - 1, by omega⟩
      have : 1 ≤ i := by
        rcases Nat.eq_zero_or_pos i with h0 | h0
        · subst h0; simp at hn; omega
        · exact h0
      have := ih (n / 128) i this (by rw [Nat.pow_succ] at hn; exact Nat.div_lt_of_lt_mul (by rw [Nat.mul_comm]; exact hn))
      rw [List.length_cons]; omega
    · simpa using hi
theorem vn_needless (p : List UInt8) (f : Nat) (c : UInt8) (hc : c.toNat = 0) (hp : p ≠ []) : bytesOfNums (vn f (vl (p ++ [c]))) ≠ p ++ [c] := by
  intro h
  have h1 := congrArg List.length h
  rw [bytesOfNums, List.length_map, List.length_append, List.length_singleton] at h1
  have h2 : vl (p ++ [c]) < 128 ^ p.length := by
    rw [vl_snoc, hc]
    have := vl_lt p
    simpa using this
  have := vn_short f _ p.length (by rcases p with _ | ⟨x, l⟩; exact absurd rfl hp; simp) h2
  omega
/-- The numbers that stand one behind the other. -/
def readMany (b : ByteArray) : Nat → Int → Option (List Int × Int)
  | 0, i => some ([], i)
  | n + 1, i => if (readVar b i).2.2 = true then (readMany b n (readVar b i).2.1).bind fun p => some ((readVar b i).1 :: p.1, p.2) else none
def readVars (b : ByteArray) (i : Int) : List Int × Int × Bool :=
  if (readVar b i).2.2 = true then (if (readVar b i).1 > 1000 then ([], 0, false) else match readMany b (readVar b i).1.toNat (readVar b i).2.1 with | none => ([], 0, false) | some p => (p.1, p.2, true)) else ([], 0, false)
theorem rvr_count (f : Nat) : ∀ (i n : Nat) (l : List UInt8) (p : Nat × Nat), rvr f i n l = some p → p.2 ≤ i + f ∧ p.2 ≤ i + l.length := by
  induction f with
  | zero => intro i n l p h; simp [rvr] at h
  | succ f ih =>
    intro i n l p h
    cases l with
    | nil => simp [rvr] at h
    | cons c l =>
      unfold rvr at h
      split at h
      · have := ih _ _ _ _ h
        rw [List.length_cons]; omega
      · split at h
        · cases h
        · have e := Option.some.inj h
          rw [← e, List.length_cons]; constructor <;> dsimp only <;> omega
theorem rvr_val (f : Nat) : ∀ (i n : Nat) (l : List UInt8) (p : Nat × Nat), rvr f i n l = some p → p.1 ≤ 1000000000 := by
  induction f with
  | zero => intro i n l p h; simp [rvr] at h
  | succ f ih =>
    intro i n l p h
    cases l with
    | nil => simp [rvr] at h
    | cons c l =>
      unfold rvr at h
      split at h
      · exact ih _ _ _ _ h
      · split at h
        · cases h
        · rename_i h2
          have e := Option.some.inj h
          rw [← e]; dsimp only; omega
theorem readVar_span (b : ByteArray) (i : Int) : 0 ≤ (readVar b i).2.1 ∧ (readVar b i).2.1 ≤ b.size ∧ 0 ≤ (readVar b i).1 ∧ (readVar b i).1 ≤ 1000000000 := by
  unfold readVar
  by_cases h : 0 ≤ i ∧ i ≤ b.size
  · rw [if_pos h]
    cases e : rvr 5 0 0 (b.data.toList.drop i.toNat) with
    | none => unfold rvOut; dsimp only; omega
    | some p =>
      have h1 := rvr_count _ _ _ _ _ e
      have h2 := rvr_val _ _ _ _ _ e
      rw [List.length_drop, size_list] at h1
      obtain ⟨n, m⟩ := p
      unfold rvOut
      dsimp only at *
      omega
  · rw [if_neg h]; dsimp only; omega
theorem within_f (a b c : Int) : impl_within.f a b c = some (decide (b ≤ a ∧ a ≤ c)) := by
  unfold impl_within.f
  by_cases h : a ≥ b
  · rw [if_pos h]; congr 1; rw [decide_eq_decide]; omega
  · rw [if_neg h]; congr 1; symm; rw [decide_eq_false_iff_not]; omega
theorem isNumber_f (a : Int) : impl_isNumber.f a = some (decide (0 ≤ a ∧ a ≤ 1000000000)) := by
  unfold impl_isNumber.f
  rw [within_f]; rfl
theorem shl7 (c : Nat) (hc : c < 128) (i : Nat) (hi : i ≤ 4) : shl .i64 (c : Int) (7 * (i : Int)) = ((2 ^ (7 * i) * c : Nat) : Int) := by
  unfold shl
  rw [show min ((7 * (i : Int)).toNat) IntKind.i64.bits = 7 * i by have : IntKind.i64.bits = 64 := rfl; omega]
  have : 2 ^ (7 * i) * c < 2 ^ 35 := by
    refine Nat.lt_of_lt_of_le (m := 2 ^ (7 * i) * 2 ^ 7) ((Nat.mul_lt_mul_left (Nat.two_pow_pos _)).2 hc) ?_
    rw [← Nat.pow_add]
    exact Nat.pow_le_pow_right (by decide) (by omega)
  rw [show ((c : Int) * 2 ^ (7 * i)) = ((2 ^ (7 * i) * c : Nat) : Int) by rw [Int.natCast_mul, Int.natCast_pow, Int.mul_comm]; rfl]
  exact wraps_i64 _ (Int.natCast_nonneg _) (by omega)
/-- A round's number. -/
theorem or7 (n c : Nat) (i : Nat) (hi : i ≤ 4) (hn : n < 128 ^ i) : Go.bits .or .i64 (n : Int) (shl .i64 (Go.bits .and .i64 (c : Int) 127) (7 * (i : Int))) = ((n + c % 128 * 128 ^ i : Nat) : Int) := by
  rw [i64_mask7, show ((c : Int) % 128) = ((c % 128 : Nat) : Int) by omega, shl7 _ (by omega) i hi]
  have hp : (2 : Nat) ^ (7 * i) ≤ 2 ^ 28 := Nat.pow_le_pow_right (by decide) (by omega)
  have hm : 2 ^ (7 * i) * (c % 128) ≤ 2 ^ 28 * 128 := Nat.mul_le_mul hp (by omega)
  rw [pow128] at hn ⊢
  rw [i64_or _ _ (by omega) (by omega), Nat.or_comm, ← Nat.two_pow_add_eq_or_of_lt hn, Nat.mul_comm, Nat.add_comm]
theorem impl_ReadVar_l0 (b : ByteArray) (hb : b.size ≤ 140737488355328) (a : Nat) (ha : a ≤ b.size) (f : Nat) : ∀ (i n : Nat), i + f = 5 → n < 128 ^ i →
    Ev (fun k => impl_ReadVar.l0 k b (a : Int) (n : Int) (i : Int)) (rvOut a (rvr f i n (b.data.toList.drop (a + i)))) := by
  induction f with
  | zero =>
    intro i n hi hn
    refine Ev.of_eq (r := ((0 : Int), (0 : Int), false)) (Ev.step (fun k => by rw [impl_ReadVar.l0]) ?_) rfl
    exact Ev.neg (by omega) (Ev.now _)
  | succ f ih =>
    intro i n hi hn
    have hi4 : i ≤ 4 := by omega
    refine Ev.step (fun k => by rw [impl_ReadVar.l0]) (Ev.pos (by omega) ?_)
    rw [within_f, wrap64_id (x := (b.size : Int) - 1) (by omega) (by omega), wrap64_id (x := (b.size : Int) - 1 - i) (by omega) (by omega)]
    refine Ev.bind (Ev.const rfl) ?_
    by_cases h1 : a + i < b.size
    · refine Ev.pos (decide_eq_true (by omega)) ?_
      rw [wrap64_id (x := (a : Int) + i) (by omega) (by omega), wrap64_id (x := 7 * (i : Int)) (by omega) (by omega), wrap64_id (x := (i : Int) + 1) (by omega) (by omega)]
      refine Ev.pos (by omega) (Ev.pos (by omega) (Ev.pos (by omega) ?_))
      rw [show (a : Int) + i = ((a + i : Nat) : Int) by omega, bt_list b (a + i) (by rw [size_list]; omega), drop_cons b (a + i) h1]
      have hc := (b.data.toList[a + i]'(by rw [size_list]; omega)).toNat_lt
      generalize (b.data.toList[a + i]'(by rw [size_list]; omega)) = c at hc ⊢
      rw [wrap64_id (x := (c.toNat : Int)) (by omega) (by omega), or7 n c.toNat i hi4 hn]
      unfold rvr
      have hpw : 128 ^ (i + 1) = 128 ^ i * 128 := Nat.pow_succ ..
      have hlt : n + c.toNat % 128 * 128 ^ i < 128 ^ (i + 1) := by
        have : c.toNat % 128 * 128 ^ i ≤ 127 * 128 ^ i := Nat.mul_le_mul_right _ (by omega)
        omega
      by_cases h2 : c.toNat ≥ 128
      · refine Ev.of_eq (r := rvOut a (rvr f (i + 1) (n + c.toNat % 128 * 128 ^ i) (b.data.toList.drop (a + i + 1)))) ?_ (congrArg (rvOut a) (if_pos h2)).symm
        refine Ev.pos (by omega) ?_
        exact ih (i + 1) _ (by omega) hlt
      · rw [show c.toNat % 128 = c.toNat by omega]
        refine Ev.of_eq (r := rvOut a (if (0 < i ∧ c.toNat = 0) ∨ 1000000000 < n + c.toNat * 128 ^ i then none else some (n + c.toNat * 128 ^ i, i + 1))) ?_ (congrArg (rvOut a) (if_neg h2)).symm
        refine Ev.neg (by omega) ?_
        rw [isNumber_f]
        have last : (¬ (0 < i ∧ c.toNat = 0)) → Ev (fun k => (some (decide (0 ≤ ((n + c.toNat * 128 ^ i : Nat) : Int) ∧ ((n + c.toNat * 128 ^ i : Nat) : Int) ≤ 1000000000))).bind fun t => if t = true then some (((n + c.toNat * 128 ^ i : Nat) : Int), wrap64 (((a + i : Nat) : Int) + 1), true) else some (0, 0, false)) (rvOut a (if (0 < i ∧ c.toNat = 0) ∨ 1000000000 < n + c.toNat * 128 ^ i then none else some (n + c.toNat * 128 ^ i, i + 1))) := by
          intro h3
          refine Ev.bind (Ev.const rfl) ?_
          by_cases h4 : 1000000000 < n + c.toNat * 128 ^ i
          · refine Ev.of_eq (r := rvOut a none) ?_ (congrArg (rvOut a) (if_pos (.inr h4))).symm
            exact Ev.neg (by rw [decide_eq_false (by omega)]; decide) (Ev.now _)
          · refine Ev.of_eq (r := rvOut a (some (n + c.toNat * 128 ^ i, i + 1))) ?_ (congrArg (rvOut a) (if_neg (by rintro (h | h); exact h3 h; exact h4 h))).symm
            refine Ev.pos (decide_eq_true (by omega)) (Ev.const ?_)
            rw [wrap64_id (by omega) (by omega)]
            rfl
        by_cases h3 : (i : Int) > 0
        · refine Ev.pos h3 ?_
          by_cases h4 : (c.toNat : Int) = 0
          · refine Ev.of_eq (r := rvOut a none) ?_ (congrArg (rvOut a) (if_pos (.inl ⟨by omega, by omega⟩))).symm
            exact Ev.pos h4 (Ev.now _)
          · exact Ev.neg h4 (last (by omega))
        · exact Ev.neg h3 (last (by omega))
    · rw [List.drop_eq_nil_of_le (by rw [size_list]; omega)]
      refine Ev.of_eq (r := ((0 : Int), (0 : Int), false)) ?_ rfl
      exact Ev.neg (by rw [decide_eq_false (by omega)]; decide) (Ev.now _)
theorem impl_ReadVar_ev (b : ByteArray) (hb : b.size ≤ 140737488355328) (i : Int) (hi : -9223372036854775808 ≤ i ∧ i ≤ 9223372036854775807) : Ev (fun k => impl_ReadVar.f k b i) (readVar b i) := by
  unfold impl_ReadVar.f readVar
  by_cases h : 0 ≤ i ∧ i ≤ b.size
  · rw [if_pos h]
    obtain ⟨a, rfl⟩ := Int.eq_ofNat_of_zero_le h.1
    rw [Int.toNat_natCast]
    exact impl_ReadVar_l0 b hb a (by omega) 5 0 0 rfl (by decide)
  · rw [if_neg h]
    refine Ev.step (fun k => by rw [impl_ReadVar.l0]) (Ev.pos (by decide) ?_)
    rw [within_f, wrap64_id (x := (b.size : Int) - 1) (by omega) (by omega), wrap64_id (x := (b.size : Int) - 1 - 0) (by omega) (by omega)]
    refine Ev.bind (Ev.const rfl) ?_
    exact Ev.neg (by rw [decide_eq_false (by omega)]; decide) (Ev.now _)
theorem l01In_f (a b c : Int) : spec_l01In.f a b c = some (decide (b ≤ a ∧ a ≤ c)) := by
  unfold spec_l01In.f
  by_cases h : a ≥ b
  · rw [if_pos h]; congr 1; rw [decide_eq_decide]; omega
  · rw [if_neg h]; congr 1; symm; rw [decide_eq_false_iff_not]; omega
theorem spec_VarText_l0 (f : Nat) : ∀ (n : Nat) (acc : List Int), n < 128 ^ (f + 1) → n < 2 ^ 31 → acc.length + f < 1000 →
    Ev (fun k => spec_VarText.l0 k (n : Int) acc) (strOfNums (acc ++ vn f n)) := by
  induction f with
  | zero =>
    intro n acc hn hb ha
    refine Ev.step (fun k => by rw [spec_VarText.l0]) ?_
    refine Ev.neg (by omega) (Ev.pos (by omega) (Ev.const ?_))
    rw [show ((n : Int) % 256) = ((n % 256 : Nat) : Int) by omega]; rfl
  | succ f ih =>
    intro n acc hn hb ha
    refine Ev.step (fun k => by rw [spec_VarText.l0]) ?_
    unfold vn
    by_cases h : n ≥ 128
    · rw [if_pos h]
      refine Ev.pos (by omega) (Ev.pos (by omega) ?_)
      rw [i64_mask7, show ((n : Int) % 128) = ((n % 128 : Nat) : Int) by omega, show (128 : Int) = ((128 : Nat) : Int) from rfl, i64_or _ _ (by omega) (by decide), byte_or128 _ (by omega)]
      rw [show (((n % 128 % 128 + 128 : Nat) : Int) % 256) = ((n % 128 + 128 : Nat) : Int) by omega, show ((n : Int) / ((128 : Nat) : Int)) = ((n / 128 : Nat) : Int) by omega]
      refine Ev.of_eq (ih (n / 128) _ ?_ (by omega) (by rw [List.length_append, List.length_singleton]; omega)) (by rw [List.append_assoc]; rfl)
      rw [Nat.pow_succ] at hn
      exact Nat.div_lt_of_lt_mul (by rw [Nat.mul_comm]; exact hn)
    · rw [if_neg h]
      refine Ev.neg (by omega) (Ev.pos (by omega) (Ev.const ?_))
      rw [show ((n : Int) % 256) = ((n % 256 : Nat) : Int) by omega]
theorem spec_VarText_ev (n : Int) : Ev (fun k => spec_VarText.f k n) (varText n) := by
  unfold spec_VarText.f varText
  rw [l01In_f]
  refine Ev.bind (Ev.const rfl) ?_
  simp only [decide_eq_true_eq]
  by_cases h : 0 ≤ n ∧ n ≤ 1000000000
  · rw [if_pos h]
    refine Ev.pos h ?_
    have e : n = ((n.toNat : Nat) : Int) := by omega
    rw [e, Int.toNat_natCast]
    exact spec_VarText_l0 5 n.toNat [] (Nat.lt_of_lt_of_le (m := 2 ^ 31) (by omega) (by decide)) (by omega) (by decide)
  · rw [if_neg h]
    exact Ev.neg h (Ev.now _)
theorem u64_wrap7 (i : Nat) (hi : i ≤ 4) : IntKind.u64.wrap (7 * (i : Int)) = 7 * (i : Int) := by
  simp [IntKind.wrap, IntKind.bits, IntKind.signed]; omega
theorem extract_bytes (b : ByteArray) (i j : Nat) : (b.extract i j).data.toList = bytesUpto b.data.toList i j := by
  rw [ByteArray.data_extract, Array.toList_extract]; rfl
theorem varText_bytes (n : Nat) (h : n ≤ 1000000000) : (varText (n : Int)).data.toList = bytesOfNums (vn 5 n) := by
  unfold varText
  rw [if_pos (by omega), Int.toNat_natCast]; rfl
theorem vn_ne (f n : Nat) : bytesOfNums (vn f n) ≠ [] := by
  cases f with
  | zero => simp [vn, bytesOfNums]
  | succ f => unfold vn; split <;> simp [bytesOfNums]
theorem spec_ReadVar_l0 (b : ByteArray) (hb : b.size ≤ 140737488355328) (a : Nat) (ha : a ≤ b.size) (f : Nat) : ∀ (i n : Nat), i + f = 5 → i ≤ b.size - a → n = vl ((b.data.toList.drop a).take i) → (∀ d ∈ (b.data.toList.drop a).take i, d.toNat ≥ 128) →
    Ev (fun k => spec_ReadVar.l0 k b (a : Int) (n : Int) (i : Int)) (rvOut a (rvr f i n (b.data.toList.drop (a + i)))) := by
  induction f with
  | zero =>
    intro i n hi hia hn hp
    refine Ev.of_eq (r := ((0 : Int), (0 : Int), false)) (Ev.step (fun k => by rw [spec_ReadVar.l0]) ?_) rfl
    refine Ev.neg (by omega) (Ev.step (fun k => by rw [spec_ReadVar.j1]) ?_)
    exact Ev.neg (by decide) (Ev.now _)
  | succ f ih =>
    intro i n hi hia hn hp
    have hi4 : i ≤ 4 := by omega
    have htl : ((b.data.toList.drop a).take i).length = i := by rw [List.length_take, List.length_drop, size_list]; omega
    have hnl : n < 128 ^ i := by have := vl_lt ((b.data.toList.drop a).take i); rw [htl, ← hn] at this; exact this
    refine Ev.step (fun k => by rw [spec_ReadVar.l0]) (Ev.pos (by omega) (Ev.step (fun k => by rw [spec_ReadVar.j1]) ?_))
    rw [wrap64_id (x := (a : Int) + i) (by omega) (by omega), wrap64_id (x := 7 * (i : Int)) (by omega) (by omega), wrap64_id (x := (i : Int) + 1) (by omega) (by omega), u64_wrap7 i hi4]
    by_cases h1 : a + i < b.size
    · refine Ev.pos (decide_eq_true (by omega)) (Ev.pos (by omega) (Ev.pos (by omega) (Ev.pos (by omega) ?_)))
      rw [show (a : Int) + i = ((a + i : Nat) : Int) by omega, bt_list b (a + i) (by rw [size_list]; omega), drop_cons b (a + i) h1]
      have hget : (b.data.toList.drop a)[i]'(by rw [List.length_drop, size_list]; omega) = b.data.toList[a + i]'(by rw [size_list]; omega) := by rw [List.getElem_drop]
      have hsn : (b.data.toList.drop a).take (i + 1) = (b.data.toList.drop a).take i ++ [b.data.toList[a + i]'(by rw [size_list]; omega)] := by
        rw [List.take_succ_eq_append_getElem (by rw [List.length_drop, size_list]; omega), hget]
      have hc := (b.data.toList[a + i]'(by rw [size_list]; omega)).toNat_lt
      generalize (b.data.toList[a + i]'(by rw [size_list]; omega)) = c at hc hsn ⊢
      have hv : vl ((b.data.toList.drop a).take (i + 1)) = n + c.toNat % 128 * 128 ^ i := by rw [hsn, vl_snoc, htl, ← hn]
      rw [wrap64_id (x := (c.toNat : Int)) (by omega) (by omega), or7 n c.toNat i hi4 hnl]
      unfold rvr
      by_cases h2 : c.toNat ≥ 128
      · refine Ev.of_eq (r := rvOut a (rvr f (i + 1) (n + c.toNat % 128 * 128 ^ i) (b.data.toList.drop (a + i + 1)))) ?_ (congrArg (rvOut a) (if_pos h2)).symm
        refine Ev.neg (by omega) ?_
        refine ih (i + 1) _ (by omega) (by omega) hv.symm ?_
        rw [hsn]
        intro d hd
        rcases List.mem_append.1 hd with h | h
        · exact hp d h
        · rw [List.mem_singleton] at h; subst h; exact h2
      · rw [show c.toNat % 128 = c.toNat by omega] at hv ⊢
        refine Ev.of_eq (r := rvOut a (if (0 < i ∧ c.toNat = 0) ∨ 1000000000 < n + c.toNat * 128 ^ i then none else some (n + c.toNat * 128 ^ i, i + 1))) ?_ (congrArg (rvOut a) (if_neg h2)).symm
        refine Ev.pos (by omega) (Ev.bind (spec_VarText_ev _) ?_)
        rw [wrap64_id (x := ((a + i : Nat) : Int) + 1) (by omega) (by omega)]
        simp only [ByteArray.toList_eq]
        by_cases h3 : n + c.toNat * 128 ^ i ≤ 1000000000
        · rw [varText_bytes _ h3]
          refine Ev.neg (vn_ne _ _) (Ev.pos (by omega) (Ev.pos (by omega) (Ev.pos (by omega) ?_)))
          rw [show (((a + i : Nat) : Int) + 1).toNat = a + (i + 1) by omega, Int.toNat_natCast, extract_bytes, bytesUpto, Nat.add_sub_cancel_left, ← hv, hsn]
          by_cases h4 : 0 < i ∧ c.toNat = 0
          · refine Ev.of_eq (r := rvOut a none) ?_ (congrArg (rvOut a) (if_pos (.inl h4))).symm
            refine Ev.neg ?_ (Ev.now _)
            refine vn_needless _ 5 c h4.2 ?_
            intro h; rw [h] at htl; simp at htl; omega
          · refine Ev.of_eq (r := rvOut a (some (vl ((b.data.toList.drop a).take i ++ [c]), i + 1))) ?_ (congrArg (rvOut a) (if_neg (by rintro (h | h); exact h4 h; rw [← hsn, hv] at h; omega))).symm
            refine Ev.pos ?_ (Ev.const ?_)
            · refine vn_of _ 5 c hp (by omega) ?_ (by rw [htl]; omega)
              intro h hc0
              refine h4 ⟨?_, hc0⟩
              rcases Nat.eq_zero_or_pos i with h0 | h0
              · exfalso; apply h; apply List.eq_nil_of_length_eq_zero; rw [htl, h0]
              · exact h0
            · refine congrArg some ?_; show (_, ((a + i : Nat) : Int) + 1, true) = (_, ((a + (i + 1) : Nat) : Int), true); rw [show ((a + (i + 1) : Nat) : Int) = ((a + i : Nat) : Int) + 1 by omega]
        · refine Ev.of_eq (r := rvOut a none) ?_ (congrArg (rvOut a) (if_pos (.inr (by omega)))).symm
          refine Ev.pos ?_ (Ev.now _)
          unfold varText
          rw [if_neg (by omega)]
    · rw [List.drop_eq_nil_of_le (by rw [size_list]; omega)]
      refine Ev.of_eq (r := ((0 : Int), (0 : Int), false)) ?_ rfl
      exact Ev.neg (by rw [decide_eq_false (by omega)]; decide) (Ev.now _)
theorem spec_ReadVar_ev (b : ByteArray) (hb : b.size ≤ 140737488355328) (i : Int) : Ev (fun k => spec_ReadVar.f k b i) (readVar b i) := by
  unfold spec_ReadVar.f readVar
  rw [l01In_f]
  refine Ev.bind (Ev.const rfl) ?_
  by_cases h : 0 ≤ i ∧ i ≤ b.size
  · rw [if_pos h]
    refine Ev.pos (decide_eq_true h) ?_
    obtain ⟨a, rfl⟩ := Int.eq_ofNat_of_zero_le h.1
    rw [Int.toNat_natCast]
    exact spec_ReadVar_l0 b hb a (by omega) 5 0 0 rfl (by omega) (by simp [vl]) (by simp)
  · rw [if_neg h]
    exact Ev.neg (by rw [decide_eq_false h]; decide) (Ev.now _)
theorem spec_ReadVars_l0 (b : ByteArray) (hb : b.size ≤ 140737488355328) (N : Nat) (hN : N ≤ 1000) (n : Nat) : ∀ (j : Nat) (acc : List Int) (i : Int), j + n = N → acc.length = j →
    Ev (fun k => spec_ReadVars.l0 k b [] (N : Int) i acc (j : Int)) (match readMany b n i with | none => ([], 0, false) | some p => (acc ++ p.1, p.2, true)) := by
  induction n with
  | zero =>
    intro j acc i hj ha
    refine Ev.of_eq (r := (acc, i, true)) ?_ (by rw [readMany]; dsimp only; rw [List.append_nil])
    refine Ev.step (fun k => by rw [spec_ReadVars.l0]) ?_
    exact Ev.neg (by omega) (Ev.now _)
  | succ n ih =>
    intro j acc i hj ha
    refine Ev.step (fun k => by rw [spec_ReadVars.l0]) (Ev.pos (by omega) (Ev.bind (spec_ReadVar_ev b hb i) ?_))
    rw [wrap64_id (by omega) (by omega)]
    by_cases h : (readVar b i).2.2 = true
    · refine Ev.pos h (Ev.pos (by omega) ?_)
      refine Ev.of_eq (ih (j + 1) (acc ++ [(readVar b i).1]) (readVar b i).2.1 (by omega) (by rw [List.length_append, List.length_singleton]; omega)) ?_
      rw [readMany, if_pos h]
      cases readMany b n (readVar b i).2.1 with
      | none => rfl
      | some p => simp
    · refine Ev.of_eq (r := ([], 0, false)) (Ev.neg h (Ev.now _)) ?_
      rw [readMany, if_neg h]
theorem spec_ReadVars_ev (b : ByteArray) (hb : b.size ≤ 140737488355328) (i : Int) : Ev (fun k => spec_ReadVars.f k b i) (readVars b i) := by
  unfold spec_ReadVars.f
  refine Ev.bind (Ev.const rfl) (Ev.bind (spec_ReadVar_ev b hb i) ?_)
  unfold readVars
  have hs := readVar_span b i
  by_cases h : (readVar b i).2.2 = true
  · refine Ev.of_eq ?_ (if_pos h).symm
    refine Ev.pos h (Ev.step (fun k => by rw [spec_ReadVars.j0]) ?_)
    by_cases h2 : (readVar b i).1 > 1000
    · refine Ev.of_eq (r := ([], 0, false)) ?_ (if_pos h2).symm
      exact Ev.pos (decide_eq_true h2) (Ev.now _)
    · refine Ev.of_eq ?_ (if_neg h2).symm
      refine Ev.neg (by rw [decide_eq_false h2]; decide) ?_
      have e : (readVar b i).1 = (((readVar b i).1.toNat : Nat) : Int) := by omega
      have := spec_ReadVars_l0 b hb (readVar b i).1.toNat (by omega) (readVar b i).1.toNat 0 [] (readVar b i).2.1 (by omega) rfl
      rw [← e] at this
      refine Ev.of_eq this ?_
      cases readMany b (readVar b i).1.toNat (readVar b i).2.1 <;> rfl
  · refine Ev.of_eq (r := ([], 0, false)) ?_ (if_neg h).symm
    refine Ev.neg h (Ev.step (fun k => by rw [spec_ReadVars.j0]) ?_)
    exact Ev.pos rfl (Ev.now _)
theorem impl_readVars_l0 (b : ByteArray) (hb : b.size ≤ 140737488355328) (N : Nat) (hN : N ≤ 1000) (n : Nat) : ∀ (j : Nat) (acc : List Int) (i : Int), j + n = N → acc.length = j → (-9223372036854775808 ≤ i ∧ i ≤ 9223372036854775807) →
    Ev (fun k => impl_readVars.l0 k b i acc (N : Int) (j : Int)) (match readMany b n i with | none => ([], 0, false) | some p => (acc ++ p.1, p.2, true)) := by
  induction n with
  | zero =>
    intro j acc i hj ha hi
    refine Ev.of_eq (r := (acc, i, true)) ?_ (by rw [readMany]; dsimp only; rw [List.append_nil])
    refine Ev.step (fun k => by rw [impl_readVars.l0]) ?_
    exact Ev.neg (by omega) (Ev.now _)
  | succ n ih =>
    intro j acc i hj ha hi
    refine Ev.step (fun k => by rw [impl_readVars.l0]) (Ev.pos (by omega) (Ev.bind (impl_ReadVar_ev b hb i hi) ?_))
    rw [wrap64_id (by omega) (by omega)]
    have hs := readVar_span b i
    by_cases h : (readVar b i).2.2 = true
    · refine Ev.pos h (Ev.pos (by omega) ?_)
      refine Ev.of_eq (ih (j + 1) (acc ++ [(readVar b i).1]) (readVar b i).2.1 (by omega) (by rw [List.length_append, List.length_singleton]; omega) (by omega)) ?_
      rw [readMany, if_pos h]
      cases readMany b n (readVar b i).2.1 with
      | none => rfl
      | some p => simp
    · refine Ev.of_eq (r := ([], 0, false)) (Ev.neg h (Ev.now _)) ?_
      rw [readMany, if_neg h]
theorem impl_ReadVars_ev (b : ByteArray) (hb : b.size ≤ 140737488355328) (i : Int) (hi : -9223372036854775808 ≤ i ∧ i ≤ 9223372036854775807) : Ev (fun k => impl_ReadVars.f k b i) (readVars b i) := by
  unfold impl_ReadVars.f
  refine Ev.bind (impl_ReadVar_ev b hb i hi) ?_
  unfold readVars
  have hs := readVar_span b i
  by_cases h : (readVar b i).2.2 = true
  · refine Ev.of_eq ?_ (if_pos h).symm
    refine Ev.pos h ?_
    by_cases h2 : (readVar b i).1 > 1000
    · refine Ev.of_eq (r := ([], 0, false)) ?_ (if_pos h2).symm
      exact Ev.pos h2 (Ev.now _)
    · refine Ev.of_eq ?_ (if_neg h2).symm
      refine Ev.neg h2 ?_
      have e : (readVar b i).1 = (((readVar b i).1.toNat : Nat) : Int) := by omega
      have := impl_readVars_l0 b hb (readVar b i).1.toNat (by omega) (readVar b i).1.toNat 0 [] (readVar b i).2.1 (by omega) rfl (by omega)
      rw [← e] at this
      refine Ev.of_eq (Ev.bind this (Ev.now _)) ?_
      cases readMany b (readVar b i).1.toNat (readVar b i).2.1 <;> rfl
  · refine Ev.of_eq (r := ([], 0, false)) ?_ (if_neg h).symm
    exact Ev.neg h (Ev.now _)
theorem readMany_len (b : ByteArray) (n : Nat) : ∀ (i : Int) (p : List Int × Int), readMany b n i = some p → p.1.length = n := by
  induction n with
  | zero => intro i p h; rw [readMany] at h; rw [← Option.some.inj h]; rfl
  | succ n ih =>
    intro i p h
    rw [readMany] at h
    split at h
    · cases e : readMany b n (readVar b i).2.1 with
      | none => rw [e] at h; cases h
      | some q =>
        rw [e] at h
        rw [← Option.some.inj h]
        exact congrArg Nat.succ (ih _ _ e)
    · cases h
theorem readVars_len (b : ByteArray) (i : Int) : (readVars b i).1.length ≤ 1000 := by
  unfold readVars
  split
  · split
    · exact Nat.zero_le _
    · cases e : readMany b (readVar b i).1.toNat (readVar b i).2.1 with
      | none => exact Nat.zero_le _
      | some p => have := readMany_len _ _ _ _ e; dsimp only; omega
  · exact Nat.zero_le _
noncomputable def mksInt (m : Int) (n : Nat) : List Int := (List.range n).map fun (j : Nat) => (m + j)
theorem mksInt_length (m : Int) (n : Nat) : (mksInt m n).length = n := by unfold mksInt; rw [List.length_map, List.length_range]
theorem mksInt_get (m : Int) (n i : Nat) (h : i < n) : (mksInt m n)[i]? = some (m + (i : Int)) := by
  unfold mksInt
  rw [List.getElem?_map, List.getElem?_range h]; rfl
theorem mksInt_at (m : Int) (n i : Nat) (h : i < (mksInt m n).length) : (mksInt m n)[i] = (m + (i : Int)) := by
  have h1 := mksInt_get m n i (by rw [mksInt_length] at h; exact h)
  rw [List.getElem?_eq_getElem h] at h1
  exact Option.some.inj h1
theorem rd_Z (xs : List Int) (i : Nat) (h : i < xs.length) : rd xs (i : Int) = xs[i] := by
  unfold rd
  rw [Int.toNat_natCast, List.getD_eq_getElem?_getD, List.getElem?_eq_getElem h]; rfl
theorem markIntS_l0 (m : Int) (h0 : 0 ≤ m) (h1 : m ≤ 4611686018427387904) (L : Nat) (hL : L ≤ 140737488355328) (n : Nat) : ∀ (i : Nat) (xs : List Int), i + n = L → xs.length = L → (∀ j, j < i → xs[j]? = (mksInt m L)[j]?) →
    Ev (fun k => laws_markIntS.l0 k xs (m + 1 * (i : Int)) (i : Int)) (m + 1 * (L : Int), mksInt m L) := by
  induction n with
  | zero =>
    intro i xs hi hl hp
    refine Ev.step (fun k => by rw [laws_markIntS.l0]) (Ev.neg (by omega) (Ev.const ?_))
    obtain rfl : i = L := by omega
    refine congrArg some (congrArg (Prod.mk _) (List.ext_getElem? fun j => ?_))
    by_cases hj : j < i
    · exact hp j hj
    · rw [List.getElem?_eq_none (by omega), List.getElem?_eq_none (by rw [mksInt_length]; omega)]
  | succ n ih =>
    intro i xs hi hl hp
    refine Ev.step (fun k => by rw [laws_markIntS.l0]) (Ev.pos (by omega) ?_)
    refine Ev.pos (by omega) ?_
    rw [wrap64_id (x := m + 1 * (i : Int) + 1) (by omega) (by omega), wrap64_id (x := (i : Int) + 1) (by omega) (by omega), Int.toNat_natCast]
    have := ih (i + 1) (xs.set i (m + (i : Int))) (by omega) (by rw [List.length_set]; exact hl) ?_
    · rw [show m + 1 * ((i + 1 : Nat) : Int) = m + 1 * (i : Int) + 1 by omega] at this
      refine Ev.congr (fun k => ?_) this
      rw [show (m + 1 * (i : Int) : Int) = (m + (i : Int)) from by rw [show m + 1 * (i : Int) = m + (i : Int) by omega]]; rfl
    · intro j hj
      by_cases h : j < i
      · rw [List.getElem?_set_ne (by omega)]; exact hp j h
      · obtain rfl : j = i := by omega
        rw [List.getElem?_set_self (by omega), mksInt_get _ _ _ (by omega)]
theorem markIntS_ev (xs : List Int) (m : Int) (h0 : 0 ≤ m) (h1 : m ≤ 4611686018427387904) (hL : xs.length ≤ 140737488355328) : Ev (fun k => laws_markIntS.f k xs m) (m + 1 * (xs.length : Int), mksInt m xs.length) := by
  unfold laws_markIntS.f
  have := markIntS_l0 m h0 h1 xs.length hL xs.length 0 xs (by omega) rfl (fun j hj => absurd hj (Nat.not_lt_zero _))
  rw [show m + 1 * ((0 : Nat) : Int) = m by omega] at this
  exact this
theorem heldIntS_l0 (m : Int) (h0 : 0 ≤ m) (h1 : m ≤ 4611686018427387904) (L : Nat) (hL : L ≤ 140737488355328) (n : Nat) : ∀ (i : Nat), i + n = L →
    Ev (fun k => laws_heldIntS.l0 k (mksInt m L) (m + 1 * (i : Int)) (i : Int)) (m + 1 * (L : Int)) := by
  induction n with
  | zero =>
    intro i hi
    obtain rfl : i = L := by omega
    refine Ev.step (fun k => by rw [laws_heldIntS.l0]) ?_
    exact Ev.neg (by rw [mksInt_length]; omega) (Ev.now _)
  | succ n ih =>
    intro i hi
    refine Ev.step (fun k => by rw [laws_heldIntS.l0]) (Ev.pos (by rw [mksInt_length]; omega) ?_)
    refine Ev.pos (by omega) ?_
    rw [rd_Z _ i (by rw [mksInt_length]; omega), mksInt_at]
    refine Ev.pos (by omega) ?_
    rw [wrap64_id (x := m + 1 * (i : Int) + 1) (by omega) (by omega), wrap64_id (x := (i : Int) + 1) (by omega) (by omega)]
    have := ih (i + 1) (by omega)
    rw [show m + 1 * ((i + 1 : Nat) : Int) = m + 1 * (i : Int) + 1 by omega] at this
    exact this
theorem heldIntS_ev (m : Int) (h0 : 0 ≤ m) (h1 : m ≤ 4611686018427387904) (L : Nat) (hL : L ≤ 140737488355328) : Ev (fun k => laws_heldIntS.f k (mksInt m L) m) (m + 1 * (L : Int)) := by
  unfold laws_heldIntS.f
  have := heldIntS_l0 m h0 h1 L hL L 0 (by omega)
  rw [show m + 1 * ((0 : Nat) : Int) = m by omega] at this
  exact this
theorem eqIntS_l0 (xs : List Int) (hl : xs.length ≤ 9223372036854775806) (n : Nat) : ∀ (i : Nat), i + n = xs.length → Ev (fun k => laws_eqIntS.l0 k xs xs (i : Int)) true := by
  induction n with
  | zero =>
    intro i hi
    refine Ev.step (fun k => by rw [laws_eqIntS.l0]) ?_
    exact Ev.neg (by omega) (Ev.now _)
  | succ n ih =>
    intro i hi
    refine Ev.step (fun k => by rw [laws_eqIntS.l0]) (Ev.pos (by omega) (Ev.pos (by omega) (Ev.pos (by omega) ?_)))
    refine Ev.pos rfl ?_
    rw [wrap64_id (by omega) (by omega)]
    exact ih (i + 1) (by omega)
theorem eqIntS_refl (xs : List Int) (hl : xs.length ≤ 9223372036854775806) : Ev (fun k => laws_eqIntS.f k xs xs) true := by
  unfold laws_eqIntS.f
  exact Ev.pos rfl (eqIntS_l0 xs hl xs.length 0 (by omega))
theorem FnExactReadVars : laws_FnExactReadVars.Pure := by
  intro b i hb hi
  refine Ev.rounds (g := fun k => laws_FnExactReadVars.f k b i) ?_
  unfold laws_FnExactReadVars.f
  by_cases h : (b.size : Int) > 1048576
  · exact Ev.pos h (Ev.now _)
  · have hl := readVars_len b i
    have hs := spec_ReadVars_ev b (by omega) i
    have hr := impl_ReadVars_ev b (by omega) i (wf_i64 hi)
    have he := eqIntS_refl (readVars b i).1 (by omega)
    refine Ev.neg h (Ev.bind hs (Ev.bind hr (Ev.bind he (Ev.pos rfl (Ev.pos rfl ?_)))))
    refine Ev.step (fun k => by rw [laws_FnExactReadVars.j0]) (Ev.neg (by simp) ?_)
    have hm := markIntS_ev (readVars b i).1 1 (by decide) (by decide) (by omega)
    have hh := heldIntS_ev 1 (by decide) (by decide) (readVars b i).1.length (by omega)
    refine Ev.bind hm (Ev.bind hh (Ev.neg (by omega) (Ev.pos rfl ?_)))
    refine Ev.bind hr (Ev.bind he (Ev.pos rfl (Ev.pos rfl ?_)))
    refine Ev.step (fun k => by rw [laws_FnExactReadVars.j1]) (Ev.neg (by simp) ?_)
    refine Ev.bind hh (Ev.neg (by omega) ?_)
    exact Ev.pos rfl (Ev.now _)
end Go.Proofs.Ytcblnckmmlamlaa.Pure
