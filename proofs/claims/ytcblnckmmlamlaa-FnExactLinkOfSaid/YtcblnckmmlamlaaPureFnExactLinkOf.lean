/- The law FnExactLinkOf answers true for every list of texts: the program's LinkOf tells what the reference's tells, and its argument reads on as it did. Conditions: those of the given row, and no others. -/
import Derived.Test.YtcblnckmmlamlaaMFnExactLinkOfx2
namespace Go.Proofs.Ytcblnckmmlamlaa.Pure
open Go.RowKit Go.Proofs.Ytcblnckmmlamlaa.MFnExactLinkOf Go.Proofs.YtcblnckmmlamlaaW.PrintWords Go.Proofs.YtcblnckmmlamlaaW.PrintLast Go.Proofs.YtcblnckmmlamlaaW.PrintMore
set_option linter.unusedVariables false
set_option linter.unusedSimpArgs false
/-! ### Whole numbers and bits -/
theorem wrap64_id {x : Int} (h0 : -9223372036854775808 ≤ x) (h1 : x ≤ 9223372036854775807) : wrap64 x = x := by unfold wrap64; omega
theorem wf_i64 {x : Int} (h : (Lit.int .i64 x).wf = true) : -9223372036854775808 ≤ x ∧ x ≤ 9223372036854775807 := by
  simp only [Lit.wf, IntKind.min, IntKind.max, IntKind.signed, IntKind.bits, Bool.and_eq_true, decide_eq_true_eq, if_true] at h
  omega
theorem mod_toNat_nat (a : Nat) (m : Nat) : (((a : Int) % (m : Int)).toNat) = a % m := by
  rw [← Int.natCast_emod, Int.toNat_natCast]
theorem bv_mask (j : Nat) (hj : j < 64) (x : Int) : (BitVec.ofInt 64 x &&& BitVec.ofInt 64 ((2 ^ j - 1 : Nat) : Int)).toNat = (x % ((2 ^ j : Nat) : Int)).toNat := by
  have hle : 2 ^ j ≤ 2 ^ 63 := Nat.pow_le_pow_right (by decide) (by omega)
  have hpos : 0 < 2 ^ j := Nat.two_pow_pos j
  have hlt : 2 ^ j - 1 < 2 ^ 64 := by omega
  have hd : (2 : Nat) ^ j ∣ 2 ^ 64 := Nat.pow_dvd_pow 2 (by omega)
  rw [BitVec.ofInt_natCast, BitVec.toNat_and, BitVec.toNat_ofNat, Nat.mod_eq_of_lt hlt, Nat.and_two_pow_sub_one_eq_mod, BitVec.toNat_ofInt]
  have h0 : 0 ≤ x % ((2 ^ 64 : Nat) : Int) := Int.emod_nonneg _ (by simp)
  have h1 : 0 ≤ x % ((2 ^ j : Nat) : Int) := Int.emod_nonneg _ (by omega)
  have : (((x % ((2 ^ 64 : Nat) : Int)).toNat % 2 ^ j : Nat) : Int) = x % ((2 ^ j : Nat) : Int) := by
    rw [Int.natCast_emod, Int.toNat_of_nonneg h0]
    exact Int.emod_emod_of_dvd x (Int.natCast_dvd_natCast.mpr hd)
  omega
/-- A mask of the lowest j bits, of any i64. -/
theorem i64_mask (j : Nat) (hj : j < 64) (x : Int) : Go.bits .and .i64 x (((2 ^ j - 1 : Nat) : Int)) = x % ((2 ^ j : Nat) : Int) := by
  have hpos : 0 < 2 ^ j := Nat.two_pow_pos j
  have hle : 2 ^ j ≤ 2 ^ 63 := Nat.pow_le_pow_right (by decide) (by omega)
  show IntKind.i64.wrap (((BitVec.ofInt 64 x &&& BitVec.ofInt 64 ((2 ^ j - 1 : Nat) : Int)).toNat : Nat) : Int) = _
  rw [bv_mask j hj x]
  have h1 : 0 ≤ x % ((2 ^ j : Nat) : Int) := Int.emod_nonneg _ (by omega)
  have h2 : x % ((2 ^ j : Nat) : Int) < ((2 ^ j : Nat) : Int) := Int.emod_lt_of_pos _ (by omega)
  rw [Int.toNat_of_nonneg h1, IntKind.wrap_i64]
  have h3 : ((2 ^ j : Nat) : Int) ≤ ((2 ^ 63 : Nat) : Int) := Int.ofNat_le.mpr hle
  have h5 : ((2 ^ 63 : Nat) : Int) = 9223372036854775808 := by decide
  omega
theorem i64_mask32 (x : Int) : Go.bits .and .i64 x 4294967295 = x % 4294967296 := i64_mask 32 (by decide) x
theorem i64_mask8 (x : Int) : Go.bits .and .i64 x 255 = x % 256 := i64_mask 8 (by decide) x
theorem i64_mask7 (x : Int) : Go.bits .and .i64 x 127 = x % 128 := i64_mask 7 (by decide) x
theorem i64_mask4 (x : Int) : Go.bits .and .i64 x 15 = x % 16 := i64_mask 4 (by decide) x
theorem i64_mask1 (x : Int) : Go.bits .and .i64 x 1 = x % 2 := i64_mask 1 (by decide) x
theorem xor_nat (k : IntKind) (j : Nat) (hj : j ≤ k.bits) (hk : ∀ n : Int, 0 ≤ n → n < 2 ^ j → k.wrap n = n) (a b : Nat) (ha : a < 2 ^ j) (hb : b < 2 ^ j) :
    Go.bits .xor k a b = ((a ^^^ b : Nat) : Int) := by
  have hp : 2 ^ j ≤ 2 ^ k.bits := Nat.pow_le_pow_right (by decide) hj
  have ha' : a % 2 ^ k.bits = a := Nat.mod_eq_of_lt (Nat.lt_of_lt_of_le ha hp)
  have hb' : b % 2 ^ k.bits = b := Nat.mod_eq_of_lt (Nat.lt_of_lt_of_le hb hp)
  simp only [Go.bits, BitVec.ofInt_natCast, BitVec.toNat_xor, BitVec.toNat_ofNat, ha', hb']
  exact hk _ (Int.natCast_nonneg _) (by exact_mod_cast Nat.xor_lt_two_pow ha hb)
theorem wraps_i64 (n : Int) (h0 : 0 ≤ n) (h1 : n < 2 ^ 63) : IntKind.i64.wrap n = n := by rw [IntKind.wrap_i64]; omega
theorem wraps_u32 (n : Int) (h0 : 0 ≤ n) (h1 : n < 2 ^ 32) : IntKind.u32.wrap n = n := by rw [IntKind.wrap_u32]; omega
theorem i64_xor (a b : Nat) (ha : a < 2 ^ 63) (hb : b < 2 ^ 63) : Go.bits .xor .i64 a b = ((a ^^^ b : Nat) : Int) := xor_nat .i64 63 (by decide) wraps_i64 a b ha hb
theorem u32_xor (a b : Nat) (ha : a < 2 ^ 32) (hb : b < 2 ^ 32) : Go.bits .xor .u32 a b = ((a ^^^ b : Nat) : Int) := xor_nat .u32 32 (by decide) wraps_u32 a b ha hb
theorem i64_or (a b : Nat) (ha : a < 2 ^ 63) (hb : b < 2 ^ 63) : Go.bits .or .i64 a b = ((a ||| b : Nat) : Int) := (Go.bits_nat .i64 63 (by decide) wraps_i64 a b ha hb).2
theorem u8_or (a b : Nat) (ha : a < 2 ^ 8) (hb : b < 2 ^ 8) : Go.bits .or .u8 a b = ((a ||| b : Nat) : Int) := (Go.bits_nat .u8 8 (by decide) Go.wraps_u8 a b ha hb).2
theorem u32_and1 (a : Nat) (ha : a < 2 ^ 32) : Go.bits .and .u32 a 1 = ((a % 2 : Nat) : Int) := by
  rw [show (1 : Int) = ((1 : Nat) : Int) from rfl, (Go.bits_nat .u32 32 (by decide) wraps_u32 a 1 ha (by decide)).1, show (1 : Nat) = 2 ^ 1 - 1 from rfl, Nat.and_two_pow_sub_one_eq_mod]
/-! ### Bytes of a text -/
theorem bt_list (s : ByteArray) (i : Nat) (h : i < s.data.toList.length) : bt s (i : Int) = ((s.data.toList[i]).toNat : Int) := by
  have h' : i < s.size := by rw [Array.length_toList] at h; exact h
  have hn : (i : Int).toNat < s.size := by rw [Int.toNat_natCast]; exact h'
  rw [← bt_at s i hn]
  rfl
theorem size_list (s : ByteArray) : s.data.toList.length = s.size := by rw [Array.length_toList]; rfl
theorem drop_cons (s : ByteArray) (i : Nat) (h : i < s.size) : s.data.toList.drop i = s.data.toList[i]'(by rw [size_list]; exact h) :: s.data.toList.drop (i + 1) :=
  List.drop_eq_getElem_cons (by rw [size_list]; exact h)
/-! ### From some number of rounds on -/
section
variable {α : Type} {f g : Nat → Option α} {r : α} {c : Prop} [Decidable c]
theorem Ev.pos (h : c) (e : Ev f r) : Ev (fun k => if c then f k else g k) r := Ev.congr (fun _ => if_pos h) e
theorem Ev.neg (h : ¬ c) (e : Ev g r) : Ev (fun k => if c then f k else g k) r := Ev.congr (fun _ => if_neg h) e
theorem Ev.const {o : Option α} (h : o = some r) : Ev (fun _ => o) r := ⟨0, fun _ _ => h⟩
theorem Ev.at (K : Nat) (h : ∀ k, K ≤ k → f k = some r) : Ev f r := ⟨K, h⟩
theorem Ev.of_eq {r' : α} (e : Ev f r) (h : r = r') : Ev f r' := h ▸ e
end
theorem Ev.both {α β : Type} {f : Nat → Option α} {g : Nat → Option β} {a : α} {b : β} (h : Ev f a) (h' : Ev g b) : ∃ k, f k = some a ∧ g k = some b := by
  obtain ⟨K, h⟩ := h
  obtain ⟨K', h'⟩ := h'
  exact ⟨max K K', h _ (by omega), h' _ (by omega)⟩
theorem rd_S (xs : List ByteArray) (i : Nat) (h : i < xs.length) : rdOf ByteArray.empty xs (i : Int) = xs[i] := by
  unfold rdOf
  rw [Int.toNat_natCast, List.getD_eq_getElem?_getD, List.getElem?_eq_getElem h]; rfl
def totString : List ByteArray → Nat
  | [] => 0
  | x :: l => x.size + totString l
theorem szStringS_l0 (xs : List ByteArray) (hl : xs.length ≤ 1048576) (hs : ∀ x ∈ xs, x.size ≤ 9223372036854775807) (n : Nat) : ∀ (i : Nat) (x1 : Int), i + n = xs.length → 0 ≤ x1 → x1 ≤ 1048576 →
    ∃ r, Ev (fun k => laws_szStringS.l0 k xs x1 (i : Int)) r ∧ (r = -1 ∨ (0 ≤ r ∧ r + totString (xs.drop i) = x1)) := by
  induction n with
  | zero =>
    intro i x1 hi h0 h1
    refine ⟨x1, Ev.step (fun k => by rw [laws_szStringS.l0]) (Ev.neg (by omega) (Ev.now _)), .inr ⟨h0, ?_⟩⟩
    rw [List.drop_eq_nil_of_le (by omega), totString]; omega
  | succ n ih =>
    intro i x1 hi h0 h1
    have hi2 : i < xs.length := by omega
    have hb : xs[i].size ≤ 9223372036854775807 := hs xs[i] (List.getElem_mem hi2)
    by_cases h : x1 - (xs[i].size : Int) < 0
    · exact ⟨-1, Ev.step (fun k => by rw [laws_szStringS.l0]) (Ev.pos (by omega) (Ev.pos (by omega) (by rw [rd_S xs i hi2, wrap64_id (by omega) (by omega)]; exact Ev.pos h (Ev.now _)))), .inl rfl⟩
    · obtain ⟨r, hr, h2⟩ := ih (i + 1) (x1 - (xs[i].size : Int)) (by omega) (by omega) (by omega)
      refine ⟨r, Ev.step (fun k => by rw [laws_szStringS.l0]) (Ev.pos (by omega) (Ev.pos (by omega) (by rw [rd_S xs i hi2, wrap64_id (x := x1 - (xs[i].size : Int)) (by omega) (by omega), wrap64_id (by omega) (by omega)]; exact Ev.neg h hr))), ?_⟩
      rcases h2 with h2 | ⟨h3, h4⟩
      · exact .inl h2
      · refine .inr ⟨h3, ?_⟩
        rw [List.drop_eq_getElem_cons hi2, totString]; omega
theorem szStringS_ev (xs : List ByteArray) (left : Int) (h0 : 0 ≤ left) (h1 : left ≤ 1048576) (hx : xs.length ≤ 9223372036854775807) (hs : ∀ x ∈ xs, x.size ≤ 9223372036854775807) :
    ∃ r, Ev (fun k => laws_szStringS.f k xs left) r ∧ (r = -1 ∨ (0 ≤ r ∧ r + totString xs + xs.length = left)) := by
  unfold laws_szStringS.f
  rw [wrap64_id (by omega) (by omega)]
  by_cases h : left - (xs.length : Int) < 0
  · exact ⟨-1, Ev.pos h (Ev.now _), .inl rfl⟩
  · obtain ⟨r, hr, h2⟩ := szStringS_l0 xs (by omega) hs xs.length 0 (left - (xs.length : Int)) (by omega) (by omega) (by omega)
    refine ⟨r, Ev.neg h hr, ?_⟩
    rcases h2 with h2 | ⟨h3, h4⟩
    · exact .inl h2
    · rw [List.drop_zero] at h4; exact .inr ⟨h3, by omega⟩
def toStringS : List ByteArray → List ByteArray := List.map (fun x => x)
theorem toStringS_l0 (xs : List ByteArray) (hl : xs.length ≤ 1048576) (n : Nat) : ∀ (i : Nat) (acc : List ByteArray), i + n = xs.length → acc.length = xs.length → (∀ j, j < i → acc[j]? = (toStringS xs)[j]?) →
    Ev (fun k => laws_toStringS.l0 k xs acc (i : Int)) (toStringS xs) := by
  induction n with
  | zero =>
    intro i acc hi ha hp
    refine Ev.step (fun k => by rw [laws_toStringS.l0]) (Ev.neg (by omega) (Ev.const ?_))
    refine congrArg some (List.ext_getElem? fun j => ?_)
    by_cases hj : j < i
    · exact hp j hj
    · rw [List.getElem?_eq_none (by omega), List.getElem?_eq_none (by unfold toStringS; rw [List.length_map]; omega)]
  | succ n ih =>
    intro i acc hi ha hp
    have hi2 : i < xs.length := by omega
    refine Ev.step (fun k => by rw [laws_toStringS.l0]) (Ev.pos (by omega) (Ev.pos (by omega) (Ev.pos (by omega) ?_)))
    rw [rd_S xs i hi2]
    rw [wrap64_id (by omega) (by omega), Int.toNat_natCast]
    refine ih (i + 1) _ (by omega) (by rw [List.length_set]; exact ha) ?_
    intro j hj
    by_cases h : j < i
    · rw [List.getElem?_set_ne (by omega)]; exact hp j h
    · obtain rfl : j = i := by omega
      rw [List.getElem?_set_self (by omega)]
      unfold toStringS
      rw [List.getElem?_map, List.getElem?_eq_getElem hi2]; rfl
theorem toStringS_ev (xs : List ByteArray) (hl : xs.length ≤ 1048576) : Ev (fun k => laws_toStringS.f k xs) (toStringS xs) := by
  unfold laws_toStringS.f
  refine Ev.pos (by omega) (Ev.pos (by omega) ?_)
  rw [Int.toNat_natCast]
  exact toStringS_l0 xs hl xs.length 0 _ (by omega) (List.length_replicate ..) (fun j hj => absurd hj (Nat.not_lt_zero _))
theorem eqStringS_l0 (xs : List ByteArray) (hl : xs.length ≤ 9223372036854775806) (n : Nat) : ∀ (i : Nat), i + n = xs.length → Ev (fun k => laws_eqStringS.l0 k xs xs (i : Int)) true := by
  induction n with
  | zero =>
    intro i hi
    refine Ev.step (fun k => by rw [laws_eqStringS.l0]) ?_
    exact Ev.neg (by omega) (Ev.now _)
  | succ n ih =>
    intro i hi
    refine Ev.step (fun k => by rw [laws_eqStringS.l0]) (Ev.pos (by omega) (Ev.pos (by omega) (Ev.pos (by omega) ?_)))
    refine Ev.pos rfl ?_
    rw [wrap64_id (by omega) (by omega)]
    exact ih (i + 1) (by omega)
theorem eqStringS_refl (xs : List ByteArray) (hl : xs.length ≤ 9223372036854775806) : Ev (fun k => laws_eqStringS.f k xs xs) true := by
  unfold laws_eqStringS.f
  exact Ev.pos rfl (eqStringS_l0 xs hl xs.length 0 (by omega))
/-! ### A number in so many bytes -/
def fx : Nat → Nat → List Int
  | 0, _ => []
  | w + 1, n => ((n % 256 : Nat) : Int) :: fx w (n / 256)
def fixText (n w : Int) : ByteArray := if 0 ≤ n ∧ 1 ≤ w ∧ w ≤ 8 ∧ n.toNat / 256 ^ w.toNat = 0 then strOfNums (fx w.toNat n.toNat) else ⟨#[]⟩
theorem fx_length (w n : Nat) : (fx w n).length = w := by
  induction w generalizing n with
  | zero => rfl
  | succ w ih => rw [fx, List.length_cons, ih]
theorem fx_get (w : Nat) : ∀ (n i : Nat) (h : i < (fx w n).length), (fx w n)[i] = ((n / 256 ^ i % 256 : Nat) : Int) := by
  induction w with
  | zero => intro n i h; simp [fx] at h
  | succ w ih =>
    intro n i h
    cases i with
    | zero => simp [fx]
    | succ i =>
      simp only [fx, List.getElem_cons_succ]
      rw [ih, Nat.div_div_eq_div_mul, Nat.pow_succ, Nat.mul_comm 256]
theorem pow256 (i : Nat) : (256 : Nat) ^ i = 2 ^ (8 * i) := by rw [show (256 : Nat) = 2 ^ 8 from rfl, ← Nat.pow_mul]
/-! ### The sum of a byte, on natural numbers -/
def stp (x : Nat) : Nat := if x % 2 = 1 then (x / 2) ^^^ 2197175160 else x / 2
def it : Nat → Nat → Nat
  | 0, x => x
  | n + 1, x => it n (stp x)
def sm (x : Nat) (l : List UInt8) : Nat := l.foldl (fun x c => it 8 (x ^^^ c.toNat)) x
theorem stp_lt {x : Nat} (h : x < 2 ^ 32) : stp x < 2 ^ 32 := by
  unfold stp
  split
  · exact Nat.xor_lt_two_pow (by omega) (by decide)
  · omega
theorem it_lt (n : Nat) : ∀ {x : Nat}, x < 2 ^ 32 → it n x < 2 ^ 32 := by
  induction n with
  | zero => intro x h; exact h
  | succ n ih => intro x h; exact ih (stp_lt h)
theorem sm_cons (x : Nat) (c : UInt8) (l : List UInt8) : sm x (c :: l) = sm (it 8 (x ^^^ c.toNat)) l := rfl
theorem sm_append (x : Nat) (l m : List UInt8) : sm x (l ++ m) = sm (sm x l) m := by unfold sm; rw [List.foldl_append]
theorem xor_byte_lt {x : Nat} (h : x < 2 ^ 32) (c : UInt8) : x ^^^ c.toNat < 2 ^ 32 :=
  Nat.xor_lt_two_pow h (Nat.lt_of_lt_of_le c.toNat_lt (by decide))
theorem sm_lt (l : List UInt8) : ∀ {x : Nat}, x < 2 ^ 32 → sm x l < 2 ^ 32 := by
  induction l with
  | nil => intro x h; exact h
  | cons c l ih => intro x h; exact ih (it_lt 8 (xor_byte_lt h c))
theorem u32_of (s : Int) : s % 4294967296 = (((s % 4294967296).toNat : Nat) : Int) ∧ (s % 4294967296).toNat < 2 ^ 32 := by omega
theorem u8_of (s : Int) : s % 256 = (((s % 256).toNat : Nat) : Int) ∧ (s % 256).toNat < 2 ^ 8 := by omega
/-- What SumMore tells: of any s, and the bytes. -/
def sumMore (s : Int) (l : List UInt8) : Nat := sm ((s % 4294967296).toNat ^^^ 4294967295) l ^^^ 4294967295
theorem sumMore_lt (s : Int) (l : List UInt8) : sumMore s l < 2 ^ 32 := Nat.xor_lt_two_pow (sm_lt l (Nat.xor_lt_two_pow (u32_of s).2 (by decide))) (by decide)
def linkMore (link : Int) (r : ByteArray) : Nat := sumMore link ((fixText (r.size : Int) 4).data.toList ++ r.data.toList)
theorem fixText_size_le (n w : Int) : (fixText n w).size ≤ 8 := by
  unfold fixText
  split
  · rename_i h
    rw [strOfNums_size, fx_length]; omega
  · decide
theorem append_bytes (a b : ByteArray) : (a ++ b).data.toList = a.data.toList ++ b.data.toList := by rw [ByteArray.data_append, Array.toList_append]
theorem append_size (a b : ByteArray) : (a ++ b).size = a.size + b.size := ByteArray.size_append
def linkOf : Int → List ByteArray → Int
  | s, [] => s
  | s, r :: l => linkOf (linkMore s r) l
theorem l01In_f (a b c : Int) : spec_l01In.f a b c = some (decide (b ≤ a ∧ a ≤ c)) := by
  unfold spec_l01In.f
  by_cases h : a ≥ b
  · rw [if_pos h]; congr 1; rw [decide_eq_decide]; omega
  · rw [if_neg h]; congr 1; symm; rw [decide_eq_false_iff_not]; omega
theorem spec_FixText_l0 (m : Nat) (hm : m ≤ 8) (w : Nat) : ∀ (i n : Nat) (acc : List Int), i + w = m → acc.length + w < 1000 →
    Ev (fun k => spec_FixText.l0 k (n : Int) (m : Int) acc (i : Int)) (if n / 256 ^ w = 0 then strOfNums (acc ++ fx w n) else ⟨#[]⟩) := by
  induction w with
  | zero =>
    intro i n acc hi ha
    refine Ev.step (fun k => by rw [spec_FixText.l0]) (Ev.neg (by omega) ?_)
    rw [Nat.pow_zero, Nat.div_one]
    by_cases h : n = 0
    · refine Ev.of_eq (r := strOfNums acc) ?_ ?_
      · exact Ev.neg (by omega) (Ev.now _)
      · rw [if_pos h, fx, List.append_nil]
    · refine Ev.of_eq (r := ⟨#[]⟩) ?_ (if_neg h).symm
      exact Ev.pos (by omega) (Ev.now _)
  | succ w ih =>
    intro i n acc hi ha
    refine Ev.step (fun k => by rw [spec_FixText.l0]) (Ev.pos (by omega) (Ev.pos (by omega) ?_))
    rw [show ((n : Int) / 256) = ((n / 256 : Nat) : Int) by omega, show ((n : Int) % 256) = ((n % 256 : Nat) : Int) by omega, wrap64_id (by omega) (by omega)]
    refine Ev.of_eq (ih (i + 1) (n / 256) _ (by omega) (by rw [List.length_append, List.length_singleton]; omega)) ?_
    rw [Nat.div_div_eq_div_mul, Nat.pow_succ, Nat.mul_comm 256, List.append_assoc]
    rfl
theorem spec_FixText_ev (n w : Int) : Ev (fun k => spec_FixText.f k n w) (fixText n w) := by
  unfold spec_FixText.f fixText
  by_cases h0 : n < 0
  · rw [if_neg (by omega)]
    refine Ev.pos h0 (Ev.step (fun k => by rw [spec_FixText.j0]) ?_)
    exact Ev.pos rfl (Ev.now _)
  · refine Ev.neg h0 ?_
    rw [l01In_f]
    refine Ev.bind (Ev.const rfl) (Ev.step (fun k => by rw [spec_FixText.j0]) ?_)
    by_cases h1 : 1 ≤ w ∧ w ≤ 8
    · refine Ev.neg (by rw [decide_eq_true h1]; decide) ?_
      have en : n = ((n.toNat : Nat) : Int) := by omega
      have ew : w = ((w.toNat : Nat) : Int) := by omega
      have := spec_FixText_l0 w.toNat (by omega) w.toNat 0 n.toNat [] (by omega) (by simp; omega)
      rw [← en, ← ew] at this
      refine Ev.of_eq this ?_
      by_cases h2 : n.toNat / 256 ^ w.toNat = 0
      · rw [if_pos h2, if_pos ⟨by omega, h1.1, h1.2, h2⟩]; rfl
      · rw [if_neg h2, if_neg (by rintro ⟨_, _, _, h⟩; exact h2 h)]
    · rw [if_neg (by rintro ⟨_, a, b, _⟩; exact h1 ⟨a, b⟩)]
      refine Ev.pos ?_ (Ev.now _)
      rw [Bool.not_eq_true']; exact decide_eq_false h1
theorem spec_SumByte_l0 (n : Nat) : ∀ (k x : Nat), x < 2 ^ 32 → n ≤ 8 → n < k → spec_SumByte.l0 k (x : Int) (8 - (n : Int)) = some ((it n x : Nat) : Int) := by
  induction n with
  | zero =>
    intro k x hx hn hk
    obtain ⟨k, rfl⟩ : ∃ m, k = m + 1 := ⟨k - 1, by omega⟩
    simp only [spec_SumByte.l0]
    rw [if_neg (by omega)]; rfl
  | succ n ih =>
    intro k x hx hn hk
    obtain ⟨k, rfl⟩ : ∃ m, k = m + 1 := ⟨k - 1, by omega⟩
    simp only [spec_SumByte.l0]
    rw [if_pos (by omega), i64_mask1, wrap64_id (by omega) (by omega), show (8 - ((n + 1 : Nat) : Int) + 1) = 8 - (n : Int) by omega]
    have hs : it (n + 1) x = it n (stp x) := rfl
    rw [hs]
    by_cases c : x % 2 = 1
    · rw [if_pos (by omega), show ((x : Int) / 2) = ((x / 2 : Nat) : Int) by omega, show (2197175160 : Int) = ((2197175160 : Nat) : Int) from rfl, i64_xor _ _ (by omega) (by decide)]
      have e : x / 2 ^^^ 2197175160 = stp x := by unfold stp; rw [if_pos c]
      rw [e]
      exact ih k _ (stp_lt hx) (by omega) (by omega)
    · rw [if_neg (by omega), show ((x : Int) / 2) = ((x / 2 : Nat) : Int) by omega]
      have e : x / 2 = stp x := by unfold stp; rw [if_neg c]
      rw [e]
      exact ih k _ (stp_lt hx) (by omega) (by omega)
/-- What SumByte tells, of whatever numbers. -/
theorem spec_SumByte_f (k : Nat) (hk : 8 < k) (s b : Int) : spec_SumByte.f k s b = some ((it 8 ((s % 4294967296).toNat ^^^ (b % 256).toNat) : Nat) : Int) := by
  unfold spec_SumByte.f
  rw [i64_mask32, i64_mask8, (u32_of s).1, (u8_of b).1, i64_xor _ _ (by have := (u32_of s).2; omega) (by have := (u8_of b).2; omega)]
  rw [Int.toNat_natCast, Int.toNat_natCast]
  exact spec_SumByte_l0 8 k _ (Nat.xor_lt_two_pow (u32_of s).2 (Nat.lt_of_lt_of_le (u8_of b).2 (by decide))) (by omega) hk
theorem spec_SumByte_nat (k : Nat) (hk : 8 < k) (x : Nat) (hx : x < 2 ^ 32) (c : UInt8) : spec_SumByte.f k (x : Int) (c.toNat : Int) = some ((it 8 (x ^^^ c.toNat) : Nat) : Int) := by
  have hc := c.toNat_lt
  rw [spec_SumByte_f k hk, show ((x : Int) % 4294967296).toNat = x by omega, show ((c.toNat : Int) % 256).toNat = c.toNat by omega]
theorem spec_SumByte_ev (s b : Int) : Ev (fun k => spec_SumByte.f k s b) ((it 8 ((s % 4294967296).toNat ^^^ (b % 256).toNat) : Nat) : Int) := Ev.at 9 fun k hk => spec_SumByte_f k (by omega) s b
theorem spec_SumByte_evn (x : Nat) (hx : x < 2 ^ 32) (c : UInt8) : Ev (fun k => spec_SumByte.f k (x : Int) (c.toNat : Int)) ((it 8 (x ^^^ c.toNat) : Nat) : Int) := Ev.at 9 fun k hk => spec_SumByte_nat k (by omega) x hx c
theorem spec_SumMore_l0 (s : ByteArray) (hs : s.size ≤ 140737488355328) (n : Nat) : ∀ (i x : Nat), i + n = s.size → x < 2 ^ 32 →
    Ev (fun k => spec_SumMore.l0 k s (x : Int) (i : Int)) ((sm x (s.data.toList.drop i) ^^^ 4294967295 : Nat) : Int) := by
  induction n with
  | zero =>
    intro i x hi hx
    refine Ev.step (fun k => by rw [spec_SumMore.l0]) (Ev.neg (by omega) (Ev.const ?_))
    rw [List.drop_eq_nil_of_le (by rw [size_list]; omega), show (4294967295 : Int) = ((4294967295 : Nat) : Int) from rfl, i64_xor _ _ (by omega) (by decide)]
    rfl
  | succ n ih =>
    intro i x hi hx
    have hlt : i < s.size := by omega
    refine Ev.step (fun k => by rw [spec_SumMore.l0]) (Ev.pos (by omega) (Ev.pos (by omega) ?_))
    rw [bt_list s i (by rw [size_list]; exact hlt), drop_cons s i hlt, sm_cons]
    have hc := (s.data.toList[i]'(by rw [size_list]; exact hlt)).toNat_lt
    rw [wrap64_id (by omega) (by omega), wrap64_id (by omega) (by omega)]
    refine Ev.bind (spec_SumByte_evn x hx _) ?_
    exact ih (i + 1) _ (by omega) (it_lt 8 (xor_byte_lt hx _))
theorem spec_SumMore_ev (s : Int) (b : ByteArray) (hb : b.size ≤ 140737488355328) : Ev (fun k => spec_SumMore.f k s b) ((sumMore s b.data.toList : Nat) : Int) := by
  unfold spec_SumMore.f
  have h := u32_of s
  rw [i64_mask32, h.1, show (4294967295 : Int) = ((4294967295 : Nat) : Int) from rfl, i64_xor _ _ (by omega) (by decide)]
  exact spec_SumMore_l0 b hb b.size 0 _ (by omega) (Nat.xor_lt_two_pow h.2 (by decide))
theorem spec_LinkMore_ev (s : Int) (r : ByteArray) (hr : r.size ≤ 1048576) : Ev (fun k => spec_LinkMore.f k s r) ((linkMore s r : Nat) : Int) := by
  unfold spec_LinkMore.f
  have h := fixText_size_le (r.size : Int) 4
  refine Ev.bind (spec_FixText_ev (r.size : Int) 4) (Ev.pos (by omega) ?_)
  refine Ev.bind (Ev.of_eq (spec_SumMore_ev s (fixText (r.size : Int) 4 ++ r) (by rw [append_size]; omega)) (r' := ((linkMore s r : Nat) : Int)) ?_) (Ev.now _)
  rw [append_bytes]; rfl
theorem spec_LinkOf_l0 (xs : List ByteArray) (hl : xs.length ≤ 1048576) (hs : ∀ x ∈ xs, x.size ≤ 1048576) (n : Nat) : ∀ (i : Nat) (s : Int), i + n = xs.length → Ev (fun k => spec_LinkOf.l0 k xs s (i : Int)) (linkOf s (xs.drop i)) := by
  induction n with
  | zero =>
    intro i s hi
    rw [List.drop_eq_nil_of_le (by omega)]
    refine Ev.step (fun k => by rw [spec_LinkOf.l0]) ?_
    exact Ev.neg (by omega) (Ev.now _)
  | succ n ih =>
    intro i s hi
    have hi2 : i < xs.length := by omega
    rw [List.drop_eq_getElem_cons hi2, linkOf]
    refine Ev.step (fun k => by rw [spec_LinkOf.l0]) (Ev.pos (by omega) (Ev.pos (by omega) ?_))
    rw [rd_S xs i hi2, wrap64_id (by omega) (by omega)]
    exact Ev.bind (spec_LinkMore_ev s xs[i] (hs _ (List.getElem_mem hi2))) (ih (i + 1) _ (by omega))
theorem within_f (a b c : Int) : impl_within.f a b c = some (decide (b ≤ a ∧ a ≤ c)) := by
  unfold impl_within.f
  by_cases h : a ≥ b
  · rw [if_pos h]; congr 1; rw [decide_eq_decide]; omega
  · rw [if_neg h]; congr 1; symm; rw [decide_eq_false_iff_not]; omega
theorem impl_FixText_l0 (n : Nat) (m : Nat) (hm : m ≤ 8) (w : Nat) : ∀ (i : Nat) (xs : List Int), i + w = m → xs.length = m → (∀ j, j < i → xs[j]? = (fx m n)[j]?) →
    Ev (fun k => impl_FixText.l0 k (n : Int) xs (m : Int) (i : Int)) (strOfNums (fx m n)) := by
  induction w with
  | zero =>
    intro i xs hi hl hx
    refine Ev.step (fun k => by rw [impl_FixText.l0]) (Ev.neg (by omega) (Ev.const ?_))
    refine congrArg some (congrArg strOfNums ?_)
    apply List.ext_getElem?
    intro j
    by_cases hj : j < i
    · exact hx j hj
    · rw [List.getElem?_eq_none (by omega), List.getElem?_eq_none (by rw [fx_length]; omega)]
  | succ w ih =>
    intro i xs hi hl hx
    refine Ev.step (fun k => by rw [impl_FixText.l0]) (Ev.pos (by omega) ?_)
    rw [wrap64_id (x := 8 * (i : Int)) (by omega) (by omega), wrap64_id (x := (i : Int) + 1) (by omega) (by omega)]
    refine Ev.pos (by omega) (Ev.pos (by omega) (Ev.pos (by omega) ?_))
    rw [Int.toNat_natCast]
    refine ih (i + 1) _ (by omega) (by rw [List.length_set]; exact hl) ?_
    intro j hj
    by_cases h : j < i
    · rw [List.getElem?_set_ne (by omega)]; exact hx j h
    · obtain rfl : j = i := by omega
      rw [List.getElem?_set_self (by omega), List.getElem?_eq_getElem (by rw [fx_length]; omega), fx_get]
      refine congrArg some ?_
      unfold shr
      rw [show min ((8 * (j : Int)).toNat) IntKind.i64.bits = 8 * j by have : IntKind.i64.bits = 64 := rfl; omega, pow256]
      rw [Int.natCast_emod, Int.natCast_ediv, Int.natCast_pow]
      rfl
theorem impl_FixText_ev (n w : Int) (hn : n < 2 ^ 63) : Ev (fun k => impl_FixText.f k n w) (fixText n w) := by
  unfold impl_FixText.f fixText
  by_cases h0 : n < 0
  · rw [if_neg (by omega)]
    refine Ev.pos h0 (Ev.step (fun k => by rw [impl_FixText.j0]) ?_)
    exact Ev.pos rfl (Ev.now _)
  · refine Ev.neg h0 ?_
    rw [within_f]
    refine Ev.bind (Ev.const rfl) ?_
    by_cases h1 : 1 ≤ w ∧ w ≤ 8
    · refine Ev.pos (decide_eq_true h1) ?_
      obtain ⟨a, rfl⟩ := Int.eq_ofNat_of_zero_le (show 0 ≤ n by omega)
      obtain ⟨m, rfl⟩ := Int.eq_ofNat_of_zero_le (show 0 ≤ w by omega)
      have ha : a < 2 ^ 63 := by omega
      have go : Ev (fun k => impl_FixText.j0 k (a : Int) (m : Int) false) (strOfNums (fx m a)) := by
        refine Ev.step (fun k => by rw [impl_FixText.j0]) (Ev.neg (by decide) (Ev.pos (by omega) (Ev.pos (by omega) (Ev.bind (Ev.const rfl) ?_))))
        rw [Int.toNat_natCast, List.length_replicate]
        exact impl_FixText_l0 a m (by omega) m 0 _ (by omega) (List.length_replicate ..) (fun j hj => absurd hj (Nat.not_lt_zero _))
      rw [Int.toNat_natCast, Int.toNat_natCast]
      by_cases h2 : (m : Int) < 8
      · refine Ev.pos h2 (Ev.pos (by rw [wrap64_id (by omega) (by omega)]; omega) ?_)
        rw [wrap64_id (x := 8 * (m : Int)) (by omega) (by omega)]
        have e : shr .i64 (a : Int) (8 * (m : Int)) = ((a / 256 ^ m : Nat) : Int) := by
          unfold shr
          rw [show min ((8 * (m : Int)).toNat) IntKind.i64.bits = 8 * m by have : IntKind.i64.bits = 64 := rfl; omega, pow256, Int.natCast_ediv, Int.natCast_pow]
          rfl
        rw [e]
        by_cases h3 : a / 256 ^ m = 0
        · rw [if_pos ⟨by omega, h1.1, h1.2, h3⟩, h3]
          exact go
        · rw [if_neg (by rintro ⟨_, _, _, h⟩; exact h3 h)]
          have : (((a / 256 ^ m : Nat) : Int) != 0) = true := by rw [bne_iff_ne]; omega
          rw [this]
          refine Ev.step (fun k => by rw [impl_FixText.j0]) ?_
          exact Ev.pos rfl (Ev.now _)
      · obtain rfl : m = 8 := by omega
        rw [if_pos ⟨by omega, h1.1, h1.2, Nat.div_eq_of_lt (Nat.lt_of_lt_of_le ha (by decide))⟩]
        exact Ev.neg h2 go
    · rw [if_neg (by rintro ⟨_, a, b, _⟩; exact h1 ⟨a, b⟩)]
      refine Ev.neg (by rw [decide_eq_false h1]; decide) (Ev.step (fun k => by rw [impl_FixText.j0]) ?_)
      exact Ev.pos rfl (Ev.now _)
theorem impl_sumByte_l0 (n : Nat) : ∀ (k x : Nat), x < 2 ^ 32 → n ≤ 8 → n < k → impl_sumByte.l0 k (x : Int) (8 - (n : Int)) = some ((it n x : Nat) : Int) := by
  induction n with
  | zero =>
    intro k x hx hn hk
    obtain ⟨k, rfl⟩ : ∃ m, k = m + 1 := ⟨k - 1, by omega⟩
    simp only [impl_sumByte.l0]
    rw [if_neg (by omega)]; rfl
  | succ n ih =>
    intro k x hx hn hk
    obtain ⟨k, rfl⟩ : ∃ m, k = m + 1 := ⟨k - 1, by omega⟩
    simp only [impl_sumByte.l0]
    rw [if_pos (by omega), u32_and1 _ hx, wrap64_id (by omega) (by omega), show (8 - ((n + 1 : Nat) : Int) + 1) = 8 - (n : Int) by omega]
    have hs : it (n + 1) x = it n (stp x) := rfl
    rw [hs]
    by_cases c : x % 2 = 1
    · rw [if_pos (by omega), show ((x : Int) / 2) = ((x / 2 : Nat) : Int) by omega, show (2197175160 : Int) = ((2197175160 : Nat) : Int) from rfl, u32_xor _ _ (by omega) (by decide)]
      have e : x / 2 ^^^ 2197175160 = stp x := by unfold stp; rw [if_pos c]
      rw [e]
      exact ih k _ (stp_lt hx) (by omega) (by omega)
    · rw [if_neg (by omega), show ((x : Int) / 2) = ((x / 2 : Nat) : Int) by omega]
      have e : x / 2 = stp x := by unfold stp; rw [if_neg c]
      rw [e]
      exact ih k _ (stp_lt hx) (by omega) (by omega)
theorem impl_sumByte_f (k : Nat) (hk : 8 < k) (x b : Nat) (hx : x < 2 ^ 32) (hb : b < 2 ^ 8) : impl_sumByte.f k (x : Int) (b : Int) = some ((it 8 (x ^^^ b) : Nat) : Int) := by
  unfold impl_sumByte.f
  rw [show ((b : Int) % 4294967296) = (b : Int) by omega, u32_xor _ _ hx (by omega)]
  exact impl_sumByte_l0 8 k _ (Nat.xor_lt_two_pow hx (by omega)) (by omega) hk
theorem impl_sumByte_ev (x b : Nat) (hx : x < 2 ^ 32) (hb : b < 2 ^ 8) : Ev (fun k => impl_sumByte.f k (x : Int) (b : Int)) ((it 8 (x ^^^ b) : Nat) : Int) := Ev.at 9 fun k hk => impl_sumByte_f k (by omega) x b hx hb
theorem impl_SumMore_l0 (s : ByteArray) (hs : s.size ≤ 140737488355328) (n : Nat) : ∀ (i x : Nat), i + n = s.size → x < 2 ^ 32 →
    Ev (fun k => impl_SumMore.l0 k s (x : Int) (s.size : Int) (i : Int)) ((sm x (s.data.toList.drop i) ^^^ 4294967295 : Nat) : Int) := by
  induction n with
  | zero =>
    intro i x hi hx
    refine Ev.step (fun k => by rw [impl_SumMore.l0]) (Ev.neg (by omega) (Ev.const ?_))
    rw [List.drop_eq_nil_of_le (by rw [size_list]; omega), show (4294967295 : Int) = ((4294967295 : Nat) : Int) from rfl, u32_xor _ _ hx (by decide)]
    have : x ^^^ 4294967295 < 2 ^ 32 := Nat.xor_lt_two_pow hx (by decide)
    rw [wrap64_id (by omega) (by omega)]
    rfl
  | succ n ih =>
    intro i x hi hx
    have hlt : i < s.size := by omega
    refine Ev.step (fun k => by rw [impl_SumMore.l0]) (Ev.pos (by omega) (Ev.pos (by omega) (Ev.pos (by omega) ?_)))
    rw [bt_list s i (by rw [size_list]; exact hlt), drop_cons s i hlt, sm_cons]
    have hc := (s.data.toList[i]'(by rw [size_list]; exact hlt)).toNat_lt
    rw [wrap64_id (by omega) (by omega)]
    refine Ev.bind (impl_sumByte_ev x _ hx (by omega)) ?_
    exact ih (i + 1) _ (by omega) (it_lt 8 (xor_byte_lt hx _))
theorem impl_SumMore_ev (s : Int) (b : ByteArray) (hb : b.size ≤ 140737488355328) : Ev (fun k => impl_SumMore.f k s b) ((sumMore s b.data.toList : Nat) : Int) := by
  unfold impl_SumMore.f
  have h := u32_of s
  rw [h.1, show (4294967295 : Int) = ((4294967295 : Nat) : Int) from rfl, u32_xor _ _ h.2 (by decide)]
  exact impl_SumMore_l0 b hb b.size 0 _ (by omega) (Nat.xor_lt_two_pow h.2 (by decide))
theorem impl_LinkMore_ev (s : Int) (r : ByteArray) (hr : r.size ≤ 1048576) : Ev (fun k => impl_LinkMore.f k s r) ((linkMore s r : Nat) : Int) := by
  unfold impl_LinkMore.f
  have h := fixText_size_le (r.size : Int) 4
  refine Ev.bind (impl_FixText_ev (r.size : Int) 4 (by omega)) (Ev.pos (by omega) ?_)
  refine Ev.bind (Ev.of_eq (impl_SumMore_ev s (fixText (r.size : Int) 4 ++ r) (by rw [append_size]; omega)) (r' := ((linkMore s r : Nat) : Int)) ?_) (Ev.now _)
  rw [append_bytes]; rfl
theorem impl_linkAll_l0 (xs : List ByteArray) (hl : xs.length ≤ 1048576) (hs : ∀ x ∈ xs, x.size ≤ 1048576) (n : Nat) : ∀ (i : Nat) (s : Int), i + n = xs.length → Ev (fun k => impl_linkAll.l0 k s xs (xs.length : Int) (i : Int)) (linkOf s (xs.drop i)) := by
  induction n with
  | zero =>
    intro i s hi
    rw [List.drop_eq_nil_of_le (by omega)]
    refine Ev.step (fun k => by rw [impl_linkAll.l0]) ?_
    exact Ev.neg (by omega) (Ev.now _)
  | succ n ih =>
    intro i s hi
    have hi2 : i < xs.length := by omega
    rw [List.drop_eq_getElem_cons hi2, linkOf]
    refine Ev.step (fun k => by rw [impl_linkAll.l0]) (Ev.pos (by omega) (Ev.pos (by omega) (Ev.pos (by omega) ?_)))
    rw [rd_S xs i hi2, wrap64_id (by omega) (by omega)]
    exact Ev.bind (impl_LinkMore_ev s xs[i] (hs _ (List.getElem_mem hi2))) (ih (i + 1) _ (by omega))
theorem totString_le (xs : List ByteArray) : ∀ x ∈ xs, x.size ≤ totString xs := by
  induction xs with
  | nil => intro x hx; cases hx
  | cons y l ih =>
    intro x hx
    rw [totString]
    rcases List.mem_cons.1 hx with rfl | h
    · omega
    · have := ih x h; omega
theorem toStringS_id (xs : List ByteArray) : toStringS xs = xs := List.map_id' xs
theorem FnExactLinkOf : laws_FnExactLinkOf.Pure := by
  intro xs hx
  refine Ev.rounds (g := fun k => laws_FnExactLinkOf.f k xs) ?_
  unfold laws_FnExactLinkOf.f
  obtain ⟨r, e, h⟩ := szStringS_ev xs 1048576 (by decide) (by decide) hx.1 hx.2
  refine Ev.bind e ?_
  rcases h with h | ⟨h0, h⟩
  · exact Ev.pos (by omega) (Ev.now _)
  · refine Ev.neg (by omega) ?_
    have ht := toStringS_ev xs (by omega)
    rw [toStringS_id] at ht
    have hs : ∀ x ∈ xs, x.size ≤ 1048576 := fun x hx => by have := totString_le xs x hx; omega
    unfold spec_LinkOf.f impl_LinkOf.f impl_linkAll.f
    refine Ev.bind ht (Ev.bind (spec_LinkOf_l0 xs (by omega) hs xs.length 0 0 (by omega)) ?_)
    refine Ev.bind ht (Ev.bind (Ev.bind (impl_linkAll_l0 xs (by omega) hs xs.length 0 0 (by omega)) (Ev.now _)) (Ev.pos rfl ?_))
    refine Ev.bind ht (Ev.bind (eqStringS_refl xs (by omega)) ?_)
    exact Ev.pos rfl (Ev.now _)
end Go.Proofs.Ytcblnckmmlamlaa.Pure
