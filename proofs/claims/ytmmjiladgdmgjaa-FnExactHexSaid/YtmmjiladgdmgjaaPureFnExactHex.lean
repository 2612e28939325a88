/- The law FnExactHex answers true for every text: the program's Hex tells what the reference's tells. Conditions: those of the given row, and no others. -/
import Derived.Test.YtmmjiladgdmgjaaMFnExactHexx1
namespace Go.Proofs.Ytmmjiladgdmgjaa.Pure
open Go.RowKit Go.Proofs.Ytmmjiladgdmgjaa.MFnExactHex Go.Proofs.YtmmjiladgdmgjaaW.PrintWords Go.Proofs.YtmmjiladgdmgjaaW.PrintLast Go.Proofs.YtmmjiladgdmgjaaW.PrintMore
set_option linter.unusedVariables false
set_option linter.unusedSimpArgs false
/-! ### Whole numbers and bits -/
theorem wrap64_id {x : Int} (h0 : -9223372036854775808 ≤ x) (h1 : x ≤ 9223372036854775807) : wrap64 x = x := by unfold wrap64; omega
theorem wf_i64 {x : Int} (h : (Lit.int .i64 x).wf = true) : -9223372036854775808 ≤ x ∧ x ≤ 9223372036854775807 := by
  simp only [Lit.wf, IntKind.min, IntKind.max, IntKind.signed, IntKind.bits, Bool.and_eq_true, decide_eq_true_eq, if_true] at h
  omega
theorem mod_toNat_nat (a : Nat) (m : Nat) : (((a : Int) % (m : Int)).toNat) = a % m := by
  rw [← Int.natCast_emod, Int.toNat_natCast]
theorem bv_mask (j : Nat) (hj : j < 64) (x : Int) : (BitVec.ofInt 64 x &&& BitVec.ofInt 64 ((2 ^ j - 1 : Nat) : Int)).toNat = (x % ((2 ^ j : Nat) : Int)).toNat := by
  have hle : 2 ^ j ≤ 2 ^ 63 := Nat.pow_le_pow_right (by decide) (by omega)
  have hpos : 0 < 2 ^ j := Nat.two_pow_pos j
  have hlt : 2 ^ j - 1 < 2 ^ 64 := by omega
  have hd : (2 : Nat) ^ j ∣ 2 ^ 64 := Nat.pow_dvd_pow 2 (by omega)
  rw [BitVec.ofInt_natCast, BitVec.toNat_and, BitVec.toNat_ofNat, Nat.mod_eq_of_lt hlt, Nat.and_two_pow_sub_one_eq_mod, BitVec.toNat_ofInt]
  have h0 : 0 ≤ x % ((2 ^ 64 : Nat) : Int) := Int.emod_nonneg _ (by simp)
  have h1 : 0 ≤ x % ((2 ^ j : Nat) : Int) := Int.emod_nonneg _ (by omega)
  have : (((x % ((2 ^ 64 : Nat) : Int)).toNat % 2 ^ j : Nat) : Int) = x % ((2 ^ j : Nat) : Int) := by
    rw [Int.natCast_emod, Int.toNat_of_nonneg h0]
    exact Int.emod_emod_of_dvd x (Int.natCast_dvd_natCast.mpr hd)
  omega
/-- A mask of the lowest j bits, of any i64. -/
theorem i64_mask (j : Nat) (hj : j < 64) (x : Int) : Go.bits .and .i64 x (((2 ^ j - 1 : Nat) : Int)) = x % ((2 ^ j : Nat) : Int) := by
  have hpos : 0 < 2 ^ j := Nat.two_pow_pos j
  have hle : 2 ^ j ≤ 2 ^ 63 := Nat.pow_le_pow_right (by decide) (by omega)
  show IntKind.i64.wrap (((BitVec.ofInt 64 x &&& BitVec.ofInt 64 ((2 ^ j - 1 : Nat) : Int)).toNat : Nat) : Int) = _
  rw [bv_mask j hj x]
  have h1 : 0 ≤ x % ((2 ^ j : Nat) : Int) := Int.emod_nonneg _ (by omega)
  have h2 : x % ((2 ^ j : Nat) : Int) < ((2 ^ j : Nat) : Int) := Int.emod_lt_of_pos _ (by omega)
  rw [Int.toNat_of_nonneg h1, IntKind.wrap_i64]
  have h3 : ((2 ^ j : Nat) : Int) ≤ ((2 ^ 63 : Nat) : Int) := Int.ofNat_le.mpr hle
  have h5 : ((2 ^ 63 : Nat) : Int) = 9223372036854775808 := by decide
  omega
theorem i64_mask32 (x : Int) : Go.bits .and .i64 x 4294967295 = x % 4294967296 := i64_mask 32 (by decide) x
theorem i64_mask8 (x : Int) : Go.bits .and .i64 x 255 = x % 256 := i64_mask 8 (by decide) x
theorem i64_mask7 (x : Int) : Go.bits .and .i64 x 127 = x % 128 := i64_mask 7 (by decide) x
theorem i64_mask4 (x : Int) : Go.bits .and .i64 x 15 = x % 16 := i64_mask 4 (by decide) x
theorem i64_mask1 (x : Int) : Go.bits .and .i64 x 1 = x % 2 := i64_mask 1 (by decide) x
theorem xor_nat (k : IntKind) (j : Nat) (hj : j ≤ k.bits) (hk : ∀ n : Int, 0 ≤ n → n < 2 ^ j → k.wrap n = n) (a b : Nat) (ha : a < 2 ^ j) (hb : b < 2 ^ j) :
    Go.bits .xor k a b = ((a ^^^ b : Nat) : Int) := by
  have hp : 2 ^ j ≤ 2 ^ k.bits := Nat.pow_le_pow_right (by decide) hj
  have ha' : a % 2 ^ k.bits = a := Nat.mod_eq_of_lt (Nat.lt_of_lt_of_le ha hp)
  have hb' : b % 2 ^ k.bits = b := Nat.mod_eq_of_lt (Nat.lt_of_lt_of_le hb hp)
  simp only [Go.bits, BitVec.ofInt_natCast, BitVec.toNat_xor, BitVec.toNat_ofNat, ha', hb']
  exact hk _ (Int.natCast_nonneg _) (by exact_mod_cast Nat.xor_lt_two_pow ha hb)
theorem wraps_i64 (n : Int) (h0 : 0 ≤ n) (h1 : n < 2 ^ 63) : IntKind.i64.wrap n = n := by rw [IntKind.wrap_i64]; omega
theorem wraps_u32 (n : Int) (h0 : 0 ≤ n) (h1 : n < 2 ^ 32) : IntKind.u32.wrap n = n := by rw [IntKind.wrap_u32]; omega
theorem i64_xor (a b : Nat) (ha : a < 2 ^ 63) (hb : b < 2 ^ 63) : Go.bits .xor .i64 a b = ((a ^^^ b : Nat) : Int) := xor_nat .i64 63 (by decide) wraps_i64 a b ha hb
theorem u32_xor (a b : Nat) (ha : a < 2 ^ 32) (hb : b < 2 ^ 32) : Go.bits .xor .u32 a b = ((a ^^^ b : Nat) : Int) := xor_nat .u32 32 (by decide) wraps_u32 a b ha hb
theorem i64_or (a b : Nat) (ha : a < 2 ^ 63) (hb : b < 2 ^ 63) : Go.bits .or .i64 a b = ((a ||| b : Nat) : Int) := (Go.bits_nat .i64 63 (by decide) wraps_i64 a b ha hb).2
theorem u8_or (a b : Nat) (ha : a < 2 ^ 8) (hb : b < 2 ^ 8) : Go.bits .or .u8 a b = ((a ||| b : Nat) : Int) := (Go.bits_nat .u8 8 (by decide) Go.wraps_u8 a b ha hb).2
theorem u32_and1 (a : Nat) (ha : a < 2 ^ 32) : Go.bits .and .u32 a 1 = ((a % 2 : Nat) : Int) := by
  rw [show (1 : Int) = ((1 : Nat) : Int) from rfl, (Go.bits_nat .u32 32 (by decide) wraps_u32 a 1 ha (by decide)).1, show (1 : Nat) = 2 ^ 1 - 1 from rfl, Nat.and_two_pow_sub_one_eq_mod]
/-! ### Bytes of a text -/
theorem bt_list (s : ByteArray) (i : Nat) (h : i < s.data.toList.length) : bt s (i : Int) = ((s.data.toList[i]).toNat : Int) := by
  have h' : i < s.size := by rw [Array.length_toList] at h; exact h
  have hn : (i : Int).toNat < s.size := by rw [Int.toNat_natCast]; exact h'
  rw [← bt_at s i hn]
  rfl
theorem size_list (s : ByteArray) : s.data.toList.length = s.size := by rw [Array.length_toList]; rfl
theorem drop_cons (s : ByteArray) (i : Nat) (h : i < s.size) : s.data.toList.drop i = s.data.toList[i]'(by rw [size_list]; exact h) :: s.data.toList.drop (i + 1) :=
  List.drop_eq_getElem_cons (by rw [size_list]; exact h)
/-! ### From some number of rounds on -/
section
variable {α : Type} {f g : Nat → Option α} {r : α} {c : Prop} [Decidable c]
theorem Ev.pos (h : c) (e : Ev f r) : Ev (fun k => if c then f k else g k) r := Ev.congr (fun _ => if_pos h) e
theorem Ev.neg (h : ¬ c) (e : Ev g r) : Ev (fun k => if c then f k else g k) r := Ev.congr (fun _ => if_neg h) e
theorem Ev.const {o : Option α} (h : o = some r) : Ev (fun _ => o) r := ⟨0, fun _ _ => h⟩
theorem Ev.at (K : Nat) (h : ∀ k, K ≤ k → f k = some r) : Ev f r := ⟨K, h⟩
theorem Ev.of_eq {r' : α} (e : Ev f r) (h : r = r') : Ev f r' := h ▸ e
end
theorem Ev.both {α β : Type} {f : Nat → Option α} {g : Nat → Option β} {a : α} {b : β} (h : Ev f a) (h' : Ev g b) : ∃ k, f k = some a ∧ g k = some b := by
  obtain ⟨K, h⟩ := h
  obtain ⟨K', h'⟩ := h'
  exact ⟨max K K', h _ (by omega), h' _ (by omega)⟩
/-! ### Two figures for each byte -/
def fig (n : Nat) : Int := if n < 10 then ((48 + n : Nat) : Int) else ((87 + n : Nat) : Int)
def hexNums : List UInt8 → List Int
  | [] => []
  | c :: l => fig (c.toNat / 16) :: fig (c.toNat % 16) :: hexNums l
theorem hexNums_length (l : List UInt8) : (hexNums l).length = 2 * l.length := by
  induction l with
  | nil => rfl
  | cons c l ih => rw [hexNums, List.length_cons, List.length_cons, List.length_cons, ih]; omega
theorem u8_and15 (a : Nat) (ha : a < 256) : Go.bits .and .u8 (a : Int) 15 = ((a % 16 : Nat) : Int) := by
  rw [show (15 : Int) = ((15 : Nat) : Int) from rfl, (Go.bits_nat .u8 8 (by decide) Go.wraps_u8 a 15 ha (by decide)).1, show (15 : Nat) = 2 ^ 4 - 1 from rfl, Nat.and_two_pow_sub_one_eq_mod]
theorem l01Figure_f (n : Nat) (h : n < 16) : spec_l01Figure.f (n : Int) = some (fig n) := by
  unfold spec_l01Figure.f fig
  by_cases c : n < 10
  · rw [if_pos (by omega), if_pos c, wrap64_id (by omega) (by omega)]; congr 1; omega
  · rw [if_neg (by omega), if_neg c, wrap64_id (x := 97 + (n : Int)) (by omega) (by omega), wrap64_id (by omega) (by omega)]; congr 1; omega
theorem spec_Hex_l0 (s : ByteArray) (hs : s.size ≤ 20000) (m : Nat) : ∀ (i : Nat) (acc : List Int), i + m = s.size → acc.length = 2 * i →
    Ev (fun k => spec_Hex.l0 k s acc (i : Int)) (strOfNums (acc ++ hexNums (s.data.toList.drop i)), true) := by
  induction m with
  | zero =>
    intro i acc hi ha
    refine Ev.step (fun k => by rw [spec_Hex.l0]) (Ev.neg (by omega) (Ev.const ?_))
    rw [List.drop_eq_nil_of_le (by rw [size_list]; omega), hexNums, List.append_nil]
  | succ m ih =>
    intro i acc hi ha
    have hlt : i < s.size := by omega
    refine Ev.step (fun k => by rw [spec_Hex.l0]) (Ev.pos (by omega) (Ev.pos (by omega) ?_))
    rw [bt_list s i (by rw [size_list]; exact hlt), drop_cons s i hlt, hexNums]
    have hc := (s.data.toList[i]'(by rw [size_list]; exact hlt)).toNat_lt
    generalize (s.data.toList[i]'(by rw [size_list]; exact hlt)) = c at hc ⊢
    rw [wrap64_id (x := (c.toNat : Int)) (by omega) (by omega), Int.tdiv_eq_ediv_of_nonneg (by omega), Int.tmod_eq_emod_of_nonneg (by omega), wrap64_id (x := (c.toNat : Int) / 16) (by omega) (by omega), wrap64_id (x := (i : Int) + 1) (by omega) (by omega)]
    rw [show (c.toNat : Int) / 16 = ((c.toNat / 16 : Nat) : Int) by omega, show (c.toNat : Int) % 16 = ((c.toNat % 16 : Nat) : Int) by omega]
    refine Ev.bind (Ev.const (l01Figure_f _ (by omega))) (Ev.bind (Ev.const (l01Figure_f _ (by omega))) (Ev.bind (Ev.const rfl) (Ev.pos (by simp only [List.length_cons, List.length_nil]; omega) ?_)))
    have := ih (i + 1) (acc ++ [fig (c.toNat / 16), fig (c.toNat % 16)]) (by omega) (by rw [List.length_append, ha]; simp only [List.length_cons, List.length_nil]; omega)
    rw [List.append_assoc] at this
    exact this
def hexOf (s : ByteArray) : ByteArray × Bool := if (s.size : Int) > 20000 then (⟨#[]⟩, false) else (strOfNums (hexNums s.data.toList), true)
theorem spec_Hex_ev (s : ByteArray) : Ev (fun k => spec_Hex.f k s) (hexOf s) := by
  unfold spec_Hex.f hexOf
  by_cases h : (s.size : Int) > 20000
  · rw [if_pos h]; exact Ev.pos h (Ev.now _)
  · rw [if_neg h]; exact Ev.neg h (spec_Hex_l0 s (by omega) s.size 0 [] (by omega) rfl)
theorem fig_table : ∀ n : Nat, n < 16 → bt (⟨#[48, 49, 50, 51, 52, 53, 54, 55, 56, 57, 97, 98, 99, 100, 101, 102]⟩ : ByteArray) (n : Int) = fig n := by decide +kernel
theorem impl_hexText_l0 (s : ByteArray) (hs : s.size ≤ 20000) (m : Nat) : ∀ (i : Nat) (acc : List Int), i + m = s.size → acc.length = 2 * i →
    Ev (fun k => impl_hexText.l0 k s acc (s.size : Int) (i : Int)) (strOfNums (acc ++ hexNums (s.data.toList.drop i))) := by
  induction m with
  | zero =>
    intro i acc hi ha
    refine Ev.step (fun k => by rw [impl_hexText.l0]) (Ev.neg (by omega) (Ev.const ?_))
    rw [List.drop_eq_nil_of_le (by rw [size_list]; omega), hexNums, List.append_nil]
  | succ m ih =>
    intro i acc hi ha
    have hlt : i < s.size := by omega
    refine Ev.step (fun k => by rw [impl_hexText.l0]) (Ev.pos (by omega) (Ev.pos (by omega) (Ev.pos (by omega) ?_)))
    rw [bt_list s i (by rw [size_list]; exact hlt), drop_cons s i hlt, hexNums]
    have hc := (s.data.toList[i]'(by rw [size_list]; exact hlt)).toNat_lt
    generalize (s.data.toList[i]'(by rw [size_list]; exact hlt)) = c at hc ⊢
    rw [u8_and15 _ (by omega), show (c.toNat : Int) / 16 = ((c.toNat / 16 : Nat) : Int) by omega, wrap64_id (x := (i : Int) + 1) (by omega) (by omega), fig_table _ (by omega), fig_table _ (by omega)]
    refine Ev.pos (by omega) (Ev.pos (by omega) (Ev.pos (by omega) (Ev.pos (by omega) (Ev.bind (Ev.const rfl) (Ev.pos (by simp only [List.length_cons, List.length_nil]; omega) ?_)))))
    have := ih (i + 1) (acc ++ [fig (c.toNat / 16), fig (c.toNat % 16)]) (by omega) (by rw [List.length_append, ha]; simp only [List.length_cons, List.length_nil]; omega)
    rw [List.append_assoc] at this
    exact this
theorem impl_Hex_ev (s : ByteArray) : Ev (fun k => impl_Hex.f k s) (hexOf s) := by
  unfold impl_Hex.f hexOf
  by_cases h : (s.size : Int) > 20000
  · rw [if_pos h]; exact Ev.pos h (Ev.now _)
  · rw [if_neg h]
    have ht : Ev (fun k => impl_hexText.f k s) (strOfNums (hexNums s.data.toList)) := by
      unfold impl_hexText.f
      rw [wrap64_id (by omega) (by omega)]
      refine Ev.pos (by omega) (Ev.pos (by omega) ?_)
      exact impl_hexText_l0 s (by omega) s.size 0 [] (by omega) rfl
    exact Ev.neg h (Ev.bind ht (Ev.now _))
theorem FnExactHex : laws_FnExactHex.Pure := by
  intro s _
  refine Ev.rounds (g := fun k => laws_FnExactHex.f k s) ?_
  unfold laws_FnExactHex.f
  by_cases h : (s.size : Int) > 1048576
  · exact Ev.pos h (Ev.now _)
  · exact Ev.neg h (Ev.bind (spec_Hex_ev s) (Ev.bind (impl_Hex_ev s) (Ev.pos rfl (Ev.neg (by simp) (Ev.now _)))))
end Go.Proofs.Ytmmjiladgdmgjaa.Pure
