/- The law FnFigures answers true for every draw: a text comes back from its figures, a number from its numeral; what is brought between two bounds lies between them, and stays. Conditions: those of the given row, and no others. -/
import Derived.Test.YtfnogfbmieoljaaDoorMFnFiguresx3
namespace Go.Proofs.YtfnogfbmieoljaaDoor.Pure
open Go.RowKit Go.Proofs.YtfnogfbmieoljaaDoor.MFnFigures Go.Proofs.YtfnogfbmieoljaaDoorW.PrintWords Go.Proofs.YtfnogfbmieoljaaDoorW.PrintLast Go.Proofs.YtfnogfbmieoljaaDoorW.PrintMore
set_option linter.unusedVariables false
set_option linter.unusedSimpArgs false
/-! ### Whole numbers and bits -/
theorem wrap64_id {x : Int} (h0 : -9223372036854775808 ≤ x) (h1 : x ≤ 9223372036854775807) : wrap64 x = x := by unfold wrap64; omega
theorem wf_i64 {x : Int} (h : (Lit.int .i64 x).wf = true) : -9223372036854775808 ≤ x ∧ x ≤ 9223372036854775807 := by
  simp only [Lit.wf, IntKind.min, IntKind.max, IntKind.signed, IntKind.bits, Bool.and_eq_true, decide_eq_true_eq, if_true] at h
  omega
theorem mod_toNat_nat (a : Nat) (m : Nat) : (((a : Int) % (m : Int)).toNat) = a % m := by
  rw [← Int.natCast_emod, Int.toNat_natCast]
theorem bv_mask (j : Nat) (hj : j < 64) (x : Int) : (BitVec.ofInt 64 x &&& BitVec.ofInt 64 ((2 ^ j - 1 : Nat) : Int)).toNat = (x % ((2 ^ j : Nat) : Int)).toNat := by
  have hle : 2 ^ j ≤ 2 ^ 63 := Nat.pow_le_pow_right (by decide) (by omega)
  have hpos : 0 < 2 ^ j := Nat.two_pow_pos j
  have hlt : 2 ^ j - 1 < 2 ^ 64 := by omega
  have hd : (2 : Nat) ^ j ∣ 2 ^ 64 := Nat.pow_dvd_pow 2 (by omega)
  rw [BitVec.ofInt_natCast, BitVec.toNat_and, BitVec.toNat_ofNat, Nat.mod_eq_of_lt hlt, Nat.and_two_pow_sub_one_eq_mod, BitVec.toNat_ofInt]
  have h0 : 0 ≤ x % ((2 ^ 64 : Nat) : Int) := Int.emod_nonneg _ (by simp)
  have h1 : 0 ≤ x % ((2 ^ j : Nat) : Int) := Int.emod_nonneg _ (by omega)
  have : (((x % ((2 ^ 64 : Nat) : Int)).toNat % 2 ^ j : Nat) : Int) = x % ((2 ^ j : Nat) : Int) := by
    rw [Int.natCast_emod, Int.toNat_of_nonneg h0]
    exact Int.emod_emod_of_dvd x (Int.natCast_dvd_natCast.mpr hd)
  omega
/-- A mask of the lowest j bits, of any i64. -/
theorem i64_mask (j : Nat) (hj : j < 64) (x : Int) : Go.bits .and .i64 x (((2 ^ j - 1 : Nat) : Int)) = x % ((2 ^ j : Nat) : Int) := by
  have hpos : 0 < 2 ^ j := Nat.two_pow_pos j
  have hle : 2 ^ j ≤ 2 ^ 63 := Nat.pow_le_pow_right (by decide) (by omega)
  show IntKind.i64.wrap (((BitVec.ofInt 64 x &&& BitVec.ofInt 64 ((2 ^ j - 1 : Nat) : Int)).toNat : Nat) : Int) = _
  rw [bv_mask j hj x]
  have h1 : 0 ≤ x % ((2 ^ j : Nat) : Int) := Int.emod_nonneg _ (by omega)
  have h2 : x % ((2 ^ j : Nat) : Int) < ((2 ^ j : Nat) : Int) := Int.emod_lt_of_pos _ (by omega)
  rw [Int.toNat_of_nonneg h1, IntKind.wrap_i64]
  have h3 : ((2 ^ j : Nat) : Int) ≤ ((2 ^ 63 : Nat) : Int) := Int.ofNat_le.mpr hle
  have h5 : ((2 ^ 63 : Nat) : Int) = 9223372036854775808 := by decide
  omega
theorem i64_mask32 (x : Int) : Go.bits .and .i64 x 4294967295 = x % 4294967296 := i64_mask 32 (by decide) x
theorem i64_mask8 (x : Int) : Go.bits .and .i64 x 255 = x % 256 := i64_mask 8 (by decide) x
theorem i64_mask7 (x : Int) : Go.bits .and .i64 x 127 = x % 128 := i64_mask 7 (by decide) x
theorem i64_mask4 (x : Int) : Go.bits .and .i64 x 15 = x % 16 := i64_mask 4 (by decide) x
theorem i64_mask1 (x : Int) : Go.bits .and .i64 x 1 = x % 2 := i64_mask 1 (by decide) x
theorem xor_nat (k : IntKind) (j : Nat) (hj : j ≤ k.bits) (hk : ∀ n : Int, 0 ≤ n → n < 2 ^ j → k.wrap n = n) (a b : Nat) (ha : a < 2 ^ j) (hb : b < 2 ^ j) :
    Go.bits .xor k a b = ((a ^^^ b : Nat) : Int) := by
  have hp : 2 ^ j ≤ 2 ^ k.bits := Nat.pow_le_pow_right (by decide) hj
  have ha' : a % 2 ^ k.bits = a := Nat.mod_eq_of_lt (Nat.lt_of_lt_of_le ha hp)
  have hb' : b % 2 ^ k.bits = b := Nat.mod_eq_of_lt (Nat.lt_of_lt_of_le hb hp)
  simp only [Go.bits, BitVec.ofInt_natCast, BitVec.toNat_xor, BitVec.toNat_ofNat, ha', hb']
  exact hk _ (Int.natCast_nonneg _) (by exact_mod_cast Nat.xor_lt_two_pow ha hb)
theorem wraps_i64 (n : Int) (h0 : 0 ≤ n) (h1 : n < 2 ^ 63) : IntKind.i64.wrap n = n := by rw [IntKind.wrap_i64]; omega
theorem wraps_u32 (n : Int) (h0 : 0 ≤ n) (h1 : n < 2 ^ 32) : IntKind.u32.wrap n = n := by rw [IntKind.wrap_u32]; omega
theorem i64_xor (a b : Nat) (ha : a < 2 ^ 63) (hb : b < 2 ^ 63) : Go.bits .xor .i64 a b = ((a ^^^ b : Nat) : Int) := xor_nat .i64 63 (by decide) wraps_i64 a b ha hb
theorem u32_xor (a b : Nat) (ha : a < 2 ^ 32) (hb : b < 2 ^ 32) : Go.bits .xor .u32 a b = ((a ^^^ b : Nat) : Int) := xor_nat .u32 32 (by decide) wraps_u32 a b ha hb
theorem i64_or (a b : Nat) (ha : a < 2 ^ 63) (hb : b < 2 ^ 63) : Go.bits .or .i64 a b = ((a ||| b : Nat) : Int) := (Go.bits_nat .i64 63 (by decide) wraps_i64 a b ha hb).2
theorem u8_or (a b : Nat) (ha : a < 2 ^ 8) (hb : b < 2 ^ 8) : Go.bits .or .u8 a b = ((a ||| b : Nat) : Int) := (Go.bits_nat .u8 8 (by decide) Go.wraps_u8 a b ha hb).2
theorem u32_and1 (a : Nat) (ha : a < 2 ^ 32) : Go.bits .and .u32 a 1 = ((a % 2 : Nat) : Int) := by
  rw [show (1 : Int) = ((1 : Nat) : Int) from rfl, (Go.bits_nat .u32 32 (by decide) wraps_u32 a 1 ha (by decide)).1, show (1 : Nat) = 2 ^ 1 - 1 from rfl, Nat.and_two_pow_sub_one_eq_mod]
/-! ### Bytes of a text -/
theorem bt_list (s : ByteArray) (i : Nat) (h : i < s.data.toList.length) : bt s (i : Int) = ((s.data.toList[i]).toNat : Int) := by
  have h' : i < s.size := by rw [Array.length_toList] at h; exact h
  have hn : (i : Int).toNat < s.size := by rw [Int.toNat_natCast]; exact h'
  rw [← bt_at s i hn]
  rfl
theorem size_list (s : ByteArray) : s.data.toList.length = s.size := by rw [Array.length_toList]; rfl
theorem drop_cons (s : ByteArray) (i : Nat) (h : i < s.size) : s.data.toList.drop i = s.data.toList[i]'(by rw [size_list]; exact h) :: s.data.toList.drop (i + 1) :=
  List.drop_eq_getElem_cons (by rw [size_list]; exact h)
/-! ### From some number of rounds on -/
section
variable {α : Type} {f g : Nat → Option α} {r : α} {c : Prop} [Decidable c]
theorem Ev.pos (h : c) (e : Ev f r) : Ev (fun k => if c then f k else g k) r := Ev.congr (fun _ => if_pos h) e
theorem Ev.neg (h : ¬ c) (e : Ev g r) : Ev (fun k => if c then f k else g k) r := Ev.congr (fun _ => if_neg h) e
theorem Ev.const {o : Option α} (h : o = some r) : Ev (fun _ => o) r := ⟨0, fun _ _ => h⟩
theorem Ev.at (K : Nat) (h : ∀ k, K ≤ k → f k = some r) : Ev f r := ⟨K, h⟩
theorem Ev.of_eq {r' : α} (e : Ev f r) (h : r = r') : Ev f r' := h ▸ e
end
theorem Ev.both {α β : Type} {f : Nat → Option α} {g : Nat → Option β} {a : α} {b : β} (h : Ev f a) (h' : Ev g b) : ∃ k, f k = some a ∧ g k = some b := by
  obtain ⟨K, h⟩ := h
  obtain ⟨K', h'⟩ := h'
  exact ⟨max K K', h _ (by omega), h' _ (by omega)⟩
/-! ### The reference's cursor over a draw -/
def Inside (b : List Int) (i : Int) : Prop := 0 ≤ i ∧ i ≤ (b.length : Int)
theorem l01Byte_f (b : List Int) (hb : b.length ≤ 140737488355328) (i h : Int) (hi : Inside b i) : ∃ x i' h', spec_l01Byte.f b i h = some (x, i', h') ∧ (0 ≤ x ∧ x ≤ 255) ∧ Inside b i' := by
  unfold Inside at *
  unfold spec_l01Byte.f
  by_cases c : i < (b.length : Int)
  · rw [if_pos c, if_pos hi.1, i64_mask8, wrap64_id (x := i + 1) (by omega) (by omega)]
    refine ⟨_, _, _, rfl, ⟨?_, ?_⟩, by omega⟩
    · exact Int.emod_nonneg _ (by decide)
    · have := Int.emod_lt_of_pos (wrap64 (Go.bits .and .i64 (Go.bits .xor .i64 ((wrap64 ((wrap64 (h * 6364136223846793005)) + 1442695040888963407)) / 8589934592) ((wrap64 ((wrap64 (h * 6364136223846793005)) + 1442695040888963407)) / 35184372088832)) 255 + wrap64 (rd b i))) (show (0 : Int) < 256 by decide)
      omega
  · rw [if_neg c, i64_mask8]
    refine ⟨_, _, _, rfl, ⟨?_, ?_⟩, hi⟩
    · exact Int.emod_nonneg _ (by decide)
    · have := Int.emod_lt_of_pos (Go.bits .xor .i64 ((wrap64 ((wrap64 (h * 6364136223846793005)) + 1442695040888963407)) / 8589934592) ((wrap64 ((wrap64 (h * 6364136223846793005)) + 1442695040888963407)) / 35184372088832)) (show (0 : Int) < 256 by decide)
      omega
theorem l01Below_f (b : List Int) (hb : b.length ≤ 140737488355328) (i h : Int) (hi : Inside b i) (n : Int) : ∃ x i' h', spec_l01Below.f b i h n = some (x, i', h') ∧ 0 ≤ x ∧ (1 ≤ n → x < n) ∧ (n ≤ 0 → x = 0) ∧ Inside b i' := by
  unfold spec_l01Below.f
  by_cases c0 : n ≤ 0
  · rw [if_pos c0]; exact ⟨0, i, h, rfl, by decide, fun h => by omega, fun _ => rfl, hi⟩
  rw [if_neg c0]
  by_cases c1 : n ≤ 256
  · rw [if_pos c1]
    obtain ⟨x, i1, h1, e1, hx, hi1⟩ := l01Byte_f b hb i h hi
    rw [e1]
    simp only [Option.bind_some]
    rw [if_neg (by omega)]
    refine ⟨_, _, _, rfl, ?_, fun _ => ?_, fun h => by omega, hi1⟩
    · rw [Int.tmod_eq_emod_of_nonneg hx.1]; exact Int.emod_nonneg _ (by omega)
    · rw [Int.tmod_eq_emod_of_nonneg hx.1]; exact Int.emod_lt_of_pos _ (by omega)
  · rw [if_neg c1]
    obtain ⟨x, i1, h1, e1, hx, hi1⟩ := l01Byte_f b hb i h hi
    obtain ⟨y, i2, h2, e2, hy, hi2⟩ := l01Byte_f b hb i1 h1 hi1
    obtain ⟨z, i3, h3, e3, hz, hi3⟩ := l01Byte_f b hb i2 h2 hi2
    obtain ⟨w, i4, h4, e4, hw, hi4⟩ := l01Byte_f b hb i3 h3 hi3
    rw [e1]; simp only [Option.bind_some]
    rw [e2]; simp only [Option.bind_some]
    rw [e3]; simp only [Option.bind_some]
    rw [e4]; simp only [Option.bind_some]
    rw [if_neg (by omega), wrap64_id (x := x * 16777216) (by omega) (by omega), wrap64_id (x := y * 65536) (by omega) (by omega), wrap64_id (x := z * 256) (by omega) (by omega), wrap64_id (x := x * 16777216 + y * 65536) (by omega) (by omega), wrap64_id (x := x * 16777216 + y * 65536 + z * 256) (by omega) (by omega), wrap64_id (by omega) (by omega)]
    have hs : 0 ≤ x * 16777216 + y * 65536 + z * 256 + w := by omega
    refine ⟨_, _, _, rfl, ?_, fun _ => ?_, fun h => by omega, hi4⟩
    · rw [Int.tmod_eq_emod_of_nonneg hs]; exact Int.emod_nonneg _ (by omega)
    · rw [Int.tmod_eq_emod_of_nonneg hs]; exact Int.emod_lt_of_pos _ (by omega)
theorem l01New_l0 (b : List Int) (m : Nat) : ∀ (j : Nat) (h : Int), j + m = 4001 → ∃ h', Ev (fun k => spec_l01New.l0 k b h (j : Int)) (b, 0, h') := by
  induction m with
  | zero =>
    intro j h hj
    refine ⟨h, Ev.step (fun k => by rw [spec_l01New.l0]) ?_⟩
    by_cases c : (j : Int) < (b.length : Int)
    · exact Ev.pos c (Ev.neg (by omega) (Ev.now _))
    · exact Ev.neg c (Ev.now _)
  | succ m ih =>
    intro j h hj
    by_cases c : (j : Int) < (b.length : Int)
    · by_cases c2 : (j : Int) < 4000
      · obtain ⟨h', e⟩ := ih (j + 1) (Go.bits .and .i64 (wrap64 ((wrap64 ((wrap64 (h * 131)) + (wrap64 (rd b (j : Int))))) + 7)) 1073741823) (by omega)
        refine ⟨h', Ev.step (fun k => by rw [spec_l01New.l0]) (Ev.pos c (Ev.pos c2 (Ev.pos (by omega) ?_)))⟩
        rw [wrap64_id (x := (j : Int) + 1) (by omega) (by omega)]
        exact e
      · exact ⟨h, Ev.step (fun k => by rw [spec_l01New.l0]) (Ev.pos c (Ev.neg c2 (Ev.now _)))⟩
    · exact ⟨h, Ev.step (fun k => by rw [spec_l01New.l0]) (Ev.neg c (Ev.now _))⟩
theorem l01New_ev (b : List Int) : ∃ h', Ev (fun k => spec_l01New.f k b) (b, 0, h') := by
  unfold spec_l01New.f
  exact l01New_l0 b 4001 0 _ (by decide)
theorem inside0 (b : List Int) : Inside b 0 := ⟨by decide, by omega⟩
theorem spec_DrawPlaces_l0 (b : List Int) (hb : b.length ≤ 140737488355328) (m : Nat) : ∀ (j : Nat) (acc : List Int) (i h : Int), j + m = 12 → acc.length = j → (∀ x ∈ acc, 0 ≤ x ∧ x < 10000) → Inside b i →
    ∃ s, Ev (fun k => spec_DrawPlaces.l0 k acc (j : Int) b i h) s ∧ s.length = 12 ∧ (∀ x ∈ s, 0 ≤ x ∧ x < 10000) := by
  induction m with
  | zero =>
    intro j acc i h hj ha hx hi
    refine ⟨acc, Ev.step (fun k => by rw [spec_DrawPlaces.l0]) ?_, by omega, hx⟩
    exact Ev.neg (by omega) (Ev.now _)
  | succ m ih =>
    intro j acc i h hj ha hx hi
    obtain ⟨y, i1, h1, e1, h0, hlt, _, hi1⟩ := l01Below_f b hb i h hi 10000
    obtain ⟨s, e, hs, hsx⟩ := ih (j + 1) (acc ++ [y]) i1 h1 (by omega) (by rw [List.length_append, List.length_singleton]; omega) (by
      intro x hxm
      rcases List.mem_append.1 hxm with h | h
      · exact hx x h
      · rw [List.mem_singleton] at h; subst h; exact ⟨h0, hlt (by decide)⟩) hi1
    refine ⟨s, Ev.step (fun k => by rw [spec_DrawPlaces.l0]) (Ev.pos (by omega) (Ev.bind (Ev.const e1) ?_)), hs, hsx⟩
    refine Ev.pos (by omega) ?_
    rw [wrap64_id (by omega) (by omega)]
    exact e
theorem spec_DrawPlaces_ev (b : List Int) (hb : b.length ≤ 140737488355328) : ∃ s, Ev (fun k => spec_DrawPlaces.f k b) s ∧ s.length = 12 ∧ (∀ x ∈ s, 0 ≤ x ∧ x < 10000) := by
  obtain ⟨h1, e1⟩ := l01New_ev b
  obtain ⟨s, e, hs⟩ := spec_DrawPlaces_l0 b hb 12 0 [] 0 h1 (by decide) rfl (by simp) (inside0 b)
  refine ⟨s, ?_, hs⟩
  unfold spec_DrawPlaces.f
  exact Ev.bind e1 e
/-! ### Two figures for each byte -/
def fig (n : Nat) : Int := if n < 10 then ((48 + n : Nat) : Int) else ((87 + n : Nat) : Int)
def hexNums : List UInt8 → List Int
  | [] => []
  | c :: l => fig (c.toNat / 16) :: fig (c.toNat % 16) :: hexNums l
theorem hexNums_length (l : List UInt8) : (hexNums l).length = 2 * l.length := by
  induction l with
  | nil => rfl
  | cons c l ih => rw [hexNums, List.length_cons, List.length_cons, List.length_cons, ih]; omega
theorem u8_and15 (a : Nat) (ha : a < 256) : Go.bits .and .u8 (a : Int) 15 = ((a % 16 : Nat) : Int) := by
  rw [show (15 : Int) = ((15 : Nat) : Int) from rfl, (Go.bits_nat .u8 8 (by decide) Go.wraps_u8 a 15 ha (by decide)).1, show (15 : Nat) = 2 ^ 4 - 1 from rfl, Nat.and_two_pow_sub_one_eq_mod]
def hexOf (s : ByteArray) : ByteArray × Bool := if (s.size : Int) > 20000 then (⟨#[]⟩, false) else (strOfNums (hexNums s.data.toList), true)
theorem fig_table : ∀ n : Nat, n < 16 → bt (⟨#[48, 49, 50, 51, 52, 53, 54, 55, 56, 57, 97, 98, 99, 100, 101, 102]⟩ : ByteArray) (n : Int) = fig n := by decide +kernel
theorem impl_hexText_l0 (s : ByteArray) (hs : s.size ≤ 20000) (m : Nat) : ∀ (i : Nat) (acc : List Int), i + m = s.size → acc.length = 2 * i →
    Ev (fun k => impl_hexText.l0 k s acc (s.size : Int) (i : Int)) (strOfNums (acc ++ hexNums (s.data.toList.drop i))) := by
  induction m with
  | zero =>
    intro i acc hi ha
    refine Ev.step (fun k => by rw [impl_hexText.l0]) (Ev.neg (by omega) (Ev.const ?_))
    rw [List.drop_eq_nil_of_le (by rw [size_list]; omega), hexNums, List.append_nil]
  | succ m ih =>
    intro i acc hi ha
    have hlt : i < s.size := by omega
    refine Ev.step (fun k => by rw [impl_hexText.l0]) (Ev.pos (by omega) (Ev.pos (by omega) (Ev.pos (by omega) ?_)))
    rw [bt_list s i (by rw [size_list]; exact hlt), drop_cons s i hlt, hexNums]
    have hc := (s.data.toList[i]'(by rw [size_list]; exact hlt)).toNat_lt
    generalize (s.data.toList[i]'(by rw [size_list]; exact hlt)) = c at hc ⊢
    rw [u8_and15 _ (by omega), show (c.toNat : Int) / 16 = ((c.toNat / 16 : Nat) : Int) by omega, wrap64_id (x := (i : Int) + 1) (by omega) (by omega), fig_table _ (by omega), fig_table _ (by omega)]
    refine Ev.pos (by omega) (Ev.pos (by omega) (Ev.pos (by omega) (Ev.pos (by omega) (Ev.bind (Ev.const rfl) (Ev.pos (by simp only [List.length_cons, List.length_nil]; omega) ?_)))))
    have := ih (i + 1) (acc ++ [fig (c.toNat / 16), fig (c.toNat % 16)]) (by omega) (by rw [List.length_append, ha]; simp only [List.length_cons, List.length_nil]; omega)
    rw [List.append_assoc] at this
    exact this
theorem impl_Hex_ev (s : ByteArray) : Ev (fun k => impl_Hex.f k s) (hexOf s) := by
  unfold impl_Hex.f hexOf
  by_cases h : (s.size : Int) > 20000
  · rw [if_pos h]; exact Ev.pos h (Ev.now _)
  · rw [if_neg h]
    have ht : Ev (fun k => impl_hexText.f k s) (strOfNums (hexNums s.data.toList)) := by
      unfold impl_hexText.f
      rw [wrap64_id (by omega) (by omega)]
      refine Ev.pos (by omega) (Ev.pos (by omega) ?_)
      exact impl_hexText_l0 s (by omega) s.size 0 [] (by omega) rfl
    exact Ev.neg h (Ev.bind ht (Ev.now _))
/-! ### The text with such figures -/
def hv (c : Nat) : Int := if 48 ≤ c ∧ c ≤ 57 then (c : Int) - 48 else if 97 ≤ c ∧ c ≤ 102 then (c : Int) - 87 else -1
theorem hv_range (c : Nat) : -1 ≤ hv c ∧ hv c ≤ 15 := by
  unfold hv
  split
  · omega
  · split <;> omega
theorem hv_digit {c : Nat} (h : 48 ≤ c ∧ c ≤ 57) : hv c = (c : Int) - 48 := if_pos h
theorem hv_letter {c : Nat} (h : 97 ≤ c ∧ c ≤ 102) : hv c = (c : Int) - 87 := by
  unfold hv
  rw [if_neg (by omega), if_pos h]
theorem hv_none {c : Nat} (h : ¬ (48 ≤ c ∧ c ≤ 57)) (h2 : ¬ (97 ≤ c ∧ c ≤ 102)) : hv c = -1 := by
  unfold hv
  rw [if_neg h, if_neg h2]
def unhexR : List UInt8 → Option (List Int)
  | [] => some []
  | [_] => none
  | c :: d :: l => if hv c.toNat < 0 ∨ hv d.toNat < 0 then none else (unhexR l).map fun r => (16 * hv c.toNat + hv d.toNat) :: r
def unhexOut (acc : List Int) : Option (List Int) → ByteArray × Bool
  | none => (⟨#[]⟩, false)
  | some r => (strOfNums (acc ++ r), true)
theorem unhexOut_map (acc : List Int) (x : Int) (o : Option (List Int)) : unhexOut (acc ++ [x]) o = unhexOut acc (o.map fun r => x :: r) := by
  cases o with
  | none => rfl
  | some r => show (strOfNums (acc ++ [x] ++ r), true) = (strOfNums (acc ++ x :: r), true); rw [List.append_assoc]; rfl
theorem unhexR_length (n : Nat) : ∀ (l : List UInt8) (r : List Int), l.length ≤ n → unhexR l = some r → l.length = 2 * r.length := by
  induction n with
  | zero => intro l r hl h; cases l with
    | nil => rw [unhexR] at h; rw [← Option.some.inj h]; rfl
    | cons c l => simp at hl
  | succ n ih =>
    intro l r hl h
    match l, hl, h with
    | [], _, h => rw [unhexR] at h; rw [← Option.some.inj h]; rfl
    | [_], _, h => rw [unhexR] at h; cases h
    | c :: d :: l, hl, h =>
      rw [unhexR] at h
      split at h
      · cases h
      · cases e : unhexR l with
        | none => rw [e] at h; cases h
        | some q =>
          rw [e] at h
          have := ih l q (by simp only [List.length_cons] at hl; omega) e
          rw [← Option.some.inj h]
          simp only [List.length_cons]; omega
theorem drop_two (s : ByteArray) (i : Nat) (h : i + 1 < s.size) : s.data.toList.drop i = s.data.toList[i]'(by rw [size_list]; omega) :: s.data.toList[i + 1]'(by rw [size_list]; exact h) :: s.data.toList.drop (i + 2) := by
  rw [drop_cons s i (by omega), drop_cons s (i + 1) h]
def unhexOf (s : ByteArray) : ByteArray × Bool := if (s.size : Int) > 40000 ∨ s.size % 2 = 1 then (⟨#[]⟩, false) else unhexOut [] (unhexR s.data.toList)
theorem or16 : ∀ a : Nat, a < 16 → ∀ b : Nat, b < 16 → Go.bits .or .u8 (((a : Int) * 16) % 256) (b : Int) = 16 * (a : Int) + (b : Int) := by
  intro a ha b hb
  rw [show ((a : Int) * 16) % 256 = ((2 ^ 4 * a : Nat) : Int) by omega, u8_or _ _ (by omega) (by omega), ← Nat.two_pow_add_eq_or_of_lt (by omega : b < 2 ^ 4)]
  omega
def hx16 (c : Nat) : Int := if hv c < 0 then 16 else hv c
theorem hx16_ok {c : Nat} (h : ¬ hv c < 0) : hx16 c = hv c := if_neg h
theorem hx16_no {c : Nat} (h : hv c < 0) : hx16 c = 16 := if_pos h
theorem hexDigit_ev (c : Nat) (hc : c < 256) : Ev (fun k => impl_hexDigit.f k (c : Int)) (hx16 c) := by
  unfold impl_hexDigit.f
  by_cases h : (c : Int) ≥ 48
  · refine Ev.pos h (Ev.step (fun k => by rw [impl_hexDigit.j0]) ?_)
    by_cases h2 : (c : Int) ≤ 57
    · have e := hv_digit (c := c) (by omega)
      rw [hx16_ok (by omega), e]
      refine Ev.pos (decide_eq_true h2) (Ev.const ?_)
      congr 1; omega
    · refine Ev.neg (by rw [decide_eq_false h2]; decide) ?_
      by_cases h3 : (c : Int) ≥ 97
      · refine Ev.pos h3 ?_
        by_cases h4 : (c : Int) ≤ 102
        · have e := hv_letter (c := c) (by omega)
          rw [hx16_ok (by omega), e]
          refine Ev.pos h4 (Ev.const ?_)
          congr 1; omega
        · rw [hx16_no (by rw [hv_none (by omega) (by omega)]; decide)]; exact Ev.neg h4 (Ev.now _)
      · rw [hx16_no (by rw [hv_none (by omega) (by omega)]; decide)]; exact Ev.neg h3 (Ev.now _)
  · rw [hx16_no (by rw [hv_none (by omega) (by omega)]; decide)]
    refine Ev.neg h (Ev.step (fun k => by rw [impl_hexDigit.j0]) (Ev.neg (by decide) ?_))
    exact Ev.neg (by omega) (Ev.now _)
theorem impl_readHex_l0 (s : ByteArray) (hs : s.size ≤ 1048576) (m : Nat) : ∀ (i : Nat) (acc : List Int), i + 2 * m = s.size → 2 * acc.length = i →
    Ev (fun k => impl_readHex.l0 k s acc (i : Int)) (unhexOut acc (unhexR (s.data.toList.drop i))) := by
  induction m with
  | zero =>
    intro i acc hi ha
    refine Ev.step (fun k => by rw [impl_readHex.l0]) (Ev.neg (by omega) (Ev.const ?_))
    rw [List.drop_eq_nil_of_le (by rw [size_list]; omega), unhexR, unhexOut, List.append_nil]
  | succ m ih =>
    intro i acc hi ha
    have hlt : i + 1 < s.size := by omega
    refine Ev.step (fun k => by rw [impl_readHex.l0]) (Ev.pos (by omega) (Ev.pos (by omega) ?_))
    rw [wrap64_id (x := (i : Int) + 1) (by omega) (by omega), wrap64_id (x := (i : Int) + 2) (by omega) (by omega), show (i : Int) + 1 = ((i + 1 : Nat) : Int) by omega]
    rw [bt_list s i (by rw [size_list]; omega), bt_list s (i + 1) (by rw [size_list]; exact hlt), drop_two s i hlt, unhexR]
    have hc := (s.data.toList[i]'(by rw [size_list]; omega)).toNat_lt
    have hd := (s.data.toList[i + 1]'(by rw [size_list]; exact hlt)).toNat_lt
    generalize (s.data.toList[i]'(by rw [size_list]; omega)) = c at hc ⊢
    generalize (s.data.toList[i + 1]'(by rw [size_list]; exact hlt)) = d at hd ⊢
    have r1 := hv_range c.toNat
    have r2 := hv_range d.toNat
    refine Ev.bind (hexDigit_ev _ (by omega)) (Ev.pos (by omega) (Ev.pos (by omega) (Ev.bind (hexDigit_ev _ (by omega)) ?_)))
    by_cases h1 : hv c.toNat < 0
    · refine Ev.of_eq (r := (⟨#[]⟩, false)) (Ev.pos (hx16_no h1) (Ev.now _)) ?_
      rw [if_pos (show hv c.toNat < 0 ∨ hv d.toNat < 0 from .inl h1)]; rfl
    · by_cases h2 : hv d.toNat < 0
      · refine Ev.of_eq (r := (⟨#[]⟩, false)) (Ev.neg (by rw [hx16_ok h1]; omega) (Ev.pos (hx16_no h2) (Ev.now _))) ?_
        rw [if_pos (show hv c.toNat < 0 ∨ hv d.toNat < 0 from .inr h2)]; rfl
      · rw [hx16_ok h1, hx16_ok h2, if_neg (show ¬ (hv c.toNat < 0 ∨ hv d.toNat < 0) by omega)]
        refine Ev.neg (by omega) (Ev.neg (by omega) (Ev.pos (by omega) ?_))
        have e := or16 (hv c.toNat).toNat (by omega) (hv d.toNat).toNat (by omega)
        rw [Int.toNat_of_nonneg (by omega), Int.toNat_of_nonneg (by omega)] at e
        rw [e]
        have := ih (i + 2) (acc ++ [16 * hv c.toNat + hv d.toNat]) (by omega) (by rw [List.length_append, List.length_singleton]; omega)
        rw [unhexOut_map] at this
        exact this
theorem impl_readHex_ev (s : ByteArray) (hs : s.size ≤ 1048576) (h : ¬ s.size % 2 = 1) : Ev (fun k => impl_readHex.f k s) (unhexOut [] (unhexR s.data.toList)) := by
  unfold impl_readHex.f
  refine Ev.neg (by omega) ?_
  rw [wrap64_id (by omega) (by omega)]
  refine Ev.pos (by omega) (Ev.pos (by omega) ?_)
  exact impl_readHex_l0 s hs (s.size / 2) 0 [] (by omega) rfl
theorem impl_readHex_odd (s : ByteArray) (h : s.size % 2 = 1) : Ev (fun k => impl_readHex.f k s) (⟨#[]⟩, false) := by
  unfold impl_readHex.f
  exact Ev.pos (by omega) (Ev.now _)
theorem impl_Unhex_ev (s : ByteArray) (hs : s.size ≤ 1048576) : Ev (fun k => impl_Unhex.f k s) (unhexOf s) := by
  unfold impl_Unhex.f unhexOf
  by_cases h : s.size % 2 = 1
  · refine Ev.of_eq (r := (⟨#[]⟩, false)) (Ev.bind (impl_readHex_odd s h) (Ev.neg Bool.false_ne_true (Ev.now _))) ?_
    rw [if_pos (show (s.size : Int) > 40000 ∨ s.size % 2 = 1 from .inr h)]
  · have hr := impl_readHex_ev s hs h
    cases e : unhexR s.data.toList with
    | none =>
      rw [e] at hr
      refine Ev.of_eq (r := (⟨#[]⟩, false)) (Ev.bind hr (Ev.neg Bool.false_ne_true (Ev.now _))) ?_
      split <;> rfl
    | some r =>
      rw [e] at hr
      have hl := unhexR_length _ _ _ (Nat.le_refl _) e
      rw [size_list] at hl
      have hz : (strOfNums ([] ++ r)).size = r.length := by rw [List.nil_append, strOfNums_size]
      by_cases h2 : (s.size : Int) > 40000
      · refine Ev.of_eq (r := (⟨#[]⟩, false)) (Ev.bind hr (Ev.pos rfl (Ev.pos ?_ (Ev.now _)))) ?_
        · show ((strOfNums ([] ++ r)).size : Int) > 20000
          rw [hz]; omega
        · rw [if_pos (show (s.size : Int) > 40000 ∨ s.size % 2 = 1 from .inl h2)]
      · refine Ev.of_eq (r := (strOfNums ([] ++ r), true)) (Ev.bind hr (Ev.pos rfl (Ev.neg ?_ (Ev.now _)))) ?_
        · show ¬ ((strOfNums ([] ++ r)).size : Int) > 20000
          rw [hz]; omega
        · rw [if_neg (show ¬ ((s.size : Int) > 40000 ∨ s.size % 2 = 1) by omega)]; rfl
/-! ### Texts as lists of bytes -/
def mkT (l : List UInt8) : ByteArray := ⟨l.toArray⟩
theorem mkT_list (l : List UInt8) : (mkT l).data.toList = l := rfl
theorem ba_ext {a b : ByteArray} (h : a.data.toList = b.data.toList) : a = b := by
  cases a; cases b
  exact congrArg ByteArray.mk (Array.toList_inj.1 h)
theorem mkT_of (a : ByteArray) : mkT a.data.toList = a := ba_ext rfl
theorem toList_app2 (a b : ByteArray) : (a ++ b).data.toList = a.data.toList ++ b.data.toList := by rw [ByteArray.data_append, Array.toList_append]
theorem mkT_size (l : List UInt8) : (mkT l).size = l.length := by rw [← size_list, mkT_list]
open Go.Lib (decDigits itoa)
/-! ### A decimal numeral read back -/
def isDig (c : UInt8) : Prop := 48 ≤ c.toNat ∧ c.toNat ≤ 57
def dval (acc : Nat) (l : List UInt8) : Nat := l.foldl (fun n c => 10 * n + (c.toNat - 48)) acc
theorem dval_nil (acc : Nat) : dval acc [] = acc := rfl
theorem dval_cons (acc : Nat) (c : UInt8) (l : List UInt8) : dval acc (c :: l) = dval (10 * acc + (c.toNat - 48)) l := by unfold dval; rw [List.foldl_cons]
theorem dval_le : ∀ (l : List UInt8) (acc : Nat), acc ≤ dval acc l := by
  intro l
  induction l with
  | nil => intro acc; exact Nat.le_refl _
  | cons c l ih => intro acc; have := ih (10 * acc + (c.toNat - 48)); rw [dval_cons]; omega
theorem dval_snoc (c : UInt8) : ∀ (l : List UInt8) (acc : Nat), dval acc (l ++ [c]) = 10 * dval acc l + (c.toNat - 48) := by
  intro l
  induction l with
  | nil => intro acc; rw [List.nil_append, dval_cons, dval_nil, dval_nil]
  | cons d l ih => intro acc; rw [List.cons_append, dval_cons, ih, dval_cons]
theorem ofNat_dig (n : Nat) (h : n < 10) : (UInt8.ofNat (48 + n)).toNat = 48 + n := by rw [UInt8.toNat_ofNat']; omega
theorem decDigits_dig (u : Nat) : (∀ c ∈ decDigits u, isDig c) ∧ dval 0 (decDigits u) = u := by
  induction u using Nat.strongRecOn with
  | _ u ih =>
    rw [decDigits]
    by_cases h : u < 10
    · rw [dif_pos h]
      have e := ofNat_dig u h
      refine ⟨fun c hc => ?_, ?_⟩
      · rw [List.mem_singleton] at hc; subst hc; unfold isDig; omega
      · rw [dval_cons, dval_nil]; omega
    · rw [dif_neg h]
      obtain ⟨h1, h2⟩ := ih (u / 10) (by omega)
      have e := ofNat_dig (u % 10) (by omega)
      refine ⟨fun c hc => ?_, ?_⟩
      · rcases List.mem_append.1 hc with h | h
        · exact h1 c h
        · rw [List.mem_singleton] at h; subst h; unfold isDig; omega
      · rw [dval_snoc, h2, e]; omega
theorem decDigits_ne (u : Nat) : decDigits u ≠ [] := by
  rw [decDigits]
  split <;> simp
theorem decDigits_length (m : Nat) : ∀ u : Nat, u < 10 ^ (m + 1) → (decDigits u).length ≤ m + 1 := by
  induction m with
  | zero =>
    intro u h
    rw [decDigits, dif_pos (by omega)]; exact Nat.le_refl _
  | succ m ih =>
    intro u h
    rw [decDigits]
    by_cases c : u < 10
    · rw [dif_pos c]; show 1 ≤ _; omega
    · rw [dif_neg c, List.length_append, List.length_singleton]
      have := ih (u / 10) (Nat.div_lt_of_lt_mul (by rw [Nat.mul_comm, ← Nat.pow_succ]; exact h))
      omega
/-- What both read: the number whose numeral it is, in 0 .. 1000000000. -/
def IsDec (l : List UInt8) (v : Int) : Prop := 0 ≤ v ∧ v ≤ 1000000000 ∧ itoa v = l
theorem itoa_nat (u : Nat) : itoa (u : Int) = decDigits u := by
  unfold itoa
  rw [if_neg (by omega), Int.toNat_natCast]
theorem isDec_val {l : List UInt8} {v : Int} (h : IsDec l v) : (∀ c ∈ l, isDig c) ∧ ((dval 0 l : Nat) : Int) = v ∧ l ≠ [] ∧ l.length ≤ 10 := by
  obtain ⟨h0, h1, rfl⟩ := h
  obtain ⟨u, rfl⟩ := Int.eq_ofNat_of_zero_le h0
  rw [itoa_nat]
  obtain ⟨a, b⟩ := decDigits_dig u
  exact ⟨a, by rw [b], decDigits_ne u, decDigits_length 9 u (by omega)⟩
def decOut (s : ByteArray) (n : Nat) : Int × Bool := if n > 1000000000 then (0, false) else if (mkT (itoa (n : Int))).toList = s.toList then ((n : Int), true) else (0, false)
open Classical in
/-- What ReadDecimal tells. -/
noncomputable def readDec (s : ByteArray) : Int × Bool := if h : ∃ v, IsDec s.data.toList v then (h.choose, true) else (0, false)
theorem readDec_of {s : ByteArray} {v : Int} (h : IsDec s.data.toList v) : readDec s = (v, true) := by
  unfold readDec
  have hx : ∃ v, IsDec s.data.toList v := ⟨v, h⟩
  rw [dif_pos hx]
  have e1 := (isDec_val hx.choose_spec).2.1
  have e2 := (isDec_val h).2.1
  rw [← e1, ← e2]
theorem readDec_no {s : ByteArray} (h : ¬ ∃ v, IsDec s.data.toList v) : readDec s = (0, false) := by
  unfold readDec
  rw [dif_neg h]
theorem impl_Decimal_f (n : Int) (hn : -9223372036854775808 ≤ n ∧ n ≤ 9223372036854775807) : impl_Decimal.f n = some (mkT (Go.Lib.itoa n)) := by
  unfold impl_Decimal.f
  rw [if_pos hn]; rfl
theorem within_f (a b c : Int) : impl_within.f a b c = some (decide (b ≤ a ∧ a ≤ c)) := by
  unfold impl_within.f
  by_cases h : a ≥ b
  · rw [if_pos h]; congr 1; rw [decide_eq_decide]; omega
  · rw [if_neg h]; congr 1; symm; rw [decide_eq_false_iff_not]; omega
theorem isNumber_f (a : Int) : impl_isNumber.f a = some (decide (0 ≤ a ∧ a ≤ 1000000000)) := by
  unfold impl_isNumber.f
  rw [within_f]; rfl
theorem parseUint10_dig : ∀ (l : List UInt8) (acc : Nat), (∀ c ∈ l, isDig c) → dval acc l ≤ 1000000000 → Go.Lib.parseUint10 acc l = .ok (dval acc l) := by
  intro l
  induction l with
  | nil => intro acc _ _; rfl
  | cons c l ih =>
    intro acc h hv
    have hc := h c (List.mem_cons_self ..)
    unfold isDig at hc
    rw [dval_cons] at hv
    have h1 := dval_le l (10 * acc + (c.toNat - 48))
    have := ih (10 * acc + (c.toNat - 48)) (fun d hd => h d (List.mem_cons_of_mem _ hd)) hv
    rw [Go.Lib.parseUint10, if_pos hc, if_neg (by omega), if_neg (by omega), dval_cons, Nat.mul_comm acc 10]
    exact this
theorem atoiAll_dec {l : List UInt8} {v : Int} (h : IsDec l v) : Go.Lib.atoiAll l = .ok v := by
  obtain ⟨hd, hv, hne, _⟩ := isDec_val h
  obtain ⟨h0, h1, _⟩ := h
  cases l with
  | nil => exact absurd rfl hne
  | cons c l =>
    have hc := hd c (List.mem_cons_self ..)
    unfold isDig at hc
    have hp := parseUint10_dig (c :: l) 0 hd (by omega)
    unfold Go.Lib.atoiAll
    simp only
    rw [if_neg (by omega)]
    unfold Go.Lib.parseMag
    rw [if_neg (by simp), hp]
    simp only
    rw [if_neg (by omega), if_neg (by omega), if_neg (by omega), hv]
theorem impl_ReadDecimal_f (s : ByteArray) (hs : s.size ≤ 281474976710656) : impl_ReadDecimal.f s = some (readDec s) := by
  unfold impl_ReadDecimal.f
  rw [if_pos hs]
  by_cases hx : ∃ v, IsDec s.data.toList v
  · obtain ⟨v, hv⟩ := hx
    rw [readDec_of hv, atoiAll_dec hv]
    obtain ⟨v0, v1, v2⟩ := hv
    simp only
    rw [isNumber_f, impl_Decimal_f v (by omega)]
    simp only [Option.bind_some]
    rw [if_pos (decide_eq_true ⟨v0, v1⟩), if_pos]
    rw [ByteArray.toList_eq, ByteArray.toList_eq, mkT_list, v2]
  · rw [readDec_no hx]
    cases hv : Go.Lib.atoiAll s.data.toList with
    | ok v =>
      simp only
      rw [isNumber_f]
      simp only [Option.bind_some]
      by_cases c : 0 ≤ v ∧ v ≤ 1000000000
      · rw [if_pos (decide_eq_true c), impl_Decimal_f v (by omega)]
        simp only [Option.bind_some]
        rw [if_neg]
        intro e
        rw [ByteArray.toList_eq, ByteArray.toList_eq, mkT_list] at e
        exact hx ⟨v, c.1, c.2, e⟩
      · rw [if_neg (by rw [decide_eq_false c]; decide)]
    | _ => rfl
def brought (n least most : Int) : Int := if most < least then least else if n < least then least else if n > most then most else n
theorem impl_Brought_f (n a b : Int) : impl_Brought.f n a b = some (brought n a b) := by
  unfold impl_Brought.f brought
  by_cases h : b < a
  · rw [if_pos h, if_pos h]
  · rw [if_neg h, if_neg h]
    refine congrArg some ?_
    unfold mn mx
    by_cases h1 : n < a
    · rw [if_pos h1, if_pos h1]
      by_cases h2 : b < a
      · exact absurd h2 h
      · rw [if_neg h2]
    · rw [if_neg h1, if_neg h1]
theorem big_f (l : List Int) : laws_big.f l = some (decide ((l.length : Int) > 1048576)) := rfl
theorem fig_hv : ∀ n : Nat, n < 16 → hv (UInt8.ofNat (fig n).toNat).toNat = (n : Int) := by decide +kernel
theorem fig_nat : ∀ n : Nat, n < 16 → hv ((fig n).toNat % 256) = (n : Int) := by decide +kernel
theorem unhexR_cons (c d : UInt8) (l : List UInt8) (r : List Int) (a b : Nat) (h : unhexR l = some r) (ha : hv c.toNat = (a : Int)) (hb : hv d.toNat = (b : Int)) : unhexR (c :: d :: l) = some ((16 * (a : Int) + (b : Int)) :: r) := by
  rw [unhexR, ha, hb, if_neg (by omega), h]; rfl
theorem nums_cons (x : Int) (l : List Int) : (strOfNums (x :: l)).data.toList = UInt8.ofNat x.toNat :: (strOfNums l).data.toList := rfl
theorem unhex_hex (l : List UInt8) : unhexR (strOfNums (hexNums l)).data.toList = some (l.map fun c => ((c.toNat : Nat) : Int)) := by
  induction l with
  | nil => rfl
  | cons c l ih =>
    have hc := c.toNat_lt
    have hc : c.toNat < 256 := hc
    rw [hexNums, nums_cons, nums_cons, unhexR_cons _ _ _ _ (c.toNat / 16) (c.toNat % 16) ih (fig_hv _ (by omega)) (fig_hv _ (by omega)), List.map_cons]
    congr 2
    omega
theorem nums_back (l : List UInt8) : (strOfNums (l.map fun c => ((c.toNat : Nat) : Int))).data.toList = l := by
  induction l with
  | nil => rfl
  | cons c l ih =>
    rw [List.map_cons, nums_cons, ih, Int.toNat_natCast, UInt8.ofNat_toNat]
theorem hex_back (t : ByteArray) (ht : t.size ≤ 100) : unhexOf (hexOf t).1 = (t, true) ∧ (hexOf t).2 = true ∧ (hexOf t).1.size = 2 * t.size := by
  have e : hexOf t = (strOfNums (hexNums t.data.toList), true) := by unfold hexOf; rw [if_neg (by omega)]
  have hz : (strOfNums (hexNums t.data.toList)).size = 2 * t.size := by rw [strOfNums_size, hexNums_length, size_list]
  rw [e]
  refine ⟨?_, rfl, hz⟩
  show unhexOf (strOfNums (hexNums t.data.toList)) = _
  unfold unhexOf
  rw [if_neg (by omega), unhex_hex]
  show (strOfNums ([] ++ t.data.toList.map fun c => ((c.toNat : Nat) : Int)), true) = _
  rw [List.nil_append]
  exact congrArg (fun z => (z, true)) (ba_ext (nums_back _))
theorem brought_between (n a b : Int) (h : a ≤ b) : a ≤ brought n a b ∧ brought n a b ≤ b ∧ brought (brought n a b) a b = brought n a b := by
  have key : ∀ x, a ≤ x → x ≤ b → brought x a b = x := by
    intro x h1 h2
    unfold brought
    rw [if_neg (by omega), if_neg (by omega), if_neg (by omega)]
  have : a ≤ brought n a b ∧ brought n a b ≤ b := by
    unfold brought
    rw [if_neg (by omega)]
    split
    · omega
    · split <;> omega
  exact ⟨this.1, this.2, key _ this.1 this.2⟩
theorem itoa_short (u : Nat) (hu : u < 10000) : (mkT (itoa (u : Int))).size ≤ 4 := by
  rw [mkT_size, itoa_nat]
  exact decDigits_length 3 u (by omega)
theorem itoa_size (u : Nat) (hu : u < 100000000) : (mkT (itoa (u : Int))).size ≤ 8 := by
  rw [mkT_size, itoa_nat]
  exact decDigits_length 7 u (by omega)
theorem rd_nth (l : List Int) (i : Nat) (h : i < l.length) : rd l (i : Int) ∈ l := by
  unfold rd
  rw [List.getD_eq_getElem?_getD, Int.toNat_natCast, List.getElem?_eq_getElem h]
  exact List.getElem_mem h
theorem FnFigures : laws_FnFigures.Pure := by
  intro l _ hl _
  refine Ev.rounds (g := fun k => laws_FnFigures.f k l) ?_
  unfold laws_FnFigures.f
  rw [big_f]
  refine Ev.bind (Ev.const rfl) ?_
  by_cases h : (l.length : Int) > 1048576
  · exact Ev.pos (decide_eq_true h) (Ev.now _)
  refine Ev.neg (by rw [decide_eq_false h]; decide) ?_
  obtain ⟨p, ep, hp, hpx⟩ := spec_DrawPlaces_ev l (by omega)
  have h0 := hpx _ (rd_nth p 0 (by omega))
  have h1 := hpx _ (rd_nth p 1 (by omega))
  have h2 := hpx _ (rd_nth p 2 (by omega))
  have h3 := hpx _ (rd_nth p 3 (by omega))
  have h4 := hpx _ (rd_nth p 4 (by omega))
  have h5 := hpx _ (rd_nth p 5 (by omega))
  rw [show ((0 : Nat) : Int) = 0 from rfl] at h0
  rw [show ((1 : Nat) : Int) = 1 from rfl] at h1
  rw [show ((2 : Nat) : Int) = 2 from rfl] at h2
  rw [show ((3 : Nat) : Int) = 3 from rfl] at h3
  rw [show ((4 : Nat) : Int) = 4 from rfl] at h4
  rw [show ((5 : Nat) : Int) = 5 from rfl] at h5
  refine Ev.bind ep ?_
  refine Ev.pos (by omega) ?_
  obtain ⟨u, hu⟩ := Int.eq_ofNat_of_zero_le h5.1
  refine Ev.bind (Ev.const (impl_Decimal_f (rd p 5) (by omega))) ?_
  refine Ev.pos (by omega) ?_
  refine Ev.pos (by omega) ?_
  refine Ev.bind (Ev.const rfl) ?_
  have hz1 := itoa_short u (by omega)
  rw [← hu] at hz1
  have hz2 : (strOfNums ([rd p 6 % 256, rd p 7 % 256] : List Int)).size = 2 := strOfNums_size _
  generalize mkT (Go.Lib.itoa (rd p 5)) = a at hz1 ⊢
  generalize strOfNums ([rd p 6 % 256, rd p 7 % 256] : List Int) = b at hz2 ⊢
  have hz3 : (a ++ b).size ≤ 6 := by rw [ByteArray.size_append]; omega
  refine Ev.pos (by omega) ?_
  generalize a ++ b = t at hz3 ⊢
  obtain ⟨b1, b2, b3⟩ := hex_back t (by omega)
  refine Ev.bind (impl_Hex_ev t) ?_
  have eu := impl_Unhex_ev (hexOf t).1 (by omega)
  rw [b1] at eu
  refine Ev.bind eu ?_
  refine Ev.pos (by omega) ?_
  refine Ev.pos (by omega) ?_
  rw [wrap64_id (x := rd p 0 * 10000) (by omega) (by omega), wrap64_id (x := rd p 0 * 10000 + rd p 1) (by omega) (by omega), wrap64_id (x := rd p 2 - 5000) (by omega) (by omega), wrap64_id (x := -(rd p 3)) (by omega) (by omega)]
  obtain ⟨n, hn⟩ := Int.eq_ofNat_of_zero_le (show 0 ≤ rd p 0 * 10000 + rd p 1 by omega)
  have hlt : n < 100000000 := by omega
  rw [hn]
  refine Ev.bind (Ev.const (impl_Decimal_f (n : Int) (by omega))) ?_
  have hz4 := itoa_size n hlt
  have er := impl_ReadDecimal_f (mkT (Go.Lib.itoa (n : Int))) (by omega)
  rw [readDec_of (s := mkT (Go.Lib.itoa (n : Int))) (v := (n : Int)) ⟨by omega, by omega, by rw [mkT_list]⟩] at er
  refine Ev.bind (Ev.const er) ?_
  refine Ev.pos (by omega) ?_
  refine Ev.pos (by omega) ?_
  refine Ev.pos (by omega) ?_
  obtain ⟨q1, q2, q3⟩ := brought_between (rd p 2 - 5000) (-(rd p 3)) (rd p 4) (by omega)
  refine Ev.bind (Ev.const (impl_Brought_f _ _ _)) ?_
  generalize brought (rd p 2 - 5000) (-(rd p 3)) (rd p 4) = v at q1 q2 q3 ⊢
  refine Ev.pos b2 ?_
  refine Ev.pos (by rfl) ?_
  refine Ev.pos (by rfl) ?_
  refine Ev.pos (by rw [b3, wrap64_id (by omega) (by omega)]; omega) ?_
  refine Ev.pos (by rfl) ?_
  refine Ev.pos (by rfl) ?_
  refine Ev.pos q1 ?_
  refine Ev.pos q2 ?_
  refine Ev.bind (Ev.const (impl_Brought_f _ _ _)) ?_
  rw [q3]
  exact Ev.const (by rw [beq_self_eq_true])
end Go.Proofs.YtfnogfbmieoljaaDoor.Pure
