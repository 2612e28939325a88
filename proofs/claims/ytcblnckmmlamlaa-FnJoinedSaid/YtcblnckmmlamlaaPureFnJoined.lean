/- The law FnJoined answers true for every draw: the sum of two texts comes out of their sums and of how long the second one is. Conditions: those of the given row, and no others. -/
import Derived.Test.YtcblnckmmlamlaaMFnJoinedx3
namespace Go.Proofs.Ytcblnckmmlamlaa.Pure
open Go.RowKit Go.Proofs.Ytcblnckmmlamlaa.MFnJoined Go.Proofs.YtcblnckmmlamlaaW.PrintWords Go.Proofs.YtcblnckmmlamlaaW.PrintLast Go.Proofs.YtcblnckmmlamlaaW.PrintMore
set_option linter.unusedVariables false
set_option linter.unusedSimpArgs false
/-! ### Whole numbers and bits -/
theorem wrap64_id {x : Int} (h0 : -9223372036854775808 ≤ x) (h1 : x ≤ 9223372036854775807) : wrap64 x = x := by unfold wrap64; omega
theorem wf_i64 {x : Int} (h : (Lit.int .i64 x).wf = true) : -9223372036854775808 ≤ x ∧ x ≤ 9223372036854775807 := by
  simp only [Lit.wf, IntKind.min, IntKind.max, IntKind.signed, IntKind.bits, Bool.and_eq_true, decide_eq_true_eq, if_true] at h
  omega
theorem mod_toNat_nat (a : Nat) (m : Nat) : (((a : Int) % (m : Int)).toNat) = a % m := by
  rw [← Int.natCast_emod, Int.toNat_natCast]
theorem bv_mask (j : Nat) (hj : j < 64) (x : Int) : (BitVec.ofInt 64 x &&& BitVec.ofInt 64 ((2 ^ j - 1 : Nat) : Int)).toNat = (x % ((2 ^ j : Nat) : Int)).toNat := by
  have hle : 2 ^ j ≤ 2 ^ 63 := Nat.pow_le_pow_right (by decide) (by omega)
  have hpos : 0 < 2 ^ j := Nat.two_pow_pos j
  have hlt : 2 ^ j - 1 < 2 ^ 64 := by omega
  have hd : (2 : Nat) ^ j ∣ 2 ^ 64 := Nat.pow_dvd_pow 2 (by omega)
  rw [BitVec.ofInt_natCast, BitVec.toNat_and, BitVec.toNat_ofNat, Nat.mod_eq_of_lt hlt, Nat.and_two_pow_sub_one_eq_mod, BitVec.toNat_ofInt]
  have h0 : 0 ≤ x % ((2 ^ 64 : Nat) : Int) := Int.emod_nonneg _ (by simp)
  have h1 : 0 ≤ x % ((2 ^ j : Nat) : Int) := Int.emod_nonneg _ (by omega)
  have : (((x % ((2 ^ 64 : Nat) : Int)).toNat % 2 ^ j : Nat) : Int) = x % ((2 ^ j : Nat) : Int) := by
    rw [Int.natCast_emod, Int.toNat_of_nonneg h0]
    exact Int.emod_emod_of_dvd x (Int.natCast_dvd_natCast.mpr hd)
  omega
/-- A mask of the lowest j bits, of any i64. -/
theorem i64_mask (j : Nat) (hj : j < 64) (x : Int) : Go.bits .and .i64 x (((2 ^ j - 1 : Nat) : Int)) = x % ((2 ^ j : Nat) : Int) := by
  have hpos : 0 < 2 ^ j := Nat.two_pow_pos j
  have hle : 2 ^ j ≤ 2 ^ 63 := Nat.pow_le_pow_right (by decide) (by omega)
  show IntKind.i64.wrap (((BitVec.ofInt 64 x &&& BitVec.ofInt 64 ((2 ^ j - 1 : Nat) : Int)).toNat : Nat) : Int) = _
  rw [bv_mask j hj x]
  have h1 : 0 ≤ x % ((2 ^ j : Nat) : Int) := Int.emod_nonneg _ (by omega)
  have h2 : x % ((2 ^ j : Nat) : Int) < ((2 ^ j : Nat) : Int) := Int.emod_lt_of_pos _ (by omega)
  rw [Int.toNat_of_nonneg h1, IntKind.wrap_i64]
  have h3 : ((2 ^ j : Nat) : Int) ≤ ((2 ^ 63 : Nat) : Int) := Int.ofNat_le.mpr hle
  have h5 : ((2 ^ 63 : Nat) : Int) = 9223372036854775808 := by decide
  omega
theorem i64_mask32 (x : Int) : Go.bits .and .i64 x 4294967295 = x % 4294967296 := i64_mask 32 (by decide) x
theorem i64_mask8 (x : Int) : Go.bits .and .i64 x 255 = x % 256 := i64_mask 8 (by decide) x
theorem i64_mask7 (x : Int) : Go.bits .and .i64 x 127 = x % 128 := i64_mask 7 (by decide) x
theorem i64_mask4 (x : Int) : Go.bits .and .i64 x 15 = x % 16 := i64_mask 4 (by decide) x
theorem i64_mask1 (x : Int) : Go.bits .and .i64 x 1 = x % 2 := i64_mask 1 (by decide) x
theorem xor_nat (k : IntKind) (j : Nat) (hj : j ≤ k.bits) (hk : ∀ n : Int, 0 ≤ n → n < 2 ^ j → k.wrap n = n) (a b : Nat) (ha : a < 2 ^ j) (hb : b < 2 ^ j) :
    Go.bits .xor k a b = ((a ^^^ b : Nat) : Int) := by
  have hp : 2 ^ j ≤ 2 ^ k.bits := Nat.pow_le_pow_right (by decide) hj
  have ha' : a % 2 ^ k.bits = a := Nat.mod_eq_of_lt (Nat.lt_of_lt_of_le ha hp)
  have hb' : b % 2 ^ k.bits = b := Nat.mod_eq_of_lt (Nat.lt_of_lt_of_le hb hp)
  simp only [Go.bits, BitVec.ofInt_natCast, BitVec.toNat_xor, BitVec.toNat_ofNat, ha', hb']
  exact hk _ (Int.natCast_nonneg _) (by exact_mod_cast Nat.xor_lt_two_pow ha hb)
theorem wraps_i64 (n : Int) (h0 : 0 ≤ n) (h1 : n < 2 ^ 63) : IntKind.i64.wrap n = n := by rw [IntKind.wrap_i64]; omega
theorem wraps_u32 (n : Int) (h0 : 0 ≤ n) (h1 : n < 2 ^ 32) : IntKind.u32.wrap n = n := by rw [IntKind.wrap_u32]; omega
theorem i64_xor (a b : Nat) (ha : a < 2 ^ 63) (hb : b < 2 ^ 63) : Go.bits .xor .i64 a b = ((a ^^^ b : Nat) : Int) := xor_nat .i64 63 (by decide) wraps_i64 a b ha hb
theorem u32_xor (a b : Nat) (ha : a < 2 ^ 32) (hb : b < 2 ^ 32) : Go.bits .xor .u32 a b = ((a ^^^ b : Nat) : Int) := xor_nat .u32 32 (by decide) wraps_u32 a b ha hb
theorem i64_or (a b : Nat) (ha : a < 2 ^ 63) (hb : b < 2 ^ 63) : Go.bits .or .i64 a b = ((a ||| b : Nat) : Int) := (Go.bits_nat .i64 63 (by decide) wraps_i64 a b ha hb).2
theorem u8_or (a b : Nat) (ha : a < 2 ^ 8) (hb : b < 2 ^ 8) : Go.bits .or .u8 a b = ((a ||| b : Nat) : Int) := (Go.bits_nat .u8 8 (by decide) Go.wraps_u8 a b ha hb).2
theorem u32_and1 (a : Nat) (ha : a < 2 ^ 32) : Go.bits .and .u32 a 1 = ((a % 2 : Nat) : Int) := by
  rw [show (1 : Int) = ((1 : Nat) : Int) from rfl, (Go.bits_nat .u32 32 (by decide) wraps_u32 a 1 ha (by decide)).1, show (1 : Nat) = 2 ^ 1 - 1 from rfl, Nat.and_two_pow_sub_one_eq_mod]
/-! ### Bytes of a text -/
theorem bt_list (s : ByteArray) (i : Nat) (h : i < s.data.toList.length) : bt s (i : Int) = ((s.data.toList[i]).toNat : Int) := by
  have h' : i < s.size := by rw [Array.length_toList] at h; exact h
  have hn : (i : Int).toNat < s.size := by rw [Int.toNat_natCast]; exact h'
  rw [← bt_at s i hn]
  rfl
theorem size_list (s : ByteArray) : s.data.toList.length = s.size := by rw [Array.length_toList]; rfl
theorem drop_cons (s : ByteArray) (i : Nat) (h : i < s.size) : s.data.toList.drop i = s.data.toList[i]'(by rw [size_list]; exact h) :: s.data.toList.drop (i + 1) :=
  List.drop_eq_getElem_cons (by rw [size_list]; exact h)
/-! ### From some number of rounds on -/
section
variable {α : Type} {f g : Nat → Option α} {r : α} {c : Prop} [Decidable c]
theorem Ev.pos (h : c) (e : Ev f r) : Ev (fun k => if c then f k else g k) r := Ev.congr (fun _ => if_pos h) e
theorem Ev.neg (h : ¬ c) (e : Ev g r) : Ev (fun k => if c then f k else g k) r := Ev.congr (fun _ => if_neg h) e
theorem Ev.const {o : Option α} (h : o = some r) : Ev (fun _ => o) r := ⟨0, fun _ _ => h⟩
theorem Ev.at (K : Nat) (h : ∀ k, K ≤ k → f k = some r) : Ev f r := ⟨K, h⟩
theorem Ev.of_eq {r' : α} (e : Ev f r) (h : r = r') : Ev f r' := h ▸ e
end
theorem Ev.both {α β : Type} {f : Nat → Option α} {g : Nat → Option β} {a : α} {b : β} (h : Ev f a) (h' : Ev g b) : ∃ k, f k = some a ∧ g k = some b := by
  obtain ⟨K, h⟩ := h
  obtain ⟨K', h'⟩ := h'
  exact ⟨max K K', h _ (by omega), h' _ (by omega)⟩
theorem big_f (l : List Int) : laws_big.f l = some (decide ((l.length : Int) > 1048576)) := rfl
/-! ### The reference's cursor over a draw -/
def Inside (b : List Int) (i : Int) : Prop := 0 ≤ i ∧ i ≤ (b.length : Int)
theorem l01Byte_f (b : List Int) (hb : b.length ≤ 140737488355328) (i h : Int) (hi : Inside b i) : ∃ x i' h', spec_l01Byte.f b i h = some (x, i', h') ∧ (0 ≤ x ∧ x ≤ 255) ∧ Inside b i' := by
  unfold Inside at *
  unfold spec_l01Byte.f
  by_cases c : i < (b.length : Int)
  · rw [if_pos c, if_pos hi.1, i64_mask8, wrap64_id (x := i + 1) (by omega) (by omega)]
    refine ⟨_, _, _, rfl, ⟨?_, ?_⟩, by omega⟩
    · exact Int.emod_nonneg _ (by decide)
    · have := Int.emod_lt_of_pos (wrap64 (Go.bits .and .i64 (Go.bits .xor .i64 ((wrap64 ((wrap64 (h * 6364136223846793005)) + 1442695040888963407)) / 8589934592) ((wrap64 ((wrap64 (h * 6364136223846793005)) + 1442695040888963407)) / 35184372088832)) 255 + wrap64 (rd b i))) (show (0 : Int) < 256 by decide)
      omega
  · rw [if_neg c, i64_mask8]
    refine ⟨_, _, _, rfl, ⟨?_, ?_⟩, hi⟩
    · exact Int.emod_nonneg _ (by decide)
    · have := Int.emod_lt_of_pos (Go.bits .xor .i64 ((wrap64 ((wrap64 (h * 6364136223846793005)) + 1442695040888963407)) / 8589934592) ((wrap64 ((wrap64 (h * 6364136223846793005)) + 1442695040888963407)) / 35184372088832)) (show (0 : Int) < 256 by decide)
      omega
theorem l01New_l0 (b : List Int) (m : Nat) : ∀ (j : Nat) (h : Int), j + m = 4001 → ∃ h', Ev (fun k => spec_l01New.l0 k b h (j : Int)) (b, 0, h') := by
  induction m with
  | zero =>
    intro j h hj
    refine ⟨h, Ev.step (fun k => by rw [spec_l01New.l0]) ?_⟩
    by_cases c : (j : Int) < (b.length : Int)
    · exact Ev.pos c (Ev.neg (by omega) (Ev.now _))
    · exact Ev.neg c (Ev.now _)
  | succ m ih =>
    intro j h hj
    by_cases c : (j : Int) < (b.length : Int)
    · by_cases c2 : (j : Int) < 4000
      · obtain ⟨h', e⟩ := ih (j + 1) (Go.bits .and .i64 (wrap64 ((wrap64 ((wrap64 (h * 131)) + (wrap64 (rd b (j : Int))))) + 7)) 1073741823) (by omega)
        refine ⟨h', Ev.step (fun k => by rw [spec_l01New.l0]) (Ev.pos c (Ev.pos c2 (Ev.pos (by omega) ?_)))⟩
        rw [wrap64_id (x := (j : Int) + 1) (by omega) (by omega)]
        exact e
      · exact ⟨h, Ev.step (fun k => by rw [spec_l01New.l0]) (Ev.pos c (Ev.neg c2 (Ev.now _)))⟩
    · exact ⟨h, Ev.step (fun k => by rw [spec_l01New.l0]) (Ev.neg c (Ev.now _))⟩
theorem l01New_ev (b : List Int) : ∃ h', Ev (fun k => spec_l01New.f k b) (b, 0, h') := by
  unfold spec_l01New.f
  exact l01New_l0 b 4001 0 _ (by decide)
theorem inside0 (b : List Int) : Inside b 0 := ⟨by decide, by omega⟩
theorem l01Below_f (b : List Int) (hb : b.length ≤ 140737488355328) (i h : Int) (hi : Inside b i) (n : Int) : ∃ x i' h', spec_l01Below.f b i h n = some (x, i', h') ∧ 0 ≤ x ∧ (1 ≤ n → x < n) ∧ (n ≤ 0 → x = 0) ∧ Inside b i' := by
  unfold spec_l01Below.f
  by_cases c0 : n ≤ 0
  · rw [if_pos c0]; exact ⟨0, i, h, rfl, by decide, fun h => by omega, fun _ => rfl, hi⟩
  rw [if_neg c0]
  by_cases c1 : n ≤ 256
  · rw [if_pos c1]
    obtain ⟨x, i1, h1, e1, hx, hi1⟩ := l01Byte_f b hb i h hi
    rw [e1]
    simp only [Option.bind_some]
    rw [if_neg (by omega)]
    refine ⟨_, _, _, rfl, ?_, fun _ => ?_, fun h => by omega, hi1⟩
    · rw [Int.tmod_eq_emod_of_nonneg hx.1]; exact Int.emod_nonneg _ (by omega)
    · rw [Int.tmod_eq_emod_of_nonneg hx.1]; exact Int.emod_lt_of_pos _ (by omega)
  · rw [if_neg c1]
    obtain ⟨x, i1, h1, e1, hx, hi1⟩ := l01Byte_f b hb i h hi
    obtain ⟨y, i2, h2, e2, hy, hi2⟩ := l01Byte_f b hb i1 h1 hi1
    obtain ⟨z, i3, h3, e3, hz, hi3⟩ := l01Byte_f b hb i2 h2 hi2
    obtain ⟨w, i4, h4, e4, hw, hi4⟩ := l01Byte_f b hb i3 h3 hi3
    rw [e1]; simp only [Option.bind_some]
    rw [e2]; simp only [Option.bind_some]
    rw [e3]; simp only [Option.bind_some]
    rw [e4]; simp only [Option.bind_some]
    rw [if_neg (by omega), wrap64_id (x := x * 16777216) (by omega) (by omega), wrap64_id (x := y * 65536) (by omega) (by omega), wrap64_id (x := z * 256) (by omega) (by omega), wrap64_id (x := x * 16777216 + y * 65536) (by omega) (by omega), wrap64_id (x := x * 16777216 + y * 65536 + z * 256) (by omega) (by omega), wrap64_id (by omega) (by omega)]
    have hs : 0 ≤ x * 16777216 + y * 65536 + z * 256 + w := by omega
    refine ⟨_, _, _, rfl, ?_, fun _ => ?_, fun h => by omega, hi4⟩
    · rw [Int.tmod_eq_emod_of_nonneg hs]; exact Int.emod_nonneg _ (by omega)
    · rw [Int.tmod_eq_emod_of_nonneg hs]; exact Int.emod_lt_of_pos _ (by omega)
theorem l01Once_f (b : List Int) (hb : b.length ≤ 140737488355328) (i h : Int) (hi : Inside b i) (n : Int) : ∃ x i' h', spec_l01Once.f b i h n = some (x, i', h') ∧ Inside b i' := by
  obtain ⟨x, i1, h1, e1, _, _, _, hi1⟩ := l01Below_f b hb i h hi n
  unfold spec_l01Once.f
  rw [e1]
  exact ⟨_, _, _, rfl, hi1⟩
theorem l01Pick_f (b : List Int) (hb : b.length ≤ 140737488355328) (i h : Int) (hi : Inside b i) (l : List ByteArray) (hl : l ≠ []) : ∃ x i' h', spec_l01Pick.f b i h l = some (x, i', h') ∧ x ∈ l ∧ Inside b i' := by
  obtain ⟨x, i1, h1, e1, h0, hlt, _, hi1⟩ := l01Below_f b hb i h hi (l.length : Int)
  have hpos : 1 ≤ (l.length : Int) := by have := List.length_pos_iff.mpr hl; omega
  unfold spec_l01Pick.f
  rw [e1]
  simp only [Option.bind_some]
  rw [if_pos h0, if_pos (hlt hpos)]
  refine ⟨_, _, _, rfl, ?_, hi1⟩
  have hx : x.toNat < l.length := by have := hlt hpos; omega
  unfold rdOf
  rw [List.getD_eq_getElem?_getD, List.getElem?_eq_getElem hx]
  exact List.getElem_mem hx
theorem l01Text_l0 (b : List Int) (hb : b.length ≤ 140737488355328) (n : Int) (hn : n ≤ 5000) (m : Nat) : ∀ (j : Nat) (acc : List Int) (i h : Int), ((j : Int) + m = n ∨ (m = 0 ∧ n ≤ j)) → acc.length = j → j ≤ 5000 → Inside b i →
    ∃ s i' h', Ev (fun k => spec_l01Text.l0 k n acc (j : Int) b i h) (s, i', h') ∧ s.size ≤ 5000 ∧ Inside b i' := by
  induction m with
  | zero =>
    intro j acc i h hj ha hj2 hi
    refine ⟨strOfNums acc, i, h, ?_, by rw [strOfNums_size]; omega, hi⟩
    refine Ev.step (fun k => by rw [spec_l01Text.l0]) ?_
    exact Ev.neg (by omega) (Ev.now _)
  | succ m ih =>
    intro j acc i h hj ha hj2 hi
    obtain ⟨x, i1, h1, e1, hx, hi1⟩ := l01Byte_f b hb i h hi
    obtain ⟨s, i', h', e, hs, hi'⟩ := ih (j + 1) (acc ++ [x % 256]) i1 h1 (by omega) (by rw [List.length_append, List.length_singleton]; omega) (by omega) hi1
    refine ⟨s, i', h', ?_, hs, hi'⟩
    refine Ev.step (fun k => by rw [spec_l01Text.l0]) (Ev.pos (by omega) ?_)
    rw [e1, wrap64_id (by omega) (by omega)]
    refine Ev.bind (Ev.const rfl) ?_
    exact Ev.pos (by omega) e
theorem l01Text_ev (b : List Int) (hb : b.length ≤ 140737488355328) (i h : Int) (hi : Inside b i) (n : Int) : ∃ s i' h', Ev (fun k => spec_l01Text.f k b i h n) (s, i', h') ∧ s.size ≤ 5000 ∧ Inside b i' := by
  by_cases c : n > 5000
  · obtain ⟨s, i', h', e, hs, hi'⟩ := l01Text_l0 b hb 5000 (by decide) 5000 0 [] i h (.inl (by decide)) rfl (by decide) hi
    refine ⟨s, i', h', ?_, hs, hi'⟩
    unfold spec_l01Text.f
    refine Ev.pos c (Ev.step (fun k => by rw [spec_l01Text.j0]) ?_)
    exact e
  · obtain ⟨s, i', h', e, hs, hi'⟩ := l01Text_l0 b hb n (by omega) n.toNat 0 [] i h (by omega) rfl (by decide) hi
    refine ⟨s, i', h', ?_, hs, hi'⟩
    unfold spec_l01Text.f
    refine Ev.neg c (Ev.step (fun k => by rw [spec_l01Text.j0]) ?_)
    exact e
theorem l02Text_ev (b : List Int) (hb : b.length ≤ 140737488355328) (i h : Int) (hi : Inside b i) : ∃ s i' h', Ev (fun k => spec_l02Text.f k b i h) (s, i', h') ∧ s.size ≤ 5000 ∧ Inside b i' := by
  unfold spec_l02Text.f
  obtain ⟨x, i1, h1, e1, hi1⟩ := l01Once_f b hb i h hi 6
  rw [e1]
  simp only [Option.bind_some]
  cases x with
  | true =>
    obtain ⟨s, i2, h2, e2, hs, hi2⟩ := l01Pick_f b hb i1 h1 hi1 [(⟨#[]⟩ : ByteArray), (⟨#[49, 50, 51, 52, 53, 54, 55, 56, 57]⟩ : ByteArray), (⟨#[97]⟩ : ByteArray), (⟨#[97, 98, 99]⟩ : ByteArray), (⟨#[0, 0, 0, 0]⟩ : ByteArray)] (by simp)
    refine ⟨s, i2, h2, Ev.pos rfl ?_, ?_, hi2⟩
    · rw [e2]; exact Ev.now _
    · simp only [List.mem_cons, List.not_mem_nil, or_false] at hs
      rcases hs with rfl | rfl | rfl | rfl | rfl <;> decide
  | false =>
    obtain ⟨y, i2, h2, e2, _, _, _, hi2⟩ := l01Below_f b hb i1 h1 hi1 40
    obtain ⟨s, i3, h3, e3, hs, hi3⟩ := l01Text_ev b hb i2 h2 hi2 y
    refine ⟨s, i3, h3, Ev.neg (by decide) ?_, hs, hi3⟩
    exact Ev.bind (Ev.const e2) (Ev.bind e3 (Ev.now _))
theorem spec_DrawSumOf_ev (b : List Int) (hb : b.length ≤ 140737488355328) : ∃ s, Ev (fun k => spec_DrawSumOf.f k b) s ∧ s.size ≤ 5000 := by
  obtain ⟨h1, e1⟩ := l01New_ev b
  obtain ⟨s, i2, h2, e2, hs, _⟩ := l02Text_ev b hb 0 h1 (inside0 b)
  refine ⟨s, ?_, hs⟩
  unfold spec_DrawSumOf.f
  exact Ev.bind e1 (Ev.bind e2 (Ev.now _))
theorem l01PickInt_f (b : List Int) (hb : b.length ≤ 140737488355328) (i h : Int) (hi : Inside b i) (l : List Int) (hl : l ≠ []) : ∃ x i' h', spec_l01PickInt.f b i h l = some (x, i', h') ∧ x ∈ l ∧ Inside b i' := by
  obtain ⟨x, i1, h1, e1, h0, hlt, _, hi1⟩ := l01Below_f b hb i h hi (l.length : Int)
  have hpos : 1 ≤ (l.length : Int) := by have := List.length_pos_iff.mpr hl; omega
  unfold spec_l01PickInt.f
  rw [e1]
  simp only [Option.bind_some]
  rw [if_pos h0, if_pos (hlt hpos)]
  refine ⟨_, _, _, rfl, ?_, hi1⟩
  have hx : x.toNat < l.length := by have := hlt hpos; omega
  unfold rd
  rw [List.getD_eq_getElem?_getD, List.getElem?_eq_getElem hx]
  exact List.getElem_mem hx
theorem l02Int_f (b : List Int) (hb : b.length ≤ 140737488355328) (i h : Int) (hi : Inside b i) : ∃ x i' h', spec_l02Int.f b i h = some (x, i', h') ∧ (-9223372036854775808 ≤ x ∧ x ≤ 9223372036854775807) ∧ Inside b i' := by
  unfold spec_l02Int.f
  obtain ⟨y, i1, h1, e1, hy, hlt, _, hi1⟩ := l01Below_f b hb i h hi 1000000000
  rw [e1]
  simp only [Option.bind_some]
  obtain ⟨x, i2, h2, e2, hx, hi2⟩ := l01PickInt_f b hb i1 h1 hi1 [0, 1, 255, 256, 4294967295, 4294967296, (-1), 9223372036854775807, (-9223372036854775808), y] (by simp)
  rw [e2]
  refine ⟨_, _, _, rfl, ?_, hi2⟩
  have := hlt (by decide)
  simp only [List.mem_cons, List.not_mem_nil, or_false] at hx
  rcases hx with rfl | rfl | rfl | rfl | rfl | rfl | rfl | rfl | rfl | rfl <;> constructor <;> (try dsimp only) <;> omega
theorem spec_DrawSumMore_ev (b : List Int) (hb : b.length ≤ 140737488355328) : ∃ n s, Ev (fun k => spec_DrawSumMore.f k b) (n, s) ∧ s.size ≤ 5000 ∧ (-9223372036854775808 ≤ n ∧ n ≤ 9223372036854775807) := by
  obtain ⟨h1, e1⟩ := l01New_ev b
  obtain ⟨n, i2, h2, e2, hn, hi2⟩ := l02Int_f b hb 0 h1 (inside0 b)
  obtain ⟨s, i3, h3, e3, hs, _⟩ := l02Text_ev b hb i2 h2 hi2
  refine ⟨n, s, ?_, hs, hn⟩
  unfold spec_DrawSumMore.f
  exact Ev.bind e1 (Ev.bind (Ev.const e2) (Ev.bind e3 (Ev.now _)))
theorem spec_DrawSumShift_ev (b : List Int) (hb : b.length ≤ 140737488355328) : ∃ n m, Ev (fun k => spec_DrawSumShift.f k b) (n, m) ∧ (-9223372036854775808 ≤ n ∧ n ≤ 9223372036854775807) ∧ (-9223372036854775808 ≤ m ∧ m ≤ 9223372036854775807) := by
  obtain ⟨h1, e1⟩ := l01New_ev b
  obtain ⟨n, i2, h2, e2, hn, hi2⟩ := l02Int_f b hb 0 h1 (inside0 b)
  obtain ⟨m, i3, h3, e3, hm, _⟩ := l01PickInt_f b hb i2 h2 hi2 [0, 1, 5, 40, (-1), 300] (by simp)
  refine ⟨n, m, ?_, hn, ?_⟩
  · unfold spec_DrawSumShift.f
    exact Ev.bind e1 (Ev.bind (Ev.const e2) (Ev.bind (Ev.const e3) (Ev.now _)))
  · simp only [List.mem_cons, List.not_mem_nil, or_false] at hm
    rcases hm with rfl | rfl | rfl | rfl | rfl | rfl <;> decide
/-! ### The sum of a byte, on natural numbers -/
def stp (x : Nat) : Nat := if x % 2 = 1 then (x / 2) ^^^ 2197175160 else x / 2
def it : Nat → Nat → Nat
  | 0, x => x
  | n + 1, x => it n (stp x)
def sm (x : Nat) (l : List UInt8) : Nat := l.foldl (fun x c => it 8 (x ^^^ c.toNat)) x
theorem stp_lt {x : Nat} (h : x < 2 ^ 32) : stp x < 2 ^ 32 := by
  unfold stp
  split
  · exact Nat.xor_lt_two_pow (by omega) (by decide)
  · omega
theorem it_lt (n : Nat) : ∀ {x : Nat}, x < 2 ^ 32 → it n x < 2 ^ 32 := by
  induction n with
  | zero => intro x h; exact h
  | succ n ih => intro x h; exact ih (stp_lt h)
theorem sm_cons (x : Nat) (c : UInt8) (l : List UInt8) : sm x (c :: l) = sm (it 8 (x ^^^ c.toNat)) l := rfl
theorem sm_append (x : Nat) (l m : List UInt8) : sm x (l ++ m) = sm (sm x l) m := by unfold sm; rw [List.foldl_append]
theorem xor_byte_lt {x : Nat} (h : x < 2 ^ 32) (c : UInt8) : x ^^^ c.toNat < 2 ^ 32 :=
  Nat.xor_lt_two_pow h (Nat.lt_of_lt_of_le c.toNat_lt (by decide))
theorem sm_lt (l : List UInt8) : ∀ {x : Nat}, x < 2 ^ 32 → sm x l < 2 ^ 32 := by
  induction l with
  | nil => intro x h; exact h
  | cons c l ih => intro x h; exact ih (it_lt 8 (xor_byte_lt h c))
theorem u32_of (s : Int) : s % 4294967296 = (((s % 4294967296).toNat : Nat) : Int) ∧ (s % 4294967296).toNat < 2 ^ 32 := by omega
theorem u8_of (s : Int) : s % 256 = (((s % 256).toNat : Nat) : Int) ∧ (s % 256).toNat < 2 ^ 8 := by omega
/-- What SumMore tells: of any s, and the bytes. -/
def sumMore (s : Int) (l : List UInt8) : Nat := sm ((s % 4294967296).toNat ^^^ 4294967295) l ^^^ 4294967295
theorem sumMore_lt (s : Int) (l : List UInt8) : sumMore s l < 2 ^ 32 := Nat.xor_lt_two_pow (sm_lt l (Nat.xor_lt_two_pow (u32_of s).2 (by decide))) (by decide)
theorem toList_app (a b : ByteArray) : (a ++ b).data.toList = a.data.toList ++ b.data.toList := by rw [ByteArray.data_append, Array.toList_append]
theorem xx (x m : Nat) : x ^^^ m ^^^ m = x := by rw [Nat.xor_assoc, Nat.xor_self, Nat.xor_zero]
theorem sumMore_app (s : Int) (l m : List UInt8) : sumMore ((sumMore s l : Nat) : Int) m = sumMore s (l ++ m) := by
  have h := sumMore_lt s l
  have e : (((sumMore s l : Nat) : Int) % 4294967296).toNat = sumMore s l := by omega
  unfold sumMore at h e ⊢
  rw [e, xx, sm_append]
theorem sumMore_known : sumMore 0 [49, 50, 51, 52, 53, 54, 55, 56, 57] = 3808858755 := by decide +kernel
def brought (n least most : Int) : Int := if most < least then least else if n < least then least else if n > most then most else n
theorem spec_Brought_ev (n a b : Int) : Ev (fun k => spec_Brought.f k n a b) (brought n a b) := by
  unfold spec_Brought.f
  by_cases h : b < a
  · refine Ev.of_eq (r := a) ?_ (if_pos h).symm
    refine Ev.pos h (Ev.step (fun k => by rw [spec_Brought.j0]) ?_)
    exact Ev.pos rfl (Ev.now _)
  · refine Ev.neg h (Ev.step (fun k => by rw [spec_Brought.j0]) ?_)
    by_cases h1 : n < a
    · refine Ev.of_eq (r := a) ?_ ((if_neg h).trans (if_pos h1)).symm
      exact Ev.pos (by simpa using h1) (Ev.now _)
    · refine Ev.neg (by simpa using h1) ?_
      by_cases h2 : n > b
      · refine Ev.of_eq (r := b) ?_ ((if_neg h).trans ((if_neg h1).trans (if_pos h2))).symm
        exact Ev.pos h2 (Ev.now _)
      · refine Ev.of_eq (r := n) ?_ ((if_neg h).trans ((if_neg h1).trans (if_neg h2))).symm
        exact Ev.neg h2 (Ev.now _)
def shifted : Nat → Nat → Nat
  | 0, x => x
  | n + 1, x => shifted n (it 8 x)
theorem shifted_lt (n : Nat) : ∀ {x : Nat}, x < 2 ^ 32 → shifted n x < 2 ^ 32 := by
  induction n with
  | zero => intro x h; exact h
  | succ n ih => intro x h; exact ih (it_lt 8 h)
def sumShift (s n : Int) : Nat := shifted (brought n 0 10000).toNat (s % 4294967296).toNat
theorem brought_span (n : Int) : 0 ≤ brought n 0 10000 ∧ brought n 0 10000 ≤ 10000 := by
  unfold brought
  rw [if_neg (by decide)]
  split
  · omega
  · split <;> omega
theorem sumShift_lt (s n : Int) : sumShift s n < 2 ^ 32 := shifted_lt _ (u32_of s).2
/-! ### Sums are linear over xor -/
theorem bit_stp (x : Nat) : stp x = (x / 2) ^^^ (if x % 2 = 1 then 2197175160 else 0) := by
  unfold stp
  split
  · rfl
  · rw [Nat.xor_zero]
theorem pick_xor (P : Nat) (p q : Bool) : (if (p ^^ q) = true then P else 0) = (if p = true then P else 0) ^^^ (if q = true then P else 0) := by
  cases p <;> cases q <;> simp
theorem odd_bit (x : Nat) : (x % 2 = 1) ↔ x.testBit 0 = true := by rw [Nat.testBit_zero, decide_eq_true_eq]
theorem stp_xor (x y : Nat) : stp (x ^^^ y) = stp x ^^^ stp y := by
  rw [bit_stp, bit_stp, bit_stp]
  have e : (if (x ^^^ y) % 2 = 1 then 2197175160 else 0 : Nat) = (if x % 2 = 1 then 2197175160 else 0) ^^^ (if y % 2 = 1 then 2197175160 else 0) := by
    have h := pick_xor 2197175160 (x.testBit 0) (y.testBit 0)
    rw [← Nat.testBit_xor] at h
    simp only [← odd_bit] at h
    exact h
  have e2 : (x ^^^ y) / 2 = (x / 2) ^^^ (y / 2) := by
    have := Nat.shiftRight_xor_distrib (a := x) (b := y) (i := 1)
    simp only [Nat.shiftRight_eq_div_pow, Nat.pow_one] at this
    exact this
  rw [e, e2]
  generalize x / 2 = a; generalize y / 2 = b
  generalize (if x % 2 = 1 then 2197175160 else 0 : Nat) = c; generalize (if y % 2 = 1 then 2197175160 else 0 : Nat) = d
  rw [Nat.xor_assoc, Nat.xor_assoc, ← Nat.xor_assoc b c d, Nat.xor_comm b c, Nat.xor_assoc c b d]
theorem it_xor (n : Nat) : ∀ x y, it n (x ^^^ y) = it n x ^^^ it n y := by
  induction n with
  | zero => intro x y; rfl
  | succ n ih => intro x y; show it n (stp (x ^^^ y)) = it n (stp x) ^^^ it n (stp y); rw [stp_xor, ih]
theorem sm_xor (l : List UInt8) : ∀ x y, sm (x ^^^ y) l = sm x l ^^^ shifted l.length y := by
  induction l with
  | nil => intro x y; rfl
  | cons c l ih =>
    intro x y
    rw [sm_cons, sm_cons, show x ^^^ y ^^^ c.toNat = (x ^^^ c.toNat) ^^^ y by rw [Nat.xor_assoc, Nat.xor_comm y, ← Nat.xor_assoc], it_xor, ih]; rfl
theorem sumOf_app (l m : List UInt8) : sumMore 0 (l ++ m) = shifted m.length (sumMore 0 l) ^^^ sumMore 0 m := by
  have e : ((0 : Int) % 4294967296).toNat ^^^ 4294967295 = 4294967295 := by decide
  unfold sumMore
  rw [e, sm_append]
  have h : sm 4294967295 l = 4294967295 ^^^ (sm 4294967295 l ^^^ 4294967295) := by rw [Nat.xor_comm (sm _ _), ← Nat.xor_assoc, Nat.xor_self, Nat.zero_xor]
  have g := sm_xor m 4294967295 (sm 4294967295 l ^^^ 4294967295)
  rw [← h] at g
  rw [g, Nat.xor_comm (sm 4294967295 m), Nat.xor_assoc]
theorem impl_sumByte_l0 (n : Nat) : ∀ (k x : Nat), x < 2 ^ 32 → n ≤ 8 → n < k → impl_sumByte.l0 k (x : Int) (8 - (n : Int)) = some ((it n x : Nat) : Int) := by
  induction n with
  | zero =>
    intro k x hx hn hk
    obtain ⟨k, rfl⟩ : ∃ m, k = m + 1 := ⟨k - 1, by omega⟩
    simp only [impl_sumByte.l0]
    rw [if_neg (by omega)]; rfl
  | succ n ih =>
    intro k x hx hn hk
    obtain ⟨k, rfl⟩ : ∃ m, k = m + 1 := ⟨k - 1, by omega⟩
    simp only [impl_sumByte.l0]
    rw [if_pos (by omega), u32_and1 _ hx, wrap64_id (by omega) (by omega), show (8 - ((n + 1 : Nat) : Int) + 1) = 8 - (n : Int) by omega]
    have hs : it (n + 1) x = it n (stp x) := rfl
    rw [hs]
    by_cases c : x % 2 = 1
    · rw [if_pos (by omega), show ((x : Int) / 2) = ((x / 2 : Nat) : Int) by omega, show (2197175160 : Int) = ((2197175160 : Nat) : Int) from rfl, u32_xor _ _ (by omega) (by decide)]
      have e : x / 2 ^^^ 2197175160 = stp x := by unfold stp; rw [if_pos c]
      rw [e]
      exact ih k _ (stp_lt hx) (by omega) (by omega)
    · rw [if_neg (by omega), show ((x : Int) / 2) = ((x / 2 : Nat) : Int) by omega]
      have e : x / 2 = stp x := by unfold stp; rw [if_neg c]
      rw [e]
      exact ih k _ (stp_lt hx) (by omega) (by omega)
theorem impl_sumByte_f (k : Nat) (hk : 8 < k) (x b : Nat) (hx : x < 2 ^ 32) (hb : b < 2 ^ 8) : impl_sumByte.f k (x : Int) (b : Int) = some ((it 8 (x ^^^ b) : Nat) : Int) := by
  unfold impl_sumByte.f
  rw [show ((b : Int) % 4294967296) = (b : Int) by omega, u32_xor _ _ hx (by omega)]
  exact impl_sumByte_l0 8 k _ (Nat.xor_lt_two_pow hx (by omega)) (by omega) hk
theorem impl_sumByte_ev (x b : Nat) (hx : x < 2 ^ 32) (hb : b < 2 ^ 8) : Ev (fun k => impl_sumByte.f k (x : Int) (b : Int)) ((it 8 (x ^^^ b) : Nat) : Int) := Ev.at 9 fun k hk => impl_sumByte_f k (by omega) x b hx hb
theorem impl_SumMore_l0 (s : ByteArray) (hs : s.size ≤ 140737488355328) (n : Nat) : ∀ (i x : Nat), i + n = s.size → x < 2 ^ 32 →
    Ev (fun k => impl_SumMore.l0 k s (x : Int) (s.size : Int) (i : Int)) ((sm x (s.data.toList.drop i) ^^^ 4294967295 : Nat) : Int) := by
  induction n with
  | zero =>
    intro i x hi hx
    refine Ev.step (fun k => by rw [impl_SumMore.l0]) (Ev.neg (by omega) (Ev.const ?_))
    rw [List.drop_eq_nil_of_le (by rw [size_list]; omega), show (4294967295 : Int) = ((4294967295 : Nat) : Int) from rfl, u32_xor _ _ hx (by decide)]
    have : x ^^^ 4294967295 < 2 ^ 32 := Nat.xor_lt_two_pow hx (by decide)
    rw [wrap64_id (by omega) (by omega)]
    rfl
  | succ n ih =>
    intro i x hi hx
    have hlt : i < s.size := by omega
    refine Ev.step (fun k => by rw [impl_SumMore.l0]) (Ev.pos (by omega) (Ev.pos (by omega) (Ev.pos (by omega) ?_)))
    rw [bt_list s i (by rw [size_list]; exact hlt), drop_cons s i hlt, sm_cons]
    have hc := (s.data.toList[i]'(by rw [size_list]; exact hlt)).toNat_lt
    rw [wrap64_id (by omega) (by omega)]
    refine Ev.bind (impl_sumByte_ev x _ hx (by omega)) ?_
    exact ih (i + 1) _ (by omega) (it_lt 8 (xor_byte_lt hx _))
theorem impl_SumMore_ev (s : Int) (b : ByteArray) (hb : b.size ≤ 140737488355328) : Ev (fun k => impl_SumMore.f k s b) ((sumMore s b.data.toList : Nat) : Int) := by
  unfold impl_SumMore.f
  have h := u32_of s
  rw [h.1, show (4294967295 : Int) = ((4294967295 : Nat) : Int) from rfl, u32_xor _ _ h.2 (by decide)]
  exact impl_SumMore_l0 b hb b.size 0 _ (by omega) (Nat.xor_lt_two_pow h.2 (by decide))
theorem impl_SumOf_ev (b : ByteArray) (hb : b.size ≤ 140737488355328) : Ev (fun k => impl_SumOf.f k b) ((sumMore 0 b.data.toList : Nat) : Int) := by
  unfold impl_SumOf.f
  exact Ev.bind (impl_SumMore_ev 0 b hb) (Ev.now _)
theorem impl_Brought_f (n a b : Int) : impl_Brought.f n a b = some (brought n a b) := by
  unfold impl_Brought.f brought
  by_cases h : b < a
  · rw [if_pos h, if_pos h]
  · rw [if_neg h, if_neg h]
    refine congrArg some ?_
    unfold mn mx
    by_cases h1 : n < a
    · rw [if_pos h1, if_pos h1]
      by_cases h2 : b < a
      · exact absurd h2 h
      · rw [if_neg h2]
    · rw [if_neg h1, if_neg h1]
theorem impl_SumShift_l0 (m : Nat) (hm : m ≤ 10000) (n : Nat) : ∀ (i x : Nat), i + n = m → x < 2 ^ 32 → Ev (fun k => impl_SumShift.l0 k (x : Int) (m : Int) (i : Int)) ((shifted n x : Nat) : Int) := by
  induction n with
  | zero =>
    intro i x hi hx
    refine Ev.step (fun k => by rw [impl_SumShift.l0]) (Ev.neg (by omega) (Ev.const ?_))
    rw [wrap64_id (by omega) (by omega)]; rfl
  | succ n ih =>
    intro i x hi hx
    refine Ev.step (fun k => by rw [impl_SumShift.l0]) (Ev.pos (by omega) ?_)
    rw [wrap64_id (by omega) (by omega)]
    refine Ev.bind (impl_sumByte_ev x 0 hx (by decide)) ?_
    rw [show x ^^^ 0 = x from Nat.xor_zero x]
    exact ih (i + 1) _ (by omega) (it_lt 8 hx)
theorem impl_SumShift_ev (s n : Int) : Ev (fun k => impl_SumShift.f k s n) ((sumShift s n : Nat) : Int) := by
  unfold impl_SumShift.f sumShift
  have h := u32_of s
  have hb := brought_span n
  rw [impl_Brought_f]
  refine Ev.bind (Ev.const rfl) ?_
  rw [h.1, Int.toNat_natCast]
  have e : brought n 0 10000 = (((brought n 0 10000).toNat : Nat) : Int) := by omega
  generalize (brought n 0 10000).toNat = m at e
  rw [e]
  exact impl_SumShift_l0 m (by omega) m 0 _ (by omega) h.2
theorem impl_SumJoined_ev (a b : Nat) (n : Int) (hb : b < 2 ^ 32) : Ev (fun k => impl_SumJoined.f k (a : Int) (b : Int) n) ((sumShift (a : Int) n ^^^ b : Nat) : Int) := by
  unfold impl_SumJoined.f
  refine Ev.bind (impl_SumShift_ev _ n) (Ev.const ?_)
  have h := sumShift_lt (a : Int) n
  rw [show ((b : Int) % 4294967296) = (b : Int) by omega, i64_xor _ _ (by omega) (by omega)]
theorem spec_SumByte_l0 (n : Nat) : ∀ (k x : Nat), x < 2 ^ 32 → n ≤ 8 → n < k → spec_SumByte.l0 k (x : Int) (8 - (n : Int)) = some ((it n x : Nat) : Int) := by
  induction n with
  | zero =>
    intro k x hx hn hk
    obtain ⟨k, rfl⟩ : ∃ m, k = m + 1 := ⟨k - 1, by omega⟩
    simp only [spec_SumByte.l0]
    rw [if_neg (by omega)]; rfl
  | succ n ih =>
    intro k x hx hn hk
    obtain ⟨k, rfl⟩ : ∃ m, k = m + 1 := ⟨k - 1, by omega⟩
    simp only [spec_SumByte.l0]
    rw [if_pos (by omega), i64_mask1, wrap64_id (by omega) (by omega), show (8 - ((n + 1 : Nat) : Int) + 1) = 8 - (n : Int) by omega]
    have hs : it (n + 1) x = it n (stp x) := rfl
    rw [hs]
    by_cases c : x % 2 = 1
    · rw [if_pos (by omega), show ((x : Int) / 2) = ((x / 2 : Nat) : Int) by omega, show (2197175160 : Int) = ((2197175160 : Nat) : Int) from rfl, i64_xor _ _ (by omega) (by decide)]
      have e : x / 2 ^^^ 2197175160 = stp x := by unfold stp; rw [if_pos c]
      rw [e]
      exact ih k _ (stp_lt hx) (by omega) (by omega)
    · rw [if_neg (by omega), show ((x : Int) / 2) = ((x / 2 : Nat) : Int) by omega]
      have e : x / 2 = stp x := by unfold stp; rw [if_neg c]
      rw [e]
      exact ih k _ (stp_lt hx) (by omega) (by omega)
/-- What SumByte tells, of whatever numbers. -/
theorem spec_SumByte_f (k : Nat) (hk : 8 < k) (s b : Int) : spec_SumByte.f k s b = some ((it 8 ((s % 4294967296).toNat ^^^ (b % 256).toNat) : Nat) : Int) := by
  unfold spec_SumByte.f
  rw [i64_mask32, i64_mask8, (u32_of s).1, (u8_of b).1, i64_xor _ _ (by have := (u32_of s).2; omega) (by have := (u8_of b).2; omega)]
  rw [Int.toNat_natCast, Int.toNat_natCast]
  exact spec_SumByte_l0 8 k _ (Nat.xor_lt_two_pow (u32_of s).2 (Nat.lt_of_lt_of_le (u8_of b).2 (by decide))) (by omega) hk
theorem spec_SumByte_nat (k : Nat) (hk : 8 < k) (x : Nat) (hx : x < 2 ^ 32) (c : UInt8) : spec_SumByte.f k (x : Int) (c.toNat : Int) = some ((it 8 (x ^^^ c.toNat) : Nat) : Int) := by
  have hc := c.toNat_lt
  rw [spec_SumByte_f k hk, show ((x : Int) % 4294967296).toNat = x by omega, show ((c.toNat : Int) % 256).toNat = c.toNat by omega]
theorem spec_SumByte_ev (s b : Int) : Ev (fun k => spec_SumByte.f k s b) ((it 8 ((s % 4294967296).toNat ^^^ (b % 256).toNat) : Nat) : Int) := Ev.at 9 fun k hk => spec_SumByte_f k (by omega) s b
theorem spec_SumByte_evn (x : Nat) (hx : x < 2 ^ 32) (c : UInt8) : Ev (fun k => spec_SumByte.f k (x : Int) (c.toNat : Int)) ((it 8 (x ^^^ c.toNat) : Nat) : Int) := Ev.at 9 fun k hk => spec_SumByte_nat k (by omega) x hx c
theorem spec_SumMore_l0 (s : ByteArray) (hs : s.size ≤ 140737488355328) (n : Nat) : ∀ (i x : Nat), i + n = s.size → x < 2 ^ 32 →
    Ev (fun k => spec_SumMore.l0 k s (x : Int) (i : Int)) ((sm x (s.data.toList.drop i) ^^^ 4294967295 : Nat) : Int) := by
  induction n with
  | zero =>
    intro i x hi hx
    refine Ev.step (fun k => by rw [spec_SumMore.l0]) (Ev.neg (by omega) (Ev.const ?_))
    rw [List.drop_eq_nil_of_le (by rw [size_list]; omega), show (4294967295 : Int) = ((4294967295 : Nat) : Int) from rfl, i64_xor _ _ (by omega) (by decide)]
    rfl
  | succ n ih =>
    intro i x hi hx
    have hlt : i < s.size := by omega
    refine Ev.step (fun k => by rw [spec_SumMore.l0]) (Ev.pos (by omega) (Ev.pos (by omega) ?_))
    rw [bt_list s i (by rw [size_list]; exact hlt), drop_cons s i hlt, sm_cons]
    have hc := (s.data.toList[i]'(by rw [size_list]; exact hlt)).toNat_lt
    rw [wrap64_id (by omega) (by omega), wrap64_id (by omega) (by omega)]
    refine Ev.bind (spec_SumByte_evn x hx _) ?_
    exact ih (i + 1) _ (by omega) (it_lt 8 (xor_byte_lt hx _))
theorem spec_SumMore_ev (s : Int) (b : ByteArray) (hb : b.size ≤ 140737488355328) : Ev (fun k => spec_SumMore.f k s b) ((sumMore s b.data.toList : Nat) : Int) := by
  unfold spec_SumMore.f
  have h := u32_of s
  rw [i64_mask32, h.1, show (4294967295 : Int) = ((4294967295 : Nat) : Int) from rfl, i64_xor _ _ (by omega) (by decide)]
  exact spec_SumMore_l0 b hb b.size 0 _ (by omega) (Nat.xor_lt_two_pow h.2 (by decide))
theorem spec_SumOf_ev (b : ByteArray) (hb : b.size ≤ 140737488355328) : Ev (fun k => spec_SumOf.f k b) ((sumMore 0 b.data.toList : Nat) : Int) := by
  unfold spec_SumOf.f
  exact Ev.bind (spec_SumMore_ev 0 b hb) (Ev.now _)
theorem spec_SumShift_l0 (n : Nat) (hn : n ≤ 10000) : ∀ (x : Nat), x < 2 ^ 32 → Ev (fun k => spec_SumShift.l0 k (x : Int) (n : Int)) ((shifted n x : Nat) : Int) := by
  induction n with
  | zero =>
    intro x hx
    refine Ev.step (fun k => by rw [spec_SumShift.l0]) ?_
    exact Ev.neg (by decide) (Ev.now _)
  | succ n ih =>
    intro x hx
    refine Ev.step (fun k => by rw [spec_SumShift.l0]) (Ev.pos (by omega) ?_)
    rw [wrap64_id (by omega) (by omega), show ((n + 1 : Nat) : Int) - 1 = (n : Int) by omega]
    refine Ev.bind (spec_SumByte_evn x hx 0) ?_
    rw [show x ^^^ (0 : UInt8).toNat = x from Nat.xor_zero x]
    exact ih (by omega) _ (it_lt 8 hx)
theorem spec_SumShift_ev (s n : Int) : Ev (fun k => spec_SumShift.f k s n) ((sumShift s n : Nat) : Int) := by
  unfold spec_SumShift.f sumShift
  have h := u32_of s
  have hb := brought_span n
  refine Ev.bind (spec_Brought_ev n 0 10000) ?_
  rw [i64_mask32, h.1, Int.toNat_natCast]
  have e : brought n 0 10000 = (((brought n 0 10000).toNat : Nat) : Int) := by omega
  generalize (brought n 0 10000).toNat = m at e
  rw [e]
  exact spec_SumShift_l0 m (by omega) _ h.2
theorem FnJoined : laws_FnJoined.Pure := by
  intro l _ hl _
  refine Ev.rounds (g := fun k => laws_FnJoined.f k l) ?_
  unfold laws_FnJoined.f
  rw [big_f]
  refine Ev.bind (Ev.const rfl) ?_
  by_cases h : (l.length : Int) > 1048576
  · exact Ev.pos (decide_eq_true h) (Ev.now _)
  refine Ev.neg (by rw [decide_eq_false h]; decide) ?_
  obtain ⟨a, ea, ha⟩ := spec_DrawSumOf_ev l (by omega)
  obtain ⟨s, b, eb, hb, hs⟩ := spec_DrawSumMore_ev l (by omega)
  obtain ⟨n, m, ec, hn, hm⟩ := spec_DrawSumShift_ev l (by omega)
  refine Ev.bind ea (Ev.bind eb (Ev.bind ec ?_))
  have h1 := sumMore_lt 0 a.data.toList
  have h2 := sumMore_lt 0 b.data.toList
  refine Ev.bind (impl_SumOf_ev a (by omega)) (Ev.bind (impl_SumOf_ev b (by omega)) (Ev.bind (impl_SumJoined_ev _ _ (b.size : Int) h2) ?_))
  refine Ev.pos (by dsimp only; omega) (Ev.bind (spec_SumOf_ev (a ++ b) (by rw [ByteArray.size_append]; omega)) ?_)
  refine Ev.pos ?_ (Ev.bind (impl_SumShift_ev n m) (Ev.bind (spec_SumShift_ev n m) (Ev.pos rfl ?_)))
  · refine congrArg Int.ofNat ?_
    rw [toList_app, sumOf_app, size_list]
    have e1 : (((sumMore 0 a.data.toList : Nat) : Int) % 4294967296).toNat = sumMore 0 a.data.toList := by omega
    have e2 : (brought (b.size : Int) 0 10000).toNat = b.size := by
      unfold brought
      rw [if_neg (by decide), if_neg (by omega), if_neg (by omega), Int.toNat_natCast]
    unfold sumShift
    rw [e1, e2]
  · refine Ev.bind (impl_SumShift_ev 128 1) (Ev.const ?_)
    decide +kernel
end Go.Proofs.Ytcblnckmmlamlaa.Pure
