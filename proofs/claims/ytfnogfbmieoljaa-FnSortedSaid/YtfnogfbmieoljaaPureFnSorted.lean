/- The law FnSorted answers true for every draw: names are told in order, each once, and no others. Conditions: those of the given row, and no others. -/
import Derived.Test.YtfnogfbmieoljaaMFnSortedx4
namespace Go.Proofs.Ytfnogfbmieoljaa.Pure
open Go.RowKit Go.Proofs.Ytfnogfbmieoljaa.MFnSorted Go.Proofs.YtfnogfbmieoljaaW.PrintWords Go.Proofs.YtfnogfbmieoljaaW.PrintLast Go.Proofs.YtfnogfbmieoljaaW.PrintMore
set_option linter.unusedVariables false
set_option linter.unusedSimpArgs false
def dg16 (n : Nat) : UInt8 := UInt8.ofNat (if n < 10 then 48 + n else 87 + n)
/-! ### Whole numbers and bits -/
theorem wrap64_id {x : Int} (h0 : -9223372036854775808 ≤ x) (h1 : x ≤ 9223372036854775807) : wrap64 x = x := by unfold wrap64; omega
theorem wf_i64 {x : Int} (h : (Lit.int .i64 x).wf = true) : -9223372036854775808 ≤ x ∧ x ≤ 9223372036854775807 := by
  simp only [Lit.wf, IntKind.min, IntKind.max, IntKind.signed, IntKind.bits, Bool.and_eq_true, decide_eq_true_eq, if_true] at h
  omega
theorem mod_toNat_nat (a : Nat) (m : Nat) : (((a : Int) % (m : Int)).toNat) = a % m := by
  rw [← Int.natCast_emod, Int.toNat_natCast]
theorem bv_mask (j : Nat) (hj : j < 64) (x : Int) : (BitVec.ofInt 64 x &&& BitVec.ofInt 64 ((2 ^ j - 1 : Nat) : Int)).toNat = (x % ((2 ^ j : Nat) : Int)).toNat := by
  have hle : 2 ^ j ≤ 2 ^ 63 := Nat.pow_le_pow_right (by decide) (by omega)
  have hpos : 0 < 2 ^ j := Nat.two_pow_pos j
  have hlt : 2 ^ j - 1 < 2 ^ 64 := by omega
  have hd : (2 : Nat) ^ j ∣ 2 ^ 64 := Nat.pow_dvd_pow 2 (by omega)
  rw [BitVec.ofInt_natCast, BitVec.toNat_and, BitVec.toNat_ofNat, Nat.mod_eq_of_lt hlt, Nat.and_two_pow_sub_one_eq_mod, BitVec.toNat_ofInt]
  have h0 : 0 ≤ x % ((2 ^ 64 : Nat) : Int) := Int.emod_nonneg _ (by simp)
  have h1 : 0 ≤ x % ((2 ^ j : Nat) : Int) := Int.emod_nonneg _ (by omega)
  have : (((x % ((2 ^ 64 : Nat) : Int)).toNat % 2 ^ j : Nat) : Int) = x % ((2 ^ j : Nat) : Int) := by
    rw [Int.natCast_emod, Int.toNat_of_nonneg h0]
    exact Int.emod_emod_of_dvd x (Int.natCast_dvd_natCast.mpr hd)
  omega
/-- A mask of the lowest j bits, of any i64. -/
theorem i64_mask (j : Nat) (hj : j < 64) (x : Int) : Go.bits .and .i64 x (((2 ^ j - 1 : Nat) : Int)) = x % ((2 ^ j : Nat) : Int) := by
  have hpos : 0 < 2 ^ j := Nat.two_pow_pos j
  have hle : 2 ^ j ≤ 2 ^ 63 := Nat.pow_le_pow_right (by decide) (by omega)
  show IntKind.i64.wrap (((BitVec.ofInt 64 x &&& BitVec.ofInt 64 ((2 ^ j - 1 : Nat) : Int)).toNat : Nat) : Int) = _
  rw [bv_mask j hj x]
  have h1 : 0 ≤ x % ((2 ^ j : Nat) : Int) := Int.emod_nonneg _ (by omega)
  have h2 : x % ((2 ^ j : Nat) : Int) < ((2 ^ j : Nat) : Int) := Int.emod_lt_of_pos _ (by omega)
  rw [Int.toNat_of_nonneg h1, IntKind.wrap_i64]
  have h3 : ((2 ^ j : Nat) : Int) ≤ ((2 ^ 63 : Nat) : Int) := Int.ofNat_le.mpr hle
  have h5 : ((2 ^ 63 : Nat) : Int) = 9223372036854775808 := by decide
  omega
theorem i64_mask32 (x : Int) : Go.bits .and .i64 x 4294967295 = x % 4294967296 := i64_mask 32 (by decide) x
theorem i64_mask8 (x : Int) : Go.bits .and .i64 x 255 = x % 256 := i64_mask 8 (by decide) x
theorem i64_mask7 (x : Int) : Go.bits .and .i64 x 127 = x % 128 := i64_mask 7 (by decide) x
theorem i64_mask4 (x : Int) : Go.bits .and .i64 x 15 = x % 16 := i64_mask 4 (by decide) x
theorem i64_mask1 (x : Int) : Go.bits .and .i64 x 1 = x % 2 := i64_mask 1 (by decide) x
theorem xor_nat (k : IntKind) (j : Nat) (hj : j ≤ k.bits) (hk : ∀ n : Int, 0 ≤ n → n < 2 ^ j → k.wrap n = n) (a b : Nat) (ha : a < 2 ^ j) (hb : b < 2 ^ j) :
    Go.bits .xor k a b = ((a ^^^ b : Nat) : Int) := by
  have hp : 2 ^ j ≤ 2 ^ k.bits := Nat.pow_le_pow_right (by decide) hj
  have ha' : a % 2 ^ k.bits = a := Nat.mod_eq_of_lt (Nat.lt_of_lt_of_le ha hp)
  have hb' : b % 2 ^ k.bits = b := Nat.mod_eq_of_lt (Nat.lt_of_lt_of_le hb hp)
  simp only [Go.bits, BitVec.ofInt_natCast, BitVec.toNat_xor, BitVec.toNat_ofNat, ha', hb']
  exact hk _ (Int.natCast_nonneg _) (by exact_mod_cast Nat.xor_lt_two_pow ha hb)
theorem wraps_i64 (n : Int) (h0 : 0 ≤ n) (h1 : n < 2 ^ 63) : IntKind.i64.wrap n = n := by rw [IntKind.wrap_i64]; omega
theorem wraps_u32 (n : Int) (h0 : 0 ≤ n) (h1 : n < 2 ^ 32) : IntKind.u32.wrap n = n := by rw [IntKind.wrap_u32]; omega
theorem i64_xor (a b : Nat) (ha : a < 2 ^ 63) (hb : b < 2 ^ 63) : Go.bits .xor .i64 a b = ((a ^^^ b : Nat) : Int) := xor_nat .i64 63 (by decide) wraps_i64 a b ha hb
theorem u32_xor (a b : Nat) (ha : a < 2 ^ 32) (hb : b < 2 ^ 32) : Go.bits .xor .u32 a b = ((a ^^^ b : Nat) : Int) := xor_nat .u32 32 (by decide) wraps_u32 a b ha hb
theorem i64_or (a b : Nat) (ha : a < 2 ^ 63) (hb : b < 2 ^ 63) : Go.bits .or .i64 a b = ((a ||| b : Nat) : Int) := (Go.bits_nat .i64 63 (by decide) wraps_i64 a b ha hb).2
theorem u8_or (a b : Nat) (ha : a < 2 ^ 8) (hb : b < 2 ^ 8) : Go.bits .or .u8 a b = ((a ||| b : Nat) : Int) := (Go.bits_nat .u8 8 (by decide) Go.wraps_u8 a b ha hb).2
theorem u32_and1 (a : Nat) (ha : a < 2 ^ 32) : Go.bits .and .u32 a 1 = ((a % 2 : Nat) : Int) := by
  rw [show (1 : Int) = ((1 : Nat) : Int) from rfl, (Go.bits_nat .u32 32 (by decide) wraps_u32 a 1 ha (by decide)).1, show (1 : Nat) = 2 ^ 1 - 1 from rfl, Nat.and_two_pow_sub_one_eq_mod]
/-! ### Bytes of a text -/
theorem bt_list (s : ByteArray) (i : Nat) (h : i < s.data.toList.length) : bt s (i : Int) = ((s.data.toList[i]).toNat : Int) := by
  have h' : i < s.size := by rw [Array.length_toList] at h; exact h
  have hn : (i : Int).toNat < s.size := by rw [Int.toNat_natCast]; exact h'
  rw [← bt_at s i hn]
  rfl
theorem size_list (s : ByteArray) : s.data.toList.length = s.size := by rw [Array.length_toList]; rfl
theorem drop_cons (s : ByteArray) (i : Nat) (h : i < s.size) : s.data.toList.drop i = s.data.toList[i]'(by rw [size_list]; exact h) :: s.data.toList.drop (i + 1) :=
  List.drop_eq_getElem_cons (by rw [size_list]; exact h)
/-! ### From some number of rounds on -/
section
variable {α : Type} {f g : Nat → Option α} {r : α} {c : Prop} [Decidable c]
theorem Ev.pos (h : c) (e : Ev f r) : Ev (fun k => if c then f k else g k) r := Ev.congr (fun _ => if_pos h) e
theorem Ev.neg (h : ¬ c) (e : Ev g r) : Ev (fun k => if c then f k else g k) r := Ev.congr (fun _ => if_neg h) e
theorem Ev.const {o : Option α} (h : o = some r) : Ev (fun _ => o) r := ⟨0, fun _ _ => h⟩
theorem Ev.at (K : Nat) (h : ∀ k, K ≤ k → f k = some r) : Ev f r := ⟨K, h⟩
theorem Ev.of_eq {r' : α} (e : Ev f r) (h : r = r') : Ev f r' := h ▸ e
end
theorem Ev.both {α β : Type} {f : Nat → Option α} {g : Nat → Option β} {a : α} {b : β} (h : Ev f a) (h' : Ev g b) : ∃ k, f k = some a ∧ g k = some b := by
  obtain ⟨K, h⟩ := h
  obtain ⟨K', h'⟩ := h'
  exact ⟨max K K', h _ (by omega), h' _ (by omega)⟩
theorem big_f (l : List Int) : laws_big.f l = some (decide ((l.length : Int) > 1048576)) := rfl
/-! ### Texts as lists of bytes -/
def mkT (l : List UInt8) : ByteArray := ⟨l.toArray⟩
theorem mkT_list (l : List UInt8) : (mkT l).data.toList = l := rfl
theorem ba_ext {a b : ByteArray} (h : a.data.toList = b.data.toList) : a = b := by
  cases a; cases b
  exact congrArg ByteArray.mk (Array.toList_inj.1 h)
theorem mkT_of (a : ByteArray) : mkT a.data.toList = a := ba_ext rfl
theorem toList_app2 (a b : ByteArray) : (a ++ b).data.toList = a.data.toList ++ b.data.toList := by rw [ByteArray.data_append, Array.toList_append]
theorem mkT_size (l : List UInt8) : (mkT l).size = l.length := by rw [← size_list, mkT_list]
def fig (n : Nat) : Int := if n < 10 then ((48 + n : Nat) : Int) else ((87 + n : Nat) : Int)
theorem fig_table : ∀ n : Nat, n < 16 → bt (⟨#[48, 49, 50, 51, 52, 53, 54, 55, 56, 57, 97, 98, 99, 100, 101, 102]⟩ : ByteArray) (n : Int) = fig n := by decide +kernel
theorem fig_byte (n : Nat) : UInt8.ofNat (fig n).toNat = dg16 n := by
  unfold fig dg16
  split <;> rw [Int.toNat_natCast]
/-! ### Eight figures -/
def hx : Nat → Nat → List UInt8
  | 0, _ => []
  | m + 1, u => hx m (u / 16) ++ [dg16 (u % 16)]
theorem hx_length (m : Nat) : ∀ u, (hx m u).length = m := by
  induction m with
  | zero => intro u; rfl
  | succ m ih => intro u; rw [hx, List.length_append, ih]; rfl
theorem hx_cons (m : Nat) : ∀ u, hx (m + 1) u = dg16 (u / 16 ^ m % 16) :: hx m u := by
  induction m with
  | zero => intro u; rw [hx, hx, Nat.pow_zero, Nat.div_one]; rfl
  | succ m ih =>
    intro u
    rw [hx, ih (u / 16), hx, Nat.div_div_eq_div_mul, show 16 * 16 ^ m = 16 ^ (m + 1) by rw [Nat.pow_succ, Nat.mul_comm]]; rfl
theorem hx_zero (m : Nat) : hx m 0 = List.replicate m 48 := by
  induction m with
  | zero => rfl
  | succ m ih => rw [hx, Nat.zero_div, ih, List.replicate_succ']; rfl
def segName (u : Nat) : ByteArray := mkT ([115] ++ hx 8 u ++ [46, 115, 101, 103])
theorem segName_size (u : Nat) : (segName u).size = 13 := by unfold segName; rw [mkT_size, List.length_append, List.length_append, hx_length]; rfl
def segOf (n : Int) : ByteArray := if 0 ≤ n ∧ n ≤ 1000000000 then segName n.toNat else ⟨#[]⟩
theorem l01In_f (a b c : Int) : spec_l01In.f a b c = some (decide (b ≤ a ∧ a ≤ c)) := by
  unfold spec_l01In.f
  by_cases h : a ≥ b
  · rw [if_pos h]; congr 1; rw [decide_eq_decide]; omega
  · rw [if_neg h]; congr 1; symm; rw [decide_eq_false_iff_not]; omega
def dgs : Nat → Nat → List Int
  | 0, _ => []
  | m + 1, u => fig (u / 16 ^ m % 16) :: dgs m u
theorem dgs_length (m u : Nat) : (dgs m u).length = m := by
  induction m with
  | zero => rfl
  | succ m ih => rw [dgs, List.length_cons, ih]
theorem dgs_bytes (m u : Nat) : (strOfNums (dgs m u)).data.toList = hx m u := by
  induction m with
  | zero => rfl
  | succ m ih =>
    rw [hx_cons, dgs, ← ih, ← fig_byte]; rfl
theorem u64_wrap4 (i : Nat) (hi : i ≤ 7) : IntKind.u64.wrap (4 * (i : Int)) = 4 * (i : Int) := by
  rw [IntKind.wrap_u64]; omega
theorem shr_hex (u i : Nat) (hi : i ≤ 7) : shr .i64 (u : Int) (4 * (i : Int)) = ((u / 16 ^ i : Nat) : Int) := by
  unfold shr
  rw [show min ((4 * (i : Int)).toNat) IntKind.i64.bits = 4 * i by have : IntKind.i64.bits = 64 := rfl; omega, show (16 : Nat) ^ i = 2 ^ (4 * i) by rw [show (16 : Nat) = 2 ^ 4 from rfl, ← Nat.pow_mul], Int.natCast_ediv, Int.natCast_pow]
  rfl
theorem spec_SegmentName_l0 (u : Nat) (m : Nat) : ∀ (acc : List Int), m ≤ 8 → acc.length + m = 8 →
    Ev (fun k => spec_SegmentName.l0 k (u : Int) acc ((m : Int) - 1)) (((⟨#[115]⟩ : ByteArray) ++ (strOfNums (acc ++ dgs m u))) ++ (⟨#[46, 115, 101, 103]⟩ : ByteArray)) := by
  induction m with
  | zero =>
    intro acc _ ha
    have hz : (strOfNums acc).size = 8 := by rw [strOfNums_size]; omega
    refine Ev.step (fun k => by rw [spec_SegmentName.l0]) (Ev.neg (by omega) (Ev.pos (by omega) (Ev.pos (by omega) (Ev.const ?_))))
    rw [dgs, List.append_nil]
  | succ m ih =>
    intro acc hm ha
    refine Ev.step (fun k => by rw [spec_SegmentName.l0]) (Ev.pos (by omega) ?_)
    rw [show ((m + 1 : Nat) : Int) - 1 = (m : Int) by omega, wrap64_id (x := 4 * (m : Int)) (by omega) (by omega), u64_wrap4 m (by omega), shr_hex u m (by omega), i64_mask4, show ((u / 16 ^ m : Nat) : Int) % 16 = ((u / 16 ^ m % 16 : Nat) : Int) by omega, fig_table _ (by omega), wrap64_id (x := (m : Int) - 1) (by omega) (by omega)]
    refine Ev.pos (by omega) (Ev.pos (by omega) (Ev.pos (by omega) (Ev.pos (by omega) ?_)))
    have := ih (acc ++ [fig (u / 16 ^ m % 16)]) (by omega) (by rw [List.length_append, List.length_singleton]; omega)
    rw [List.append_assoc] at this
    exact this
theorem spec_SegmentName_ev (n : Int) : Ev (fun k => spec_SegmentName.f k n) (segOf n) := by
  unfold spec_SegmentName.f segOf
  rw [l01In_f]
  refine Ev.bind (Ev.const rfl) ?_
  by_cases h : 0 ≤ n ∧ n ≤ 1000000000
  · refine Ev.of_eq ?_ (if_pos h).symm
    obtain ⟨u, rfl⟩ := Int.eq_ofNat_of_zero_le h.1
    refine Ev.pos (decide_eq_true h) (Ev.of_eq (spec_SegmentName_l0 u 8 [] (by decide) rfl) ?_)
    refine ba_ext ?_
    rw [toList_app2, toList_app2, List.nil_append, dgs_bytes, Int.toNat_natCast]
    unfold segName
    rw [mkT_list]
  · refine Ev.of_eq (r := (⟨#[]⟩ : ByteArray)) ?_ (if_neg h).symm
    exact Ev.neg (by rw [decide_eq_false h]; decide) (Ev.now _)
def tmpOf (n : Int) : ByteArray := if 0 ≤ n ∧ n ≤ 1000000000 then segName n.toNat ++ (⟨#[46, 116, 109, 112]⟩ : ByteArray) else ⟨#[]⟩
theorem spec_TempName_ev (n : Int) : Ev (fun k => spec_TempName.f k n) (tmpOf n) := by
  unfold tmpOf
  by_cases c : 0 ≤ n ∧ n ≤ 1000000000
  · refine Ev.of_eq ?_ (if_pos c).symm
    have e : segOf n = segName n.toNat := by unfold segOf; rw [if_pos c]
    have hz := segName_size n.toNat
    unfold spec_TempName.f
    refine Ev.bind (spec_SegmentName_ev n) ?_
    rw [e]
    refine Ev.neg ?_ (Ev.pos (by omega) (Ev.now _))
    intro h
    have := congrArg List.length h
    rw [ByteArray.toList_eq, Array.length_toList] at this
    change (segName n.toNat).size = 0 at this
    omega
  · refine Ev.of_eq (r := (⟨#[]⟩ : ByteArray)) ?_ (if_neg c).symm
    have e : segOf n = (⟨#[]⟩ : ByteArray) := by unfold segOf; rw [if_neg c]
    unfold spec_TempName.f
    refine Ev.bind (spec_SegmentName_ev n) ?_
    rw [e]
    exact Ev.pos (by rw [ByteArray.toList_eq]) (Ev.now _)
/-! ### The reference's cursor over a draw -/
def Inside (b : List Int) (i : Int) : Prop := 0 ≤ i ∧ i ≤ (b.length : Int)
theorem l01Byte_f (b : List Int) (hb : b.length ≤ 140737488355328) (i h : Int) (hi : Inside b i) : ∃ x i' h', spec_l01Byte.f b i h = some (x, i', h') ∧ (0 ≤ x ∧ x ≤ 255) ∧ Inside b i' := by
  unfold Inside at *
  unfold spec_l01Byte.f
  by_cases c : i < (b.length : Int)
  · rw [if_pos c, if_pos hi.1, i64_mask8, wrap64_id (x := i + 1) (by omega) (by omega)]
    refine ⟨_, _, _, rfl, ⟨?_, ?_⟩, by omega⟩
    · exact Int.emod_nonneg _ (by decide)
    · have := Int.emod_lt_of_pos (wrap64 (Go.bits .and .i64 (Go.bits .xor .i64 ((wrap64 ((wrap64 (h * 6364136223846793005)) + 1442695040888963407)) / 8589934592) ((wrap64 ((wrap64 (h * 6364136223846793005)) + 1442695040888963407)) / 35184372088832)) 255 + wrap64 (rd b i))) (show (0 : Int) < 256 by decide)
      omega
  · rw [if_neg c, i64_mask8]
    refine ⟨_, _, _, rfl, ⟨?_, ?_⟩, hi⟩
    · exact Int.emod_nonneg _ (by decide)
    · have := Int.emod_lt_of_pos (Go.bits .xor .i64 ((wrap64 ((wrap64 (h * 6364136223846793005)) + 1442695040888963407)) / 8589934592) ((wrap64 ((wrap64 (h * 6364136223846793005)) + 1442695040888963407)) / 35184372088832)) (show (0 : Int) < 256 by decide)
      omega
theorem l01New_l0 (b : List Int) (m : Nat) : ∀ (j : Nat) (h : Int), j + m = 4001 → ∃ h', Ev (fun k => spec_l01New.l0 k b h (j : Int)) (b, 0, h') := by
  induction m with
  | zero =>
    intro j h hj
    refine ⟨h, Ev.step (fun k => by rw [spec_l01New.l0]) ?_⟩
    by_cases c : (j : Int) < (b.length : Int)
    · exact Ev.pos c (Ev.neg (by omega) (Ev.now _))
    · exact Ev.neg c (Ev.now _)
  | succ m ih =>
    intro j h hj
    by_cases c : (j : Int) < (b.length : Int)
    · by_cases c2 : (j : Int) < 4000
      · obtain ⟨h', e⟩ := ih (j + 1) (Go.bits .and .i64 (wrap64 ((wrap64 ((wrap64 (h * 131)) + (wrap64 (rd b (j : Int))))) + 7)) 1073741823) (by omega)
        refine ⟨h', Ev.step (fun k => by rw [spec_l01New.l0]) (Ev.pos c (Ev.pos c2 (Ev.pos (by omega) ?_)))⟩
        rw [wrap64_id (x := (j : Int) + 1) (by omega) (by omega)]
        exact e
      · exact ⟨h, Ev.step (fun k => by rw [spec_l01New.l0]) (Ev.pos c (Ev.neg c2 (Ev.now _)))⟩
    · exact ⟨h, Ev.step (fun k => by rw [spec_l01New.l0]) (Ev.neg c (Ev.now _))⟩
theorem l01New_ev (b : List Int) : ∃ h', Ev (fun k => spec_l01New.f k b) (b, 0, h') := by
  unfold spec_l01New.f
  exact l01New_l0 b 4001 0 _ (by decide)
theorem inside0 (b : List Int) : Inside b 0 := ⟨by decide, by omega⟩
theorem l01Below_f (b : List Int) (hb : b.length ≤ 140737488355328) (i h : Int) (hi : Inside b i) (n : Int) : ∃ x i' h', spec_l01Below.f b i h n = some (x, i', h') ∧ 0 ≤ x ∧ (1 ≤ n → x < n) ∧ (n ≤ 0 → x = 0) ∧ Inside b i' := by
  unfold spec_l01Below.f
  by_cases c0 : n ≤ 0
  · rw [if_pos c0]; exact ⟨0, i, h, rfl, by decide, fun h => by omega, fun _ => rfl, hi⟩
  rw [if_neg c0]
  by_cases c1 : n ≤ 256
  · rw [if_pos c1]
    obtain ⟨x, i1, h1, e1, hx, hi1⟩ := l01Byte_f b hb i h hi
    rw [e1]
    simp only [Option.bind_some]
    rw [if_neg (by omega)]
    refine ⟨_, _, _, rfl, ?_, fun _ => ?_, fun h => by omega, hi1⟩
    · rw [Int.tmod_eq_emod_of_nonneg hx.1]; exact Int.emod_nonneg _ (by omega)
    · rw [Int.tmod_eq_emod_of_nonneg hx.1]; exact Int.emod_lt_of_pos _ (by omega)
  · rw [if_neg c1]
    obtain ⟨x, i1, h1, e1, hx, hi1⟩ := l01Byte_f b hb i h hi
    obtain ⟨y, i2, h2, e2, hy, hi2⟩ := l01Byte_f b hb i1 h1 hi1
    obtain ⟨z, i3, h3, e3, hz, hi3⟩ := l01Byte_f b hb i2 h2 hi2
    obtain ⟨w, i4, h4, e4, hw, hi4⟩ := l01Byte_f b hb i3 h3 hi3
    rw [e1]; simp only [Option.bind_some]
    rw [e2]; simp only [Option.bind_some]
    rw [e3]; simp only [Option.bind_some]
    rw [e4]; simp only [Option.bind_some]
    rw [if_neg (by omega), wrap64_id (x := x * 16777216) (by omega) (by omega), wrap64_id (x := y * 65536) (by omega) (by omega), wrap64_id (x := z * 256) (by omega) (by omega), wrap64_id (x := x * 16777216 + y * 65536) (by omega) (by omega), wrap64_id (x := x * 16777216 + y * 65536 + z * 256) (by omega) (by omega), wrap64_id (by omega) (by omega)]
    have hs : 0 ≤ x * 16777216 + y * 65536 + z * 256 + w := by omega
    refine ⟨_, _, _, rfl, ?_, fun _ => ?_, fun h => by omega, hi4⟩
    · rw [Int.tmod_eq_emod_of_nonneg hs]; exact Int.emod_nonneg _ (by omega)
    · rw [Int.tmod_eq_emod_of_nonneg hs]; exact Int.emod_lt_of_pos _ (by omega)
theorem l01Pick_f (b : List Int) (hb : b.length ≤ 140737488355328) (i h : Int) (hi : Inside b i) (l : List ByteArray) (hl : l ≠ []) : ∃ x i' h', spec_l01Pick.f b i h l = some (x, i', h') ∧ x ∈ l ∧ Inside b i' := by
  obtain ⟨x, i1, h1, e1, h0, hlt, _, hi1⟩ := l01Below_f b hb i h hi (l.length : Int)
  have hpos : 1 ≤ (l.length : Int) := by have := List.length_pos_iff.mpr hl; omega
  unfold spec_l01Pick.f
  rw [e1]
  simp only [Option.bind_some]
  rw [if_pos h0, if_pos (hlt hpos)]
  refine ⟨_, _, _, rfl, ?_, hi1⟩
  have hx : x.toNat < l.length := by have := hlt hpos; omega
  unfold rdOf
  rw [List.getD_eq_getElem?_getD, List.getElem?_eq_getElem hx]
  exact List.getElem_mem hx
theorem segOf_short (n : Int) : (segOf n).size ≤ 13 := by
  unfold segOf
  split
  · rw [segName_size]; omega
  · decide
theorem tmpOf_short (n : Int) : (tmpOf n).size ≤ 17 := by
  unfold tmpOf
  split
  · rw [ByteArray.size_append, segName_size]; decide
  · decide
theorem l04Name_ev (b : List Int) (hb : b.length ≤ 140737488355328) (i h : Int) (hi : Inside b i) : ∃ s i' h', Ev (fun k => spec_l04Name.f k b i h) (s, i', h') ∧ s.size ≤ 21 ∧ Inside b i' := by
  unfold spec_l04Name.f
  obtain ⟨c, i1, h1, e1, _, _, _, hi1⟩ := l01Below_f b hb i h hi 6
  by_cases c0 : c = 0
  · obtain ⟨s, i2, h2, e2, hs, hi2⟩ := l01Pick_f b hb i1 h1 hi1 [(⟨#[]⟩ : ByteArray), (⟨#[97]⟩ : ByteArray), (⟨#[114, 101, 97, 100, 109, 101]⟩ : ByteArray), (⟨#[115, 48, 48, 48, 48, 48, 48, 48, 97, 46, 115, 101, 103]⟩ : ByteArray), (⟨#[115, 48, 48, 48, 48, 48, 48, 48, 65, 46, 115, 101, 103]⟩ : ByteArray), (⟨#[115, 51, 98, 57, 97, 99, 97, 48, 49, 46, 115, 101, 103]⟩ : ByteArray), (⟨#[115, 48, 48, 48, 48, 48, 48, 48, 48, 46, 115, 101, 103, 46, 116, 109, 112]⟩ : ByteArray), (⟨#[115, 48, 48, 48, 48, 48, 48, 48, 46, 115, 101, 103]⟩ : ByteArray), (⟨#[120, 48, 48, 48, 48, 48, 48, 48, 48, 46, 115, 101, 103]⟩ : ByteArray), (⟨#[115, 48, 48, 48, 48, 48, 48, 48, 48, 46, 115, 101, 104]⟩ : ByteArray), (⟨#[97, 32, 98]⟩ : ByteArray), (⟨#[97, 97, 97, 97, 97, 97, 97, 97, 97, 97, 97, 97, 97, 97, 97, 97, 97, 97, 97, 97, 97]⟩ : ByteArray), (⟨#[97, 97, 97, 97, 97, 97, 97, 97, 97, 97, 97, 97, 97, 97, 97, 97, 97, 97, 97, 97]⟩ : ByteArray)] (by simp)
    refine ⟨s, i2, h2, Ev.bind (Ev.const e1) (Ev.pos c0 (Ev.bind (Ev.const e2) (Ev.now _))), ?_, hi2⟩
    simp only [List.mem_cons, List.not_mem_nil, or_false] at hs
    rcases hs with rfl | rfl | rfl | rfl | rfl | rfl | rfl | rfl | rfl | rfl | rfl | rfl | rfl <;> decide
  · obtain ⟨y, i2, h2, e2, _, _, _, hi2⟩ := l01Below_f b hb i1 h1 hi1 40
    by_cases c1 : c = 1
    · have := tmpOf_short y
      exact ⟨tmpOf y, i2, h2, Ev.bind (Ev.const e1) (Ev.neg c0 (Ev.pos c1 (Ev.bind (Ev.const e2) (Ev.bind (spec_TempName_ev y) (Ev.now _))))), by omega, hi2⟩
    · have := segOf_short y
      exact ⟨segOf y, i2, h2, Ev.bind (Ev.const e1) (Ev.neg c0 (Ev.neg c1 (Ev.bind (Ev.const e2) (Ev.bind (spec_SegmentName_ev y) (Ev.now _))))), by omega, hi2⟩
theorem spec_DrawSortedNames_l0 (b : List Int) (hb : b.length ≤ 140737488355328) (m : Nat) : ∀ (j : Nat) (acc : List ByteArray) (i h : Int), j + m = 7 → acc.length = j → (∀ x ∈ acc, x.size ≤ 21) → Inside b i →
    ∃ s, Ev (fun k => spec_DrawSortedNames.l0 k acc (j : Int) b i h) s ∧ s.length ≤ 7 ∧ (∀ x ∈ s, x.size ≤ 21) := by
  induction m with
  | zero =>
    intro j acc i h hj ha hx hi
    obtain ⟨y, i1, h1, e1, h0, hlt, _, hi1⟩ := l01Below_f b hb i h hi 7
    have := hlt (by decide)
    refine ⟨acc, Ev.step (fun k => by rw [spec_DrawSortedNames.l0]) (Ev.bind (Ev.const e1) (Ev.neg (show ¬ (j : Int) < y by omega) (Ev.now _))), by omega, hx⟩
  | succ m ih =>
    intro j acc i h hj ha hx hi
    obtain ⟨y, i1, h1, e1, h0, hlt, _, hi1⟩ := l01Below_f b hb i h hi 7
    by_cases c : (j : Int) < y
    · obtain ⟨s, i2, h2, e2, hs, hi2⟩ := l04Name_ev b hb i1 h1 hi1
      obtain ⟨r, e, hr, hrx⟩ := ih (j + 1) (acc ++ [s]) i2 h2 (by omega) (by rw [List.length_append, List.length_singleton]; omega) (by
        intro x hxm
        rcases List.mem_append.1 hxm with h | h
        · exact hx x h
        · rw [List.mem_singleton] at h; subst h; exact hs) hi2
      refine ⟨r, Ev.step (fun k => by rw [spec_DrawSortedNames.l0]) (Ev.bind (Ev.const e1) (Ev.pos c (Ev.bind e2 (Ev.pos (show acc.length < 8796093022208 by omega) ?_)))), hr, hrx⟩
      rw [wrap64_id (by omega) (by omega)]
      exact e
    · exact ⟨acc, Ev.step (fun k => by rw [spec_DrawSortedNames.l0]) (Ev.bind (Ev.const e1) (Ev.neg c (Ev.now _))), by omega, hx⟩
theorem spec_DrawSortedNames_ev (b : List Int) (hb : b.length ≤ 140737488355328) : ∃ s, Ev (fun k => spec_DrawSortedNames.f k b) s ∧ s.length ≤ 7 ∧ (∀ x ∈ s, x.size ≤ 21) := by
  obtain ⟨h1, e1⟩ := l01New_ev b
  obtain ⟨s, e, hs⟩ := spec_DrawSortedNames_l0 b hb 7 0 [] 0 h1 (by decide) rfl (by simp) (inside0 b)
  refine ⟨s, ?_, hs⟩
  unfold spec_DrawSortedNames.f
  exact Ev.bind e1 e
theorem sameTexts_l0 (xs : List ByteArray) (hl : xs.length ≤ 9223372036854775806) (n : Nat) : ∀ (i : Nat), i + n = xs.length → Ev (fun k => laws_sameTexts.l0 k xs xs (i : Int)) true := by
  induction n with
  | zero =>
    intro i hi
    refine Ev.step (fun k => by rw [laws_sameTexts.l0]) ?_
    exact Ev.neg (by omega) (Ev.now _)
  | succ n ih =>
    intro i hi
    refine Ev.step (fun k => by rw [laws_sameTexts.l0]) (Ev.pos (by omega) (Ev.pos (by omega) (Ev.pos (by omega) ?_)))
    refine Ev.pos rfl ?_
    rw [wrap64_id (by omega) (by omega)]
    exact ih (i + 1) (by omega)
theorem sameTexts_refl (xs : List ByteArray) (hl : xs.length ≤ 9223372036854775806) : Ev (fun k => laws_sameTexts.f k xs xs) true := by
  unfold laws_sameTexts.f
  exact Ev.pos rfl (sameTexts_l0 xs hl xs.length 0 (by omega))
/-! ### Names -/
def okc (c : UInt8) : Bool := decide (97 ≤ c.toNat ∧ c.toNat ≤ 122) || decide (48 ≤ c.toNat ∧ c.toNat ≤ 57) || decide (c.toNat = 46) || decide (c.toNat = 45)
def nameOk (l : List UInt8) : Bool := l.all okc && decide (1 ≤ l.length ∧ l.length ≤ 20)
theorem okc_true {c : UInt8} (h : (97 ≤ c.toNat ∧ c.toNat ≤ 122) ∨ (48 ≤ c.toNat ∧ c.toNat ≤ 57) ∨ c.toNat = 46 ∨ c.toNat = 45) : okc c = true := by
  unfold okc
  rcases h with h | h | h | h
  · simp [h]
  · simp [h]
  · simp [h]
  · simp [h]
theorem okc_false {c : UInt8} (h1 : ¬ (97 ≤ c.toNat ∧ c.toNat ≤ 122)) (h2 : ¬ (48 ≤ c.toNat ∧ c.toNat ≤ 57)) (h3 : ¬ c.toNat = 46) (h4 : ¬ c.toNat = 45) : okc c = false := by
  unfold okc
  rw [decide_eq_false h1, decide_eq_false h2, decide_eq_false h3, decide_eq_false h4]; rfl
theorem rd_S (xs : List ByteArray) (i : Nat) (h : i < xs.length) : rdOf ByteArray.empty xs (i : Int) = xs[i] := by
  unfold rdOf
  rw [Int.toNat_natCast, List.getD_eq_getElem?_getD, List.getElem?_eq_getElem h]; rfl
/-! ### Names in order, each once -/
theorem lt_of_not {a b : List UInt8} (h : ¬ b < a) (hne : b ≠ a) : a < b := by
  rcases Classical.em (a < b) with h1 | h1
  · exact h1
  · exact absurd (List.le_antisymm (List.not_lt.mp h1) (List.not_lt.mp h)) hne
def insAt (x : ByteArray) : List ByteArray → Nat
  | [] => 0
  | y :: l => if y.data.toList < x.data.toList then insAt x l + 1 else 0
open Classical in
noncomputable def insName (x : ByteArray) : List ByteArray → List ByteArray
  | [] => [x]
  | y :: l => if y.data.toList < x.data.toList then y :: insName x l else if y = x then y :: l else x :: y :: l
theorem insAt_le (x : ByteArray) : ∀ l, insAt x l ≤ l.length
  | [] => Nat.le_refl _
  | y :: l => by
    unfold insAt
    have := insAt_le x l
    rw [List.length_cons]
    split <;> omega
theorem insAt_before (x : ByteArray) : ∀ (l : List ByteArray) (i : Nat) (h : i < l.length), i < insAt x l → l[i].data.toList < x.data.toList
  | y :: l, 0, _, hi => by
    unfold insAt at hi
    split at hi
    · assumption
    · omega
  | y :: l, i + 1, h, hi => by
    unfold insAt at hi
    split at hi
    · exact insAt_before x l i (by rw [List.length_cons] at h; omega) (by omega)
    · omega
theorem insAt_stop (x : ByteArray) : ∀ (l : List ByteArray) (h : insAt x l < l.length), ¬ (l[insAt x l]).data.toList < x.data.toList
  | [], h => absurd h (Nat.not_lt_zero _)
  | y :: l, h => by
    by_cases hc : y.data.toList < x.data.toList
    · have e : insAt x (y :: l) = insAt x l + 1 := by rw [insAt, if_pos hc]
      have h2 : insAt x l < l.length := by rw [e, List.length_cons] at h; omega
      have := insAt_stop x l h2
      simpa only [e, List.getElem_cons_succ] using this
    · have e : insAt x (y :: l) = 0 := by rw [insAt, if_neg hc]
      simpa only [e, List.getElem_cons_zero] using hc
theorem insName_same (x : ByteArray) : ∀ (l : List ByteArray) (h : insAt x l < l.length), l[insAt x l] = x → insName x l = l
  | [], h, _ => absurd h (Nat.not_lt_zero _)
  | y :: l, h, he => by
    by_cases hc : y.data.toList < x.data.toList
    · have e : insAt x (y :: l) = insAt x l + 1 := by rw [insAt, if_pos hc]
      have h2 : insAt x l < l.length := by rw [e, List.length_cons] at h; omega
      simp only [e, List.getElem_cons_succ] at he
      rw [insName, if_pos hc, insName_same x l h2 he]
    · have e : insAt x (y :: l) = 0 := by rw [insAt, if_neg hc]
      simp only [e, List.getElem_cons_zero] at he
      rw [insName, if_neg hc, if_pos he]
theorem insName_new (x : ByteArray) : ∀ (l : List ByteArray), (∀ h : insAt x l < l.length, l[insAt x l] ≠ x) → insName x l = l.take (insAt x l) ++ [x] ++ l.drop (insAt x l)
  | [], _ => rfl
  | y :: l, hn => by
    by_cases hc : y.data.toList < x.data.toList
    · have e : insAt x (y :: l) = insAt x l + 1 := by rw [insAt, if_pos hc]
      rw [insName, if_pos hc, e, List.take_succ_cons, List.drop_succ_cons, insName_new x l (fun h he => hn (by rw [e, List.length_cons]; omega) (by simpa only [e, List.getElem_cons_succ] using he))]
      rfl
    · have e : insAt x (y :: l) = 0 := by rw [insAt, if_neg hc]
      have hne : y ≠ x := fun he => hn (by rw [e, List.length_cons]; omega) (by simpa only [e, List.getElem_cons_zero] using he)
      rw [insName, if_neg hc, if_neg hne, e]; rfl
theorem insName_mem (x z : ByteArray) : ∀ l, z ∈ insName x l ↔ z = x ∨ z ∈ l
  | [] => by rw [insName]; simp
  | y :: l => by
    rw [insName]
    split
    · rw [List.mem_cons, insName_mem x z l, List.mem_cons]
      constructor
      · rintro (h | h | h)
        · exact .inr (.inl h)
        · exact .inl h
        · exact .inr (.inr h)
      · rintro (h | h | h)
        · exact .inr (.inl h)
        · exact .inl h
        · exact .inr (.inr h)
    · split
      · rename_i h; subst h; rw [List.mem_cons]; constructor
        · rintro (h | h)
          · exact .inl h
          · exact .inr (.inr h)
        · rintro (h | h | h)
          · exact .inl h
          · exact .inl h
          · exact .inr h
      · rw [List.mem_cons]
def InOrder (l : List ByteArray) : Prop := l.Pairwise fun a b => a.data.toList < b.data.toList
theorem insName_order (x : ByteArray) : ∀ l, InOrder l → InOrder (insName x l)
  | [], _ => by rw [insName]; exact List.pairwise_singleton _ _
  | y :: l, h => by
    obtain ⟨h1, h2⟩ := List.pairwise_cons.mp h
    rw [insName]
    split
    · rename_i hc
      refine List.pairwise_cons.mpr ⟨fun z hz => ?_, insName_order x l h2⟩
      rcases (insName_mem x z l).mp hz with rfl | hz
      · exact hc
      · exact h1 z hz
    · rename_i hc
      split
      · exact h
      · rename_i hne
        have hlt : x.data.toList < y.data.toList := lt_of_not hc (fun he => hne (ba_ext he))
        refine List.pairwise_cons.mpr ⟨fun z hz => ?_, h⟩
        rcases List.mem_cons.mp hz with rfl | hz
        · exact hlt
        · exact List.lt_trans hlt (h1 z hz)
theorem inOrder_ext : ∀ (a b : List ByteArray), InOrder a → InOrder b → (∀ z, z ∈ a ↔ z ∈ b) → a = b
  | [], [], _, _, _ => rfl
  | [], y :: b, _, _, h => absurd ((h y).mpr List.mem_cons_self) List.not_mem_nil
  | x :: a, [], _, _, h => absurd ((h x).mp List.mem_cons_self) List.not_mem_nil
  | x :: a, y :: b, ha, hb, h => by
    obtain ⟨a1, a2⟩ := List.pairwise_cons.mp ha
    obtain ⟨b1, b2⟩ := List.pairwise_cons.mp hb
    have exy : x = y := by
      rcases List.mem_cons.mp ((h x).mp List.mem_cons_self) with e | hx
      · exact e
      · rcases List.mem_cons.mp ((h y).mpr List.mem_cons_self) with e | hy
        · exact e.symm
        · exact absurd (b1 x hx) (List.lt_asymm (a1 y hy))
    subst exy
    rw [inOrder_ext a b a2 b2]
    intro z
    constructor
    · intro hz
      rcases List.mem_cons.mp ((h z).mp (List.mem_cons_of_mem _ hz)) with rfl | hz2
      · exact absurd (a1 _ hz) (List.lt_irrefl _)
      · exact hz2
    · intro hz
      rcases List.mem_cons.mp ((h z).mpr (List.mem_cons_of_mem _ hz)) with rfl | hz2
      · exact absurd (b1 _ hz) (List.lt_irrefl _)
      · exact hz2
/-- The names that are right, in order, each once. -/
noncomputable def namesOf (l acc : List ByteArray) : List ByteArray := l.foldl (fun acc x => if nameOk x.data.toList = true then insName x acc else acc) acc
theorem namesOf_order : ∀ l acc, InOrder acc → InOrder (namesOf l acc)
  | [], _, h => h
  | x :: l, acc, h => by
    unfold namesOf
    rw [List.foldl_cons]
    refine namesOf_order l _ ?_
    split
    · exact insName_order x acc h
    · exact h
theorem namesOf_mem (z : ByteArray) : ∀ l acc, z ∈ namesOf l acc ↔ (z ∈ l ∧ nameOk z.data.toList = true) ∨ z ∈ acc
  | [], _ => by simp [namesOf]
  | x :: l, acc => by
    have h := namesOf_mem z l (if nameOk x.data.toList = true then insName x acc else acc)
    unfold namesOf at h ⊢
    rw [List.foldl_cons, h]
    by_cases hx : nameOk x.data.toList = true
    · rw [if_pos hx, insName_mem, List.mem_cons]
      constructor
      · rintro (⟨h1, h2⟩ | rfl | h)
        · exact .inl ⟨.inr h1, h2⟩
        · exact .inl ⟨.inl rfl, hx⟩
        · exact .inr h
      · rintro (⟨rfl | h1, h2⟩ | h)
        · exact .inr (.inl rfl)
        · exact .inl ⟨h1, h2⟩
        · exact .inr (.inr h)
    · rw [if_neg hx, List.mem_cons]
      constructor
      · rintro (⟨h1, h2⟩ | h)
        · exact .inl ⟨.inr h1, h2⟩
        · exact .inr h
      · rintro (⟨rfl | h1, h2⟩ | h)
        · exact absurd h2 hx
        · exact .inl ⟨h1, h2⟩
        · exact .inr h
/-! #### What the library's sort and Compact leave -/
theorem bang_at {S : List (List UInt8)} {j : Nat} (h : j < S.length) : S.toArray[j]! = S[j] := by
  rw [getElem!_pos S.toArray j (by simpa using h)]; simp
theorem compact_lt {S : List (List UInt8)} (hs : S.Pairwise fun a b => a ≤ b) : (Go.Lib.compact S).Pairwise fun a b => a < b := by
  unfold Go.Lib.compact Go.Lib.compactUpTo
  rw [List.pairwise_map]
  refine List.Pairwise.imp_of_mem ?_ (List.pairwise_lt_range.filter _)
  intro a b _ hb hlt
  obtain ⟨hb1, hb2⟩ := List.mem_filter.mp hb
  have hbl := List.mem_range.mp hb1
  have hle : ∀ i j (h : j < S.length) (hij : i ≤ j), S[i]'(by omega) ≤ S[j] := by
    intro i j h hij
    rcases Nat.lt_or_eq_of_le hij with h1 | h1
    · exact List.pairwise_iff_getElem.mp hs i j (by omega) h h1
    · subst h1; exact List.le_refl _
  rcases of_decide_eq_true hb2 with h0 | hne
  · omega
  · rw [bang_at hbl, bang_at (show b - 1 < S.length by omega)] at hne
    rw [bang_at hbl, bang_at (show a < S.length by omega)]
    have h1 := hle a (b - 1) (by omega) (by omega)
    have h2 := hle (b - 1) b hbl (by omega)
    exact List.lt_of_le_of_lt h1 (lt_of_not (List.not_lt.mpr h2) hne)
theorem compact_mem (S : List (List UInt8)) (x : List UInt8) : x ∈ Go.Lib.compact S ↔ x ∈ S := by
  unfold Go.Lib.compact Go.Lib.compactUpTo
  rw [List.mem_map]
  constructor
  · rintro ⟨j, hj, rfl⟩
    have hjl := List.mem_range.mp (List.mem_filter.mp hj).1
    rw [bang_at hjl]
    exact List.getElem_mem hjl
  · intro hx
    obtain ⟨j, hj, rfl⟩ := List.getElem_of_mem hx
    have key : ∀ j (h : j < S.length), ∃ i, i ∈ (List.range S.length).filter (Go.Lib.keeps S.toArray) ∧ S.toArray[i]! = S[j] := by
      intro j
      induction j with
      | zero => exact fun h => ⟨0, List.mem_filter.mpr ⟨List.mem_range.mpr h, decide_eq_true (.inl rfl)⟩, bang_at h⟩
      | succ j ih =>
        intro h
        by_cases hk : S.toArray[j + 1]! = S.toArray[j + 1 - 1]!
        · obtain ⟨i, h1, h2⟩ := ih (by omega)
          refine ⟨i, h1, h2.trans ?_⟩
          rw [bang_at h, bang_at (show j + 1 - 1 < S.length by omega)] at hk
          exact hk.symm
        · exact ⟨j + 1, List.mem_filter.mpr ⟨List.mem_range.mpr h, decide_eq_true (.inr hk)⟩, bang_at h⟩
    exact key j hj
theorem mk_D (l : List (List UInt8)) : (l.map fun x => (⟨x.toArray⟩ : ByteArray)).map (·.data.toList) = l := by rw [List.map_map]; exact List.map_id l
theorem impl_names (l : List ByteArray) : compT (sortT (dropBad l)) = namesOf l [] := by
  have hpw : (((dropBad l).map (·.data.toList)).mergeSort fun x y => decide (x ≤ y)).Pairwise fun a b => a ≤ b := by
    refine (List.pairwise_mergeSort (le := fun x y : List UInt8 => decide (x ≤ y)) ?_ ?_ _).imp (fun h => of_decide_eq_true h)
    · intro a b c h1 h2; exact decide_eq_true (List.le_trans (of_decide_eq_true h1) (of_decide_eq_true h2))
    · intro a b
      rcases List.le_total a b with h | h
      · rw [decide_eq_true h]; rfl
      · rw [decide_eq_true h, Bool.or_true]
  refine inOrder_ext _ _ ?_ (namesOf_order l [] List.Pairwise.nil) ?_
  · unfold compT sortT InOrder
    rw [mk_D, List.pairwise_map]
    exact compact_lt hpw
  · intro z
    unfold compT sortT
    rw [mk_D, namesOf_mem, List.mem_map]
    constructor
    · rintro ⟨x, hx, rfl⟩
      rw [compact_mem, List.mem_mergeSort, List.mem_map] at hx
      obtain ⟨y, hy, rfl⟩ := hx
      obtain ⟨h1, h2⟩ := List.mem_filter.mp hy
      exact .inl ⟨h1, h2⟩
    · rintro (⟨h1, h2⟩ | h)
      · refine ⟨z.data.toList, ?_, rfl⟩
        rw [compact_mem, List.mem_mergeSort, List.mem_map]
        exact ⟨z, List.mem_filter.mpr ⟨h1, h2⟩, rfl⟩
      · exact absurd h List.not_mem_nil
theorem spec_NameOk_l0 (s : ByteArray) (hs : s.size ≤ 140737488355328) (n : Nat) : ∀ (i : Nat), i + n = s.size →
    Ev (fun k => spec_NameOk.l0 k s (i : Int)) ((s.data.toList.drop i).all okc && decide (1 ≤ s.size ∧ s.size ≤ 20)) := by
  induction n with
  | zero =>
    intro i hi
    refine Ev.step (fun k => by rw [spec_NameOk.l0]) (Ev.neg (by omega) ?_)
    rw [l01In_f, List.drop_eq_nil_of_le (by rw [size_list]; omega)]
    refine Ev.bind (Ev.const rfl) (Ev.const ?_)
    refine congrArg some ?_
    rw [List.all_nil, Bool.true_and, decide_eq_decide]; omega
  | succ n ih =>
    intro i hi
    have hlt : i < s.size := by omega
    refine Ev.step (fun k => by rw [spec_NameOk.l0]) (Ev.pos (by omega) (Ev.pos (by omega) ?_))
    rw [bt_list s i (by rw [size_list]; exact hlt), drop_cons s i hlt, List.all_cons]
    have hc := (s.data.toList[i]'(by rw [size_list]; exact hlt)).toNat_lt
    have ih := ih (i + 1) (by omega)
    generalize s.data.toList[i]'(by rw [size_list]; exact hlt) = c at hc ⊢
    rw [wrap64_id (x := (c.toNat : Int)) (by omega) (by omega), wrap64_id (x := (i : Int) + 1) (by omega) (by omega), l01In_f, l01In_f]
    refine Ev.bind (Ev.const rfl) ?_
    by_cases h1 : 97 ≤ c.toNat ∧ c.toNat ≤ 122
    · refine Ev.pos (decide_eq_true (by omega)) ?_
      rw [okc_true (.inl h1), Bool.true_and]; exact ih
    · refine Ev.neg (by rw [decide_eq_false (by omega)]; decide) (Ev.bind (Ev.const rfl) ?_)
      by_cases h2 : 48 ≤ c.toNat ∧ c.toNat ≤ 57
      · refine Ev.pos (decide_eq_true (by omega)) ?_
        rw [okc_true (.inr (.inl h2)), Bool.true_and]; exact ih
      · refine Ev.neg (by rw [decide_eq_false (by omega)]; decide) ?_
        by_cases h3 : c.toNat = 46
        · refine Ev.pos (by omega) ?_
          rw [okc_true (.inr (.inr (.inl h3))), Bool.true_and]; exact ih
        · refine Ev.neg (by omega) ?_
          by_cases h4 : c.toNat = 45
          · refine Ev.pos (by omega) ?_
            rw [okc_true (.inr (.inr (.inr h4))), Bool.true_and]; exact ih
          · refine Ev.neg (by omega) ?_
            rw [okc_false h1 h2 h3 h4, Bool.false_and, Bool.false_and]; exact Ev.now _
theorem spec_NameOk_ev (s : ByteArray) (hs : s.size ≤ 140737488355328) : Ev (fun k => spec_NameOk.f k s) (nameOk s.data.toList) := by
  unfold spec_NameOk.f nameOk
  rw [size_list]
  exact spec_NameOk_l0 s hs s.size 0 (by omega)
theorem less_iff (a b : ByteArray) : (Op.bytesLess a.toList b.toList = true) ↔ a.data.toList < b.data.toList := by
  rw [bytesLess_eq, Lib.toList_data, Lib.toList_data, decide_eq_true_eq]
theorem toList_ext {a b : ByteArray} : a.toList = b.toList ↔ a = b := by
  rw [Lib.toList_data, Lib.toList_data]
  exact ⟨fun h => ba_ext h, fun h => by rw [h]⟩
theorem spec_SortedNames_l1 (xs acc : List ByteArray) (i : Nat) (hi : i < xs.length) (hl : xs.length ≤ 1048576) (ha : acc.length ≤ 1048576) (hs : xs[i].size ≤ 1048576) (r : List ByteArray)
    (hn : Ev (fun k => spec_SortedNames.l0 k xs (if nameOk xs[i].data.toList = true then insName xs[i] acc else acc) ((i : Int) + 1)) r) (n : Nat) : ∀ (j : Nat), j + n = insAt xs[i] acc →
    Ev (fun k => spec_SortedNames.l1 k xs acc (i : Int) (j : Int)) r := by
  have hat := insAt_le xs[i] acc
  have en := spec_NameOk_ev xs[i] (by omega)
  induction n with
  | zero =>
    intro j hj
    have hj : j = insAt xs[i] acc := by omega
    refine Ev.step (fun k => by rw [spec_SortedNames.l1]) ?_
    rw [rd_S xs i hi]
    rw [wrap64_id (x := (i : Int) + 1) (by omega) (by omega)]
    have tail : Ev (fun k => spec_SortedNames.l0 k xs (acc.take j ++ [xs[i]] ++ acc.drop j) ((i : Int) + 1)) r → ∀ (f : Nat → List ByteArray → Option (List ByteArray)), True := fun _ _ => trivial
    clear tail
    by_cases hlt : j < acc.length
    · refine Ev.pos (by omega) (Ev.pos (by omega) (Ev.pos (by omega) (Ev.pos (by omega) ?_)))
      rw [rd_S acc j hlt]
      have hst := insAt_stop xs[i] acc (by omega)
      refine Ev.neg (fun h => hst (by have := (less_iff _ _).mp h; simpa only [hj] using this)) (Ev.bind en ?_)
      by_cases hok : nameOk xs[i].data.toList = true
      · rw [if_pos hok] at hn
        refine Ev.pos hok ?_
        by_cases he : acc[j] = xs[i]
        · rw [insName_same _ _ (by omega) (by simpa only [← hj] using he)] at hn
          exact Ev.pos (toList_ext.mpr he) hn
        · rw [insName_new _ _ (fun h => by simpa only [← hj] using he), ← hj] at hn
          refine Ev.neg (fun h => he (toList_ext.mp h)) ?_
          rw [Int.toNat_natCast]
          refine Ev.bind (Ev.const rfl) (Ev.pos (by omega) (Ev.bind (Ev.const rfl) (Ev.pos (by rw [List.length_take]; simp; omega) (Ev.bind (Ev.const rfl) (Ev.bind (Ev.const rfl) (Ev.pos (by simp; omega) (Ev.bind (Ev.const rfl) (Ev.bind (Ev.const rfl) (Ev.pos (by simp; omega) ?_)))))))))
          rw [List.nil_append]
          exact hn
      · rw [if_neg hok] at hn
        exact Ev.neg hok hn
    · have hje : j = acc.length := by omega
      refine Ev.neg (by omega) (Ev.pos (by omega) (Ev.pos (by omega) (Ev.bind en ?_)))
      by_cases hok : nameOk xs[i].data.toList = true
      · rw [if_pos hok] at hn
        rw [insName_new _ _ (fun h => by omega), ← hj] at hn
        refine Ev.pos hok ?_
        rw [Int.toNat_natCast]
        refine Ev.bind (Ev.const rfl) (Ev.pos (by omega) (Ev.pos (by omega) (Ev.bind (Ev.const rfl) (Ev.pos (by rw [List.length_take]; simp; omega) (Ev.bind (Ev.const rfl) (Ev.bind (Ev.const rfl) (Ev.pos (by simp; omega) (Ev.bind (Ev.const rfl) (Ev.bind (Ev.const rfl) (Ev.pos (by simp; omega) ?_))))))))))
        rw [List.nil_append]
        exact hn
      · rw [if_neg hok] at hn
        exact Ev.neg hok hn
  | succ n ih =>
    intro j hj
    have hlt : j < acc.length := by omega
    refine Ev.step (fun k => by rw [spec_SortedNames.l1]) (Ev.pos (by omega) (Ev.pos (by omega) (Ev.pos (by omega) (Ev.pos (by omega) ?_))))
    rw [rd_S xs i hi, rd_S acc j hlt, wrap64_id (x := (j : Int) + 1) (by omega) (by omega)]
    exact Ev.pos ((less_iff _ _).mpr (insAt_before _ _ j hlt (by omega))) (ih (j + 1) (by omega))
theorem insName_length (x : ByteArray) (l : List ByteArray) : (insName x l).length ≤ l.length + 1 := by
  by_cases h : ∃ h : insAt x l < l.length, l[insAt x l] = x
  · obtain ⟨h1, h2⟩ := h
    rw [insName_same x l h1 h2]; omega
  · rw [insName_new x l (fun h1 h2 => h ⟨h1, h2⟩)]
    simp only [List.length_append, List.length_take, List.length_drop, List.length_singleton]
    omega
theorem spec_SortedNames_l0 (xs : List ByteArray) (hl : xs.length ≤ 1048576) (hs : ∀ x ∈ xs, x.size ≤ 1048576) (n : Nat) : ∀ (i : Nat) (acc : List ByteArray), i + n = xs.length → acc.length ≤ i →
    Ev (fun k => spec_SortedNames.l0 k xs acc (i : Int)) (namesOf (xs.drop i) acc) := by
  induction n with
  | zero =>
    intro i acc hi ha
    refine Ev.step (fun k => by rw [spec_SortedNames.l0]) (Ev.neg (by omega) (Ev.const ?_))
    rw [List.drop_eq_nil_of_le (by omega)]; rfl
  | succ n ih =>
    intro i acc hi ha
    have hi2 : i < xs.length := by omega
    refine Ev.step (fun k => by rw [spec_SortedNames.l0]) (Ev.pos (by omega) ?_)
    have := ih (i + 1) (if nameOk xs[i].data.toList = true then insName xs[i] acc else acc) (by omega) (by
      have := insName_length xs[i] acc
      split <;> omega)
    refine spec_SortedNames_l1 xs acc i hi2 hl (by omega) (hs _ (List.getElem_mem hi2)) _ ?_ (insAt xs[i] acc) 0 (by omega)
    rw [List.drop_eq_getElem_cons hi2]
    exact this
theorem spec_SortedNames_ev (xs : List ByteArray) (hl : xs.length ≤ 1048576) (hs : ∀ x ∈ xs, x.size ≤ 1048576) : Ev (fun k => spec_SortedNames.f k xs) (namesOf xs []) := by
  unfold spec_SortedNames.f
  exact spec_SortedNames_l0 xs hl hs xs.length 0 [] (by omega) (Nat.zero_le _)
theorem namesOf_length : ∀ (xs acc : List ByteArray), (namesOf xs acc).length ≤ xs.length + acc.length
  | [], acc => by simp [namesOf]
  | x :: l, acc => by
    have h := namesOf_length l (if nameOk x.data.toList = true then insName x acc else acc)
    have h2 := insName_length x acc
    unfold namesOf at h ⊢
    rw [List.foldl_cons, List.length_cons]
    split at h <;> rename_i hc
    · rw [if_pos hc]; omega
    · rw [if_neg hc]; omega
theorem impl_SortedNames_f (xs : List ByteArray) (hl : xs.length ≤ 1048576) (hs : ∀ x ∈ xs, x.size ≤ 1048576) : impl_SortedNames.f xs = some (namesOf xs []) := by
  unfold impl_SortedNames.f
  rw [if_pos, impl_names]
  unfold namesBound
  rw [Bool.and_eq_true, List.all_eq_true]
  exact ⟨decide_eq_true (by omega), fun s h => decide_eq_true (by have := hs s h; omega)⟩
theorem FnSorted_l0 (xs ys : List ByteArray) (hy : ys.length ≤ 1048576) (hz : ∀ y ∈ ys, y.size ≤ 1048576) (ho : InOrder ys) (hk : ∀ y ∈ ys, nameOk y.data.toList = true)
    (hend : Ev (fun k => (spec_SortedNames.f k xs).bind fun t240 => ((laws_sameTexts.f k ys t240).bind fun t243 => (if t243 = true then ((impl_SortedNames.f (([(⟨#[98]⟩ : ByteArray), (⟨#[97]⟩ : ByteArray), (⟨#[98]⟩ : ByteArray), (⟨#[65]⟩ : ByteArray)] : List ByteArray))).bind fun t247 => ((laws_sameTexts.f k t247 (([(⟨#[97]⟩ : ByteArray), (⟨#[98]⟩ : ByteArray)] : List ByteArray))).bind fun t253 => (some t253))) else (some false)))) true) (n : Nat) : ∀ (i : Nat), i + n = ys.length →
    Ev (fun k => laws_FnSorted.l0 k xs ys (i : Int)) true := by
  induction n with
  | zero =>
    intro i hi
    exact Ev.step (fun k => by rw [laws_FnSorted.l0]) (Ev.neg (by omega) hend)
  | succ n ih =>
    intro i hi
    have hi2 : i < ys.length := by omega
    have hm := List.getElem_mem hi2
    have en := spec_NameOk_ev ys[i] (by have := hz _ hm; omega)
    rw [hk _ hm] at en
    refine Ev.step (fun k => by rw [laws_FnSorted.l0]) (Ev.pos (by omega) (Ev.pos (by omega) ?_))
    rw [rd_S ys i hi2]
    refine Ev.bind en (Ev.pos rfl ?_)
    rw [wrap64_id (x := (i : Int) + 1) (by omega) (by omega)]
    by_cases h0 : i = 0
    · subst h0
      exact Ev.neg (by omega) (ih 1 (by omega))
    · obtain ⟨j, rfl⟩ : ∃ j, i = j + 1 := ⟨i - 1, by omega⟩
      rw [wrap64_id (x := ((j + 1 : Nat) : Int) - 1) (by omega) (by omega), show ((j + 1 : Nat) : Int) - 1 = (j : Int) by omega]
      refine Ev.pos (by omega) (Ev.pos (by omega) (Ev.pos (by omega) ?_))
      rw [rd_S ys j (by omega)]
      exact Ev.pos ((less_iff _ _).mpr (List.pairwise_iff_getElem.mp ho j (j + 1) (by omega) hi2 (by omega))) (ih (j + 1 + 1) (by omega))
theorem names_ab : namesOf [(⟨#[98]⟩ : ByteArray), (⟨#[97]⟩ : ByteArray), (⟨#[98]⟩ : ByteArray), (⟨#[65]⟩ : ByteArray)] [] = [(⟨#[97]⟩ : ByteArray), (⟨#[98]⟩ : ByteArray)] := by
  have hab : ([97] : List UInt8) < [98] := by decide
  refine inOrder_ext _ _ (namesOf_order _ _ List.Pairwise.nil) ?_ ?_
  · refine List.pairwise_cons.mpr ⟨fun z hz => ?_, List.pairwise_singleton _ _⟩
    rw [List.mem_singleton] at hz
    subst hz
    exact hab
  · intro z
    rw [namesOf_mem]
    simp only [List.mem_cons, List.not_mem_nil, or_false]
    constructor
    · rintro ⟨rfl | rfl | rfl | rfl, h⟩
      · exact .inr rfl
      · exact .inl rfl
      · exact .inr rfl
      · exact absurd h (by decide)
    · rintro (rfl | rfl)
      · exact ⟨.inr (.inl rfl), by decide⟩
      · exact ⟨.inl rfl, by decide⟩
theorem FnSorted : laws_FnSorted.Pure := by
  intro l _ hl _
  refine Ev.rounds (g := fun k => laws_FnSorted.f k l) ?_
  unfold laws_FnSorted.f
  rw [big_f]
  refine Ev.bind (Ev.const rfl) ?_
  by_cases h : (l.length : Int) > 1048576
  · exact Ev.pos (decide_eq_true h) (Ev.now _)
  refine Ev.neg (by rw [decide_eq_false h]; decide) ?_
  obtain ⟨xs, ex, hx, hxs⟩ := spec_DrawSortedNames_ev l (by omega)
  have hxs2 : ∀ x ∈ xs, x.size ≤ 1048576 := fun x h => by have := hxs x h; omega
  have hN := namesOf_length xs []
  rw [List.length_nil] at hN
  refine Ev.bind ex (Ev.bind (Ev.const (impl_SortedNames_f xs (by omega) hxs2)) ?_)
  have hmem : ∀ y ∈ namesOf xs [], y ∈ xs ∧ nameOk y.data.toList = true := fun y hy => by
    rcases (namesOf_mem y xs []).mp hy with h | h
    · exact h
    · exact absurd h List.not_mem_nil
  refine FnSorted_l0 xs (namesOf xs []) (by omega) (fun y hy => hxs2 y (hmem y hy).1) (namesOf_order xs [] List.Pairwise.nil) (fun y hy => (hmem y hy).2) ?_ (namesOf xs []).length 0 (by omega)
  refine Ev.bind (spec_SortedNames_ev xs (by omega) hxs2) (Ev.bind (sameTexts_refl _ (by omega)) (Ev.pos rfl ?_))
  refine Ev.bind (Ev.const (impl_SortedNames_f _ (by decide) (by decide))) ?_
  rw [names_ab]
  exact Ev.bind (sameTexts_refl _ (by decide)) (Ev.now _)
end Go.Proofs.Ytfnogfbmieoljaa.Pure
