/- The law FnNames answers true for every draw: a name is read as the reference reads it; the name of a file tells its number, and is right. Conditions: those of the given row, and no others. -/
import Derived.Test.YtfnogfbmieoljaaDoorMFnNamesx4
namespace Go.Proofs.YtfnogfbmieoljaaDoor.Pure
open Go.RowKit Go.Proofs.YtfnogfbmieoljaaDoor.MFnNames Go.Proofs.YtfnogfbmieoljaaDoorW.PrintWords Go.Proofs.YtfnogfbmieoljaaDoorW.PrintLast Go.Proofs.YtfnogfbmieoljaaDoorW.PrintMore
set_option linter.unusedVariables false
set_option linter.unusedSimpArgs false
/-! ### Whole numbers and bits -/
theorem wrap64_id {x : Int} (h0 : -9223372036854775808 ≤ x) (h1 : x ≤ 9223372036854775807) : wrap64 x = x := by unfold wrap64; omega
theorem wf_i64 {x : Int} (h : (Lit.int .i64 x).wf = true) : -9223372036854775808 ≤ x ∧ x ≤ 9223372036854775807 := by
  simp only [Lit.wf, IntKind.min, IntKind.max, IntKind.signed, IntKind.bits, Bool.and_eq_true, decide_eq_true_eq, if_true] at h
  omega
theorem mod_toNat_nat (a : Nat) (m : Nat) : (((a : Int) % (m : Int)).toNat) = a % m := by
  rw [← Int.natCast_emod, Int.toNat_natCast]
theorem bv_mask (j : Nat) (hj : j < 64) (x : Int) : (BitVec.ofInt 64 x &&& BitVec.ofInt 64 ((2 ^ j - 1 : Nat) : Int)).toNat = (x % ((2 ^ j : Nat) : Int)).toNat := by
  have hle : 2 ^ j ≤ 2 ^ 63 := Nat.pow_le_pow_right (by decide) (by omega)
  have hpos : 0 < 2 ^ j := Nat.two_pow_pos j
  have hlt : 2 ^ j - 1 < 2 ^ 64 := by omega
  have hd : (2 : Nat) ^ j ∣ 2 ^ 64 := Nat.pow_dvd_pow 2 (by omega)
  rw [BitVec.ofInt_natCast, BitVec.toNat_and, BitVec.toNat_ofNat, Nat.mod_eq_of_lt hlt, Nat.and_two_pow_sub_one_eq_mod, BitVec.toNat_ofInt]
  have h0 : 0 ≤ x % ((2 ^ 64 : Nat) : Int) := Int.emod_nonneg _ (by simp)
  have h1 : 0 ≤ x % ((2 ^ j : Nat) : Int) := Int.emod_nonneg _ (by omega)
  have : (((x % ((2 ^ 64 : Nat) : Int)).toNat % 2 ^ j : Nat) : Int) = x % ((2 ^ j : Nat) : Int) := by
    rw [Int.natCast_emod, Int.toNat_of_nonneg h0]
    exact Int.emod_emod_of_dvd x (Int.natCast_dvd_natCast.mpr hd)
  omega
/-- A mask of the lowest j bits, of any i64. -/
theorem i64_mask (j : Nat) (hj : j < 64) (x : Int) : Go.bits .and .i64 x (((2 ^ j - 1 : Nat) : Int)) = x % ((2 ^ j : Nat) : Int) := by
  have hpos : 0 < 2 ^ j := Nat.two_pow_pos j
  have hle : 2 ^ j ≤ 2 ^ 63 := Nat.pow_le_pow_right (by decide) (by omega)
  show IntKind.i64.wrap (((BitVec.ofInt 64 x &&& BitVec.ofInt 64 ((2 ^ j - 1 : Nat) : Int)).toNat : Nat) : Int) = _
  rw [bv_mask j hj x]
  have h1 : 0 ≤ x % ((2 ^ j : Nat) : Int) := Int.emod_nonneg _ (by omega)
  have h2 : x % ((2 ^ j : Nat) : Int) < ((2 ^ j : Nat) : Int) := Int.emod_lt_of_pos _ (by omega)
  rw [Int.toNat_of_nonneg h1, IntKind.wrap_i64]
  have h3 : ((2 ^ j : Nat) : Int) ≤ ((2 ^ 63 : Nat) : Int) := Int.ofNat_le.mpr hle
  have h5 : ((2 ^ 63 : Nat) : Int) = 9223372036854775808 := by decide
  omega
theorem i64_mask32 (x : Int) : Go.bits .and .i64 x 4294967295 = x % 4294967296 := i64_mask 32 (by decide) x
theorem i64_mask8 (x : Int) : Go.bits .and .i64 x 255 = x % 256 := i64_mask 8 (by decide) x
theorem i64_mask7 (x : Int) : Go.bits .and .i64 x 127 = x % 128 := i64_mask 7 (by decide) x
theorem i64_mask4 (x : Int) : Go.bits .and .i64 x 15 = x % 16 := i64_mask 4 (by decide) x
theorem i64_mask1 (x : Int) : Go.bits .and .i64 x 1 = x % 2 := i64_mask 1 (by decide) x
theorem xor_nat (k : IntKind) (j : Nat) (hj : j ≤ k.bits) (hk : ∀ n : Int, 0 ≤ n → n < 2 ^ j → k.wrap n = n) (a b : Nat) (ha : a < 2 ^ j) (hb : b < 2 ^ j) :
    Go.bits .xor k a b = ((a ^^^ b : Nat) : Int) := by
  have hp : 2 ^ j ≤ 2 ^ k.bits := Nat.pow_le_pow_right (by decide) hj
  have ha' : a % 2 ^ k.bits = a := Nat.mod_eq_of_lt (Nat.lt_of_lt_of_le ha hp)
  have hb' : b % 2 ^ k.bits = b := Nat.mod_eq_of_lt (Nat.lt_of_lt_of_le hb hp)
  simp only [Go.bits, BitVec.ofInt_natCast, BitVec.toNat_xor, BitVec.toNat_ofNat, ha', hb']
  exact hk _ (Int.natCast_nonneg _) (by exact_mod_cast Nat.xor_lt_two_pow ha hb)
theorem wraps_i64 (n : Int) (h0 : 0 ≤ n) (h1 : n < 2 ^ 63) : IntKind.i64.wrap n = n := by rw [IntKind.wrap_i64]; omega
theorem wraps_u32 (n : Int) (h0 : 0 ≤ n) (h1 : n < 2 ^ 32) : IntKind.u32.wrap n = n := by rw [IntKind.wrap_u32]; omega
theorem i64_xor (a b : Nat) (ha : a < 2 ^ 63) (hb : b < 2 ^ 63) : Go.bits .xor .i64 a b = ((a ^^^ b : Nat) : Int) := xor_nat .i64 63 (by decide) wraps_i64 a b ha hb
theorem u32_xor (a b : Nat) (ha : a < 2 ^ 32) (hb : b < 2 ^ 32) : Go.bits .xor .u32 a b = ((a ^^^ b : Nat) : Int) := xor_nat .u32 32 (by decide) wraps_u32 a b ha hb
theorem i64_or (a b : Nat) (ha : a < 2 ^ 63) (hb : b < 2 ^ 63) : Go.bits .or .i64 a b = ((a ||| b : Nat) : Int) := (Go.bits_nat .i64 63 (by decide) wraps_i64 a b ha hb).2
theorem u8_or (a b : Nat) (ha : a < 2 ^ 8) (hb : b < 2 ^ 8) : Go.bits .or .u8 a b = ((a ||| b : Nat) : Int) := (Go.bits_nat .u8 8 (by decide) Go.wraps_u8 a b ha hb).2
theorem u32_and1 (a : Nat) (ha : a < 2 ^ 32) : Go.bits .and .u32 a 1 = ((a % 2 : Nat) : Int) := by
  rw [show (1 : Int) = ((1 : Nat) : Int) from rfl, (Go.bits_nat .u32 32 (by decide) wraps_u32 a 1 ha (by decide)).1, show (1 : Nat) = 2 ^ 1 - 1 from rfl, Nat.and_two_pow_sub_one_eq_mod]
/-! ### Bytes of a text -/
theorem bt_list (s : ByteArray) (i : Nat) (h : i < s.data.toList.length) : bt s (i : Int) = ((s.data.toList[i]).toNat : Int) := by
  have h' : i < s.size := by rw [Array.length_toList] at h; exact h
  have hn : (i : Int).toNat < s.size := by rw [Int.toNat_natCast]; exact h'
  rw [← bt_at s i hn]
  rfl
theorem size_list (s : ByteArray) : s.data.toList.length = s.size := by rw [Array.length_toList]; rfl
theorem drop_cons (s : ByteArray) (i : Nat) (h : i < s.size) : s.data.toList.drop i = s.data.toList[i]'(by rw [size_list]; exact h) :: s.data.toList.drop (i + 1) :=
  List.drop_eq_getElem_cons (by rw [size_list]; exact h)
/-! ### From some number of rounds on -/
section
variable {α : Type} {f g : Nat → Option α} {r : α} {c : Prop} [Decidable c]
theorem Ev.pos (h : c) (e : Ev f r) : Ev (fun k => if c then f k else g k) r := Ev.congr (fun _ => if_pos h) e
theorem Ev.neg (h : ¬ c) (e : Ev g r) : Ev (fun k => if c then f k else g k) r := Ev.congr (fun _ => if_neg h) e
theorem Ev.const {o : Option α} (h : o = some r) : Ev (fun _ => o) r := ⟨0, fun _ _ => h⟩
theorem Ev.at (K : Nat) (h : ∀ k, K ≤ k → f k = some r) : Ev f r := ⟨K, h⟩
theorem Ev.of_eq {r' : α} (e : Ev f r) (h : r = r') : Ev f r' := h ▸ e
end
theorem Ev.both {α β : Type} {f : Nat → Option α} {g : Nat → Option β} {a : α} {b : β} (h : Ev f a) (h' : Ev g b) : ∃ k, f k = some a ∧ g k = some b := by
  obtain ⟨K, h⟩ := h
  obtain ⟨K', h'⟩ := h'
  exact ⟨max K K', h _ (by omega), h' _ (by omega)⟩
/-! ### Texts as lists of bytes -/
def mkT (l : List UInt8) : ByteArray := ⟨l.toArray⟩
theorem mkT_list (l : List UInt8) : (mkT l).data.toList = l := rfl
theorem ba_ext {a b : ByteArray} (h : a.data.toList = b.data.toList) : a = b := by
  cases a; cases b
  exact congrArg ByteArray.mk (Array.toList_inj.1 h)
theorem mkT_of (a : ByteArray) : mkT a.data.toList = a := ba_ext rfl
theorem toList_app2 (a b : ByteArray) : (a ++ b).data.toList = a.data.toList ++ b.data.toList := by rw [ByteArray.data_append, Array.toList_append]
theorem mkT_size (l : List UInt8) : (mkT l).size = l.length := by rw [← size_list, mkT_list]
def fig (n : Nat) : Int := if n < 10 then ((48 + n : Nat) : Int) else ((87 + n : Nat) : Int)
theorem fig_table : ∀ n : Nat, n < 16 → bt (⟨#[48, 49, 50, 51, 52, 53, 54, 55, 56, 57, 97, 98, 99, 100, 101, 102]⟩ : ByteArray) (n : Int) = fig n := by decide +kernel
theorem fig_byte (n : Nat) : UInt8.ofNat (fig n).toNat = dg16 n := by
  unfold fig dg16
  split <;> rw [Int.toNat_natCast]
/-! ### Eight figures -/
def hx : Nat → Nat → List UInt8
  | 0, _ => []
  | m + 1, u => hx m (u / 16) ++ [dg16 (u % 16)]
theorem hx_length (m : Nat) : ∀ u, (hx m u).length = m := by
  induction m with
  | zero => intro u; rfl
  | succ m ih => intro u; rw [hx, List.length_append, ih]; rfl
theorem hx_cons (m : Nat) : ∀ u, hx (m + 1) u = dg16 (u / 16 ^ m % 16) :: hx m u := by
  induction m with
  | zero => intro u; rw [hx, hx, Nat.pow_zero, Nat.div_one]; rfl
  | succ m ih =>
    intro u
    rw [hx, ih (u / 16), hx, Nat.div_div_eq_div_mul, show 16 * 16 ^ m = 16 ^ (m + 1) by rw [Nat.pow_succ, Nat.mul_comm]]; rfl
theorem hx_zero (m : Nat) : hx m 0 = List.replicate m 48 := by
  induction m with
  | zero => rfl
  | succ m ih => rw [hx, Nat.zero_div, ih, List.replicate_succ']; rfl
theorem hexF_pad (m : Nat) : ∀ f u : Nat, m ≤ f → u < 16 ^ (m + 1) → (hexF f u).length ≤ m + 1 ∧ 1 ≤ (hexF f u).length ∧ List.replicate (m + 1 - (hexF f u).length) 48 ++ hexF f u = hx (m + 1) u := by
  induction m with
  | zero =>
    intro f u _ hu
    have e : hexF f u = [dg16 u] := by
      cases f with
      | zero => rw [hexF, Nat.mod_eq_of_lt (by omega)]
      | succ f => rw [hexF, if_pos (by omega)]
    rw [e]
    refine ⟨by simp, by simp, ?_⟩
    rw [hx, hx, Nat.mod_eq_of_lt (by omega)]; rfl
  | succ m ih =>
    intro f u hf hu
    obtain ⟨f, rfl⟩ : ∃ g, f = g + 1 := ⟨f - 1, by omega⟩
    by_cases c : u < 16
    · rw [hexF, if_pos c]
      refine ⟨by simp, by simp, ?_⟩
      rw [hx, Nat.div_eq_of_lt c, hx_zero, Nat.mod_eq_of_lt c]; rfl
    · rw [hexF, if_neg c]
      obtain ⟨h1, h2, h3⟩ := ih f (u / 16) (by omega) (Nat.div_lt_of_lt_mul (by rw [Nat.mul_comm, ← Nat.pow_succ]; exact hu))
      rw [List.length_append, List.length_singleton]
      refine ⟨by omega, by omega, ?_⟩
      rw [hx, ← h3, List.append_assoc, show m + 1 + 1 - ((hexF f (u / 16)).length + 1) = m + 1 - (hexF f (u / 16)).length by omega]
def segName (u : Nat) : ByteArray := mkT ([115] ++ hx 8 u ++ [46, 115, 101, 103])
theorem segName_size (u : Nat) : (segName u).size = 13 := by unfold segName; rw [mkT_size, List.length_append, List.length_append, hx_length]; rfl
def segOf (n : Int) : ByteArray := if 0 ≤ n ∧ n ≤ 1000000000 then segName n.toNat else ⟨#[]⟩
theorem l01In_f (a b c : Int) : spec_l01In.f a b c = some (decide (b ≤ a ∧ a ≤ c)) := by
  unfold spec_l01In.f
  by_cases h : a ≥ b
  · rw [if_pos h]; congr 1; rw [decide_eq_decide]; omega
  · rw [if_neg h]; congr 1; symm; rw [decide_eq_false_iff_not]; omega
def dgs : Nat → Nat → List Int
  | 0, _ => []
  | m + 1, u => fig (u / 16 ^ m % 16) :: dgs m u
theorem dgs_length (m u : Nat) : (dgs m u).length = m := by
  induction m with
  | zero => rfl
  | succ m ih => rw [dgs, List.length_cons, ih]
theorem dgs_bytes (m u : Nat) : (strOfNums (dgs m u)).data.toList = hx m u := by
  induction m with
  | zero => rfl
  | succ m ih =>
    rw [hx_cons, dgs, ← ih, ← fig_byte]; rfl
theorem u64_wrap4 (i : Nat) (hi : i ≤ 7) : IntKind.u64.wrap (4 * (i : Int)) = 4 * (i : Int) := by
  rw [IntKind.wrap_u64]; omega
theorem shr_hex (u i : Nat) (hi : i ≤ 7) : shr .i64 (u : Int) (4 * (i : Int)) = ((u / 16 ^ i : Nat) : Int) := by
  unfold shr
  rw [show min ((4 * (i : Int)).toNat) IntKind.i64.bits = 4 * i by have : IntKind.i64.bits = 64 := rfl; omega, show (16 : Nat) ^ i = 2 ^ (4 * i) by rw [show (16 : Nat) = 2 ^ 4 from rfl, ← Nat.pow_mul], Int.natCast_ediv, Int.natCast_pow]
  rfl
theorem spec_SegmentName_l0 (u : Nat) (m : Nat) : ∀ (acc : List Int), m ≤ 8 → acc.length + m = 8 →
    Ev (fun k => spec_SegmentName.l0 k (u : Int) acc ((m : Int) - 1)) (((⟨#[115]⟩ : ByteArray) ++ (strOfNums (acc ++ dgs m u))) ++ (⟨#[46, 115, 101, 103]⟩ : ByteArray)) := by
  induction m with
  | zero =>
    intro acc _ ha
    have hz : (strOfNums acc).size = 8 := by rw [strOfNums_size]; omega
    refine Ev.step (fun k => by rw [spec_SegmentName.l0]) (Ev.neg (by omega) (Ev.pos (by omega) (Ev.pos (by omega) (Ev.const ?_))))
    rw [dgs, List.append_nil]
  | succ m ih =>
    intro acc hm ha
    refine Ev.step (fun k => by rw [spec_SegmentName.l0]) (Ev.pos (by omega) ?_)
    rw [show ((m + 1 : Nat) : Int) - 1 = (m : Int) by omega, wrap64_id (x := 4 * (m : Int)) (by omega) (by omega), u64_wrap4 m (by omega), shr_hex u m (by omega), i64_mask4, show ((u / 16 ^ m : Nat) : Int) % 16 = ((u / 16 ^ m % 16 : Nat) : Int) by omega, fig_table _ (by omega), wrap64_id (x := (m : Int) - 1) (by omega) (by omega)]
    refine Ev.pos (by omega) (Ev.pos (by omega) (Ev.pos (by omega) (Ev.pos (by omega) ?_)))
    have := ih (acc ++ [fig (u / 16 ^ m % 16)]) (by omega) (by rw [List.length_append, List.length_singleton]; omega)
    rw [List.append_assoc] at this
    exact this
theorem spec_SegmentName_ev (n : Int) : Ev (fun k => spec_SegmentName.f k n) (segOf n) := by
  unfold spec_SegmentName.f segOf
  rw [l01In_f]
  refine Ev.bind (Ev.const rfl) ?_
  by_cases h : 0 ≤ n ∧ n ≤ 1000000000
  · refine Ev.of_eq ?_ (if_pos h).symm
    obtain ⟨u, rfl⟩ := Int.eq_ofNat_of_zero_le h.1
    refine Ev.pos (decide_eq_true h) (Ev.of_eq (spec_SegmentName_l0 u 8 [] (by decide) rfl) ?_)
    refine ba_ext ?_
    rw [toList_app2, toList_app2, List.nil_append, dgs_bytes, Int.toNat_natCast]
    unfold segName
    rw [mkT_list]
  · refine Ev.of_eq (r := (⟨#[]⟩ : ByteArray)) ?_ (if_neg h).symm
    exact Ev.neg (by rw [decide_eq_false h]; decide) (Ev.now _)
theorem within_f (a b c : Int) : impl_within.f a b c = some (decide (b ≤ a ∧ a ≤ c)) := by
  unfold impl_within.f
  by_cases h : a ≥ b
  · rw [if_pos h]; congr 1; rw [decide_eq_decide]; omega
  · rw [if_neg h]; congr 1; symm; rw [decide_eq_false_iff_not]; omega
theorem isNumber_f (a : Int) : impl_isNumber.f a = some (decide (0 ≤ a ∧ a ≤ 1000000000)) := by
  unfold impl_isNumber.f
  rw [within_f]; rfl
theorem repeat_zero (c : Nat) : Go.Lib.repeatL [48] c = List.replicate c 48 := by
  induction c with
  | zero => rfl
  | succ c ih => rw [Go.Lib.repeatL, ih, List.replicate_succ]; rfl
theorem impl_SegmentName_f (n : Int) : impl_SegmentName.f n = some (segOf n) := by
  unfold impl_SegmentName.f segOf
  rw [isNumber_f]
  simp only [Option.bind_some]
  by_cases h : 0 ≤ n ∧ n ≤ 1000000000
  · rw [if_pos (decide_eq_true h), if_pos h]
    obtain ⟨u, rfl⟩ := Int.eq_ofNat_of_zero_le h.1
    have hp := hexF_pad 7 8 u (by decide) (Nat.lt_of_le_of_lt (m := 1000000000) (by omega) (by decide))
    obtain ⟨h1, h2, h3⟩ := hp
    have hf : strconv_FormatInt.f (u : Int) 16 = some (mkT (hexF 8 u)) := by
      unfold strconv_FormatInt.f
      rw [if_pos ⟨rfl, by omega, by omega⟩, Int.toNat_natCast]; rfl
    have hz : (mkT (hexF 8 u)).size = (hexF 8 u).length := mkT_size _
    rw [hf]
    simp only [Option.bind_some]
    rw [hz, wrap64_id (by omega) (by omega)]
    have hr : strings_Repeat.f (⟨#[48]⟩ : ByteArray) (8 - ((hexF 8 u).length : Int)) = some (mkT (List.replicate (8 - (hexF 8 u).length) 48)) := by
      unfold strings_Repeat.f
      rw [if_pos ⟨by omega, by omega, by decide⟩, show (8 - ((hexF 8 u).length : Int)).toNat = 8 - (hexF 8 u).length by omega]
      refine congrArg some (ba_ext ?_)
      rw [mkT_list]
      exact repeat_zero _
    rw [hr]
    simp only [Option.bind_some]
    have hz2 : (mkT (List.replicate (8 - (hexF 8 u).length) (48 : UInt8))).size = 8 - (hexF 8 u).length := by rw [mkT_size, List.length_replicate]
    rw [hz2, if_pos (by omega), if_pos (by omega), if_pos (by omega)]
    refine congrArg some (ba_ext ?_)
    rw [toList_app2, toList_app2, toList_app2, mkT_list, mkT_list, Int.toNat_natCast]
    unfold segName
    rw [mkT_list, ← h3]
    simp only [List.append_assoc]
  · rw [if_neg (by rw [decide_eq_false h]; decide), if_neg h]
def tmpOf (n : Int) : ByteArray := if 0 ≤ n ∧ n ≤ 1000000000 then segName n.toNat ++ (⟨#[46, 116, 109, 112]⟩ : ByteArray) else ⟨#[]⟩
theorem spec_TempName_ev (n : Int) : Ev (fun k => spec_TempName.f k n) (tmpOf n) := by
  unfold tmpOf
  by_cases c : 0 ≤ n ∧ n ≤ 1000000000
  · refine Ev.of_eq ?_ (if_pos c).symm
    have e : segOf n = segName n.toNat := by unfold segOf; rw [if_pos c]
    have hz := segName_size n.toNat
    unfold spec_TempName.f
    refine Ev.bind (spec_SegmentName_ev n) ?_
    rw [e]
    refine Ev.neg ?_ (Ev.pos (by omega) (Ev.now _))
    intro h
    have := congrArg List.length h
    rw [ByteArray.toList_eq, Array.length_toList] at this
    change (segName n.toNat).size = 0 at this
    omega
  · refine Ev.of_eq (r := (⟨#[]⟩ : ByteArray)) ?_ (if_neg c).symm
    have e : segOf n = (⟨#[]⟩ : ByteArray) := by unfold segOf; rw [if_neg c]
    unfold spec_TempName.f
    refine Ev.bind (spec_SegmentName_ev n) ?_
    rw [e]
    exact Ev.pos (by rw [ByteArray.toList_eq]) (Ev.now _)
theorem impl_TempName_f (n : Int) : impl_TempName.f n = some (tmpOf n) := by
  unfold impl_TempName.f tmpOf
  rw [isNumber_f, impl_SegmentName_f]
  simp only [Option.bind_some]
  by_cases c : 0 ≤ n ∧ n ≤ 1000000000
  · have e : segOf n = segName n.toNat := by unfold segOf; rw [if_pos c]
    have hz := segName_size n.toNat
    rw [if_pos (decide_eq_true c), if_pos c, e, if_pos (by omega)]
  · rw [if_neg (by rw [decide_eq_false c]; decide), if_neg c]
theorem ba_toList {a b : ByteArray} : a.toList = b.toList ↔ a = b := by
  rw [ByteArray.toList_eq, ByteArray.toList_eq]
  exact ⟨ba_ext, fun h => by rw [h]⟩
def pLow : Nat → List UInt8 → Option Nat
  | acc, [] => some acc
  | acc, c :: l => if 48 ≤ c.toNat ∧ c.toNat ≤ 57 then pLow (acc * 16 + (c.toNat - 48)) l else if 97 ≤ c.toNat ∧ c.toNat ≤ 102 then pLow (acc * 16 + (c.toNat - 87)) l else none
theorem or32 : ∀ n : Nat, n < 256 → 97 ≤ n → n ≤ 102 → Go.bits .or .u8 (n : Int) 32 = (n : Int) := by decide +kernel
theorem pLow_pHex (l : List UInt8) : ∀ acc n, pLow acc l = some n → pHex acc l = some n := by
  induction l with
  | nil => intro acc n h; exact h
  | cons c l ih =>
    intro acc n h
    rw [pLow] at h
    rw [pHex]
    split at h
    · rename_i hd; rw [if_pos hd]; exact ih _ _ h
    · rename_i hd
      rw [if_neg hd]
      split at h
      · rename_i hm
        have e := or32 c.toNat c.toNat_lt hm.1 hm.2
        rw [e, if_pos (by omega), Int.toNat_natCast]; exact ih _ _ h
      · cases h
theorem pLow_none (l : List UInt8) : ∀ acc, pLow acc l = none → ∃ c ∈ l, ¬ ((48 ≤ c.toNat ∧ c.toNat ≤ 57) ∨ (97 ≤ c.toNat ∧ c.toNat ≤ 102)) := by
  induction l with
  | nil => intro acc h; cases h
  | cons c l ih =>
    intro acc h
    rw [pLow] at h
    split at h
    · obtain ⟨d, hd, hx⟩ := ih _ h; exact ⟨d, List.mem_cons_of_mem _ hd, hx⟩
    · split at h
      · obtain ⟨d, hd, hx⟩ := ih _ h; exact ⟨d, List.mem_cons_of_mem _ hd, hx⟩
      · exact ⟨c, List.mem_cons_self, by omega⟩
theorem dg16_low : ∀ n : Nat, n < 16 → (48 ≤ (dg16 n).toNat ∧ (dg16 n).toNat ≤ 57) ∨ (97 ≤ (dg16 n).toNat ∧ (dg16 n).toNat ≤ 102) := by decide +kernel
theorem hx_low (m : Nat) : ∀ u, ∀ c ∈ hx m u, (48 ≤ c.toNat ∧ c.toNat ≤ 57) ∨ (97 ≤ c.toNat ∧ c.toNat ≤ 102) := by
  induction m with
  | zero => intro u c h; cases h
  | succ m ih =>
    intro u c h
    rw [hx, List.mem_append] at h
    rcases h with h | h
    · exact ih _ _ h
    · obtain rfl := List.mem_singleton.1 h
      exact dg16_low _ (Nat.mod_lt _ (by decide))
theorem ext_list (a : ByteArray) (i j : Nat) : (a.extract i j).data.toList = (a.data.toList.drop i).take (j - i) := by
  rw [ByteArray.data_extract, Array.toList_extract]
def mid (a : ByteArray) : List UInt8 := (a.extract 1 9).data.toList
theorem mid_seg (u : Nat) : mid (segName u) = hx 8 u := by
  unfold mid
  rw [ext_list]
  unfold segName
  rw [mkT_list, List.append_assoc, List.singleton_append, List.drop_succ_cons, List.drop_zero]
  exact List.take_left' (hx_length 8 u)
theorem mid_tmp (u : Nat) : mid (segName u ++ (⟨#[46, 116, 109, 112]⟩ : ByteArray)) = hx 8 u := by
  unfold mid
  rw [ext_list, toList_app2]
  unfold segName
  rw [mkT_list, List.append_assoc, List.append_assoc, List.singleton_append, List.drop_succ_cons, List.drop_zero]
  exact List.take_left' (hx_length 8 u)
theorem pLow_hx (u : Nat) : ∃ n, pLow 0 (hx 8 u) = some n := by
  cases h : pLow 0 (hx 8 u) with
  | some n => exact ⟨n, rfl⟩
  | none => obtain ⟨c, hc, hx'⟩ := pLow_none _ _ h; exact absurd (hx_low 8 u c hc) hx'
def fin (a : ByteArray) : Option Nat → Int × Int
  | none => (0, 0)
  | some n => if segOf n = a then (1, n) else if tmpOf n = a then (2, n) else (0, 0)
def rdName (a : ByteArray) : Int × Int := if 13 ≤ (a.size : Int) ∧ (a.size : Int) ≤ 17 then fin a (pLow 0 (mid a)) else (0, 0)
theorem spec_ReadName_l0 (a : ByteArray) (hs : 13 ≤ a.size) (m : Nat) : ∀ (i acc : Nat), 1 ≤ i → i + m = 9 → acc < 16 ^ (i - 1) →
    Ev (fun k => spec_ReadName.l0 k a (acc : Int) (i : Int)) (fin a (pLow acc ((a.data.toList.drop i).take m))) := by
  induction m with
  | zero =>
    intro i acc h1 hi hacc
    rw [List.take_zero, pLow]
    refine Ev.step (fun k => by rw [spec_ReadName.l0]) (Ev.neg (by omega) (Ev.bind (spec_SegmentName_ev _) ?_))
    unfold fin
    by_cases c : segOf (acc : Int) = a
    · exact Ev.pos (ba_toList.2 c) (Ev.of_eq (Ev.now _) (if_pos c).symm)
    · refine Ev.neg (fun h => c (ba_toList.1 h)) (Ev.of_eq ?_ (if_neg c).symm)
      refine Ev.bind (spec_TempName_ev _) ?_
      by_cases d : tmpOf (acc : Int) = a
      · exact Ev.pos (ba_toList.2 d) (Ev.of_eq (Ev.now _) (if_pos d).symm)
      · exact Ev.neg (fun h => d (ba_toList.1 h)) (Ev.of_eq (Ev.now _) (if_neg d).symm)
  | succ m ih =>
    intro i acc h1 hi hacc
    have hz : a.data.toList.length = a.size := size_list a
    have hlt : i < a.data.toList.length := by omega
    have hp : 16 ^ (i - 1) ≤ 16 ^ 7 := Nat.pow_le_pow_right (by decide) (by omega)
    have hp7 : (16 : Nat) ^ 7 = 268435456 := by decide
    have hs1 : 16 ^ (i + 1 - 1) = 16 ^ (i - 1) * 16 := by rw [show i + 1 - 1 = (i - 1) + 1 by omega, Nat.pow_succ]
    have hc := (a.data.toList[i]).toNat_lt
    refine Ev.step (fun k => by rw [spec_ReadName.l0]) (Ev.pos (by omega) (Ev.pos (by omega) (Ev.pos (by omega) ?_)))
    rw [bt_list a i hlt, List.drop_eq_getElem_cons hlt, List.take_succ_cons, pLow]
    generalize (a.data.toList[i]).toNat = c at hc
    have hc : c < 256 := hc
    rw [wrap64_id (x := (c : Int)) (by omega) (by omega), l01In_f, l01In_f, wrap64_id (x := 16 * (acc : Int)) (by omega) (by omega), wrap64_id (x := 16 * (acc : Int) + (c : Int)) (by omega) (by omega), wrap64_id (x := (i : Int) + 1) (by omega) (by omega), wrap64_id (x := 16 * (acc : Int) + (c : Int) - 48) (by omega) (by omega), wrap64_id (x := 16 * (acc : Int) + (c : Int) - 87) (by omega) (by omega)]
    refine Ev.bind (Ev.const rfl) ?_
    by_cases d : 48 ≤ c ∧ c ≤ 57
    · rw [if_pos d]
      refine Ev.pos (decide_eq_true (by omega)) ?_
      have := ih (i + 1) (acc * 16 + (c - 48)) (by omega) (by omega) (by omega)
      rw [show (((acc * 16 + (c - 48) : Nat)) : Int) = 16 * (acc : Int) + (c : Int) - 48 by omega, show ((i + 1 : Nat) : Int) = (i : Int) + 1 by omega] at this
      exact this
    · rw [if_neg d]
      refine Ev.neg (by rw [decide_eq_false (by omega)]; decide) (Ev.bind (Ev.const rfl) ?_)
      by_cases e : 97 ≤ c ∧ c ≤ 102
      · rw [if_pos e]
        refine Ev.pos (decide_eq_true (by omega)) ?_
        have := ih (i + 1) (acc * 16 + (c - 87)) (by omega) (by omega) (by omega)
        rw [show (((acc * 16 + (c - 87) : Nat)) : Int) = 16 * (acc : Int) + (c : Int) - 87 by omega, show ((i + 1 : Nat) : Int) = (i : Int) + 1 by omega] at this
        exact this
      · rw [if_neg e]
        exact Ev.neg (by rw [decide_eq_false (by omega)]; decide) (Ev.now _)
theorem spec_ReadName_ev (a : ByteArray) : Ev (fun k => spec_ReadName.f k a) (rdName a) := by
  unfold spec_ReadName.f rdName
  rw [l01In_f]
  refine Ev.bind (Ev.const rfl) ?_
  by_cases h : 13 ≤ (a.size : Int) ∧ (a.size : Int) ≤ 17
  · refine Ev.of_eq ?_ (if_pos h).symm
    have := spec_ReadName_l0 a (by omega) 8 1 0 (by decide) rfl (by decide)
    refine Ev.pos (decide_eq_true h) ?_
    unfold mid
    rw [ext_list]
    exact this
  · refine Ev.of_eq (r := ((0 : Int), (0 : Int))) ?_ (if_neg h).symm
    exact Ev.neg (by rw [decide_eq_false h]; decide) (Ev.now _)
theorem segOf_eq {n : Int} {a : ByteArray} (ha : 9 ≤ a.size) (h : segOf n = a) : a.size = 13 ∧ ∃ u, mid a = hx 8 u := by
  unfold segOf at h
  split at h
  · subst h; exact ⟨segName_size _, _, mid_seg _⟩
  · subst h; exact absurd ha (by decide)
theorem tmpOf_eq {n : Int} {a : ByteArray} (ha : 9 ≤ a.size) (h : tmpOf n = a) : a.size = 17 ∧ ∃ u, mid a = hx 8 u := by
  unfold tmpOf at h
  split at h
  · subst h
    refine ⟨?_, _, mid_tmp _⟩
    rw [ByteArray.size_append, segName_size]; rfl
  · subst h; exact absurd ha (by decide)
theorem rdName_some (a : ByteArray) (h9 : 9 ≤ a.size) (n : Nat) (hn : pHex 0 (mid a) = some n) : rdName a = fin a (some n) := by
  unfold rdName
  have key : ∀ u, mid a = hx 8 u → pLow 0 (mid a) = some n := by
    intro u hu
    obtain ⟨v, hv⟩ := pLow_hx u
    rw [← hu] at hv
    have := pLow_pHex _ _ _ hv
    rw [hn] at this
    rw [hv]; exact this.symm
  by_cases c : segOf (n : Int) = a
  · obtain ⟨hz, u, hu⟩ := segOf_eq h9 c
    rw [if_pos (by omega), key u hu]
  · by_cases d : tmpOf (n : Int) = a
    · obtain ⟨hz, u, hu⟩ := tmpOf_eq h9 d
      rw [if_pos (by omega), key u hu]
    · have e : fin a (some n) = (0, 0) := by unfold fin; simp only []; rw [if_neg c, if_neg d]
      rw [e]
      split
      · cases hl : pLow 0 (mid a) with
        | none => rfl
        | some v =>
          have := pLow_pHex _ _ _ hl
          rw [hn] at this
          obtain rfl := Option.some.inj this
          exact e
      · rfl
theorem impl_ReadName_f (a : ByteArray) (hs : a.size ≤ 281474976710656) : impl_ReadName.f a = some (rdName a) := by
  unfold impl_ReadName.f
  rw [if_pos hs]
  by_cases h9 : a.size < 9
  · rw [if_pos h9]
    unfold rdName
    rw [if_neg (by omega)]
  · rw [if_neg h9]
    change (match pHex 0 (mid a) with | some n => _ | none => _) = _
    cases hv : pHex 0 (mid a) with
    | none =>
      have hl : pLow 0 (mid a) = none := by
        cases hl : pLow 0 (mid a) with
        | none => rfl
        | some v => have := pLow_pHex _ _ _ hl; rw [hv] at this; cases this
      unfold rdName
      rw [hl]
      have e : (if 13 ≤ (a.size : Int) ∧ (a.size : Int) ≤ 17 then fin a none else ((0 : Int), (0 : Int))) = (0, 0) := by split <;> rfl
      rw [e]
    | some n =>
      rw [rdName_some a (by omega) n hv]
      simp only []
      rw [isNumber_f, impl_SegmentName_f, impl_TempName_f]
      simp only [Option.bind_some]
      unfold fin
      simp only []
      by_cases c : 0 ≤ (n : Int) ∧ (n : Int) ≤ 1000000000
      · rw [if_pos (decide_eq_true c)]
        by_cases d : segOf (n : Int) = a
        · rw [if_pos d, if_pos (ba_toList.2 d.symm)]
        · rw [if_neg d, if_neg (fun h => d (ba_toList.1 h).symm)]
          by_cases e : tmpOf (n : Int) = a
          · rw [if_pos e, if_pos (ba_toList.2 e.symm)]
          · rw [if_neg e, if_neg (fun h => e (ba_toList.1 h).symm)]
      · rw [if_neg (by rw [decide_eq_false c]; decide)]
        have e1 : ¬ segOf (n : Int) = a := by
          unfold segOf; rw [if_neg c]; intro h; subst h; exact h9 (by decide)
        have e2 : ¬ tmpOf (n : Int) = a := by
          unfold tmpOf; rw [if_neg c]; intro h; subst h; exact h9 (by decide)
        rw [if_neg e1, if_neg e2]
/-! ### The reference's cursor over a draw -/
def Inside (b : List Int) (i : Int) : Prop := 0 ≤ i ∧ i ≤ (b.length : Int)
theorem l01Byte_f (b : List Int) (hb : b.length ≤ 140737488355328) (i h : Int) (hi : Inside b i) : ∃ x i' h', spec_l01Byte.f b i h = some (x, i', h') ∧ (0 ≤ x ∧ x ≤ 255) ∧ Inside b i' := by
  unfold Inside at *
  unfold spec_l01Byte.f
  by_cases c : i < (b.length : Int)
  · rw [if_pos c, if_pos hi.1, i64_mask8, wrap64_id (x := i + 1) (by omega) (by omega)]
    refine ⟨_, _, _, rfl, ⟨?_, ?_⟩, by omega⟩
    · exact Int.emod_nonneg _ (by decide)
    · have := Int.emod_lt_of_pos (wrap64 (Go.bits .and .i64 (Go.bits .xor .i64 ((wrap64 ((wrap64 (h * 6364136223846793005)) + 1442695040888963407)) / 8589934592) ((wrap64 ((wrap64 (h * 6364136223846793005)) + 1442695040888963407)) / 35184372088832)) 255 + wrap64 (rd b i))) (show (0 : Int) < 256 by decide)
      omega
  · rw [if_neg c, i64_mask8]
    refine ⟨_, _, _, rfl, ⟨?_, ?_⟩, hi⟩
    · exact Int.emod_nonneg _ (by decide)
    · have := Int.emod_lt_of_pos (Go.bits .xor .i64 ((wrap64 ((wrap64 (h * 6364136223846793005)) + 1442695040888963407)) / 8589934592) ((wrap64 ((wrap64 (h * 6364136223846793005)) + 1442695040888963407)) / 35184372088832)) (show (0 : Int) < 256 by decide)
      omega
theorem l01New_l0 (b : List Int) (m : Nat) : ∀ (j : Nat) (h : Int), j + m = 4001 → ∃ h', Ev (fun k => spec_l01New.l0 k b h (j : Int)) (b, 0, h') := by
  induction m with
  | zero =>
    intro j h hj
    refine ⟨h, Ev.step (fun k => by rw [spec_l01New.l0]) ?_⟩
    by_cases c : (j : Int) < (b.length : Int)
    · exact Ev.pos c (Ev.neg (by omega) (Ev.now _))
    · exact Ev.neg c (Ev.now _)
  | succ m ih =>
    intro j h hj
    by_cases c : (j : Int) < (b.length : Int)
    · by_cases c2 : (j : Int) < 4000
      · obtain ⟨h', e⟩ := ih (j + 1) (Go.bits .and .i64 (wrap64 ((wrap64 ((wrap64 (h * 131)) + (wrap64 (rd b (j : Int))))) + 7)) 1073741823) (by omega)
        refine ⟨h', Ev.step (fun k => by rw [spec_l01New.l0]) (Ev.pos c (Ev.pos c2 (Ev.pos (by omega) ?_)))⟩
        rw [wrap64_id (x := (j : Int) + 1) (by omega) (by omega)]
        exact e
      · exact ⟨h, Ev.step (fun k => by rw [spec_l01New.l0]) (Ev.pos c (Ev.neg c2 (Ev.now _)))⟩
    · exact ⟨h, Ev.step (fun k => by rw [spec_l01New.l0]) (Ev.neg c (Ev.now _))⟩
theorem l01New_ev (b : List Int) : ∃ h', Ev (fun k => spec_l01New.f k b) (b, 0, h') := by
  unfold spec_l01New.f
  exact l01New_l0 b 4001 0 _ (by decide)
theorem inside0 (b : List Int) : Inside b 0 := ⟨by decide, by omega⟩
theorem l01Below_f (b : List Int) (hb : b.length ≤ 140737488355328) (i h : Int) (hi : Inside b i) (n : Int) : ∃ x i' h', spec_l01Below.f b i h n = some (x, i', h') ∧ 0 ≤ x ∧ (1 ≤ n → x < n) ∧ (n ≤ 0 → x = 0) ∧ Inside b i' := by
  unfold spec_l01Below.f
  by_cases c0 : n ≤ 0
  · rw [if_pos c0]; exact ⟨0, i, h, rfl, by decide, fun h => by omega, fun _ => rfl, hi⟩
  rw [if_neg c0]
  by_cases c1 : n ≤ 256
  · rw [if_pos c1]
    obtain ⟨x, i1, h1, e1, hx, hi1⟩ := l01Byte_f b hb i h hi
    rw [e1]
    simp only [Option.bind_some]
    rw [if_neg (by omega)]
    refine ⟨_, _, _, rfl, ?_, fun _ => ?_, fun h => by omega, hi1⟩
    · rw [Int.tmod_eq_emod_of_nonneg hx.1]; exact Int.emod_nonneg _ (by omega)
    · rw [Int.tmod_eq_emod_of_nonneg hx.1]; exact Int.emod_lt_of_pos _ (by omega)
  · rw [if_neg c1]
    obtain ⟨x, i1, h1, e1, hx, hi1⟩ := l01Byte_f b hb i h hi
    obtain ⟨y, i2, h2, e2, hy, hi2⟩ := l01Byte_f b hb i1 h1 hi1
    obtain ⟨z, i3, h3, e3, hz, hi3⟩ := l01Byte_f b hb i2 h2 hi2
    obtain ⟨w, i4, h4, e4, hw, hi4⟩ := l01Byte_f b hb i3 h3 hi3
    rw [e1]; simp only [Option.bind_some]
    rw [e2]; simp only [Option.bind_some]
    rw [e3]; simp only [Option.bind_some]
    rw [e4]; simp only [Option.bind_some]
    rw [if_neg (by omega), wrap64_id (x := x * 16777216) (by omega) (by omega), wrap64_id (x := y * 65536) (by omega) (by omega), wrap64_id (x := z * 256) (by omega) (by omega), wrap64_id (x := x * 16777216 + y * 65536) (by omega) (by omega), wrap64_id (x := x * 16777216 + y * 65536 + z * 256) (by omega) (by omega), wrap64_id (by omega) (by omega)]
    have hs : 0 ≤ x * 16777216 + y * 65536 + z * 256 + w := by omega
    refine ⟨_, _, _, rfl, ?_, fun _ => ?_, fun h => by omega, hi4⟩
    · rw [Int.tmod_eq_emod_of_nonneg hs]; exact Int.emod_nonneg _ (by omega)
    · rw [Int.tmod_eq_emod_of_nonneg hs]; exact Int.emod_lt_of_pos _ (by omega)
theorem l01Pick_f (b : List Int) (hb : b.length ≤ 140737488355328) (i h : Int) (hi : Inside b i) (l : List ByteArray) (hl : l ≠ []) : ∃ x i' h', spec_l01Pick.f b i h l = some (x, i', h') ∧ x ∈ l ∧ Inside b i' := by
  obtain ⟨x, i1, h1, e1, h0, hlt, _, hi1⟩ := l01Below_f b hb i h hi (l.length : Int)
  have hpos : 1 ≤ (l.length : Int) := by have := List.length_pos_iff.mpr hl; omega
  unfold spec_l01Pick.f
  rw [e1]
  simp only [Option.bind_some]
  rw [if_pos h0, if_pos (hlt hpos)]
  refine ⟨_, _, _, rfl, ?_, hi1⟩
  have hx : x.toNat < l.length := by have := hlt hpos; omega
  unfold rdOf
  rw [List.getD_eq_getElem?_getD, List.getElem?_eq_getElem hx]
  exact List.getElem_mem hx
theorem l01PickInt_f (b : List Int) (hb : b.length ≤ 140737488355328) (i h : Int) (hi : Inside b i) (l : List Int) (hl : l ≠ []) : ∃ x i' h', spec_l01PickInt.f b i h l = some (x, i', h') ∧ x ∈ l ∧ Inside b i' := by
  obtain ⟨x, i1, h1, e1, h0, hlt, _, hi1⟩ := l01Below_f b hb i h hi (l.length : Int)
  have hpos : 1 ≤ (l.length : Int) := by have := List.length_pos_iff.mpr hl; omega
  unfold spec_l01PickInt.f
  rw [e1]
  simp only [Option.bind_some]
  rw [if_pos h0, if_pos (hlt hpos)]
  refine ⟨_, _, _, rfl, ?_, hi1⟩
  have hx : x.toNat < l.length := by have := hlt hpos; omega
  unfold rd
  rw [List.getD_eq_getElem?_getD, List.getElem?_eq_getElem hx]
  exact List.getElem_mem hx
/-! ### Names -/
def okc (c : UInt8) : Bool := decide (97 ≤ c.toNat ∧ c.toNat ≤ 122) || decide (48 ≤ c.toNat ∧ c.toNat ≤ 57) || decide (c.toNat = 46) || decide (c.toNat = 45)
def nameOk (l : List UInt8) : Bool := l.all okc && decide (1 ≤ l.length ∧ l.length ≤ 20)
theorem okc_true {c : UInt8} (h : (97 ≤ c.toNat ∧ c.toNat ≤ 122) ∨ (48 ≤ c.toNat ∧ c.toNat ≤ 57) ∨ c.toNat = 46 ∨ c.toNat = 45) : okc c = true := by
  unfold okc
  rcases h with h | h | h | h
  · simp [h]
  · simp [h]
  · simp [h]
  · simp [h]
theorem okc_false {c : UInt8} (h1 : ¬ (97 ≤ c.toNat ∧ c.toNat ≤ 122)) (h2 : ¬ (48 ≤ c.toNat ∧ c.toNat ≤ 57)) (h3 : ¬ c.toNat = 46) (h4 : ¬ c.toNat = 45) : okc c = false := by
  unfold okc
  rw [decide_eq_false h1, decide_eq_false h2, decide_eq_false h3, decide_eq_false h4]; rfl
theorem spec_NameOk_l0 (s : ByteArray) (hs : s.size ≤ 140737488355328) (n : Nat) : ∀ (i : Nat), i + n = s.size →
    Ev (fun k => spec_NameOk.l0 k s (i : Int)) ((s.data.toList.drop i).all okc && decide (1 ≤ s.size ∧ s.size ≤ 20)) := by
  induction n with
  | zero =>
    intro i hi
    refine Ev.step (fun k => by rw [spec_NameOk.l0]) (Ev.neg (by omega) ?_)
    rw [l01In_f, List.drop_eq_nil_of_le (by rw [size_list]; omega)]
    refine Ev.bind (Ev.const rfl) (Ev.const ?_)
    refine congrArg some ?_
    rw [List.all_nil, Bool.true_and, decide_eq_decide]; omega
  | succ n ih =>
    intro i hi
    have hlt : i < s.size := by omega
    refine Ev.step (fun k => by rw [spec_NameOk.l0]) (Ev.pos (by omega) (Ev.pos (by omega) ?_))
    rw [bt_list s i (by rw [size_list]; exact hlt), drop_cons s i hlt, List.all_cons]
    have hc := (s.data.toList[i]'(by rw [size_list]; exact hlt)).toNat_lt
    have ih := ih (i + 1) (by omega)
    generalize s.data.toList[i]'(by rw [size_list]; exact hlt) = c at hc ⊢
    rw [wrap64_id (x := (c.toNat : Int)) (by omega) (by omega), wrap64_id (x := (i : Int) + 1) (by omega) (by omega), l01In_f, l01In_f]
    refine Ev.bind (Ev.const rfl) ?_
    by_cases h1 : 97 ≤ c.toNat ∧ c.toNat ≤ 122
    · refine Ev.pos (decide_eq_true (by omega)) ?_
      rw [okc_true (.inl h1), Bool.true_and]; exact ih
    · refine Ev.neg (by rw [decide_eq_false (by omega)]; decide) (Ev.bind (Ev.const rfl) ?_)
      by_cases h2 : 48 ≤ c.toNat ∧ c.toNat ≤ 57
      · refine Ev.pos (decide_eq_true (by omega)) ?_
        rw [okc_true (.inr (.inl h2)), Bool.true_and]; exact ih
      · refine Ev.neg (by rw [decide_eq_false (by omega)]; decide) ?_
        by_cases h3 : c.toNat = 46
        · refine Ev.pos (by omega) ?_
          rw [okc_true (.inr (.inr (.inl h3))), Bool.true_and]; exact ih
        · refine Ev.neg (by omega) ?_
          by_cases h4 : c.toNat = 45
          · refine Ev.pos (by omega) ?_
            rw [okc_true (.inr (.inr (.inr h4))), Bool.true_and]; exact ih
          · refine Ev.neg (by omega) ?_
            rw [okc_false h1 h2 h3 h4, Bool.false_and, Bool.false_and]; exact Ev.now _
theorem spec_NameOk_ev (s : ByteArray) (hs : s.size ≤ 140737488355328) : Ev (fun k => spec_NameOk.f k s) (nameOk s.data.toList) := by
  unfold spec_NameOk.f nameOk
  rw [size_list]
  exact spec_NameOk_l0 s hs s.size 0 (by omega)
theorem impl_NameOk_l0 (s : ByteArray) (hs : s.size ≤ 140737488355328) (n : Nat) : ∀ (i : Nat), i + n = s.size →
    Ev (fun k => impl_NameOk.l0 k s (s.size : Int) (i : Int)) ((s.data.toList.drop i).all okc && decide (1 ≤ s.size ∧ s.size ≤ 20)) := by
  induction n with
  | zero =>
    intro i hi
    refine Ev.step (fun k => by rw [impl_NameOk.l0]) (Ev.neg (by omega) ?_)
    rw [within_f, List.drop_eq_nil_of_le (by rw [size_list]; omega)]
    refine Ev.bind (Ev.const rfl) (Ev.const ?_)
    refine congrArg some ?_
    rw [List.all_nil, Bool.true_and, decide_eq_decide]; omega
  | succ n ih =>
    intro i hi
    have hlt : i < s.size := by omega
    refine Ev.step (fun k => by rw [impl_NameOk.l0]) (Ev.pos (by omega) (Ev.pos (by omega) (Ev.pos (by omega) ?_)))
    rw [bt_list s i (by rw [size_list]; exact hlt), drop_cons s i hlt, List.all_cons]
    have hc := (s.data.toList[i]'(by rw [size_list]; exact hlt)).toNat_lt
    have ih := ih (i + 1) (by omega)
    generalize s.data.toList[i]'(by rw [size_list]; exact hlt) = c at hc ⊢
    rw [wrap64_id (x := (i : Int) + 1) (by omega) (by omega)]
    have yes (h : (97 ≤ c.toNat ∧ c.toNat ≤ 122) ∨ (48 ≤ c.toNat ∧ c.toNat ≤ 57) ∨ c.toNat = 46 ∨ c.toNat = 45) :
        Ev (fun k => impl_NameOk.l0 k s (s.size : Int) ((i : Int) + 1)) (okc c && (s.data.toList.drop (i + 1)).all okc && decide (1 ≤ s.size ∧ s.size ≤ 20)) := by
      rw [okc_true h, Bool.true_and]; exact ih
    by_cases a1 : (c.toNat : Int) ≥ 97
    · refine Ev.pos a1 ?_
      by_cases a2 : (c.toNat : Int) ≤ 122
      · exact Ev.pos a2 (yes (.inl (by omega)))
      · refine Ev.neg a2 (Ev.pos (by omega) (Ev.neg (by omega) (Ev.neg (by omega) (Ev.neg (by omega) ?_))))
        rw [okc_false (by omega) (by omega) (by omega) (by omega), Bool.false_and, Bool.false_and]; exact Ev.now _
    · refine Ev.neg a1 ?_
      by_cases b1 : (c.toNat : Int) ≥ 48
      · refine Ev.pos b1 ?_
        by_cases b2 : (c.toNat : Int) ≤ 57
        · exact Ev.pos b2 (yes (.inr (.inl (by omega))))
        · refine Ev.neg b2 (Ev.neg (by omega) (Ev.neg (by omega) ?_))
          rw [okc_false (by omega) (by omega) (by omega) (by omega), Bool.false_and, Bool.false_and]; exact Ev.now _
      · refine Ev.neg b1 ?_
        by_cases b3 : (c.toNat : Int) = 46
        · exact Ev.pos b3 (yes (.inr (.inr (.inl (by omega)))))
        · refine Ev.neg b3 ?_
          by_cases b4 : (c.toNat : Int) = 45
          · exact Ev.pos b4 (yes (.inr (.inr (.inr (by omega)))))
          · refine Ev.neg b4 ?_
            rw [okc_false (by omega) (by omega) (by omega) (by omega), Bool.false_and, Bool.false_and]; exact Ev.now _
theorem impl_NameOk_ev (s : ByteArray) (hs : s.size ≤ 140737488355328) : Ev (fun k => impl_NameOk.f k s) (nameOk s.data.toList) := by
  unfold impl_NameOk.f nameOk
  rw [size_list]
  exact impl_NameOk_l0 s hs s.size 0 (by omega)
theorem big_f (l : List Int) : laws_big.f l = some (decide ((l.length : Int) > 1048576)) := rfl
theorem l03Int_f (b : List Int) (hb : b.length ≤ 140737488355328) (i h : Int) (hi : Inside b i) : ∃ x i' h', spec_l03Int.f b i h = some (x, i', h') ∧ (-9223372036854775808 ≤ x ∧ x ≤ 9223372036854775807) ∧ Inside b i' := by
  unfold spec_l03Int.f
  obtain ⟨y, i1, h1, e1, hy, hlt, _, hi1⟩ := l01Below_f b hb i h hi 100000
  rw [e1]
  simp only [Option.bind_some]
  obtain ⟨x, i2, h2, e2, hx, hi2⟩ := l01PickInt_f b hb i1 h1 hi1 [0, 1, 127, 128, 255, 256, 16383, 16384, 1000000000, 1000000001, 4294967295, (-1), 9223372036854775807, y] (by simp)
  rw [e2]
  refine ⟨_, _, _, rfl, ?_, hi2⟩
  have := hlt (by decide)
  simp only [List.mem_cons, List.not_mem_nil, or_false] at hx
  rcases hx with rfl | rfl | rfl | rfl | rfl | rfl | rfl | rfl | rfl | rfl | rfl | rfl | rfl | rfl <;> omega
theorem segOf_short (n : Int) : (segOf n).size ≤ 13 := by
  unfold segOf
  split
  · rw [segName_size]; omega
  · decide
theorem tmpOf_short (n : Int) : (tmpOf n).size ≤ 17 := by
  unfold tmpOf
  split
  · rw [ByteArray.size_append, segName_size]; decide
  · decide
theorem l04Name_ev (b : List Int) (hb : b.length ≤ 140737488355328) (i h : Int) (hi : Inside b i) : ∃ s i' h', Ev (fun k => spec_l04Name.f k b i h) (s, i', h') ∧ s.size ≤ 21 ∧ Inside b i' := by
  unfold spec_l04Name.f
  obtain ⟨c, i1, h1, e1, _, _, _, hi1⟩ := l01Below_f b hb i h hi 6
  by_cases c0 : c = 0
  · obtain ⟨s, i2, h2, e2, hs, hi2⟩ := l01Pick_f b hb i1 h1 hi1 [(⟨#[]⟩ : ByteArray), (⟨#[97]⟩ : ByteArray), (⟨#[114, 101, 97, 100, 109, 101]⟩ : ByteArray), (⟨#[115, 48, 48, 48, 48, 48, 48, 48, 97, 46, 115, 101, 103]⟩ : ByteArray), (⟨#[115, 48, 48, 48, 48, 48, 48, 48, 65, 46, 115, 101, 103]⟩ : ByteArray), (⟨#[115, 51, 98, 57, 97, 99, 97, 48, 49, 46, 115, 101, 103]⟩ : ByteArray), (⟨#[115, 48, 48, 48, 48, 48, 48, 48, 48, 46, 115, 101, 103, 46, 116, 109, 112]⟩ : ByteArray), (⟨#[115, 48, 48, 48, 48, 48, 48, 48, 46, 115, 101, 103]⟩ : ByteArray), (⟨#[120, 48, 48, 48, 48, 48, 48, 48, 48, 46, 115, 101, 103]⟩ : ByteArray), (⟨#[115, 48, 48, 48, 48, 48, 48, 48, 48, 46, 115, 101, 104]⟩ : ByteArray), (⟨#[97, 32, 98]⟩ : ByteArray), (⟨#[97, 97, 97, 97, 97, 97, 97, 97, 97, 97, 97, 97, 97, 97, 97, 97, 97, 97, 97, 97, 97]⟩ : ByteArray), (⟨#[97, 97, 97, 97, 97, 97, 97, 97, 97, 97, 97, 97, 97, 97, 97, 97, 97, 97, 97, 97]⟩ : ByteArray)] (by simp)
    refine ⟨s, i2, h2, Ev.bind (Ev.const e1) (Ev.pos c0 (Ev.bind (Ev.const e2) (Ev.now _))), ?_, hi2⟩
    simp only [List.mem_cons, List.not_mem_nil, or_false] at hs
    rcases hs with rfl | rfl | rfl | rfl | rfl | rfl | rfl | rfl | rfl | rfl | rfl | rfl | rfl <;> decide
  · obtain ⟨y, i2, h2, e2, _, _, _, hi2⟩ := l01Below_f b hb i1 h1 hi1 40
    by_cases c1 : c = 1
    · have := tmpOf_short y
      exact ⟨tmpOf y, i2, h2, Ev.bind (Ev.const e1) (Ev.neg c0 (Ev.pos c1 (Ev.bind (Ev.const e2) (Ev.bind (spec_TempName_ev y) (Ev.now _))))), by omega, hi2⟩
    · have := segOf_short y
      exact ⟨segOf y, i2, h2, Ev.bind (Ev.const e1) (Ev.neg c0 (Ev.neg c1 (Ev.bind (Ev.const e2) (Ev.bind (spec_SegmentName_ev y) (Ev.now _))))), by omega, hi2⟩
theorem dg16_nat : ∀ d : Nat, d < 16 → (dg16 d).toNat = if d < 10 then 48 + d else 87 + d := by decide +kernel
theorem pLow_dg (acc d : Nat) (l : List UInt8) (hd : d < 16) : pLow acc (dg16 d :: l) = pLow (acc * 16 + d) l := by
  have e := dg16_nat d hd
  rw [pLow]
  generalize dg16 d = c at e
  by_cases h : d < 10
  · rw [if_pos h] at e
    rw [if_pos (by omega), show c.toNat - 48 = d by omega]
  · rw [if_neg h] at e
    rw [if_neg (by omega), if_pos (by omega), show c.toNat - 87 = d by omega]
theorem pLow_val (u m : Nat) : ∀ acc, pLow acc (hx m u) = some (acc * 16 ^ m + u % 16 ^ m) := by
  induction m with
  | zero => intro acc; rw [hx, pLow, Nat.pow_zero, Nat.mod_one]; congr 1; omega
  | succ m ih =>
    intro acc
    rw [hx_cons, pLow_dg _ _ _ (Nat.mod_lt _ (by decide)), ih, Nat.pow_succ, Nat.mod_mul]
    congr 1
    rw [Nat.add_mul, Nat.mul_assoc, Nat.mul_comm 16 (16 ^ m), Nat.mul_comm (u / 16 ^ m % 16), Nat.add_assoc, Nat.add_comm (16 ^ m * (u / 16 ^ m % 16))]
theorem pLow_mid (u : Nat) (hu : u ≤ 1000000000) : pLow 0 (hx 8 u) = some u := by
  rw [pLow_val, Nat.zero_mul, Nat.zero_add, Nat.mod_eq_of_lt (Nat.lt_of_le_of_lt hu (by decide))]
theorem rd_seg (u : Nat) (hu : u ≤ 1000000000) : rdName (segName u) = (1, (u : Int)) := by
  have e : segOf (u : Int) = segName u := by unfold segOf; rw [if_pos (by omega), Int.toNat_natCast]
  have hz := segName_size u
  unfold rdName
  rw [if_pos (by omega), mid_seg, pLow_mid u hu]
  unfold fin
  simp only []
  rw [if_pos e]
theorem rd_tmp (u : Nat) (hu : u ≤ 1000000000) : rdName (segName u ++ (⟨#[46, 116, 109, 112]⟩ : ByteArray)) = (2, (u : Int)) := by
  have e : segOf (u : Int) = segName u := by unfold segOf; rw [if_pos (by omega), Int.toNat_natCast]
  have e2 : tmpOf (u : Int) = segName u ++ (⟨#[46, 116, 109, 112]⟩ : ByteArray) := by unfold tmpOf; rw [if_pos (by omega), Int.toNat_natCast]
  have hz := segName_size u
  have hz2 : (segName u ++ (⟨#[46, 116, 109, 112]⟩ : ByteArray)).size = 17 := by rw [ByteArray.size_append, hz]; rfl
  unfold rdName
  rw [if_pos (by omega), mid_tmp, pLow_mid u hu]
  unfold fin
  simp only []
  rw [if_neg (by rw [e]; intro h; have := congrArg ByteArray.size h; omega), if_pos e2]
theorem hx_okc (m u : Nat) : (hx m u).all okc = true := by
  rw [List.all_eq_true]
  intro c hc
  exact okc_true (by have := hx_low m u c hc; omega)
theorem ok_seg (u : Nat) : nameOk (segName u).data.toList = true := by
  unfold nameOk
  rw [size_list, segName_size]
  unfold segName
  rw [mkT_list, List.all_append, List.all_append, hx_okc]; decide
theorem ok_tmp (u : Nat) : nameOk (segName u ++ (⟨#[46, 116, 109, 112]⟩ : ByteArray)).data.toList = true := by
  unfold nameOk
  rw [size_list, ByteArray.size_append, segName_size, toList_app2]
  unfold segName
  rw [mkT_list, List.all_append, List.all_append, List.all_append, hx_okc]; decide
theorem seg10 : ((segOf 10).toList == ([115, 48, 48, 48, 48, 48, 48, 48, 97, 46, 115, 101, 103] : List UInt8)) = true := by
  rw [ByteArray.toList_eq]; decide +kernel
theorem toList_nil : (⟨#[]⟩ : ByteArray).toList = [] := by rw [ByteArray.toList_eq]
theorem FnNames_bad (n : Int) (h : ¬ (0 ≤ n ∧ n ≤ 1000000000)) : Ev (fun k => laws_FnNames.j1 k n (segOf n) (tmpOf n) true) true := by
  have e1 : segOf n = (⟨#[]⟩ : ByteArray) := by unfold segOf; rw [if_neg h]
  have e2 : tmpOf n = (⟨#[]⟩ : ByteArray) := by unfold tmpOf; rw [if_neg h]
  rw [e1, e2]
  refine Ev.step (fun k => by rw [laws_FnNames.j1]) (Ev.pos rfl (Ev.pos toList_nil (Ev.pos toList_nil (Ev.bind (Ev.const (impl_SegmentName_f 10)) ?_))))
  rw [seg10]; exact Ev.now _
theorem FnNames_good (u : Nat) (hu : u ≤ 1000000000) : Ev (fun k => laws_FnNames.j1 k (u : Int) (segOf (u : Int)) (tmpOf (u : Int)) false) true := by
  have e1 : segOf (u : Int) = segName u := by unfold segOf; rw [if_pos (by omega), Int.toNat_natCast]
  have e2 : tmpOf (u : Int) = segName u ++ (⟨#[46, 116, 109, 112]⟩ : ByteArray) := by unfold tmpOf; rw [if_pos (by omega), Int.toNat_natCast]
  have hz := segName_size u
  have hz2 : (segName u ++ (⟨#[46, 116, 109, 112]⟩ : ByteArray)).size = 17 := by rw [ByteArray.size_append, hz]; rfl
  have en : impl_NextName.f 0 (u : Int) = some (segName u) := by
    unfold impl_NextName.f
    rw [isNumber_f, isNumber_f]
    simp only [Option.bind_some]
    rw [if_pos (decide_eq_true (by omega)), if_pos (decide_eq_true (by omega)), impl_SegmentName_f, wrap64_id (by omega) (by omega), Int.zero_add, e1]; rfl
  have r1 := impl_ReadName_f (segName u) (by omega)
  have r2 := impl_ReadName_f (segName u ++ (⟨#[46, 116, 109, 112]⟩ : ByteArray)) (by omega)
  have o1 := impl_NameOk_ev (segName u) (by omega)
  have o2 := impl_NameOk_ev (segName u ++ (⟨#[46, 116, 109, 112]⟩ : ByteArray)) (by omega)
  rw [rd_seg u hu] at r1
  rw [rd_tmp u hu] at r2
  rw [ok_seg] at o1
  rw [ok_tmp] at o2
  rw [e1, e2]
  clear e1 e2
  generalize segName u = a at hz hz2 en r1 r2 o1 o2 ⊢
  generalize a ++ (⟨#[46, 116, 109, 112]⟩ : ByteArray) = b at hz2 r2 o2 ⊢
  refine Ev.step (fun k => by rw [laws_FnNames.j1]) (Ev.neg Bool.false_ne_true ?_)
  refine Ev.bind (Ev.const r1) ?_
  refine Ev.bind (Ev.const r2) ?_
  refine Ev.pos (by rfl) ?_
  refine Ev.pos (by rfl) ?_
  refine Ev.pos (by rfl) ?_
  refine Ev.pos (by rfl) ?_
  refine Ev.bind o1 (Ev.pos (by rfl) (Ev.bind o2 (Ev.pos (by rfl) ?_)))
  refine Ev.pos (by omega) ?_
  refine Ev.bind (Ev.const en) (Ev.pos (by rfl) ?_)
  refine Ev.bind (Ev.const (impl_SegmentName_f 10)) ?_
  rw [seg10]; exact Ev.now _
theorem FnNames : laws_FnNames.Pure := by
  intro l _ hl _
  refine Ev.rounds (g := fun k => laws_FnNames.f k l) ?_
  unfold laws_FnNames.f
  rw [big_f]
  refine Ev.bind (Ev.const rfl) ?_
  by_cases h : (l.length : Int) > 1048576
  · exact Ev.pos (decide_eq_true h) (Ev.now _)
  refine Ev.neg (by rw [decide_eq_false h]; decide) ?_
  obtain ⟨h1, e1⟩ := l01New_ev l
  obtain ⟨n, i2, h2, e2, hn, _⟩ := l03Int_f l (by omega) 0 h1 (inside0 l)
  obtain ⟨s, i3, h3, e3, hs, _⟩ := l04Name_ev l (by omega) 0 h1 (inside0 l)
  have d1 : Ev (fun k => spec_DrawSegmentName.f k l) n := by
    unfold spec_DrawSegmentName.f
    exact Ev.bind e1 (Ev.bind (Ev.const e2) (Ev.now _))
  have d2 : Ev (fun k => spec_DrawReadName.f k l) s := by
    unfold spec_DrawReadName.f
    exact Ev.bind e1 (Ev.bind e3 (Ev.now _))
  refine Ev.bind d1 (Ev.bind (Ev.const (impl_SegmentName_f n)) (Ev.bind (Ev.const (impl_TempName_f n)) (Ev.bind d2 (Ev.bind (Ev.const (impl_ReadName_f s (by omega))) (Ev.bind (spec_ReadName_ev s) (Ev.pos rfl (Ev.pos rfl ?_)))))))
  refine Ev.bind (impl_NameOk_ev s (by omega)) (Ev.bind (spec_NameOk_ev s (by omega)) ?_)
  rw [bne_self_eq_false]
  refine Ev.step (fun k => by rw [laws_FnNames.j0]) (Ev.neg Bool.false_ne_true ?_)
  by_cases c : n < 0
  · exact Ev.pos c (FnNames_bad n (by omega))
  · refine Ev.neg c ?_
    by_cases d : n > 1000000000
    · rw [decide_eq_true d]; exact FnNames_bad n (by omega)
    · rw [decide_eq_false d]
      obtain ⟨u, rfl⟩ := Int.eq_ofNat_of_zero_le (show 0 ≤ n by omega)
      exact FnNames_good u (by omega)
end Go.Proofs.YtfnogfbmieoljaaDoor.Pure
