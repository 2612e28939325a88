/- The law FnExactDecimal answers true for every whole number: the program's Decimal tells what the reference's tells. Conditions: those of the given row, and no others. -/
import Derived.Test.YtfnogfbmieoljaaDoorMFnExactDecimalx1
namespace Go.Proofs.YtfnogfbmieoljaaDoor.Pure
open Go.RowKit Go.Proofs.YtfnogfbmieoljaaDoor.MFnExactDecimal Go.Proofs.YtfnogfbmieoljaaDoorW.PrintWords Go.Proofs.YtfnogfbmieoljaaDoorW.PrintLast Go.Proofs.YtfnogfbmieoljaaDoorW.PrintMore
set_option linter.unusedVariables false
set_option linter.unusedSimpArgs false
/-! ### Whole numbers and bits -/
theorem wrap64_id {x : Int} (h0 : -9223372036854775808 ≤ x) (h1 : x ≤ 9223372036854775807) : wrap64 x = x := by unfold wrap64; omega
theorem wf_i64 {x : Int} (h : (Lit.int .i64 x).wf = true) : -9223372036854775808 ≤ x ∧ x ≤ 9223372036854775807 := by
  simp only [Lit.wf, IntKind.min, IntKind.max, IntKind.signed, IntKind.bits, Bool.and_eq_true, decide_eq_true_eq, if_true] at h
  omega
theorem mod_toNat_nat (a : Nat) (m : Nat) : (((a : Int) % (m : Int)).toNat) = a % m := by
  rw [← Int.natCast_emod, Int.toNat_natCast]
theorem bv_mask (j : Nat) (hj : j < 64) (x : Int) : (BitVec.ofInt 64 x &&& BitVec.ofInt 64 ((2 ^ j - 1 : Nat) : Int)).toNat = (x % ((2 ^ j : Nat) : Int)).toNat := by
  have hle : 2 ^ j ≤ 2 ^ 63 := Nat.pow_le_pow_right (by decide) (by omega)
  have hpos : 0 < 2 ^ j := Nat.two_pow_pos j
  have hlt : 2 ^ j - 1 < 2 ^ 64 := by omega
  have hd : (2 : Nat) ^ j ∣ 2 ^ 64 := Nat.pow_dvd_pow 2 (by omega)
  rw [BitVec.ofInt_natCast, BitVec.toNat_and, BitVec.toNat_ofNat, Nat.mod_eq_of_lt hlt, Nat.and_two_pow_sub_one_eq_mod, BitVec.toNat_ofInt]
  have h0 : 0 ≤ x % ((2 ^ 64 : Nat) : Int) := Int.emod_nonneg _ (by simp)
  have h1 : 0 ≤ x % ((2 ^ j : Nat) : Int) := Int.emod_nonneg _ (by omega)
  have : (((x % ((2 ^ 64 : Nat) : Int)).toNat % 2 ^ j : Nat) : Int) = x % ((2 ^ j : Nat) : Int) := by
    rw [Int.natCast_emod, Int.toNat_of_nonneg h0]
    exact Int.emod_emod_of_dvd x (Int.natCast_dvd_natCast.mpr hd)
  omega
/-- A mask of the lowest j bits, of any i64. -/
theorem i64_mask (j : Nat) (hj : j < 64) (x : Int) : Go.bits .and .i64 x (((2 ^ j - 1 : Nat) : Int)) = x % ((2 ^ j : Nat) : Int) := by
  have hpos : 0 < 2 ^ j := Nat.two_pow_pos j
  have hle : 2 ^ j ≤ 2 ^ 63 := Nat.pow_le_pow_right (by decide) (by omega)
  show IntKind.i64.wrap (((BitVec.ofInt 64 x &&& BitVec.ofInt 64 ((2 ^ j - 1 : Nat) : Int)).toNat : Nat) : Int) = _
  rw [bv_mask j hj x]
  have h1 : 0 ≤ x % ((2 ^ j : Nat) : Int) := Int.emod_nonneg _ (by omega)
  have h2 : x % ((2 ^ j : Nat) : Int) < ((2 ^ j : Nat) : Int) := Int.emod_lt_of_pos _ (by omega)
  rw [Int.toNat_of_nonneg h1, IntKind.wrap_i64]
  have h3 : ((2 ^ j : Nat) : Int) ≤ ((2 ^ 63 : Nat) : Int) := Int.ofNat_le.mpr hle
  have h5 : ((2 ^ 63 : Nat) : Int) = 9223372036854775808 := by decide
  omega
theorem i64_mask32 (x : Int) : Go.bits .and .i64 x 4294967295 = x % 4294967296 := i64_mask 32 (by decide) x
theorem i64_mask8 (x : Int) : Go.bits .and .i64 x 255 = x % 256 := i64_mask 8 (by decide) x
theorem i64_mask7 (x : Int) : Go.bits .and .i64 x 127 = x % 128 := i64_mask 7 (by decide) x
theorem i64_mask4 (x : Int) : Go.bits .and .i64 x 15 = x % 16 := i64_mask 4 (by decide) x
theorem i64_mask1 (x : Int) : Go.bits .and .i64 x 1 = x % 2 := i64_mask 1 (by decide) x
theorem xor_nat (k : IntKind) (j : Nat) (hj : j ≤ k.bits) (hk : ∀ n : Int, 0 ≤ n → n < 2 ^ j → k.wrap n = n) (a b : Nat) (ha : a < 2 ^ j) (hb : b < 2 ^ j) :
    Go.bits .xor k a b = ((a ^^^ b : Nat) : Int) := by
  have hp : 2 ^ j ≤ 2 ^ k.bits := Nat.pow_le_pow_right (by decide) hj
  have ha' : a % 2 ^ k.bits = a := Nat.mod_eq_of_lt (Nat.lt_of_lt_of_le ha hp)
  have hb' : b % 2 ^ k.bits = b := Nat.mod_eq_of_lt (Nat.lt_of_lt_of_le hb hp)
  simp only [Go.bits, BitVec.ofInt_natCast, BitVec.toNat_xor, BitVec.toNat_ofNat, ha', hb']
  exact hk _ (Int.natCast_nonneg _) (by exact_mod_cast Nat.xor_lt_two_pow ha hb)
theorem wraps_i64 (n : Int) (h0 : 0 ≤ n) (h1 : n < 2 ^ 63) : IntKind.i64.wrap n = n := by rw [IntKind.wrap_i64]; omega
theorem wraps_u32 (n : Int) (h0 : 0 ≤ n) (h1 : n < 2 ^ 32) : IntKind.u32.wrap n = n := by rw [IntKind.wrap_u32]; omega
theorem i64_xor (a b : Nat) (ha : a < 2 ^ 63) (hb : b < 2 ^ 63) : Go.bits .xor .i64 a b = ((a ^^^ b : Nat) : Int) := xor_nat .i64 63 (by decide) wraps_i64 a b ha hb
theorem u32_xor (a b : Nat) (ha : a < 2 ^ 32) (hb : b < 2 ^ 32) : Go.bits .xor .u32 a b = ((a ^^^ b : Nat) : Int) := xor_nat .u32 32 (by decide) wraps_u32 a b ha hb
theorem i64_or (a b : Nat) (ha : a < 2 ^ 63) (hb : b < 2 ^ 63) : Go.bits .or .i64 a b = ((a ||| b : Nat) : Int) := (Go.bits_nat .i64 63 (by decide) wraps_i64 a b ha hb).2
theorem u8_or (a b : Nat) (ha : a < 2 ^ 8) (hb : b < 2 ^ 8) : Go.bits .or .u8 a b = ((a ||| b : Nat) : Int) := (Go.bits_nat .u8 8 (by decide) Go.wraps_u8 a b ha hb).2
theorem u32_and1 (a : Nat) (ha : a < 2 ^ 32) : Go.bits .and .u32 a 1 = ((a % 2 : Nat) : Int) := by
  rw [show (1 : Int) = ((1 : Nat) : Int) from rfl, (Go.bits_nat .u32 32 (by decide) wraps_u32 a 1 ha (by decide)).1, show (1 : Nat) = 2 ^ 1 - 1 from rfl, Nat.and_two_pow_sub_one_eq_mod]
/-! ### Bytes of a text -/
theorem bt_list (s : ByteArray) (i : Nat) (h : i < s.data.toList.length) : bt s (i : Int) = ((s.data.toList[i]).toNat : Int) := by
  have h' : i < s.size := by rw [Array.length_toList] at h; exact h
  have hn : (i : Int).toNat < s.size := by rw [Int.toNat_natCast]; exact h'
  rw [← bt_at s i hn]
  rfl
theorem size_list (s : ByteArray) : s.data.toList.length = s.size := by rw [Array.length_toList]; rfl
theorem drop_cons (s : ByteArray) (i : Nat) (h : i < s.size) : s.data.toList.drop i = s.data.toList[i]'(by rw [size_list]; exact h) :: s.data.toList.drop (i + 1) :=
  List.drop_eq_getElem_cons (by rw [size_list]; exact h)
/-! ### From some number of rounds on -/
section
variable {α : Type} {f g : Nat → Option α} {r : α} {c : Prop} [Decidable c]
theorem Ev.pos (h : c) (e : Ev f r) : Ev (fun k => if c then f k else g k) r := Ev.congr (fun _ => if_pos h) e
theorem Ev.neg (h : ¬ c) (e : Ev g r) : Ev (fun k => if c then f k else g k) r := Ev.congr (fun _ => if_neg h) e
theorem Ev.const {o : Option α} (h : o = some r) : Ev (fun _ => o) r := ⟨0, fun _ _ => h⟩
theorem Ev.at (K : Nat) (h : ∀ k, K ≤ k → f k = some r) : Ev f r := ⟨K, h⟩
theorem Ev.of_eq {r' : α} (e : Ev f r) (h : r = r') : Ev f r' := h ▸ e
end
theorem Ev.both {α β : Type} {f : Nat → Option α} {g : Nat → Option β} {a : α} {b : β} (h : Ev f a) (h' : Ev g b) : ∃ k, f k = some a ∧ g k = some b := by
  obtain ⟨K, h⟩ := h
  obtain ⟨K', h'⟩ := h'
  exact ⟨max K K', h _ (by omega), h' _ (by omega)⟩
/-! ### Texts as lists of bytes -/
def mkT (l : List UInt8) : ByteArray := ⟨l.toArray⟩
theorem mkT_list (l : List UInt8) : (mkT l).data.toList = l := rfl
theorem ba_ext {a b : ByteArray} (h : a.data.toList = b.data.toList) : a = b := by
  cases a; cases b
  exact congrArg ByteArray.mk (Array.toList_inj.1 h)
theorem mkT_of (a : ByteArray) : mkT a.data.toList = a := ba_ext rfl
theorem toList_app2 (a b : ByteArray) : (a ++ b).data.toList = a.data.toList ++ b.data.toList := by rw [ByteArray.data_append, Array.toList_append]
theorem mkT_size (l : List UInt8) : (mkT l).size = l.length := by rw [← size_list, mkT_list]
theorem l01Figure_digit (n : Nat) (h : n < 10) : spec_l01Figure.f (n : Int) = some ((48 + n : Nat) : Int) := by
  unfold spec_l01Figure.f
  rw [if_pos (by omega), wrap64_id (by omega) (by omega)]; congr 1; omega
open Go.Lib (decDigits itoa)
def digitsNZ (u : Nat) : List UInt8 := if u = 0 then [] else decDigits u
theorem digitsNZ_step {u : Nat} (h : u ≠ 0) : digitsNZ u = digitsNZ (u / 10) ++ [UInt8.ofNat (48 + u % 10)] := by
  unfold digitsNZ
  rw [if_neg h, decDigits]
  by_cases c : u < 10
  · rw [dif_pos c, if_pos (by omega), Nat.mod_eq_of_lt c]; rfl
  · rw [dif_neg c, if_neg (by omega)]
theorem one_text (n : Nat) : (strOfNums [(n : Int)]).data.toList = [UInt8.ofNat n] := by
  show [UInt8.ofNat ((n : Int)).toNat] = _
  rw [Int.toNat_natCast]
theorem spec_Decimal_l0 (b : Bool) (m : Nat) : ∀ (x : Int) (s : ByteArray), x.natAbs < 10 ^ m → m ≤ 30 → s.size + m ≤ 100 → (-9223372036854775808 ≤ x ∧ x ≤ 9223372036854775807) →
    Ev (fun k => spec_Decimal.l0 k x b s) (mkT ((if b then [45] else []) ++ digitsNZ x.natAbs ++ s.data.toList)) := by
  induction m with
  | zero =>
    intro x s hx _ hs _
    obtain rfl : x = 0 := by simp at hx; omega
    refine Ev.step (fun k => by rw [spec_Decimal.l0]) (Ev.pos rfl ?_)
    cases b with
    | true =>
      refine Ev.pos rfl (Ev.pos (by omega) (Ev.const ?_))
      refine congrArg some (ba_ext ?_)
      rw [toList_app2, mkT_list]; rfl
    | false =>
      refine Ev.neg (by decide) (Ev.const ?_)
      refine congrArg some (ba_ext ?_)
      rw [mkT_list]; rfl
  | succ m ih =>
    intro x s hx hm hs hb
    by_cases h0 : x = 0
    · subst h0
      refine Ev.step (fun k => by rw [spec_Decimal.l0]) (Ev.pos rfl ?_)
      cases b with
      | true =>
        refine Ev.pos rfl (Ev.pos (by omega) (Ev.const ?_))
        refine congrArg some (ba_ext ?_)
        rw [toList_app2, mkT_list]; rfl
      | false =>
        refine Ev.neg (by decide) (Ev.const ?_)
        refine congrArg some (ba_ext ?_)
        rw [mkT_list]; rfl
    · have hlt : (Int.tdiv x 10).natAbs < 10 ^ m := by
        rw [Int.natAbs_tdiv]
        exact Nat.div_lt_of_lt_mul (by rw [Nat.pow_succ] at hx; rw [show (10 : Int).natAbs = 10 from rfl, Nat.mul_comm]; exact hx)
      have hq : (Int.tdiv x 10).natAbs = x.natAbs / 10 := by rw [Int.natAbs_tdiv]; rfl
      have hmod : (Int.tmod x 10).natAbs = x.natAbs % 10 := by rw [Int.natAbs_tmod]; rfl
      have hsum : 10 * Int.tdiv x 10 + Int.tmod x 10 = x := Int.mul_tdiv_add_tmod x 10
      have hqb : -9223372036854775808 ≤ Int.tdiv x 10 ∧ Int.tdiv x 10 ≤ 9223372036854775807 := by
        constructor <;> omega
      have go : ∀ d : Nat, d = x.natAbs % 10 → Ev (fun k => (some (([((48 + d : Nat) : Int)] : List Int) : List Int)).bind fun y => if (strOfNums y).size + s.size ≤ 9223372036854775807 then spec_Decimal.l0 k (wrap64 (Int.tdiv x 10)) b ((strOfNums y) ++ s) else none) (mkT ((if b then [45] else []) ++ digitsNZ x.natAbs ++ s.data.toList)) := by
        intro d hd
        have hz : (strOfNums [((48 + d : Nat) : Int)]).size = 1 := by rw [strOfNums_size]; rfl
        refine Ev.bind (Ev.const rfl) (Ev.pos (by rw [hz]; omega) ?_)
        rw [wrap64_id hqb.1 hqb.2]
        have := ih (Int.tdiv x 10) ((strOfNums [((48 + d : Nat) : Int)]) ++ s) hlt (by omega) (by rw [ByteArray.size_append, hz]; omega) hqb
        refine Ev.of_eq this ?_
        rw [toList_app2, one_text, hq, digitsNZ_step (u := x.natAbs) (by omega), hd]
        simp only [List.append_assoc]
      refine Ev.step (fun k => by rw [spec_Decimal.l0]) (Ev.neg h0 ?_)
      by_cases hneg : Int.tmod x 10 < 0
      · have e : wrap64 (-(Int.tmod x 10)) = ((x.natAbs % 10 : Nat) : Int) := by rw [wrap64_id (by omega) (by omega)]; omega
        refine Ev.pos hneg ?_
        rw [e]
        exact Ev.bind (Ev.const (l01Figure_digit _ (by omega))) (go _ rfl)
      · have e : Int.tmod x 10 = ((x.natAbs % 10 : Nat) : Int) := by omega
        refine Ev.neg hneg ?_
        rw [e]
        exact Ev.bind (Ev.const (l01Figure_digit _ (by omega))) (go _ rfl)
theorem spec_Decimal_ev (n : Int) (hn : -9223372036854775808 ≤ n ∧ n ≤ 9223372036854775807) : Ev (fun k => spec_Decimal.f k n) (mkT (itoa n)) := by
  unfold spec_Decimal.f
  by_cases h : n = 0
  · subst h
    refine Ev.pos rfl (Ev.const ?_)
    refine congrArg some (ba_ext ?_)
    rw [mkT_list]
    unfold itoa
    rw [if_neg (by decide), decDigits, dif_pos (by decide)]; rfl
  · refine Ev.neg h ?_
    have := spec_Decimal_l0 (decide (n < 0)) 19 n (⟨#[]⟩ : ByteArray) (Nat.lt_of_le_of_lt (m := 9223372036854775808) (by omega) (by decide)) (by decide) (by decide) hn
    refine Ev.of_eq this ?_
    refine ba_ext ?_
    rw [mkT_list, mkT_list]
    show (_ ++ digitsNZ n.natAbs) ++ [] = _
    rw [List.append_nil]
    have hd : digitsNZ n.natAbs = decDigits n.natAbs := if_neg (by omega)
    rw [hd]
    unfold itoa
    by_cases c : n < 0
    · rw [decide_eq_true c, if_pos c]; rfl
    · rw [decide_eq_false c, if_neg c, show n.natAbs = n.toNat by omega]; rfl
theorem impl_Decimal_f (n : Int) (hn : -9223372036854775808 ≤ n ∧ n ≤ 9223372036854775807) : impl_Decimal.f n = some (mkT (Go.Lib.itoa n)) := by
  unfold impl_Decimal.f
  rw [if_pos hn]; rfl
theorem FnExactDecimal : laws_FnExactDecimal.Pure := by
  intro n hn
  refine Ev.rounds (g := fun k => laws_FnExactDecimal.f k n) ?_
  unfold laws_FnExactDecimal.f
  have h := wf_i64 hn
  exact Ev.bind (spec_Decimal_ev n h) (Ev.bind (Ev.const (impl_Decimal_f n h)) (Ev.pos rfl (Ev.now _)))
end Go.Proofs.YtfnogfbmieoljaaDoor.Pure
