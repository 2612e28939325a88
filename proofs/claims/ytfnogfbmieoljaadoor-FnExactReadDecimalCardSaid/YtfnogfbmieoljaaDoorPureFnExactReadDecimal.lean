/- The law FnExactReadDecimal answers true for every text: the program's ReadDecimal tells what the reference's tells. Conditions: those of the given row, and no others. -/
import Derived.Test.YtfnogfbmieoljaaDoorMFnExactReadDecimalx1
namespace Go.Proofs.YtfnogfbmieoljaaDoor.Pure
open Go.RowKit Go.Proofs.YtfnogfbmieoljaaDoor.MFnExactReadDecimal Go.Proofs.YtfnogfbmieoljaaDoorW.PrintWords Go.Proofs.YtfnogfbmieoljaaDoorW.PrintLast Go.Proofs.YtfnogfbmieoljaaDoorW.PrintMore
set_option linter.unusedVariables false
set_option linter.unusedSimpArgs false
/-! ### Whole numbers and bits -/
theorem wrap64_id {x : Int} (h0 : -9223372036854775808 ≤ x) (h1 : x ≤ 9223372036854775807) : wrap64 x = x := by unfold wrap64; omega
theorem wf_i64 {x : Int} (h : (Lit.int .i64 x).wf = true) : -9223372036854775808 ≤ x ∧ x ≤ 9223372036854775807 := by
  simp only [Lit.wf, IntKind.min, IntKind.max, IntKind.signed, IntKind.bits, Bool.and_eq_true, decide_eq_true_eq, if_true] at h
  omega
theorem mod_toNat_nat (a : Nat) (m : Nat) : (((a : Int) % (m : Int)).toNat) = a % m := by
  rw [← Int.natCast_emod, Int.toNat_natCast]
theorem bv_mask (j : Nat) (hj : j < 64) (x : Int) : (BitVec.ofInt 64 x &&& BitVec.ofInt 64 ((2 ^ j - 1 : Nat) : Int)).toNat = (x % ((2 ^ j : Nat) : Int)).toNat := by
  have hle : 2 ^ j ≤ 2 ^ 63 := Nat.pow_le_pow_right (by decide) (by omega)
  have hpos : 0 < 2 ^ j := Nat.two_pow_pos j
  have hlt : 2 ^ j - 1 < 2 ^ 64 := by omega
  have hd : (2 : Nat) ^ j ∣ 2 ^ 64 := Nat.pow_dvd_pow 2 (by omega)
  rw [BitVec.ofInt_natCast, BitVec.toNat_and, BitVec.toNat_ofNat, Nat.mod_eq_of_lt hlt, Nat.and_two_pow_sub_one_eq_mod, BitVec.toNat_ofInt]
  have h0 : 0 ≤ x % ((2 ^ 64 : Nat) : Int) := Int.emod_nonneg _ (by simp)
  have h1 : 0 ≤ x % ((2 ^ j : Nat) : Int) := Int.emod_nonneg _ (by omega)
  have : (((x % ((2 ^ 64 : Nat) : Int)).toNat % 2 ^ j : Nat) : Int) = x % ((2 ^ j : Nat) : Int) := by
    rw [Int.natCast_emod, Int.toNat_of_nonneg h0]
    exact Int.emod_emod_of_dvd x (Int.natCast_dvd_natCast.mpr hd)
  omega
/-- A mask of the lowest j bits, of any i64. -/
theorem i64_mask (j : Nat) (hj : j < 64) (x : Int) : Go.bits .and .i64 x (((2 ^ j - 1 : Nat) : Int)) = x % ((2 ^ j : Nat) : Int) := by
  have hpos : 0 < 2 ^ j := Nat.two_pow_pos j
  have hle : 2 ^ j ≤ 2 ^ 63 := Nat.pow_le_pow_right (by decide) (by omega)
  show IntKind.i64.wrap (((BitVec.ofInt 64 x &&& BitVec.ofInt 64 ((2 ^ j - 1 : Nat) : Int)).toNat : Nat) : Int) = _
  rw [bv_mask j hj x]
  have h1 : 0 ≤ x % ((2 ^ j : Nat) : Int) := Int.emod_nonneg _ (by omega)
  have h2 : x % ((2 ^ j : Nat) : Int) < ((2 ^ j : Nat) : Int) := Int.emod_lt_of_pos _ (by omega)
  rw [Int.toNat_of_nonneg h1, IntKind.wrap_i64]
  have h3 : ((2 ^ j : Nat) : Int) ≤ ((2 ^ 63 : Nat) : Int) := Int.ofNat_le.mpr hle
  have h5 : ((2 ^ 63 : Nat) : Int) = 9223372036854775808 := by decide
  omega
theorem i64_mask32 (x : Int) : Go.bits .and .i64 x 4294967295 = x % 4294967296 := i64_mask 32 (by decide) x
theorem i64_mask8 (x : Int) : Go.bits .and .i64 x 255 = x % 256 := i64_mask 8 (by decide) x
theorem i64_mask7 (x : Int) : Go.bits .and .i64 x 127 = x % 128 := i64_mask 7 (by decide) x
theorem i64_mask4 (x : Int) : Go.bits .and .i64 x 15 = x % 16 := i64_mask 4 (by decide) x
theorem i64_mask1 (x : Int) : Go.bits .and .i64 x 1 = x % 2 := i64_mask 1 (by decide) x
theorem xor_nat (k : IntKind) (j : Nat) (hj : j ≤ k.bits) (hk : ∀ n : Int, 0 ≤ n → n < 2 ^ j → k.wrap n = n) (a b : Nat) (ha : a < 2 ^ j) (hb : b < 2 ^ j) :
    Go.bits .xor k a b = ((a ^^^ b : Nat) : Int) := by
  have hp : 2 ^ j ≤ 2 ^ k.bits := Nat.pow_le_pow_right (by decide) hj
  have ha' : a % 2 ^ k.bits = a := Nat.mod_eq_of_lt (Nat.lt_of_lt_of_le ha hp)
  have hb' : b % 2 ^ k.bits = b := Nat.mod_eq_of_lt (Nat.lt_of_lt_of_le hb hp)
  simp only [Go.bits, BitVec.ofInt_natCast, BitVec.toNat_xor, BitVec.toNat_ofNat, ha', hb']
  exact hk _ (Int.natCast_nonneg _) (by exact_mod_cast Nat.xor_lt_two_pow ha hb)
theorem wraps_i64 (n : Int) (h0 : 0 ≤ n) (h1 : n < 2 ^ 63) : IntKind.i64.wrap n = n := by rw [IntKind.wrap_i64]; omega
theorem wraps_u32 (n : Int) (h0 : 0 ≤ n) (h1 : n < 2 ^ 32) : IntKind.u32.wrap n = n := by rw [IntKind.wrap_u32]; omega
theorem i64_xor (a b : Nat) (ha : a < 2 ^ 63) (hb : b < 2 ^ 63) : Go.bits .xor .i64 a b = ((a ^^^ b : Nat) : Int) := xor_nat .i64 63 (by decide) wraps_i64 a b ha hb
theorem u32_xor (a b : Nat) (ha : a < 2 ^ 32) (hb : b < 2 ^ 32) : Go.bits .xor .u32 a b = ((a ^^^ b : Nat) : Int) := xor_nat .u32 32 (by decide) wraps_u32 a b ha hb
theorem i64_or (a b : Nat) (ha : a < 2 ^ 63) (hb : b < 2 ^ 63) : Go.bits .or .i64 a b = ((a ||| b : Nat) : Int) := (Go.bits_nat .i64 63 (by decide) wraps_i64 a b ha hb).2
theorem u8_or (a b : Nat) (ha : a < 2 ^ 8) (hb : b < 2 ^ 8) : Go.bits .or .u8 a b = ((a ||| b : Nat) : Int) := (Go.bits_nat .u8 8 (by decide) Go.wraps_u8 a b ha hb).2
theorem u32_and1 (a : Nat) (ha : a < 2 ^ 32) : Go.bits .and .u32 a 1 = ((a % 2 : Nat) : Int) := by
  rw [show (1 : Int) = ((1 : Nat) : Int) from rfl, (Go.bits_nat .u32 32 (by decide) wraps_u32 a 1 ha (by decide)).1, show (1 : Nat) = 2 ^ 1 - 1 from rfl, Nat.and_two_pow_sub_one_eq_mod]
/-! ### Bytes of a text -/
theorem bt_list (s : ByteArray) (i : Nat) (h : i < s.data.toList.length) : bt s (i : Int) = ((s.data.toList[i]).toNat : Int) := by
  have h' : i < s.size := by rw [Array.length_toList] at h; exact h
  have hn : (i : Int).toNat < s.size := by rw [Int.toNat_natCast]; exact h'
  rw [← bt_at s i hn]
  rfl
theorem size_list (s : ByteArray) : s.data.toList.length = s.size := by rw [Array.length_toList]; rfl
theorem drop_cons (s : ByteArray) (i : Nat) (h : i < s.size) : s.data.toList.drop i = s.data.toList[i]'(by rw [size_list]; exact h) :: s.data.toList.drop (i + 1) :=
  List.drop_eq_getElem_cons (by rw [size_list]; exact h)
/-! ### From some number of rounds on -/
section
variable {α : Type} {f g : Nat → Option α} {r : α} {c : Prop} [Decidable c]
theorem Ev.pos (h : c) (e : Ev f r) : Ev (fun k => if c then f k else g k) r := Ev.congr (fun _ => if_pos h) e
theorem Ev.neg (h : ¬ c) (e : Ev g r) : Ev (fun k => if c then f k else g k) r := Ev.congr (fun _ => if_neg h) e
theorem Ev.const {o : Option α} (h : o = some r) : Ev (fun _ => o) r := ⟨0, fun _ _ => h⟩
theorem Ev.at (K : Nat) (h : ∀ k, K ≤ k → f k = some r) : Ev f r := ⟨K, h⟩
theorem Ev.of_eq {r' : α} (e : Ev f r) (h : r = r') : Ev f r' := h ▸ e
end
theorem Ev.both {α β : Type} {f : Nat → Option α} {g : Nat → Option β} {a : α} {b : β} (h : Ev f a) (h' : Ev g b) : ∃ k, f k = some a ∧ g k = some b := by
  obtain ⟨K, h⟩ := h
  obtain ⟨K', h'⟩ := h'
  exact ⟨max K K', h _ (by omega), h' _ (by omega)⟩
/-! ### Texts as lists of bytes -/
def mkT (l : List UInt8) : ByteArray := ⟨l.toArray⟩
theorem mkT_list (l : List UInt8) : (mkT l).data.toList = l := rfl
theorem ba_ext {a b : ByteArray} (h : a.data.toList = b.data.toList) : a = b := by
  cases a; cases b
  exact congrArg ByteArray.mk (Array.toList_inj.1 h)
theorem mkT_of (a : ByteArray) : mkT a.data.toList = a := ba_ext rfl
theorem toList_app2 (a b : ByteArray) : (a ++ b).data.toList = a.data.toList ++ b.data.toList := by rw [ByteArray.data_append, Array.toList_append]
theorem mkT_size (l : List UInt8) : (mkT l).size = l.length := by rw [← size_list, mkT_list]
theorem l01Figure_digit (n : Nat) (h : n < 10) : spec_l01Figure.f (n : Int) = some ((48 + n : Nat) : Int) := by
  unfold spec_l01Figure.f
  rw [if_pos (by omega), wrap64_id (by omega) (by omega)]; congr 1; omega
open Go.Lib (decDigits itoa)
def digitsNZ (u : Nat) : List UInt8 := if u = 0 then [] else decDigits u
theorem digitsNZ_step {u : Nat} (h : u ≠ 0) : digitsNZ u = digitsNZ (u / 10) ++ [UInt8.ofNat (48 + u % 10)] := by
  unfold digitsNZ
  rw [if_neg h, decDigits]
  by_cases c : u < 10
  · rw [dif_pos c, if_pos (by omega), Nat.mod_eq_of_lt c]; rfl
  · rw [dif_neg c, if_neg (by omega)]
theorem one_text (n : Nat) : (strOfNums [(n : Int)]).data.toList = [UInt8.ofNat n] := by
  show [UInt8.ofNat ((n : Int)).toNat] = _
  rw [Int.toNat_natCast]
theorem spec_Decimal_l0 (b : Bool) (m : Nat) : ∀ (x : Int) (s : ByteArray), x.natAbs < 10 ^ m → m ≤ 30 → s.size + m ≤ 100 → (-9223372036854775808 ≤ x ∧ x ≤ 9223372036854775807) →
    Ev (fun k => spec_Decimal.l0 k x b s) (mkT ((if b then [45] else []) ++ digitsNZ x.natAbs ++ s.data.toList)) := by
  induction m with
  | zero =>
    intro x s hx _ hs _
    obtain rfl : x = 0 := by simp at hx; omega
    refine Ev.step (fun k => by rw [spec_Decimal.l0]) (Ev.pos rfl ?_)
    cases b with
    | true =>
      refine Ev.pos rfl (Ev.pos (by omega) (Ev.const ?_))
      refine congrArg some (ba_ext ?_)
      rw [toList_app2, mkT_list]; rfl
    | false =>
      refine Ev.neg (by decide) (Ev.const ?_)
      refine congrArg some (ba_ext ?_)
      rw [mkT_list]; rfl
  | succ m ih =>
    intro x s hx hm hs hb
    by_cases h0 : x = 0
    · subst h0
      refine Ev.step (fun k => by rw [spec_Decimal.l0]) (Ev.pos rfl ?_)
      cases b with
      | true =>
        refine Ev.pos rfl (Ev.pos (by omega) (Ev.const ?_))
        refine congrArg some (ba_ext ?_)
        rw [toList_app2, mkT_list]; rfl
      | false =>
        refine Ev.neg (by decide) (Ev.const ?_)
        refine congrArg some (ba_ext ?_)
        rw [mkT_list]; rfl
    · have hlt : (Int.tdiv x 10).natAbs < 10 ^ m := by
        rw [Int.natAbs_tdiv]
        exact Nat.div_lt_of_lt_mul (by rw [Nat.pow_succ] at hx; rw [show (10 : Int).natAbs = 10 from rfl, Nat.mul_comm]; exact hx)
      have hq : (Int.tdiv x 10).natAbs = x.natAbs / 10 := by rw [Int.natAbs_tdiv]; rfl
      have hmod : (Int.tmod x 10).natAbs = x.natAbs % 10 := by rw [Int.natAbs_tmod]; rfl
      have hsum : 10 * Int.tdiv x 10 + Int.tmod x 10 = x := Int.mul_tdiv_add_tmod x 10
      have hqb : -9223372036854775808 ≤ Int.tdiv x 10 ∧ Int.tdiv x 10 ≤ 9223372036854775807 := by
        constructor <;> omega
      have go : ∀ d : Nat, d = x.natAbs % 10 → Ev (fun k => (some (([((48 + d : Nat) : Int)] : List Int) : List Int)).bind fun y => if (strOfNums y).size + s.size ≤ 9223372036854775807 then spec_Decimal.l0 k (wrap64 (Int.tdiv x 10)) b ((strOfNums y) ++ s) else none) (mkT ((if b then [45] else []) ++ digitsNZ x.natAbs ++ s.data.toList)) := by
        intro d hd
        have hz : (strOfNums [((48 + d : Nat) : Int)]).size = 1 := by rw [strOfNums_size]; rfl
        refine Ev.bind (Ev.const rfl) (Ev.pos (by rw [hz]; omega) ?_)
        rw [wrap64_id hqb.1 hqb.2]
        have := ih (Int.tdiv x 10) ((strOfNums [((48 + d : Nat) : Int)]) ++ s) hlt (by omega) (by rw [ByteArray.size_append, hz]; omega) hqb
        refine Ev.of_eq this ?_
        rw [toList_app2, one_text, hq, digitsNZ_step (u := x.natAbs) (by omega), hd]
        simp only [List.append_assoc]
      refine Ev.step (fun k => by rw [spec_Decimal.l0]) (Ev.neg h0 ?_)
      by_cases hneg : Int.tmod x 10 < 0
      · have e : wrap64 (-(Int.tmod x 10)) = ((x.natAbs % 10 : Nat) : Int) := by rw [wrap64_id (by omega) (by omega)]; omega
        refine Ev.pos hneg ?_
        rw [e]
        exact Ev.bind (Ev.const (l01Figure_digit _ (by omega))) (go _ rfl)
      · have e : Int.tmod x 10 = ((x.natAbs % 10 : Nat) : Int) := by omega
        refine Ev.neg hneg ?_
        rw [e]
        exact Ev.bind (Ev.const (l01Figure_digit _ (by omega))) (go _ rfl)
theorem spec_Decimal_ev (n : Int) (hn : -9223372036854775808 ≤ n ∧ n ≤ 9223372036854775807) : Ev (fun k => spec_Decimal.f k n) (mkT (itoa n)) := by
  unfold spec_Decimal.f
  by_cases h : n = 0
  · subst h
    refine Ev.pos rfl (Ev.const ?_)
    refine congrArg some (ba_ext ?_)
    rw [mkT_list]
    unfold itoa
    rw [if_neg (by decide), decDigits, dif_pos (by decide)]; rfl
  · refine Ev.neg h ?_
    have := spec_Decimal_l0 (decide (n < 0)) 19 n (⟨#[]⟩ : ByteArray) (Nat.lt_of_le_of_lt (m := 9223372036854775808) (by omega) (by decide)) (by decide) (by decide) hn
    refine Ev.of_eq this ?_
    refine ba_ext ?_
    rw [mkT_list, mkT_list]
    show (_ ++ digitsNZ n.natAbs) ++ [] = _
    rw [List.append_nil]
    have hd : digitsNZ n.natAbs = decDigits n.natAbs := if_neg (by omega)
    rw [hd]
    unfold itoa
    by_cases c : n < 0
    · rw [decide_eq_true c, if_pos c]; rfl
    · rw [decide_eq_false c, if_neg c, show n.natAbs = n.toNat by omega]; rfl
/-! ### A decimal numeral read back -/
def isDig (c : UInt8) : Prop := 48 ≤ c.toNat ∧ c.toNat ≤ 57
def dval (acc : Nat) (l : List UInt8) : Nat := l.foldl (fun n c => 10 * n + (c.toNat - 48)) acc
theorem dval_nil (acc : Nat) : dval acc [] = acc := rfl
theorem dval_cons (acc : Nat) (c : UInt8) (l : List UInt8) : dval acc (c :: l) = dval (10 * acc + (c.toNat - 48)) l := by unfold dval; rw [List.foldl_cons]
theorem dval_le : ∀ (l : List UInt8) (acc : Nat), acc ≤ dval acc l := by
  intro l
  induction l with
  | nil => intro acc; exact Nat.le_refl _
  | cons c l ih => intro acc; have := ih (10 * acc + (c.toNat - 48)); rw [dval_cons]; omega
theorem dval_snoc (c : UInt8) : ∀ (l : List UInt8) (acc : Nat), dval acc (l ++ [c]) = 10 * dval acc l + (c.toNat - 48) := by
  intro l
  induction l with
  | nil => intro acc; rw [List.nil_append, dval_cons, dval_nil, dval_nil]
  | cons d l ih => intro acc; rw [List.cons_append, dval_cons, ih, dval_cons]
theorem ofNat_dig (n : Nat) (h : n < 10) : (UInt8.ofNat (48 + n)).toNat = 48 + n := by rw [UInt8.toNat_ofNat']; omega
theorem decDigits_dig (u : Nat) : (∀ c ∈ decDigits u, isDig c) ∧ dval 0 (decDigits u) = u := by
  induction u using Nat.strongRecOn with
  | _ u ih =>
    rw [decDigits]
    by_cases h : u < 10
    · rw [dif_pos h]
      have e := ofNat_dig u h
      refine ⟨fun c hc => ?_, ?_⟩
      · rw [List.mem_singleton] at hc; subst hc; unfold isDig; omega
      · rw [dval_cons, dval_nil]; omega
    · rw [dif_neg h]
      obtain ⟨h1, h2⟩ := ih (u / 10) (by omega)
      have e := ofNat_dig (u % 10) (by omega)
      refine ⟨fun c hc => ?_, ?_⟩
      · rcases List.mem_append.1 hc with h | h
        · exact h1 c h
        · rw [List.mem_singleton] at h; subst h; unfold isDig; omega
      · rw [dval_snoc, h2, e]; omega
theorem decDigits_ne (u : Nat) : decDigits u ≠ [] := by
  rw [decDigits]
  split <;> simp
theorem decDigits_length (m : Nat) : ∀ u : Nat, u < 10 ^ (m + 1) → (decDigits u).length ≤ m + 1 := by
  induction m with
  | zero =>
    intro u h
    rw [decDigits, dif_pos (by omega)]; exact Nat.le_refl _
  | succ m ih =>
    intro u h
    rw [decDigits]
    by_cases c : u < 10
    · rw [dif_pos c]; show 1 ≤ _; omega
    · rw [dif_neg c, List.length_append, List.length_singleton]
      have := ih (u / 10) (Nat.div_lt_of_lt_mul (by rw [Nat.mul_comm, ← Nat.pow_succ]; exact h))
      omega
/-- What both read: the number whose numeral it is, in 0 .. 1000000000. -/
def IsDec (l : List UInt8) (v : Int) : Prop := 0 ≤ v ∧ v ≤ 1000000000 ∧ itoa v = l
theorem itoa_nat (u : Nat) : itoa (u : Int) = decDigits u := by
  unfold itoa
  rw [if_neg (by omega), Int.toNat_natCast]
theorem isDec_val {l : List UInt8} {v : Int} (h : IsDec l v) : (∀ c ∈ l, isDig c) ∧ ((dval 0 l : Nat) : Int) = v ∧ l ≠ [] ∧ l.length ≤ 10 := by
  obtain ⟨h0, h1, rfl⟩ := h
  obtain ⟨u, rfl⟩ := Int.eq_ofNat_of_zero_le h0
  rw [itoa_nat]
  obtain ⟨a, b⟩ := decDigits_dig u
  exact ⟨a, by rw [b], decDigits_ne u, decDigits_length 9 u (by omega)⟩
def decOut (s : ByteArray) (n : Nat) : Int × Bool := if n > 1000000000 then (0, false) else if (mkT (itoa (n : Int))).toList = s.toList then ((n : Int), true) else (0, false)
theorem spec_ReadDecimal_l0 (s : ByteArray) (hs : s.size ≤ 10) (m : Nat) : ∀ (i acc : Nat), i + m = s.size → acc < 10 ^ i →
    ∃ r, Ev (fun k => spec_ReadDecimal.l0 k s (acc : Int) (i : Int)) r ∧ ((∀ c ∈ s.data.toList.drop i, isDig c) → r = decOut s (dval acc (s.data.toList.drop i))) ∧ (¬ (∀ c ∈ s.data.toList.drop i, isDig c) → r = (0, false)) := by
  induction m with
  | zero =>
    intro i acc hi ha
    have hp : 10 ^ i ≤ 10 ^ 10 := Nat.pow_le_pow_right (by decide) (by omega)
    rw [List.drop_eq_nil_of_le (by rw [size_list]; omega)]
    refine ⟨decOut s acc, ?_, fun _ => rfl, fun h => absurd (fun c hc => absurd hc List.not_mem_nil) h⟩
    refine Ev.step (fun k => by rw [spec_ReadDecimal.l0]) (Ev.neg (by omega) ?_)
    unfold decOut
    by_cases c : acc > 1000000000
    · refine Ev.of_eq (r := (0, false)) ?_ (if_pos c).symm
      exact Ev.pos (by omega) (Ev.now _)
    · refine Ev.of_eq ?_ (if_neg c).symm
      refine Ev.neg (by omega) (Ev.bind (spec_Decimal_ev (acc : Int) (by omega)) ?_)
      by_cases e : (mkT (itoa (acc : Int))).toList = s.toList
      · refine Ev.of_eq (r := ((acc : Int), true)) ?_ (if_pos e).symm
        exact Ev.pos e (Ev.now _)
      · refine Ev.of_eq (r := (0, false)) ?_ (if_neg e).symm
        exact Ev.neg e (Ev.now _)
  | succ m ih =>
    intro i acc hi ha
    have hp : 10 ^ i ≤ 10 ^ 9 := Nat.pow_le_pow_right (by decide) (by omega)
    have hlt : i < s.size := by omega
    have hb := bt_list s i (by rw [size_list]; exact hlt)
    rw [drop_cons s i hlt]
    have hc := (s.data.toList[i]'(by rw [size_list]; exact hlt)).toNat_lt
    generalize (s.data.toList[i]'(by rw [size_list]; exact hlt)) = c at hc hb ⊢
    by_cases h1 : 48 ≤ c.toNat
    · by_cases h2 : c.toNat ≤ 57
      · obtain ⟨r, hr, h3, h4⟩ := ih (i + 1) (10 * acc + (c.toNat - 48)) (by omega) (by rw [Nat.pow_succ]; omega)
        refine ⟨r, ?_, fun h => h3 fun d hd => h d (List.mem_cons_of_mem _ hd), fun h => h4 fun h' => h fun d hd => ?_⟩
        · refine Ev.step (fun k => by rw [spec_ReadDecimal.l0]) (Ev.pos (by omega) (Ev.pos (by omega) ?_))
          rw [hb]
          refine Ev.neg (by omega) (Ev.neg (by omega) ?_)
          rw [wrap64_id (x := 10 * (acc : Int)) (by omega) (by omega), wrap64_id (x := (c.toNat : Int)) (by omega) (by omega), wrap64_id (x := 10 * (acc : Int) + (c.toNat : Int)) (by omega) (by omega), wrap64_id (by omega) (by omega), wrap64_id (by omega) (by omega)]
          rw [show 10 * (acc : Int) + (c.toNat : Int) - 48 = ((10 * acc + (c.toNat - 48) : Nat) : Int) by omega]
          exact hr
        · rcases List.mem_cons.1 hd with e | hd
          · rw [e]; exact ⟨h1, h2⟩
          · exact h' d hd
      · refine ⟨(0, false), ?_, fun h => absurd (h c (List.mem_cons_self ..)).2 h2, fun _ => rfl⟩
        refine Ev.step (fun k => by rw [spec_ReadDecimal.l0]) (Ev.pos (by omega) (Ev.pos (by omega) ?_))
        rw [hb]
        refine Ev.neg (by omega) ?_
        exact Ev.pos (by omega) (Ev.now _)
    · refine ⟨(0, false), ?_, fun h => absurd (h c (List.mem_cons_self ..)).1 h1, fun _ => rfl⟩
      refine Ev.step (fun k => by rw [spec_ReadDecimal.l0]) (Ev.pos (by omega) (Ev.pos (by omega) ?_))
      rw [hb]
      exact Ev.pos (by omega) (Ev.now _)
open Classical in
/-- What ReadDecimal tells. -/
noncomputable def readDec (s : ByteArray) : Int × Bool := if h : ∃ v, IsDec s.data.toList v then (h.choose, true) else (0, false)
theorem readDec_of {s : ByteArray} {v : Int} (h : IsDec s.data.toList v) : readDec s = (v, true) := by
  unfold readDec
  have hx : ∃ v, IsDec s.data.toList v := ⟨v, h⟩
  rw [dif_pos hx]
  have e1 := (isDec_val hx.choose_spec).2.1
  have e2 := (isDec_val h).2.1
  rw [← e1, ← e2]
theorem readDec_no {s : ByteArray} (h : ¬ ∃ v, IsDec s.data.toList v) : readDec s = (0, false) := by
  unfold readDec
  rw [dif_neg h]
theorem spec_ReadDecimal_ev (s : ByteArray) (hs : s.size ≤ 140737488355328) : Ev (fun k => spec_ReadDecimal.f k s) (readDec s) := by
  unfold spec_ReadDecimal.f
  by_cases h : (s.size : Int) > 10
  · rw [readDec_no]
    · exact Ev.pos h (Ev.now _)
    · rintro ⟨v, hv⟩
      have := (isDec_val hv).2.2.2
      rw [size_list] at this
      omega
  · obtain ⟨r, hr, h3, h4⟩ := spec_ReadDecimal_l0 s (by omega) s.size 0 0 (by omega) (by decide)
    rw [List.drop_zero] at h3 h4
    refine Ev.neg h (Ev.of_eq hr ?_)
    by_cases hx : ∃ v, IsDec s.data.toList v
    · obtain ⟨v, hv⟩ := hx
      obtain ⟨a, b, _, _⟩ := isDec_val hv
      rw [readDec_of hv, h3 a]
      unfold decOut
      obtain ⟨v0, v1, v2⟩ := hv
      rw [if_neg (by omega), if_pos, b]
      rw [ByteArray.toList_eq, ByteArray.toList_eq, mkT_list, b, v2]
    · rw [readDec_no hx]
      by_cases hd : ∀ c ∈ s.data.toList, isDig c
      · rw [h3 hd]
        unfold decOut
        by_cases c1 : dval 0 s.data.toList > 1000000000
        · rw [if_pos c1]
        · rw [if_neg c1, if_neg]
          intro e
          rw [ByteArray.toList_eq, ByteArray.toList_eq, mkT_list] at e
          exact hx ⟨_, by omega, by omega, e⟩
      · exact h4 hd
theorem impl_Decimal_f (n : Int) (hn : -9223372036854775808 ≤ n ∧ n ≤ 9223372036854775807) : impl_Decimal.f n = some (mkT (Go.Lib.itoa n)) := by
  unfold impl_Decimal.f
  rw [if_pos hn]; rfl
theorem within_f (a b c : Int) : impl_within.f a b c = some (decide (b ≤ a ∧ a ≤ c)) := by
  unfold impl_within.f
  by_cases h : a ≥ b
  · rw [if_pos h]; congr 1; rw [decide_eq_decide]; omega
  · rw [if_neg h]; congr 1; symm; rw [decide_eq_false_iff_not]; omega
theorem isNumber_f (a : Int) : impl_isNumber.f a = some (decide (0 ≤ a ∧ a ≤ 1000000000)) := by
  unfold impl_isNumber.f
  rw [within_f]; rfl
theorem parseUint10_dig : ∀ (l : List UInt8) (acc : Nat), (∀ c ∈ l, isDig c) → dval acc l ≤ 1000000000 → Go.Lib.parseUint10 acc l = .ok (dval acc l) := by
  intro l
  induction l with
  | nil => intro acc _ _; rfl
  | cons c l ih =>
    intro acc h hv
    have hc := h c (List.mem_cons_self ..)
    unfold isDig at hc
    rw [dval_cons] at hv
    have h1 := dval_le l (10 * acc + (c.toNat - 48))
    have := ih (10 * acc + (c.toNat - 48)) (fun d hd => h d (List.mem_cons_of_mem _ hd)) hv
    rw [Go.Lib.parseUint10, if_pos hc, if_neg (by omega), if_neg (by omega), dval_cons, Nat.mul_comm acc 10]
    exact this
theorem atoiAll_dec {l : List UInt8} {v : Int} (h : IsDec l v) : Go.Lib.atoiAll l = .ok v := by
  obtain ⟨hd, hv, hne, _⟩ := isDec_val h
  obtain ⟨h0, h1, _⟩ := h
  cases l with
  | nil => exact absurd rfl hne
  | cons c l =>
    have hc := hd c (List.mem_cons_self ..)
    unfold isDig at hc
    have hp := parseUint10_dig (c :: l) 0 hd (by omega)
    unfold Go.Lib.atoiAll
    simp only
    rw [if_neg (by omega)]
    unfold Go.Lib.parseMag
    rw [if_neg (by simp), hp]
    simp only
    rw [if_neg (by omega), if_neg (by omega), if_neg (by omega), hv]
theorem impl_ReadDecimal_f (s : ByteArray) (hs : s.size ≤ 281474976710656) : impl_ReadDecimal.f s = some (readDec s) := by
  unfold impl_ReadDecimal.f
  rw [if_pos hs]
  by_cases hx : ∃ v, IsDec s.data.toList v
  · obtain ⟨v, hv⟩ := hx
    rw [readDec_of hv, atoiAll_dec hv]
    obtain ⟨v0, v1, v2⟩ := hv
    simp only
    rw [isNumber_f, impl_Decimal_f v (by omega)]
    simp only [Option.bind_some]
    rw [if_pos (decide_eq_true ⟨v0, v1⟩), if_pos]
    rw [ByteArray.toList_eq, ByteArray.toList_eq, mkT_list, v2]
  · rw [readDec_no hx]
    cases hv : Go.Lib.atoiAll s.data.toList with
    | ok v =>
      simp only
      rw [isNumber_f]
      simp only [Option.bind_some]
      by_cases c : 0 ≤ v ∧ v ≤ 1000000000
      · rw [if_pos (decide_eq_true c), impl_Decimal_f v (by omega)]
        simp only [Option.bind_some]
        rw [if_neg]
        intro e
        rw [ByteArray.toList_eq, ByteArray.toList_eq, mkT_list] at e
        exact hx ⟨v, c.1, c.2, e⟩
      · rw [if_neg (by rw [decide_eq_false c]; decide)]
    | _ => rfl
theorem FnExactReadDecimal : laws_FnExactReadDecimal.Pure := by
  intro s hs
  refine Ev.rounds (g := fun k => laws_FnExactReadDecimal.f k s) ?_
  unfold laws_FnExactReadDecimal.f
  by_cases h : (s.size : Int) > 1048576
  · exact Ev.pos h (Ev.now _)
  · exact Ev.neg h (Ev.bind (spec_ReadDecimal_ev s (by omega)) (Ev.bind (Ev.const (impl_ReadDecimal_f s (by omega))) (Ev.pos rfl (Ev.neg (by simp) (Ev.now _)))))
end Go.Proofs.YtfnogfbmieoljaaDoor.Pure
