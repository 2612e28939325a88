/- The law FnVarLists answers true for every draw: a list of numbers comes back from its bytes, whatever is ahead and behind. Conditions: those of the given row, and no others. -/
import Derived.Test.YtdjgnooacaoomaaMFnVarListsx4
namespace Go.Proofs.Ytdjgnooacaoomaa.Pure
open Go.RowKit Go.Proofs.Ytdjgnooacaoomaa.MFnVarLists Go.Proofs.YtdjgnooacaoomaaW.PrintWords Go.Proofs.YtdjgnooacaoomaaW.PrintLast Go.Proofs.YtdjgnooacaoomaaW.PrintMore
set_option linter.unusedVariables false
set_option linter.unusedSimpArgs false
/-! ### Whole numbers and bits -/
theorem wrap64_id {x : Int} (h0 : -9223372036854775808 ≤ x) (h1 : x ≤ 9223372036854775807) : wrap64 x = x := by unfold wrap64; omega
theorem wf_i64 {x : Int} (h : (Lit.int .i64 x).wf = true) : -9223372036854775808 ≤ x ∧ x ≤ 9223372036854775807 := by
  simp only [Lit.wf, IntKind.min, IntKind.max, IntKind.signed, IntKind.bits, Bool.and_eq_true, decide_eq_true_eq, if_true] at h
  omega
theorem mod_toNat_nat (a : Nat) (m : Nat) : (((a : Int) % (m : Int)).toNat) = a % m := by
  rw [← Int.natCast_emod, Int.toNat_natCast]
theorem bv_mask (j : Nat) (hj : j < 64) (x : Int) : (BitVec.ofInt 64 x &&& BitVec.ofInt 64 ((2 ^ j - 1 : Nat) : Int)).toNat = (x % ((2 ^ j : Nat) : Int)).toNat := by
  have hle : 2 ^ j ≤ 2 ^ 63 := Nat.pow_le_pow_right (by decide) (by omega)
  have hpos : 0 < 2 ^ j := Nat.two_pow_pos j
  have hlt : 2 ^ j - 1 < 2 ^ 64 := by omega
  have hd : (2 : Nat) ^ j ∣ 2 ^ 64 := Nat.pow_dvd_pow 2 (by omega)
  rw [BitVec.ofInt_natCast, BitVec.toNat_and, BitVec.toNat_ofNat, Nat.mod_eq_of_lt hlt, Nat.and_two_pow_sub_one_eq_mod, BitVec.toNat_ofInt]
  have h0 : 0 ≤ x % ((2 ^ 64 : Nat) : Int) := Int.emod_nonneg _ (by simp)
  have h1 : 0 ≤ x % ((2 ^ j : Nat) : Int) := Int.emod_nonneg _ (by omega)
  have : (((x % ((2 ^ 64 : Nat) : Int)).toNat % 2 ^ j : Nat) : Int) = x % ((2 ^ j : Nat) : Int) := by
    rw [Int.natCast_emod, Int.toNat_of_nonneg h0]
    exact Int.emod_emod_of_dvd x (Int.natCast_dvd_natCast.mpr hd)
  omega
/-- A mask of the lowest j bits, of any i64. -/
theorem i64_mask (j : Nat) (hj : j < 64) (x : Int) : Go.bits .and .i64 x (((2 ^ j - 1 : Nat) : Int)) = x % ((2 ^ j : Nat) : Int) := by
  have hpos : 0 < 2 ^ j := Nat.two_pow_pos j
  have hle : 2 ^ j ≤ 2 ^ 63 := Nat.pow_le_pow_right (by decide) (by omega)
  show IntKind.i64.wrap (((BitVec.ofInt 64 x &&& BitVec.ofInt 64 ((2 ^ j - 1 : Nat) : Int)).toNat : Nat) : Int) = _
  rw [bv_mask j hj x]
  have h1 : 0 ≤ x % ((2 ^ j : Nat) : Int) := Int.emod_nonneg _ (by omega)
  have h2 : x % ((2 ^ j : Nat) : Int) < ((2 ^ j : Nat) : Int) := Int.emod_lt_of_pos _ (by omega)
  rw [Int.toNat_of_nonneg h1, IntKind.wrap_i64]
  have h3 : ((2 ^ j : Nat) : Int) ≤ ((2 ^ 63 : Nat) : Int) := Int.ofNat_le.mpr hle
  have h5 : ((2 ^ 63 : Nat) : Int) = 9223372036854775808 := by decide
  omega
theorem i64_mask32 (x : Int) : Go.bits .and .i64 x 4294967295 = x % 4294967296 := i64_mask 32 (by decide) x
theorem i64_mask8 (x : Int) : Go.bits .and .i64 x 255 = x % 256 := i64_mask 8 (by decide) x
theorem i64_mask7 (x : Int) : Go.bits .and .i64 x 127 = x % 128 := i64_mask 7 (by decide) x
theorem i64_mask4 (x : Int) : Go.bits .and .i64 x 15 = x % 16 := i64_mask 4 (by decide) x
theorem i64_mask1 (x : Int) : Go.bits .and .i64 x 1 = x % 2 := i64_mask 1 (by decide) x
theorem xor_nat (k : IntKind) (j : Nat) (hj : j ≤ k.bits) (hk : ∀ n : Int, 0 ≤ n → n < 2 ^ j → k.wrap n = n) (a b : Nat) (ha : a < 2 ^ j) (hb : b < 2 ^ j) :
    Go.bits .xor k a b = ((a ^^^ b : Nat) : Int) := by
  have hp : 2 ^ j ≤ 2 ^ k.bits := Nat.pow_le_pow_right (by decide) hj
  have ha' : a % 2 ^ k.bits = a := Nat.mod_eq_of_lt (Nat.lt_of_lt_of_le ha hp)
  have hb' : b % 2 ^ k.bits = b := Nat.mod_eq_of_lt (Nat.lt_of_lt_of_le hb hp)
  simp only [Go.bits, BitVec.ofInt_natCast, BitVec.toNat_xor, BitVec.toNat_ofNat, ha', hb']
  exact hk _ (Int.natCast_nonneg _) (by exact_mod_cast Nat.xor_lt_two_pow ha hb)
theorem wraps_i64 (n : Int) (h0 : 0 ≤ n) (h1 : n < 2 ^ 63) : IntKind.i64.wrap n = n := by rw [IntKind.wrap_i64]; omega
theorem wraps_u32 (n : Int) (h0 : 0 ≤ n) (h1 : n < 2 ^ 32) : IntKind.u32.wrap n = n := by rw [IntKind.wrap_u32]; omega
theorem i64_xor (a b : Nat) (ha : a < 2 ^ 63) (hb : b < 2 ^ 63) : Go.bits .xor .i64 a b = ((a ^^^ b : Nat) : Int) := xor_nat .i64 63 (by decide) wraps_i64 a b ha hb
theorem u32_xor (a b : Nat) (ha : a < 2 ^ 32) (hb : b < 2 ^ 32) : Go.bits .xor .u32 a b = ((a ^^^ b : Nat) : Int) := xor_nat .u32 32 (by decide) wraps_u32 a b ha hb
theorem i64_or (a b : Nat) (ha : a < 2 ^ 63) (hb : b < 2 ^ 63) : Go.bits .or .i64 a b = ((a ||| b : Nat) : Int) := (Go.bits_nat .i64 63 (by decide) wraps_i64 a b ha hb).2
theorem u8_or (a b : Nat) (ha : a < 2 ^ 8) (hb : b < 2 ^ 8) : Go.bits .or .u8 a b = ((a ||| b : Nat) : Int) := (Go.bits_nat .u8 8 (by decide) Go.wraps_u8 a b ha hb).2
theorem u32_and1 (a : Nat) (ha : a < 2 ^ 32) : Go.bits .and .u32 a 1 = ((a % 2 : Nat) : Int) := by
  rw [show (1 : Int) = ((1 : Nat) : Int) from rfl, (Go.bits_nat .u32 32 (by decide) wraps_u32 a 1 ha (by decide)).1, show (1 : Nat) = 2 ^ 1 - 1 from rfl, Nat.and_two_pow_sub_one_eq_mod]
/-! ### Bytes of a text -/
theorem bt_list (s : ByteArray) (i : Nat) (h : i < s.data.toList.length) : bt s (i : Int) = ((s.data.toList[i]).toNat : Int) := by
  have h' : i < s.size := by rw [Array.length_toList] at h; exact h
  have hn : (i : Int).toNat < s.size := by rw [Int.toNat_natCast]; exact h'
  rw [← bt_at s i hn]
  rfl
theorem size_list (s : ByteArray) : s.data.toList.length = s.size := by rw [Array.length_toList]; rfl
theorem drop_cons (s : ByteArray) (i : Nat) (h : i < s.size) : s.data.toList.drop i = s.data.toList[i]'(by rw [size_list]; exact h) :: s.data.toList.drop (i + 1) :=
  List.drop_eq_getElem_cons (by rw [size_list]; exact h)
/-! ### From some number of rounds on -/
section
variable {α : Type} {f g : Nat → Option α} {r : α} {c : Prop} [Decidable c]
theorem Ev.pos (h : c) (e : Ev f r) : Ev (fun k => if c then f k else g k) r := Ev.congr (fun _ => if_pos h) e
theorem Ev.neg (h : ¬ c) (e : Ev g r) : Ev (fun k => if c then f k else g k) r := Ev.congr (fun _ => if_neg h) e
theorem Ev.const {o : Option α} (h : o = some r) : Ev (fun _ => o) r := ⟨0, fun _ _ => h⟩
theorem Ev.at (K : Nat) (h : ∀ k, K ≤ k → f k = some r) : Ev f r := ⟨K, h⟩
theorem Ev.of_eq {r' : α} (e : Ev f r) (h : r = r') : Ev f r' := h ▸ e
end
theorem Ev.both {α β : Type} {f : Nat → Option α} {g : Nat → Option β} {a : α} {b : β} (h : Ev f a) (h' : Ev g b) : ∃ k, f k = some a ∧ g k = some b := by
  obtain ⟨K, h⟩ := h
  obtain ⟨K', h'⟩ := h'
  exact ⟨max K K', h _ (by omega), h' _ (by omega)⟩
theorem big_f (l : List Int) : laws_big.f l = some (decide ((l.length : Int) > 1048576)) := rfl
/-! ### A number in bytes of seven bits -/
def vn : Nat → Nat → List Int
  | 0, n => [((n % 256 : Nat) : Int)]
  | f + 1, n => if n ≥ 128 then ((n % 128 + 128 : Nat) : Int) :: vn f (n / 128) else [((n % 256 : Nat) : Int)]
def varText (n : Int) : ByteArray := if 0 ≤ n ∧ n ≤ 1000000000 then strOfNums (vn 5 n.toNat) else ⟨#[]⟩
theorem vn_length (f n : Nat) : (vn f n).length ≤ f + 1 := by
  induction f generalizing n with
  | zero => simp [vn]
  | succ f ih =>
    unfold vn
    split
    · have := ih (n / 128); rw [List.length_cons]; omega
    · simp
theorem byte_or128 : ∀ b : Nat, b < 256 → b ||| 128 = b % 128 + 128 := by decide +kernel
theorem l01In_f (a b c : Int) : spec_l01In.f a b c = some (decide (b ≤ a ∧ a ≤ c)) := by
  unfold spec_l01In.f
  by_cases h : a ≥ b
  · rw [if_pos h]; congr 1; rw [decide_eq_decide]; omega
  · rw [if_neg h]; congr 1; symm; rw [decide_eq_false_iff_not]; omega
theorem spec_VarText_l0 (f : Nat) : ∀ (n : Nat) (acc : List Int), n < 128 ^ (f + 1) → n < 2 ^ 31 → acc.length + f < 1000 →
    Ev (fun k => spec_VarText.l0 k (n : Int) acc) (strOfNums (acc ++ vn f n)) := by
  induction f with
  | zero =>
    intro n acc hn hb ha
    refine Ev.step (fun k => by rw [spec_VarText.l0]) ?_
    refine Ev.neg (by omega) (Ev.pos (by omega) (Ev.const ?_))
    rw [show ((n : Int) % 256) = ((n % 256 : Nat) : Int) by omega]; rfl
  | succ f ih =>
    intro n acc hn hb ha
    refine Ev.step (fun k => by rw [spec_VarText.l0]) ?_
    unfold vn
    by_cases h : n ≥ 128
    · rw [if_pos h]
      refine Ev.pos (by omega) (Ev.pos (by omega) ?_)
      rw [i64_mask7, show ((n : Int) % 128) = ((n % 128 : Nat) : Int) by omega, show (128 : Int) = ((128 : Nat) : Int) from rfl, i64_or _ _ (by omega) (by decide), byte_or128 _ (by omega)]
      rw [show (((n % 128 % 128 + 128 : Nat) : Int) % 256) = ((n % 128 + 128 : Nat) : Int) by omega, show ((n : Int) / ((128 : Nat) : Int)) = ((n / 128 : Nat) : Int) by omega]
      refine Ev.of_eq (ih (n / 128) _ ?_ (by omega) (by rw [List.length_append, List.length_singleton]; omega)) (by rw [List.append_assoc]; rfl)
      rw [Nat.pow_succ] at hn
      exact Nat.div_lt_of_lt_mul (by rw [Nat.mul_comm]; exact hn)
    · rw [if_neg h]
      refine Ev.neg (by omega) (Ev.pos (by omega) (Ev.const ?_))
      rw [show ((n : Int) % 256) = ((n % 256 : Nat) : Int) by omega]
theorem spec_VarText_ev (n : Int) : Ev (fun k => spec_VarText.f k n) (varText n) := by
  unfold spec_VarText.f varText
  rw [l01In_f]
  refine Ev.bind (Ev.const rfl) ?_
  simp only [decide_eq_true_eq]
  by_cases h : 0 ≤ n ∧ n ≤ 1000000000
  · rw [if_pos h]
    refine Ev.pos h ?_
    have e : n = ((n.toNat : Nat) : Int) := by omega
    rw [e, Int.toNat_natCast]
    exact spec_VarText_l0 5 n.toNat [] (Nat.lt_of_lt_of_le (m := 2 ^ 31) (by omega) (by decide)) (by omega) (by decide)
  · rw [if_neg h]
    exact Ev.neg h (Ev.now _)
theorem within_f (a b c : Int) : impl_within.f a b c = some (decide (b ≤ a ∧ a ≤ c)) := by
  unfold impl_within.f
  by_cases h : a ≥ b
  · rw [if_pos h]; congr 1; rw [decide_eq_decide]; omega
  · rw [if_neg h]; congr 1; symm; rw [decide_eq_false_iff_not]; omega
theorem isNumber_f (a : Int) : impl_isNumber.f a = some (decide (0 ≤ a ∧ a ≤ 1000000000)) := by
  unfold impl_isNumber.f
  rw [within_f]; rfl
theorem impl_VarText_l0 (f : Nat) : ∀ (n : Nat) (acc : List Int), n < 128 ^ (f + 1) → n < 2 ^ 31 → acc.length + f < 1000 →
    Ev (fun k => impl_VarText.l0 k (n : Int) acc) (strOfNums (acc ++ vn f n)) := by
  induction f with
  | zero =>
    intro n acc hn hb ha
    refine Ev.step (fun k => by rw [impl_VarText.l0]) ?_
    refine Ev.neg (by omega) (Ev.pos (by omega) (Ev.const ?_))
    rw [show ((n : Int) % 256) = ((n % 256 : Nat) : Int) by omega]; rfl
  | succ f ih =>
    intro n acc hn hb ha
    refine Ev.step (fun k => by rw [impl_VarText.l0]) ?_
    unfold vn
    by_cases h : n ≥ 128
    · rw [if_pos h]
      refine Ev.pos (by omega) (Ev.pos (by omega) ?_)
      rw [show ((n : Int) % 256) = ((n % 256 : Nat) : Int) by omega, show (128 : Int) = ((128 : Nat) : Int) from rfl, u8_or _ _ (by omega) (by decide), byte_or128 _ (by omega)]
      rw [show ((n % 256 % 128 + 128 : Nat) : Int) = ((n % 128 + 128 : Nat) : Int) by omega, show ((n : Int) / ((128 : Nat) : Int)) = ((n / 128 : Nat) : Int) by omega]
      refine Ev.of_eq (ih (n / 128) _ ?_ (by omega) (by rw [List.length_append, List.length_singleton]; omega)) (by rw [List.append_assoc]; rfl)
      rw [Nat.pow_succ] at hn
      exact Nat.div_lt_of_lt_mul (by rw [Nat.mul_comm]; exact hn)
    · rw [if_neg h]
      refine Ev.neg (by omega) (Ev.pos (by omega) (Ev.const ?_))
      rw [show ((n : Int) % 256) = ((n % 256 : Nat) : Int) by omega]
theorem impl_VarText_ev (n : Int) : Ev (fun k => impl_VarText.f k n) (varText n) := by
  unfold impl_VarText.f varText
  rw [isNumber_f]
  refine Ev.bind (Ev.const rfl) ?_
  simp only [decide_eq_true_eq]
  by_cases h : 0 ≤ n ∧ n ≤ 1000000000
  · rw [if_pos h]
    refine Ev.pos h ?_
    have e : n = ((n.toNat : Nat) : Int) := by omega
    rw [e, Int.toNat_natCast]
    exact impl_VarText_l0 5 n.toNat [] (Nat.lt_of_lt_of_le (m := 2 ^ 31) (by omega) (by decide)) (by omega) (by decide)
  · rw [if_neg h]
    exact Ev.neg h (Ev.now _)
theorem rd_Z (xs : List Int) (i : Nat) (h : i < xs.length) : rd xs (i : Int) = xs[i] := by
  unfold rd
  rw [Int.toNat_natCast, List.getD_eq_getElem?_getD, List.getElem?_eq_getElem h]; rfl
/-! ### Texts as lists of bytes -/
def mkT (l : List UInt8) : ByteArray := ⟨l.toArray⟩
theorem mkT_list (l : List UInt8) : (mkT l).data.toList = l := rfl
theorem ba_ext {a b : ByteArray} (h : a.data.toList = b.data.toList) : a = b := by
  cases a; cases b
  exact congrArg ByteArray.mk (Array.toList_inj.1 h)
theorem mkT_of (a : ByteArray) : mkT a.data.toList = a := ba_ext rfl
theorem toList_app2 (a b : ByteArray) : (a ++ b).data.toList = a.data.toList ++ b.data.toList := by rw [ByteArray.data_append, Array.toList_append]
theorem mkT_size (l : List UInt8) : (mkT l).size = l.length := by rw [← size_list, mkT_list]
theorem vt_short (n : Int) : (varText n).size ≤ 6 := by
  unfold varText
  split
  · rw [strOfNums_size]; exact vn_length 5 _
  · exact Nat.zero_le _
theorem vn_pos (f n : Nat) : 1 ≤ (vn f n).length := by
  cases f with
  | zero => simp [vn]
  | succ f => unfold vn; split <;> simp
theorem vt_empty (n : Int) : (varText n).toList = [] ↔ ¬ (0 ≤ n ∧ n ≤ 1000000000) := by
  rw [Lib.toList_data]
  constructor
  · intro h hn
    have h1 := congrArg List.length h
    rw [size_list] at h1
    unfold varText at h1
    rw [if_pos hn, strOfNums_size] at h1
    have := vn_pos 5 n.toNat
    rw [List.length_nil] at h1
    omega
  · intro h
    unfold varText
    rw [if_neg h]
/-- The texts of numbers, one behind the other; none if one is no number. -/
def vlGo : List Int → ByteArray → ByteArray
  | [], acc => acc
  | n :: l, acc => if (varText n).toList = [] then ⟨#[]⟩ else vlGo l (acc ++ varText n)
def varList (l : List Int) : ByteArray := vlGo l (varText (l.length : Int))
theorem ba_nil_append (a : ByteArray) : (⟨#[]⟩ : ByteArray) ++ a = a := by apply ba_ext; rw [toList_app2]; rfl
theorem impl_varGo_ev : ∀ (l : List Int) (acc : ByteArray), acc.size + 6 * l.length ≤ 140737488355328 → Ev (fun k => varGo k l acc) (vlGo l acc)
  | [], acc, _ => Ev.now _
  | n :: l, acc, h => by
    have hv := vt_short n
    rw [List.length_cons] at h
    refine Ev.congr (fun k => by rw [varGo]) (Ev.bind (impl_VarText_ev n) ?_)
    unfold vlGo
    by_cases he : (varText n).toList = []
    · rw [if_pos he]; exact Ev.pos he (Ev.now _)
    · rw [if_neg he]
      exact Ev.neg he (Ev.pos (by omega) (impl_varGo_ev l _ (by rw [ByteArray.size_append]; omega)))
theorem impl_VarList_ev (l : List Int) (hl : l.length ≤ 1048576) : Ev (fun k => impl_VarList.f k l) (varList l) := by
  unfold impl_VarList.f
  refine Ev.pos (by omega) ?_
  have h := impl_varGo_ev ((l.length : Int) :: l) ⟨#[]⟩ (by rw [List.length_cons]; show 0 + _ ≤ _; omega)
  rw [vlGo, if_neg (fun e => (vt_empty _).mp e ⟨by omega, by omega⟩), ba_nil_append] at h
  exact h
theorem spec_VarList_l0 (xs : List Int) (hl : xs.length ≤ 1048576) (n : Nat) : ∀ (i : Nat) (acc : ByteArray), i + n = xs.length → acc.size ≤ 6 * (i + 1) → Ev (fun k => spec_VarList.l0 k xs acc (i : Int)) (vlGo (xs.drop i) acc) := by
  induction n with
  | zero =>
    intro i acc hi _
    refine Ev.step (fun k => by rw [spec_VarList.l0]) (Ev.neg (by omega) (Ev.const ?_))
    rw [List.drop_eq_nil_of_le (by omega)]; rfl
  | succ n ih =>
    intro i acc hi ha
    have hi2 : i < xs.length := by omega
    have hv := vt_short xs[i]
    refine Ev.step (fun k => by rw [spec_VarList.l0]) (Ev.pos (by omega) (Ev.pos (by omega) ?_))
    rw [rd_Z xs i hi2, List.drop_eq_getElem_cons hi2, vlGo]
    refine Ev.bind (spec_VarText_ev xs[i]) ?_
    by_cases he : (varText xs[i]).toList = []
    · rw [if_pos he]; exact Ev.pos he (Ev.now _)
    · rw [if_neg he]
      refine Ev.neg he (Ev.pos (by omega) ?_)
      rw [wrap64_id (by omega) (by omega)]
      exact ih (i + 1) _ (by omega) (by rw [ByteArray.size_append]; omega)
theorem spec_VarList_ev (l : List Int) (hl : l.length ≤ 1048576) : Ev (fun k => spec_VarList.f k l) (varList l) := by
  unfold spec_VarList.f
  have hv := vt_short (l.length : Int)
  exact Ev.bind (spec_VarText_ev _) (spec_VarList_l0 l hl l.length 0 _ (by omega) (by omega))
/-! ### The reference's cursor over a draw -/
def Inside (b : List Int) (i : Int) : Prop := 0 ≤ i ∧ i ≤ (b.length : Int)
theorem l01Byte_f (b : List Int) (hb : b.length ≤ 140737488355328) (i h : Int) (hi : Inside b i) : ∃ x i' h', spec_l01Byte.f b i h = some (x, i', h') ∧ (0 ≤ x ∧ x ≤ 255) ∧ Inside b i' := by
  unfold Inside at *
  unfold spec_l01Byte.f
  by_cases c : i < (b.length : Int)
  · rw [if_pos c, if_pos hi.1, i64_mask8, wrap64_id (x := i + 1) (by omega) (by omega)]
    refine ⟨_, _, _, rfl, ⟨?_, ?_⟩, by omega⟩
    · exact Int.emod_nonneg _ (by decide)
    · have := Int.emod_lt_of_pos (wrap64 (Go.bits .and .i64 (Go.bits .xor .i64 ((wrap64 ((wrap64 (h * 6364136223846793005)) + 1442695040888963407)) / 8589934592) ((wrap64 ((wrap64 (h * 6364136223846793005)) + 1442695040888963407)) / 35184372088832)) 255 + wrap64 (rd b i))) (show (0 : Int) < 256 by decide)
      omega
  · rw [if_neg c, i64_mask8]
    refine ⟨_, _, _, rfl, ⟨?_, ?_⟩, hi⟩
    · exact Int.emod_nonneg _ (by decide)
    · have := Int.emod_lt_of_pos (Go.bits .xor .i64 ((wrap64 ((wrap64 (h * 6364136223846793005)) + 1442695040888963407)) / 8589934592) ((wrap64 ((wrap64 (h * 6364136223846793005)) + 1442695040888963407)) / 35184372088832)) (show (0 : Int) < 256 by decide)
      omega
theorem l01Below_f (b : List Int) (hb : b.length ≤ 140737488355328) (i h : Int) (hi : Inside b i) (n : Int) : ∃ x i' h', spec_l01Below.f b i h n = some (x, i', h') ∧ 0 ≤ x ∧ (1 ≤ n → x < n) ∧ (n ≤ 0 → x = 0) ∧ Inside b i' := by
  unfold spec_l01Below.f
  by_cases c0 : n ≤ 0
  · rw [if_pos c0]; exact ⟨0, i, h, rfl, by decide, fun h => by omega, fun _ => rfl, hi⟩
  rw [if_neg c0]
  by_cases c1 : n ≤ 256
  · rw [if_pos c1]
    obtain ⟨x, i1, h1, e1, hx, hi1⟩ := l01Byte_f b hb i h hi
    rw [e1]
    simp only [Option.bind_some]
    rw [if_neg (by omega)]
    refine ⟨_, _, _, rfl, ?_, fun _ => ?_, fun h => by omega, hi1⟩
    · rw [Int.tmod_eq_emod_of_nonneg hx.1]; exact Int.emod_nonneg _ (by omega)
    · rw [Int.tmod_eq_emod_of_nonneg hx.1]; exact Int.emod_lt_of_pos _ (by omega)
  · rw [if_neg c1]
    obtain ⟨x, i1, h1, e1, hx, hi1⟩ := l01Byte_f b hb i h hi
    obtain ⟨y, i2, h2, e2, hy, hi2⟩ := l01Byte_f b hb i1 h1 hi1
    obtain ⟨z, i3, h3, e3, hz, hi3⟩ := l01Byte_f b hb i2 h2 hi2
    obtain ⟨w, i4, h4, e4, hw, hi4⟩ := l01Byte_f b hb i3 h3 hi3
    rw [e1]; simp only [Option.bind_some]
    rw [e2]; simp only [Option.bind_some]
    rw [e3]; simp only [Option.bind_some]
    rw [e4]; simp only [Option.bind_some]
    rw [if_neg (by omega), wrap64_id (x := x * 16777216) (by omega) (by omega), wrap64_id (x := y * 65536) (by omega) (by omega), wrap64_id (x := z * 256) (by omega) (by omega), wrap64_id (x := x * 16777216 + y * 65536) (by omega) (by omega), wrap64_id (x := x * 16777216 + y * 65536 + z * 256) (by omega) (by omega), wrap64_id (by omega) (by omega)]
    have hs : 0 ≤ x * 16777216 + y * 65536 + z * 256 + w := by omega
    refine ⟨_, _, _, rfl, ?_, fun _ => ?_, fun h => by omega, hi4⟩
    · rw [Int.tmod_eq_emod_of_nonneg hs]; exact Int.emod_nonneg _ (by omega)
    · rw [Int.tmod_eq_emod_of_nonneg hs]; exact Int.emod_lt_of_pos _ (by omega)
theorem l01PickInt_f (b : List Int) (hb : b.length ≤ 140737488355328) (i h : Int) (hi : Inside b i) (l : List Int) (hl : l ≠ []) : ∃ x i' h', spec_l01PickInt.f b i h l = some (x, i', h') ∧ x ∈ l ∧ Inside b i' := by
  obtain ⟨x, i1, h1, e1, h0, hlt, _, hi1⟩ := l01Below_f b hb i h hi (l.length : Int)
  have hpos : 1 ≤ (l.length : Int) := by have := List.length_pos_iff.mpr hl; omega
  unfold spec_l01PickInt.f
  rw [e1]
  simp only [Option.bind_some]
  rw [if_pos h0, if_pos (hlt hpos)]
  refine ⟨_, _, _, rfl, ?_, hi1⟩
  have hx : x.toNat < l.length := by have := hlt hpos; omega
  unfold rd
  rw [List.getD_eq_getElem?_getD, List.getElem?_eq_getElem hx]
  exact List.getElem_mem hx
theorem l03Int_f (b : List Int) (hb : b.length ≤ 140737488355328) (i h : Int) (hi : Inside b i) : ∃ x i' h', spec_l03Int.f b i h = some (x, i', h') ∧ (-9223372036854775808 ≤ x ∧ x ≤ 9223372036854775807) ∧ Inside b i' := by
  unfold spec_l03Int.f
  obtain ⟨y, i1, h1, e1, hy, hlt, _, hi1⟩ := l01Below_f b hb i h hi 100000
  rw [e1]
  simp only [Option.bind_some]
  obtain ⟨x, i2, h2, e2, hx, hi2⟩ := l01PickInt_f b hb i1 h1 hi1 [0, 1, 127, 128, 255, 256, 16383, 16384, 1000000000, 1000000001, 4294967295, (-1), 9223372036854775807, y] (by simp)
  rw [e2]
  refine ⟨_, _, _, rfl, ?_, hi2⟩
  have := hlt (by decide)
  simp only [List.mem_cons, List.not_mem_nil, or_false] at hx
  rcases hx with rfl | rfl | rfl | rfl | rfl | rfl | rfl | rfl | rfl | rfl | rfl | rfl | rfl | rfl <;> omega
theorem l01New_l0 (b : List Int) (m : Nat) : ∀ (j : Nat) (h : Int), j + m = 4001 → ∃ h', Ev (fun k => spec_l01New.l0 k b h (j : Int)) (b, 0, h') := by
  induction m with
  | zero =>
    intro j h hj
    refine ⟨h, Ev.step (fun k => by rw [spec_l01New.l0]) ?_⟩
    by_cases c : (j : Int) < (b.length : Int)
    · exact Ev.pos c (Ev.neg (by omega) (Ev.now _))
    · exact Ev.neg c (Ev.now _)
  | succ m ih =>
    intro j h hj
    by_cases c : (j : Int) < (b.length : Int)
    · by_cases c2 : (j : Int) < 4000
      · obtain ⟨h', e⟩ := ih (j + 1) (Go.bits .and .i64 (wrap64 ((wrap64 ((wrap64 (h * 131)) + (wrap64 (rd b (j : Int))))) + 7)) 1073741823) (by omega)
        refine ⟨h', Ev.step (fun k => by rw [spec_l01New.l0]) (Ev.pos c (Ev.pos c2 (Ev.pos (by omega) ?_)))⟩
        rw [wrap64_id (x := (j : Int) + 1) (by omega) (by omega)]
        exact e
      · exact ⟨h, Ev.step (fun k => by rw [spec_l01New.l0]) (Ev.pos c (Ev.neg c2 (Ev.now _)))⟩
    · exact ⟨h, Ev.step (fun k => by rw [spec_l01New.l0]) (Ev.neg c (Ev.now _))⟩
theorem l01New_ev (b : List Int) : ∃ h', Ev (fun k => spec_l01New.f k b) (b, 0, h') := by
  unfold spec_l01New.f
  exact l01New_l0 b 4001 0 _ (by decide)
theorem inside0 (b : List Int) : Inside b 0 := ⟨by decide, by omega⟩
theorem l01Once_f (b : List Int) (hb : b.length ≤ 140737488355328) (i h : Int) (hi : Inside b i) (n : Int) : ∃ x i' h', spec_l01Once.f b i h n = some (x, i', h') ∧ Inside b i' := by
  obtain ⟨x, i1, h1, e1, _, _, _, hi1⟩ := l01Below_f b hb i h hi n
  unfold spec_l01Once.f
  rw [e1]
  exact ⟨_, _, _, rfl, hi1⟩
theorem l03List_l0 (b : List Int) (hb : b.length ≤ 140737488355328) (m : Nat) : ∀ (j : Nat) (acc : List Int) (i h : Int), j + m = 6 → acc.length = j → Inside b i →
    ∃ s i' h', Ev (fun k => spec_l03List.l0 k acc (j : Int) b i h) (s, i', h') ∧ s.length ≤ 7 ∧ Inside b i' := by
  have fin : ∀ (j : Nat) (acc : List Int) (i h : Int) (i1 h1 y : Int), j ≤ 6 → acc.length = j → spec_l01Below.f b i h 6 = some (y, i1, h1) → ¬ (j : Int) < y → Inside b i1 → ∃ s i' h', Ev (fun k => spec_l03List.l0 k acc (j : Int) b i h) (s, i', h') ∧ s.length ≤ 7 ∧ Inside b i' := by
    intro j acc i h i1 h1 y hj ha e1 c hi1
    obtain ⟨x, i2, h2, e2, hi2⟩ := l01Once_f b hb i1 h1 hi1 8
    cases x with
    | true =>
      obtain ⟨z, i3, h3, e3, _, hi3⟩ := l03Int_f b hb i2 h2 hi2
      exact ⟨acc ++ [z], i3, h3, Ev.step (fun k => by rw [spec_l03List.l0]) (Ev.bind (Ev.const e1) (Ev.neg c (Ev.bind (Ev.const e2) (Ev.pos rfl (Ev.bind (Ev.const e3) (Ev.pos (show acc.length < 17592186044416 by omega) (Ev.now _))))))), by rw [List.length_append, List.length_singleton]; omega, hi3⟩
    | false =>
      refine ⟨acc, i2, h2, Ev.step (fun k => by rw [spec_l03List.l0]) (Ev.bind (Ev.const e1) (Ev.neg c (Ev.bind (Ev.const e2) ?_))), by omega, hi2⟩
      exact Ev.neg Bool.false_ne_true (Ev.now _)
  induction m with
  | zero =>
    intro j acc i h hj ha hi
    obtain ⟨y, i1, h1, e1, h0, hlt, _, hi1⟩ := l01Below_f b hb i h hi 6
    have := hlt (by decide)
    exact fin j acc i h i1 h1 y (by omega) ha e1 (by omega) hi1
  | succ m ih =>
    intro j acc i h hj ha hi
    obtain ⟨y, i1, h1, e1, h0, hlt, _, hi1⟩ := l01Below_f b hb i h hi 6
    by_cases c : (j : Int) < y
    · obtain ⟨z, i2, h2, e2, _, _, _, hi2⟩ := l01Below_f b hb i1 h1 hi1 100000
      obtain ⟨s, i3, h3, e, hs, hi3⟩ := ih (j + 1) (acc ++ [z]) i2 h2 (by omega) (by rw [List.length_append, List.length_singleton]; omega) hi2
      refine ⟨s, i3, h3, Ev.step (fun k => by rw [spec_l03List.l0]) (Ev.bind (Ev.const e1) (Ev.pos c (Ev.bind (Ev.const e2) (Ev.pos (show acc.length < 17592186044416 by omega) ?_)))), hs, hi3⟩
      rw [wrap64_id (by omega) (by omega)]
      exact e
    · exact fin j acc i h i1 h1 y (by omega) ha e1 c hi1
theorem l03List_ev (b : List Int) (hb : b.length ≤ 140737488355328) (i h : Int) (hi : Inside b i) : ∃ s i' h', Ev (fun k => spec_l03List.f k b i h) (s, i', h') ∧ s.length ≤ 7 ∧ Inside b i' := by
  unfold spec_l03List.f
  exact l03List_l0 b hb 6 0 [] i h (by decide) rfl hi
theorem vlGo_size : ∀ (l : List Int) (acc : ByteArray), (vlGo l acc).size ≤ acc.size + 6 * l.length
  | [], acc => by rw [vlGo]; simp
  | n :: l, acc => by
    have h := vt_short n
    rw [vlGo, List.length_cons]
    split
    · exact Nat.zero_le _
    · have := vlGo_size l (acc ++ varText n)
      rw [ByteArray.size_append] at this
      omega
theorem varList_size (l : List Int) : (varList l).size ≤ 6 * (l.length + 1) := by
  have h := vt_short (l.length : Int)
  have := vlGo_size l (varText (l.length : Int))
  unfold varList
  omega
theorem DrawVarList_ev (b : List Int) (hb : b.length ≤ 140737488355328) : ∃ s, Ev (fun k => spec_DrawVarList.f k b) s ∧ s.length ≤ 7 := by
  obtain ⟨h1, e1⟩ := l01New_ev b
  obtain ⟨s, i, h, e, hs, _⟩ := l03List_ev b hb 0 h1 (inside0 b)
  refine ⟨s, ?_, hs⟩
  unfold spec_DrawVarList.f
  exact Ev.bind e1 (Ev.bind e (Ev.now _))
theorem DrawReadVars_ev (b : List Int) (hb : b.length ≤ 140737488355328) : ∃ s i, Ev (fun k => spec_DrawReadVars.f k b) (s, i) ∧ s.size ≤ 100 ∧ (-9223372036854775808 ≤ i ∧ i ≤ 9223372036854775807) := by
  obtain ⟨h1, e1⟩ := l01New_ev b
  obtain ⟨l, i2, h2, e2, hl, hi2⟩ := l03List_ev b hb 0 h1 (inside0 b)
  have hz := varList_size l
  have e3 := spec_VarList_ev l (by omega)
  have s1 : (⟨#[97]⟩ : ByteArray).size = 1 := rfl
  have s2 : (⟨#[122]⟩ : ByteArray).size = 1 := rfl
  have hsz : (((⟨#[97]⟩ : ByteArray) ++ varList l) ++ (⟨#[122]⟩ : ByteArray)).size = (varList l).size + 2 := by rw [ByteArray.size_append, ByteArray.size_append]; omega
  obtain ⟨x, i4, h4, e4, hx0, _, _, hi4⟩ := l01Below_f b hb i2 h2 hi2 6
  unfold spec_DrawReadVars.f
  by_cases c0 : x = 0
  · subst c0
    obtain ⟨y, i5, h5, e5, hy0, hylt, _, hi5⟩ := l01Below_f b hb i4 h4 hi4 (wrap64 (((((⟨#[97]⟩ : ByteArray) ++ varList l) ++ (⟨#[122]⟩ : ByteArray)).size : Int) + 1))
    have hy := hylt (by rw [wrap64_id (by omega) (by omega)]; omega)
    rw [wrap64_id (by omega) (by omega)] at hy
    have hxz : ((((⟨#[97]⟩ : ByteArray) ++ varList l) ++ (⟨#[122]⟩ : ByteArray)).extract 0 (y : Int).toNat).size ≤ 100 := by rw [ByteArray.size_extract]; omega
    obtain ⟨z, i6, h6, e6, hz6, _⟩ := l01PickInt_f b hb i5 h5 hi5 [1, 1, 1, 1, 0, (((((⟨#[97]⟩ : ByteArray) ++ varList l) ++ (⟨#[122]⟩ : ByteArray)).extract 0 (y : Int).toNat).size : Int), (-1), 9223372036854775807] (by simp)
    refine ⟨_, _, Ev.bind e1 (Ev.bind e2 (Ev.bind e3 (Ev.pos (show 1 + (varList l).size ≤ 9223372036854775807 by omega) (Ev.pos (show 1 + (varList l).size + 1 ≤ 9223372036854775807 by omega) (Ev.bind (Ev.const e4) (Ev.pos rfl (Ev.bind (Ev.const e5) (Ev.pos hy0 (Ev.pos (show y ≤ _ by omega) (Ev.bind (Ev.const e6) (Ev.now _))))))))))), hxz, ?_⟩
    simp only [List.mem_cons, List.not_mem_nil, or_false] at hz6
    rcases hz6 with rfl | rfl | rfl | rfl | rfl | rfl | rfl | rfl <;> omega
  · by_cases c1 : x = 1
    · exact ⟨_, _, Ev.bind e1 (Ev.bind e2 (Ev.bind e3 (Ev.pos (show 1 + (varList l).size ≤ 9223372036854775807 by omega) (Ev.pos (show 1 + (varList l).size + 1 ≤ 9223372036854775807 by omega) (Ev.bind (Ev.const e4) (Ev.neg c0 (Ev.pos c1 (Ev.now _)))))))), by decide, by decide⟩
    · obtain ⟨z, i6, h6, e6, hz6, _⟩ := l01PickInt_f b hb i4 h4 hi4 [1, 1, 1, 1, 0, ((((⟨#[97]⟩ : ByteArray) ++ varList l) ++ (⟨#[122]⟩ : ByteArray)).size : Int), (-1), 9223372036854775807] (by simp)
      refine ⟨_, _, Ev.bind e1 (Ev.bind e2 (Ev.bind e3 (Ev.pos (show 1 + (varList l).size ≤ 9223372036854775807 by omega) (Ev.pos (show 1 + (varList l).size + 1 ≤ 9223372036854775807 by omega) (Ev.bind (Ev.const e4) (Ev.neg c0 (Ev.neg c1 (Ev.bind (Ev.const e6) (Ev.now _))))))))), by omega, ?_⟩
      simp only [List.mem_cons, List.not_mem_nil, or_false] at hz6
      rcases hz6 with rfl | rfl | rfl | rfl | rfl | rfl | rfl | rfl <;> omega
theorem sameInts_l0 (xs : List Int) (hl : xs.length ≤ 9223372036854775806) (n : Nat) : ∀ (i : Nat), i + n = xs.length → Ev (fun k => laws_sameInts.l0 k xs xs (i : Int)) true := by
  induction n with
  | zero =>
    intro i hi
    exact Ev.step (fun k => by rw [laws_sameInts.l0]) (Ev.neg (by omega) (Ev.now _))
  | succ n ih =>
    intro i hi
    refine Ev.step (fun k => by rw [laws_sameInts.l0]) (Ev.pos (by omega) (Ev.pos (by omega) (Ev.pos (by omega) ?_)))
    refine Ev.pos rfl ?_
    rw [wrap64_id (by omega) (by omega)]
    exact ih (i + 1) (by omega)
theorem sameInts_refl (xs : List Int) (hl : xs.length ≤ 9223372036854775806) : Ev (fun k => laws_sameInts.f k xs xs) true := by
  unfold laws_sameInts.f
  exact Ev.pos rfl (sameInts_l0 xs hl xs.length 0 (by omega))
/-! ### The number that stands at a place -/
def rvr : Nat → Nat → Nat → List UInt8 → Option (Nat × Nat)
  | 0, _, _, _ => none
  | _ + 1, _, _, [] => none
  | f + 1, i, n, c :: l => if c.toNat ≥ 128 then rvr f (i + 1) (n + c.toNat % 128 * 128 ^ i) l
    else if (0 < i ∧ c.toNat = 0) ∨ 1000000000 < n + c.toNat * 128 ^ i then none else some (n + c.toNat * 128 ^ i, i + 1)
def rvOut (a : Nat) : Option (Nat × Nat) → Int × Int × Bool
  | none => (0, 0, false)
  | some (n, m) => ((n : Int), ((a + m : Nat) : Int), true)
def readVar (b : ByteArray) (i : Int) : Int × Int × Bool := if 0 ≤ i ∧ i ≤ b.size then rvOut i.toNat (rvr 5 0 0 (b.data.toList.drop i.toNat)) else (0, 0, false)
def bytesUpto (l : List UInt8) (i j : Nat) : List UInt8 := (l.drop i).take (j - i)
def vl : List UInt8 → Nat
  | [] => 0
  | c :: l => c.toNat % 128 + 128 * vl l
theorem vl_snoc (l : List UInt8) (c : UInt8) : vl (l ++ [c]) = vl l + c.toNat % 128 * 128 ^ l.length := by
  induction l with
  | nil => simp [vl]
  | cons d l ih =>
    rw [List.cons_append, vl, vl, ih, List.length_cons, Nat.pow_succ, Nat.mul_add, Nat.add_assoc, Nat.mul_comm (128 ^ l.length) 128, ← Nat.mul_assoc, ← Nat.mul_assoc, Nat.mul_comm 128 (c.toNat % 128)]
theorem vl_lt (l : List UInt8) : vl l < 128 ^ l.length := by
  induction l with
  | nil => decide
  | cons c l ih => rw [vl, List.length_cons, Nat.pow_succ]; omega
theorem pow128 (i : Nat) : (128 : Nat) ^ i = 2 ^ (7 * i) := by rw [show (128 : Nat) = 2 ^ 7 from rfl, ← Nat.pow_mul]
def bytesOfNums (l : List Int) : List UInt8 := l.map fun n => UInt8.ofNat n.toNat
theorem strOfNums_bytes (l : List Int) : (strOfNums l).data.toList = bytesOfNums l := rfl
theorem ofNat_toNat8 (c : UInt8) : UInt8.ofNat ((c.toNat : Int)).toNat = c := by rw [Int.toNat_natCast]; exact UInt8.ofNat_toNat
/-- The bytes of the number that stands in these bytes are these, if the last one isn't needless. -/
theorem vn_of (p : List UInt8) : ∀ (f : Nat) (c : UInt8), (∀ d ∈ p, d.toNat ≥ 128) → c.toNat < 128 → (p ≠ [] → c.toNat ≠ 0) → p.length ≤ f → bytesOfNums (vn f (vl (p ++ [c]))) = p ++ [c] := by
  induction p with
  | nil =>
    intro f c _ hc _ _
    have e : vl ([] ++ [c]) = c.toNat := by simp [vl]; omega
    rw [e]
    have ec : ((c.toNat % 256 : Nat) : Int) = (c.toNat : Int) := by omega
    cases f with
    | zero => rw [vn, ec]; simp only [bytesOfNums, List.map_cons, List.map_nil, ofNat_toNat8, List.nil_append]
    | succ f => rw [vn, if_neg (by omega), ec]; simp only [bytesOfNums, List.map_cons, List.map_nil, ofNat_toNat8, List.nil_append]
  | cons d p ih =>
    intro f c hp hc h0 hl
    have hd := hp d (List.mem_cons_self ..)
    have hd2 := d.toNat_lt
    have h0' : c.toNat ≠ 0 := h0 (by simp)
    obtain ⟨f, rfl⟩ : ∃ g, f = g + 1 := ⟨f - 1, by rw [List.length_cons] at hl; omega⟩
    have hpos : 1 ≤ vl (p ++ [c]) := by
      rw [vl_snoc]
      have : 0 < 128 ^ p.length := Nat.pow_pos (by decide)
      have : 1 ≤ c.toNat % 128 * 128 ^ p.length := Nat.mul_pos (by omega) this
      omega
    rw [List.cons_append, vl, vn, if_pos (by omega), show (d.toNat % 128 + 128 * vl (p ++ [c])) / 128 = vl (p ++ [c]) by omega, show ((d.toNat % 128 + 128 * vl (p ++ [c])) % 128 + 128 : Nat) = d.toNat by omega]
    have := ih f c (fun x hx => hp x (List.mem_cons_of_mem _ hx)) hc (fun _ => h0') (by rw [List.length_cons] at hl; omega)
    show UInt8.ofNat ((d.toNat : Int)).toNat :: bytesOfNums (vn f (vl (p ++ [c]))) = _
    rw [this, ofNat_toNat8]
theorem vn_short (f : Nat) : ∀ (n i : Nat), 1 ≤ i → n < 128 ^ i → (vn f n).length ≤ i := by
  induction f with
  | zero => intro n i hi _; simpa [vn] using hi
  | succ f ih =>
    intro n i hi hn
    unfold vn
    split
    · rename_i h
      obtain ⟨i, rfl⟩ : ∃ j, i = j + 1 := ⟨i - 1, by omega⟩
      have : 1 ≤ i := by
        rcases Nat.eq_zero_or_pos i with h0 | h0
        · subst h0; simp at hn; omega
        · exact h0
      have := ih (n / 128) i this (by rw [Nat.pow_succ] at hn; exact Nat.div_lt_of_lt_mul (by rw [Nat.mul_comm]; exact hn))
      rw [List.length_cons]; omega
    · simpa using hi
theorem vn_needless (p : List UInt8) (f : Nat) (c : UInt8) (hc : c.toNat = 0) (hp : p ≠ []) : bytesOfNums (vn f (vl (p ++ [c]))) ≠ p ++ [c] := by
  intro h
  have h1 := congrArg List.length h
  rw [bytesOfNums, List.length_map, List.length_append, List.length_singleton] at h1
  have h2 : vl (p ++ [c]) < 128 ^ p.length := by
    rw [vl_snoc, hc]
    have := vl_lt p
    simpa using this
  have := vn_short f _ p.length (by rcases p with _ | ⟨x, l⟩; exact absurd rfl hp; simp) h2
  omega
/-- The numbers that stand one behind the other. -/
def readMany (b : ByteArray) : Nat → Int → Option (List Int × Int)
  | 0, i => some ([], i)
  | n + 1, i => if (readVar b i).2.2 = true then (readMany b n (readVar b i).2.1).bind fun p => some ((readVar b i).1 :: p.1, p.2) else none
def readVars (b : ByteArray) (i : Int) : List Int × Int × Bool :=
  if (readVar b i).2.2 = true then (if (readVar b i).1 > 1000 then ([], 0, false) else match readMany b (readVar b i).1.toNat (readVar b i).2.1 with | none => ([], 0, false) | some p => (p.1, p.2, true)) else ([], 0, false)
theorem rvr_count (f : Nat) : ∀ (i n : Nat) (l : List UInt8) (p : Nat × Nat), rvr f i n l = some p → p.2 ≤ i + f ∧ p.2 ≤ i + l.length := by
  induction f with
  | zero => intro i n l p h; simp [rvr] at h
  | succ f ih =>
    intro i n l p h
    cases l with
    | nil => simp [rvr] at h
    | cons c l =>
      unfold rvr at h
      split at h
      · have := ih _ _ _ _ h
        rw [List.length_cons]; omega
      · split at h
        · cases h
        · have e := Option.some.inj h
          rw [← e, List.length_cons]; constructor <;> dsimp only <;> omega
theorem rvr_val (f : Nat) : ∀ (i n : Nat) (l : List UInt8) (p : Nat × Nat), rvr f i n l = some p → p.1 ≤ 1000000000 := by
  induction f with
  | zero => intro i n l p h; simp [rvr] at h
  | succ f ih =>
    intro i n l p h
    cases l with
    | nil => simp [rvr] at h
    | cons c l =>
      unfold rvr at h
      split at h
      · exact ih _ _ _ _ h
      · split at h
        · cases h
        · rename_i h2
          have e := Option.some.inj h
          rw [← e]; dsimp only; omega
theorem readVar_span (b : ByteArray) (i : Int) : 0 ≤ (readVar b i).2.1 ∧ (readVar b i).2.1 ≤ b.size ∧ 0 ≤ (readVar b i).1 ∧ (readVar b i).1 ≤ 1000000000 := by
  unfold readVar
  by_cases h : 0 ≤ i ∧ i ≤ b.size
  · rw [if_pos h]
    cases e : rvr 5 0 0 (b.data.toList.drop i.toNat) with
    | none => unfold rvOut; dsimp only; omega
    | some p =>
      have h1 := rvr_count _ _ _ _ _ e
      have h2 := rvr_val _ _ _ _ _ e
      rw [List.length_drop, size_list] at h1
      obtain ⟨n, m⟩ := p
      unfold rvOut
      dsimp only at *
      omega
  · rw [if_neg h]; dsimp only; omega
theorem varText_bytes' (n : Nat) (h : n ≤ 1000000000) : (varText (n : Int)).data.toList = bytesOfNums (vn 5 n) := by
  unfold varText
  rw [if_pos (by omega), Int.toNat_natCast]; rfl
theorem rvr_bytes (f : Nat) : ∀ (p l : List UInt8) (r : Nat × Nat), p.length + f = 5 → (∀ d ∈ p, d.toNat ≥ 128) → rvr f p.length (vl p) l = some r →
    bytesOfNums (vn 5 r.1) = (p ++ l).take r.2 ∧ r.1 ≤ 1000000000 ∧ r.2 ≤ p.length + l.length := by
  induction f with
  | zero => intro p l r _ _ h; simp [rvr] at h
  | succ f ih =>
    intro p l r hl hp h
    cases l with
    | nil => simp [rvr] at h
    | cons c l =>
      unfold rvr at h
      split at h
      · rename_i hc
        have h' : rvr f (p ++ [c]).length (vl (p ++ [c])) l = some r := by rw [List.length_append, List.length_singleton, vl_snoc]; exact h
        have := ih (p ++ [c]) l r (by rw [List.length_append, List.length_singleton]; omega) (by
          intro d hd
          rcases List.mem_append.1 hd with h | h
          · exact hp d h
          · rw [List.mem_singleton] at h; subst h; exact hc) h'
        rw [List.append_assoc, List.singleton_append, List.length_append, List.length_singleton] at this
        rw [List.length_cons]
        exact ⟨this.1, this.2.1, by omega⟩
      · rename_i hc
        split at h
        · cases h
        · rename_i h2
          have e := Option.some.inj h
          subst e
          dsimp only
          have hv : vl (p ++ [c]) = vl p + c.toNat * 128 ^ p.length := by rw [vl_snoc, show c.toNat % 128 = c.toNat by omega]
          refine ⟨?_, by omega, by rw [List.length_cons]; omega⟩
          rw [← hv, vn_of p 5 c hp (by omega) (fun hne h0 => h2 (.inl ⟨List.length_pos_iff.mpr hne, h0⟩)) (by omega)]
          rw [show p ++ c :: l = (p ++ [c]) ++ l by simp, List.take_append_of_le_length (by simp), List.take_of_length_le (by simp)]
theorem readVar_bytes (b : ByteArray) (i : Int) (h : (readVar b i).2.2 = true) : 0 ≤ i ∧ i ≤ (readVar b i).2.1 ∧ (readVar b i).2.1 ≤ b.size ∧ 0 ≤ (readVar b i).1 ∧ (readVar b i).1 ≤ 1000000000 ∧
    (varText (readVar b i).1).toList = (b.extract i.toNat ((readVar b i).2.1).toNat).toList := by
  unfold readVar at *
  by_cases hi : 0 ≤ i ∧ i ≤ b.size
  · rw [if_pos hi] at h ⊢
    cases e : rvr 5 0 0 (b.data.toList.drop i.toNat) with
    | none => rw [e] at h; cases h
    | some r =>
      have hr := rvr_bytes 5 [] _ r rfl (by simp) e
      rw [List.length_drop, size_list, List.nil_append, List.length_nil] at hr
      obtain ⟨n, m⟩ := r
      obtain ⟨h1, h2, h3⟩ := hr
      unfold rvOut
      dsimp only at *
      refine ⟨by omega, by omega, by omega, by omega, by omega, ?_⟩
      rw [ByteArray.toList_eq, ByteArray.toList_eq, varText_bytes' _ h2, h1, ByteArray.data_extract, Array.toList_extract, Int.toNat_natCast]
      show _ = (b.data.toList.drop i.toNat).take (i.toNat + m - i.toNat)
      rw [Nat.add_sub_cancel_left]
  · rw [if_neg hi] at h; cases h
theorem rvr_vn (f : Nat) : ∀ (g i acc n : Nat) (rest : List UInt8), n < 128 ^ (f + 1) → f ≤ g → (i = 0 ∨ 1 ≤ n) → acc + n * 128 ^ i ≤ 1000000000 →
    rvr (f + 1) i acc (bytesOfNums (vn g n) ++ rest) = some (acc + n * 128 ^ i, i + (vn g n).length) := by
  induction f with
  | zero =>
    intro g i acc n rest hn hg hi ha
    have e : vn g n = [((n : Nat) : Int)] := by
      cases g with
      | zero => rw [vn, show n % 256 = n by omega]
      | succ g => rw [vn, if_neg (by omega), show n % 256 = n by omega]
    have e2 : (UInt8.ofNat ((n : Int)).toNat).toNat = n := by rw [Int.toNat_natCast, UInt8.toNat_ofNat']; omega
    rw [e]
    show rvr 1 i acc (UInt8.ofNat ((n : Int)).toNat :: rest) = _
    rw [rvr, e2, if_neg (by omega), if_neg (by omega)]; rfl
  | succ f ih =>
    intro g i acc n rest hn hg hi ha
    obtain ⟨g, rfl⟩ : ∃ j, g = j + 1 := ⟨g - 1, by omega⟩
    rw [vn]
    by_cases h : n ≥ 128
    · rw [if_pos h]
      have e2 : (UInt8.ofNat (((n % 128 + 128 : Nat) : Int)).toNat).toNat = n % 128 + 128 := by rw [Int.toNat_natCast, UInt8.toNat_ofNat']; omega
      show rvr (f + 2) i acc (UInt8.ofNat (((n % 128 + 128 : Nat) : Int)).toNat :: (bytesOfNums (vn g (n / 128)) ++ rest)) = _
      have e3 : acc + n % 128 * 128 ^ i + n / 128 * 128 ^ (i + 1) = acc + n * 128 ^ i := by
        rw [Nat.pow_succ, Nat.add_assoc, ← Nat.mul_assoc, Nat.mul_right_comm, ← Nat.add_mul, Nat.mod_add_div']
      have := ih g (i + 1) (acc + n % 128 * 128 ^ i) (n / 128) rest (Nat.div_lt_of_lt_mul (by rw [Nat.mul_comm, ← Nat.pow_succ]; exact hn)) (by omega) (.inr (by omega)) (by rw [e3]; exact ha)
      rw [rvr, e2, if_pos (by omega), show (n % 128 + 128) % 128 = n % 128 by omega, this, e3, List.length_cons]
      rw [Nat.add_assoc, Nat.add_comm 1]
    · rw [if_neg h]
      have e2 : (UInt8.ofNat (((n % 256 : Nat) : Int)).toNat).toNat = n := by rw [Int.toNat_natCast, UInt8.toNat_ofNat']; omega
      show rvr (f + 2) i acc (UInt8.ofNat (((n % 256 : Nat) : Int)).toNat :: rest) = _
      rw [rvr, e2, if_neg (by omega), if_neg (by omega)]; rfl
/-- A number comes back from its bytes, whatever is ahead and behind. -/
theorem readVar_back (a r : ByteArray) (n : Int) (h : 0 ≤ n ∧ n ≤ 1000000000) : readVar ((a ++ varText n) ++ r) (a.size : Int) = (n, ((a.size + (varText n).size : Nat) : Int), true) := by
  obtain ⟨m, rfl⟩ := Int.eq_ofNat_of_zero_le h.1
  have hb : ((a ++ varText (m : Int)) ++ r).data.toList.drop a.size = bytesOfNums (vn 5 m) ++ r.data.toList := by
    rw [ByteArray.data_append, Array.toList_append, ByteArray.data_append, Array.toList_append, varText_bytes' _ (by omega), List.append_assoc, ← size_list a, List.drop_left]
  have hsz : (varText (m : Int)).size = (vn 5 m).length := by rw [← size_list, varText_bytes' _ (by omega), bytesOfNums, List.length_map]
  unfold readVar
  rw [if_pos (by rw [ByteArray.size_append, ByteArray.size_append]; omega), Int.toNat_natCast, hb, rvr_vn 4 5 0 0 m _ (Nat.lt_of_lt_of_le (m := 2 ^ 31) (by omega) (by decide)) (by decide) (.inl rfl) (by omega), hsz]
  unfold rvOut
  simp
def Nums (l : List Int) : Prop := ∀ x ∈ l, 0 ≤ x ∧ x ≤ 1000000000
def catV : List Int → List UInt8
  | [] => []
  | n :: l => (varText n).data.toList ++ catV l
theorem vlGo_ok : ∀ (l : List Int) (acc : ByteArray), Nums l → (vlGo l acc).data.toList = acc.data.toList ++ catV l
  | [], acc, _ => by rw [vlGo, catV, List.append_nil]
  | n :: l, acc, h => by
    rw [vlGo, if_neg (fun e => (vt_empty n).mp e (h n List.mem_cons_self)), vlGo_ok l _ (fun x hx => h x (List.mem_cons_of_mem _ hx)), toList_app2, catV, List.append_assoc]
theorem vlGo_bad : ∀ (l : List Int) (acc : ByteArray), ¬ Nums l → vlGo l acc = ⟨#[]⟩
  | [], _, h => absurd (fun x hx => absurd hx List.not_mem_nil) h
  | n :: l, acc, h => by
    rw [vlGo]
    by_cases hn : 0 ≤ n ∧ n ≤ 1000000000
    · rw [if_neg (fun e => (vt_empty n).mp e hn)]
      exact vlGo_bad l _ (fun hl => h (fun x hx => by
        rcases List.mem_cons.mp hx with rfl | hx
        · exact hn
        · exact hl x hx))
    · rw [if_pos ((vt_empty n).mpr hn)]
theorem varList_bytes (l : List Int) (h : Nums l) : (varList l).data.toList = (varText (l.length : Int)).data.toList ++ catV l := vlGo_ok l _ h
theorem varList_empty (l : List Int) (hl : l.length ≤ 1000000) : (varList l).toList = [] ↔ ¬ Nums l := by
  constructor
  · intro h hn
    rw [Lib.toList_data, varList_bytes l hn] at h
    have h1 := (List.append_eq_nil_iff.mp h).1
    exact (vt_empty (l.length : Int)).mp (by rw [Lib.toList_data]; exact h1) ⟨by omega, by omega⟩
  · intro h
    unfold varList
    rw [vlGo_bad l _ h, Lib.toList_data]
theorem readMany_back : ∀ (l : List Int), Nums l → ∀ (b a : ByteArray) (r : List UInt8), b.data.toList = a.data.toList ++ (catV l ++ r) → readMany b l.length (a.size : Int) = some (l, ((a.size + (catV l).length : Nat) : Int))
  | [], _, b, a, r, _ => by rw [List.length_nil, readMany]; rfl
  | n :: l, hl, b, a, r, h => by
    have hb : b = (a ++ varText n) ++ mkT (catV l ++ r) := ba_ext (by rw [toList_app2, toList_app2, mkT_list, h, catV, List.append_assoc, List.append_assoc])
    have hv : readVar b (a.size : Int) = (n, ((a.size + (varText n).size : Nat) : Int), true) := by rw [hb]; exact readVar_back a _ n (hl n List.mem_cons_self)
    have ih := readMany_back l (fun x hx => hl x (List.mem_cons_of_mem _ hx)) b (a ++ varText n) r (by rw [toList_app2, h, catV, List.append_assoc, List.append_assoc])
    rw [ByteArray.size_append] at ih
    rw [List.length_cons, readMany, hv, if_pos rfl]
    show (readMany b l.length ((a.size + (varText n).size : Nat) : Int)).bind _ = _
    rw [ih, catV, List.length_append, size_list]
    show some (n :: l, _) = _
    congr 3
    omega
theorem readVars_back (l : List Int) (hn : Nums l) (hl : l.length ≤ 1000) (b a : ByteArray) (r : List UInt8) (h : b.data.toList = a.data.toList ++ ((varList l).data.toList ++ r)) : readVars b (a.size : Int) = (l, ((a.size + (varList l).size : Nat) : Int), true) := by
  have hb : b = (a ++ varText (l.length : Int)) ++ mkT (catV l ++ r) := ba_ext (by rw [toList_app2, toList_app2, mkT_list, h, varList_bytes l hn, List.append_assoc, List.append_assoc])
  have hv : readVar b (a.size : Int) = ((l.length : Int), ((a.size + (varText (l.length : Int)).size : Nat) : Int), true) := by rw [hb]; exact readVar_back a _ _ ⟨by omega, by omega⟩
  have hm := readMany_back l hn b (a ++ varText (l.length : Int)) r (by rw [toList_app2, h, varList_bytes l hn, List.append_assoc, List.append_assoc])
  rw [ByteArray.size_append] at hm
  unfold readVars
  rw [hv, if_pos rfl, if_neg (show ¬ (l.length : Int) > 1000 by omega)]
  show (match readMany b ((l.length : Int)).toNat ((a.size + (varText (l.length : Int)).size : Nat) : Int) with | none => ([], 0, false) | some p => (p.1, p.2, true)) = _
  rw [Int.toNat_natCast, hm]
  have hz : (varList l).size = (varText (l.length : Int)).size + (catV l).length := by rw [← size_list, varList_bytes l hn, List.length_append, size_list]
  show (l, _, true) = _
  rw [hz, Nat.add_assoc]
theorem take_join {α : Type} (l : List α) (i k j : Nat) (h1 : i ≤ k) (h2 : k ≤ j) : (l.drop i).take (k - i) ++ (l.drop k).take (j - k) = (l.drop i).take (j - i) := by
  rw [show j - i = (k - i) + (j - k) by omega, List.take_add, List.drop_drop, show i + (k - i) = k by omega]
theorem extract_l (b : ByteArray) (i j : Nat) : (b.extract i j).data.toList = (b.data.toList.drop i).take (j - i) := by
  rw [ByteArray.data_extract, Array.toList_extract]
theorem readMany_bytes : ∀ (n : Nat) (b : ByteArray) (i : Int) (x : List Int) (j : Int), 0 ≤ i → i ≤ b.size → readMany b n i = some (x, j) → x.length = n ∧ Nums x ∧ i ≤ j ∧ j ≤ b.size ∧ catV x = (b.data.toList.drop i.toNat).take (j.toNat - i.toNat)
  | 0, b, i, x, j, h0, h1, h => by
    rw [readMany] at h
    obtain ⟨rfl, rfl⟩ := Prod.mk.inj (Option.some.inj h)
    refine ⟨rfl, fun x hx => absurd hx List.not_mem_nil, Int.le_refl _, h1, ?_⟩
    rw [Nat.sub_self]; rfl
  | n + 1, b, i, x, j, h0, h1, h => by
    rw [readMany] at h
    by_cases hr : (readVar b i).2.2 = true
    · rw [if_pos hr] at h
      obtain ⟨⟨y, q⟩, hp, h⟩ := Option.bind_eq_some_iff.mp h
      obtain ⟨rfl, rfl⟩ := Prod.mk.inj (Option.some.inj h)
      obtain ⟨a1, a2, a3, a4, a5, a6⟩ := readVar_bytes b i hr
      obtain ⟨c1, c2, c3, c4, c5⟩ := readMany_bytes n b _ y q (by omega) a3 hp
      refine ⟨by rw [List.length_cons, c1], fun z hz => ?_, by show i ≤ q; omega, c4, ?_⟩
      · rcases List.mem_cons.mp hz with rfl | hz
        · exact ⟨a4, a5⟩
        · exact c2 z hz
      · rw [Lib.toList_data, Lib.toList_data, extract_l] at a6
        rw [catV, a6, c5]
        exact take_join _ _ _ _ (by omega) (by show _ ≤ q.toNat; omega)
    · rw [if_neg hr] at h; cases h
theorem readVars_bytes (b : ByteArray) (i : Int) (h : (readVars b i).2.2 = true) : 0 ≤ i ∧ i ≤ (readVars b i).2.1 ∧ (readVars b i).2.1 ≤ b.size ∧ (readVars b i).1.length ≤ 1000 ∧ (varList (readVars b i).1).toList = (b.extract i.toNat ((readVars b i).2.1).toNat).toList := by
  unfold readVars at *
  by_cases hr : (readVar b i).2.2 = true
  · rw [if_pos hr] at h ⊢
    by_cases hk : (readVar b i).1 > 1000
    · rw [if_pos hk] at h; cases h
    · rw [if_neg hk] at h ⊢
      cases hm : readMany b (readVar b i).1.toNat (readVar b i).2.1 with
      | none => rw [hm] at h; cases h
      | some p =>
        obtain ⟨x, j⟩ := p
        obtain ⟨a1, a2, a3, a4, a5, a6⟩ := readVar_bytes b i hr
        obtain ⟨c1, c2, c3, c4, c5⟩ := readMany_bytes _ b _ x j (by omega) a3 hm
        dsimp only
        refine ⟨a1, by omega, c4, by omega, ?_⟩
        rw [Lib.toList_data, Lib.toList_data, extract_l] at *
        rw [varList_bytes x c2, c1, show (((readVar b i).1.toNat : Nat) : Int) = (readVar b i).1 by omega, a6, c5]
        exact take_join _ _ _ _ (by omega) (by omega)
  · rw [if_neg hr] at h; cases h
theorem shl7 (c : Nat) (hc : c < 128) (i : Nat) (hi : i ≤ 4) : shl .i64 (c : Int) (7 * (i : Int)) = ((2 ^ (7 * i) * c : Nat) : Int) := by
  unfold shl
  rw [show min ((7 * (i : Int)).toNat) IntKind.i64.bits = 7 * i by have : IntKind.i64.bits = 64 := rfl; omega]
  have : 2 ^ (7 * i) * c < 2 ^ 35 := by
    refine Nat.lt_of_lt_of_le (m := 2 ^ (7 * i) * 2 ^ 7) ((Nat.mul_lt_mul_left (Nat.two_pow_pos _)).2 hc) ?_
    rw [← Nat.pow_add]
    exact Nat.pow_le_pow_right (by decide) (by omega)
  rw [show ((c : Int) * 2 ^ (7 * i)) = ((2 ^ (7 * i) * c : Nat) : Int) by rw [Int.natCast_mul, Int.natCast_pow, Int.mul_comm]; rfl]
  exact wraps_i64 _ (Int.natCast_nonneg _) (by omega)
/-- A round's number. -/
theorem or7 (n c : Nat) (i : Nat) (hi : i ≤ 4) (hn : n < 128 ^ i) : Go.bits .or .i64 (n : Int) (shl .i64 (Go.bits .and .i64 (c : Int) 127) (7 * (i : Int))) = ((n + c % 128 * 128 ^ i : Nat) : Int) := by
  rw [i64_mask7, show ((c : Int) % 128) = ((c % 128 : Nat) : Int) by omega, shl7 _ (by omega) i hi]
  have hp : (2 : Nat) ^ (7 * i) ≤ 2 ^ 28 := Nat.pow_le_pow_right (by decide) (by omega)
  have hm : 2 ^ (7 * i) * (c % 128) ≤ 2 ^ 28 * 128 := Nat.mul_le_mul hp (by omega)
  rw [pow128] at hn ⊢
  rw [i64_or _ _ (by omega) (by omega), Nat.or_comm, ← Nat.two_pow_add_eq_or_of_lt hn, Nat.mul_comm, Nat.add_comm]
theorem impl_ReadVar_l0 (b : ByteArray) (hb : b.size ≤ 140737488355328) (a : Nat) (ha : a ≤ b.size) (f : Nat) : ∀ (i n : Nat), i + f = 5 → n < 128 ^ i →
    Ev (fun k => impl_ReadVar.l0 k b (a : Int) (n : Int) (i : Int)) (rvOut a (rvr f i n (b.data.toList.drop (a + i)))) := by
  induction f with
  | zero =>
    intro i n hi hn
    refine Ev.of_eq (r := ((0 : Int), (0 : Int), false)) (Ev.step (fun k => by rw [impl_ReadVar.l0]) ?_) rfl
    exact Ev.neg (by omega) (Ev.now _)
  | succ f ih =>
    intro i n hi hn
    have hi4 : i ≤ 4 := by omega
    refine Ev.step (fun k => by rw [impl_ReadVar.l0]) (Ev.pos (by omega) ?_)
    rw [within_f, wrap64_id (x := (b.size : Int) - 1) (by omega) (by omega), wrap64_id (x := (b.size : Int) - 1 - i) (by omega) (by omega)]
    refine Ev.bind (Ev.const rfl) ?_
    by_cases h1 : a + i < b.size
    · refine Ev.pos (decide_eq_true (by omega)) ?_
      rw [wrap64_id (x := (a : Int) + i) (by omega) (by omega), wrap64_id (x := 7 * (i : Int)) (by omega) (by omega), wrap64_id (x := (i : Int) + 1) (by omega) (by omega)]
      refine Ev.pos (by omega) (Ev.pos (by omega) (Ev.pos (by omega) ?_))
      rw [show (a : Int) + i = ((a + i : Nat) : Int) by omega, bt_list b (a + i) (by rw [size_list]; omega), drop_cons b (a + i) h1]
      have hc := (b.data.toList[a + i]'(by rw [size_list]; omega)).toNat_lt
      generalize (b.data.toList[a + i]'(by rw [size_list]; omega)) = c at hc ⊢
      rw [wrap64_id (x := (c.toNat : Int)) (by omega) (by omega), or7 n c.toNat i hi4 hn]
      unfold rvr
      have hpw : 128 ^ (i + 1) = 128 ^ i * 128 := Nat.pow_succ ..
      have hlt : n + c.toNat % 128 * 128 ^ i < 128 ^ (i + 1) := by
        have : c.toNat % 128 * 128 ^ i ≤ 127 * 128 ^ i := Nat.mul_le_mul_right _ (by omega)
        omega
      by_cases h2 : c.toNat ≥ 128
      · refine Ev.of_eq (r := rvOut a (rvr f (i + 1) (n + c.toNat % 128 * 128 ^ i) (b.data.toList.drop (a + i + 1)))) ?_ (congrArg (rvOut a) (if_pos h2)).symm
        refine Ev.pos (by omega) ?_
        exact ih (i + 1) _ (by omega) hlt
      · rw [show c.toNat % 128 = c.toNat by omega]
        refine Ev.of_eq (r := rvOut a (if (0 < i ∧ c.toNat = 0) ∨ 1000000000 < n + c.toNat * 128 ^ i then none else some (n + c.toNat * 128 ^ i, i + 1))) ?_ (congrArg (rvOut a) (if_neg h2)).symm
        refine Ev.neg (by omega) ?_
        rw [isNumber_f]
        have last : (¬ (0 < i ∧ c.toNat = 0)) → Ev (fun k => (some (decide (0 ≤ ((n + c.toNat * 128 ^ i : Nat) : Int) ∧ ((n + c.toNat * 128 ^ i : Nat) : Int) ≤ 1000000000))).bind fun t => if t = true then some (((n + c.toNat * 128 ^ i : Nat) : Int), wrap64 (((a + i : Nat) : Int) + 1), true) else some (0, 0, false)) (rvOut a (if (0 < i ∧ c.toNat = 0) ∨ 1000000000 < n + c.toNat * 128 ^ i then none else some (n + c.toNat * 128 ^ i, i + 1))) := by
          intro h3
          refine Ev.bind (Ev.const rfl) ?_
          by_cases h4 : 1000000000 < n + c.toNat * 128 ^ i
          · refine Ev.of_eq (r := rvOut a none) ?_ (congrArg (rvOut a) (if_pos (.inr h4))).symm
            exact Ev.neg (by rw [decide_eq_false (by omega)]; decide) (Ev.now _)
          · refine Ev.of_eq (r := rvOut a (some (n + c.toNat * 128 ^ i, i + 1))) ?_ (congrArg (rvOut a) (if_neg (by rintro (h | h); exact h3 h; exact h4 h))).symm
            refine Ev.pos (decide_eq_true (by omega)) (Ev.const ?_)
            rw [wrap64_id (by omega) (by omega)]
            rfl
        by_cases h3 : (i : Int) > 0
        · refine Ev.pos h3 ?_
          by_cases h4 : (c.toNat : Int) = 0
          · refine Ev.of_eq (r := rvOut a none) ?_ (congrArg (rvOut a) (if_pos (.inl ⟨by omega, by omega⟩))).symm
            exact Ev.pos h4 (Ev.now _)
          · exact Ev.neg h4 (last (by omega))
        · exact Ev.neg h3 (last (by omega))
    · rw [List.drop_eq_nil_of_le (by rw [size_list]; omega)]
      refine Ev.of_eq (r := ((0 : Int), (0 : Int), false)) ?_ rfl
      exact Ev.neg (by rw [decide_eq_false (by omega)]; decide) (Ev.now _)
theorem impl_ReadVar_ev (b : ByteArray) (hb : b.size ≤ 140737488355328) (i : Int) (hi : -9223372036854775808 ≤ i ∧ i ≤ 9223372036854775807) : Ev (fun k => impl_ReadVar.f k b i) (readVar b i) := by
  unfold impl_ReadVar.f readVar
  by_cases h : 0 ≤ i ∧ i ≤ b.size
  · rw [if_pos h]
    obtain ⟨a, rfl⟩ := Int.eq_ofNat_of_zero_le h.1
    rw [Int.toNat_natCast]
    exact impl_ReadVar_l0 b hb a (by omega) 5 0 0 rfl (by decide)
  · rw [if_neg h]
    refine Ev.step (fun k => by rw [impl_ReadVar.l0]) (Ev.pos (by decide) ?_)
    rw [within_f, wrap64_id (x := (b.size : Int) - 1) (by omega) (by omega), wrap64_id (x := (b.size : Int) - 1 - 0) (by omega) (by omega)]
    refine Ev.bind (Ev.const rfl) ?_
    exact Ev.neg (by rw [decide_eq_false (by omega)]; decide) (Ev.now _)
theorem u64_wrap7 (i : Nat) (hi : i ≤ 4) : IntKind.u64.wrap (7 * (i : Int)) = 7 * (i : Int) := by
  simp [IntKind.wrap, IntKind.bits, IntKind.signed]; omega
theorem extract_bytes (b : ByteArray) (i j : Nat) : (b.extract i j).data.toList = bytesUpto b.data.toList i j := by
  rw [ByteArray.data_extract, Array.toList_extract]; rfl
theorem varText_bytes (n : Nat) (h : n ≤ 1000000000) : (varText (n : Int)).data.toList = bytesOfNums (vn 5 n) := by
  unfold varText
  rw [if_pos (by omega), Int.toNat_natCast]; rfl
theorem vn_ne (f n : Nat) : bytesOfNums (vn f n) ≠ [] := by
  cases f with
  | zero => simp [vn, bytesOfNums]
  | succ f => unfold vn; split <;> simp [bytesOfNums]
theorem spec_ReadVar_l0 (b : ByteArray) (hb : b.size ≤ 140737488355328) (a : Nat) (ha : a ≤ b.size) (f : Nat) : ∀ (i n : Nat), i + f = 5 → i ≤ b.size - a → n = vl ((b.data.toList.drop a).take i) → (∀ d ∈ (b.data.toList.drop a).take i, d.toNat ≥ 128) →
    Ev (fun k => spec_ReadVar.l0 k b (a : Int) (n : Int) (i : Int)) (rvOut a (rvr f i n (b.data.toList.drop (a + i)))) := by
  induction f with
  | zero =>
    intro i n hi hia hn hp
    refine Ev.of_eq (r := ((0 : Int), (0 : Int), false)) (Ev.step (fun k => by rw [spec_ReadVar.l0]) ?_) rfl
    refine Ev.neg (by omega) (Ev.step (fun k => by rw [spec_ReadVar.j1]) ?_)
    exact Ev.neg (by decide) (Ev.now _)
  | succ f ih =>
    intro i n hi hia hn hp
    have hi4 : i ≤ 4 := by omega
    have htl : ((b.data.toList.drop a).take i).length = i := by rw [List.length_take, List.length_drop, size_list]; omega
    have hnl : n < 128 ^ i := by have := vl_lt ((b.data.toList.drop a).take i); rw [htl, ← hn] at this; exact this
    refine Ev.step (fun k => by rw [spec_ReadVar.l0]) (Ev.pos (by omega) (Ev.step (fun k => by rw [spec_ReadVar.j1]) ?_))
    rw [wrap64_id (x := (a : Int) + i) (by omega) (by omega), wrap64_id (x := 7 * (i : Int)) (by omega) (by omega), wrap64_id (x := (i : Int) + 1) (by omega) (by omega), u64_wrap7 i hi4]
    by_cases h1 : a + i < b.size
    · refine Ev.pos (decide_eq_true (by omega)) (Ev.pos (by omega) (Ev.pos (by omega) (Ev.pos (by omega) ?_)))
      rw [show (a : Int) + i = ((a + i : Nat) : Int) by omega, bt_list b (a + i) (by rw [size_list]; omega), drop_cons b (a + i) h1]
      have hget : (b.data.toList.drop a)[i]'(by rw [List.length_drop, size_list]; omega) = b.data.toList[a + i]'(by rw [size_list]; omega) := by rw [List.getElem_drop]
      have hsn : (b.data.toList.drop a).take (i + 1) = (b.data.toList.drop a).take i ++ [b.data.toList[a + i]'(by rw [size_list]; omega)] := by
        rw [List.take_succ_eq_append_getElem (by rw [List.length_drop, size_list]; omega), hget]
      have hc := (b.data.toList[a + i]'(by rw [size_list]; omega)).toNat_lt
      generalize (b.data.toList[a + i]'(by rw [size_list]; omega)) = c at hc hsn ⊢
      have hv : vl ((b.data.toList.drop a).take (i + 1)) = n + c.toNat % 128 * 128 ^ i := by rw [hsn, vl_snoc, htl, ← hn]
      rw [wrap64_id (x := (c.toNat : Int)) (by omega) (by omega), or7 n c.toNat i hi4 hnl]
      unfold rvr
      by_cases h2 : c.toNat ≥ 128
      · refine Ev.of_eq (r := rvOut a (rvr f (i + 1) (n + c.toNat % 128 * 128 ^ i) (b.data.toList.drop (a + i + 1)))) ?_ (congrArg (rvOut a) (if_pos h2)).symm
        refine Ev.neg (by omega) ?_
        refine ih (i + 1) _ (by omega) (by omega) hv.symm ?_
        rw [hsn]
        intro d hd
        rcases List.mem_append.1 hd with h | h
        · exact hp d h
        · rw [List.mem_singleton] at h; subst h; exact h2
      · rw [show c.toNat % 128 = c.toNat by omega] at hv ⊢
        refine Ev.of_eq (r := rvOut a (if (0 < i ∧ c.toNat = 0) ∨ 1000000000 < n + c.toNat * 128 ^ i then none else some (n + c.toNat * 128 ^ i, i + 1))) ?_ (congrArg (rvOut a) (if_neg h2)).symm
        refine Ev.pos (by omega) (Ev.bind (spec_VarText_ev _) ?_)
        rw [wrap64_id (x := ((a + i : Nat) : Int) + 1) (by omega) (by omega)]
        simp only [ByteArray.toList_eq]
        by_cases h3 : n + c.toNat * 128 ^ i ≤ 1000000000
        · rw [varText_bytes _ h3]
          refine Ev.neg (vn_ne _ _) (Ev.pos (by omega) (Ev.pos (by omega) (Ev.pos (by omega) ?_)))
          rw [show (((a + i : Nat) : Int) + 1).toNat = a + (i + 1) by omega, Int.toNat_natCast, extract_bytes, bytesUpto, Nat.add_sub_cancel_left, ← hv, hsn]
          by_cases h4 : 0 < i ∧ c.toNat = 0
          · refine Ev.of_eq (r := rvOut a none) ?_ (congrArg (rvOut a) (if_pos (.inl h4))).symm
            refine Ev.neg ?_ (Ev.now _)
            refine vn_needless _ 5 c h4.2 ?_
            intro h; rw [h] at htl; simp at htl; omega
          · refine Ev.of_eq (r := rvOut a (some (vl ((b.data.toList.drop a).take i ++ [c]), i + 1))) ?_ (congrArg (rvOut a) (if_neg (by rintro (h | h); exact h4 h; rw [← hsn, hv] at h; omega))).symm
            refine Ev.pos ?_ (Ev.const ?_)
            · refine vn_of _ 5 c hp (by omega) ?_ (by rw [htl]; omega)
              intro h hc0
              refine h4 ⟨?_, hc0⟩
              rcases Nat.eq_zero_or_pos i with h0 | h0
              · exfalso; apply h; apply List.eq_nil_of_length_eq_zero; rw [htl, h0]
              · exact h0
            · refine congrArg some ?_; show (_, ((a + i : Nat) : Int) + 1, true) = (_, ((a + (i + 1) : Nat) : Int), true); rw [show ((a + (i + 1) : Nat) : Int) = ((a + i : Nat) : Int) + 1 by omega]
        · refine Ev.of_eq (r := rvOut a none) ?_ (congrArg (rvOut a) (if_pos (.inr (by omega)))).symm
          refine Ev.pos ?_ (Ev.now _)
          unfold varText
          rw [if_neg (by omega)]
    · rw [List.drop_eq_nil_of_le (by rw [size_list]; omega)]
      refine Ev.of_eq (r := ((0 : Int), (0 : Int), false)) ?_ rfl
      exact Ev.neg (by rw [decide_eq_false (by omega)]; decide) (Ev.now _)
theorem spec_ReadVar_ev (b : ByteArray) (hb : b.size ≤ 140737488355328) (i : Int) : Ev (fun k => spec_ReadVar.f k b i) (readVar b i) := by
  unfold spec_ReadVar.f readVar
  rw [l01In_f]
  refine Ev.bind (Ev.const rfl) ?_
  by_cases h : 0 ≤ i ∧ i ≤ b.size
  · rw [if_pos h]
    refine Ev.pos (decide_eq_true h) ?_
    obtain ⟨a, rfl⟩ := Int.eq_ofNat_of_zero_le h.1
    rw [Int.toNat_natCast]
    exact spec_ReadVar_l0 b hb a (by omega) 5 0 0 rfl (by omega) (by simp [vl]) (by simp)
  · rw [if_neg h]
    exact Ev.neg (by rw [decide_eq_false h]; decide) (Ev.now _)
theorem spec_ReadVars_l0 (b : ByteArray) (hb : b.size ≤ 140737488355328) (N : Nat) (hN : N ≤ 1000) (n : Nat) : ∀ (j : Nat) (acc : List Int) (i : Int), j + n = N → acc.length = j →
    Ev (fun k => spec_ReadVars.l0 k b [] (N : Int) i acc (j : Int)) (match readMany b n i with | none => ([], 0, false) | some p => (acc ++ p.1, p.2, true)) := by
  induction n with
  | zero =>
    intro j acc i hj ha
    refine Ev.of_eq (r := (acc, i, true)) ?_ (by rw [readMany]; dsimp only; rw [List.append_nil])
    refine Ev.step (fun k => by rw [spec_ReadVars.l0]) ?_
    exact Ev.neg (by omega) (Ev.now _)
  | succ n ih =>
    intro j acc i hj ha
    refine Ev.step (fun k => by rw [spec_ReadVars.l0]) (Ev.pos (by omega) (Ev.bind (spec_ReadVar_ev b hb i) ?_))
    rw [wrap64_id (by omega) (by omega)]
    by_cases h : (readVar b i).2.2 = true
    · refine Ev.pos h (Ev.pos (by omega) ?_)
      refine Ev.of_eq (ih (j + 1) (acc ++ [(readVar b i).1]) (readVar b i).2.1 (by omega) (by rw [List.length_append, List.length_singleton]; omega)) ?_
      rw [readMany, if_pos h]
      cases readMany b n (readVar b i).2.1 with
      | none => rfl
      | some p => simp
    · refine Ev.of_eq (r := ([], 0, false)) (Ev.neg h (Ev.now _)) ?_
      rw [readMany, if_neg h]
theorem spec_ReadVars_ev (b : ByteArray) (hb : b.size ≤ 140737488355328) (i : Int) : Ev (fun k => spec_ReadVars.f k b i) (readVars b i) := by
  unfold spec_ReadVars.f
  refine Ev.bind (Ev.const rfl) (Ev.bind (spec_ReadVar_ev b hb i) ?_)
  unfold readVars
  have hs := readVar_span b i
  by_cases h : (readVar b i).2.2 = true
  · refine Ev.of_eq ?_ (if_pos h).symm
    refine Ev.pos h (Ev.step (fun k => by rw [spec_ReadVars.j0]) ?_)
    by_cases h2 : (readVar b i).1 > 1000
    · refine Ev.of_eq (r := ([], 0, false)) ?_ (if_pos h2).symm
      exact Ev.pos (decide_eq_true h2) (Ev.now _)
    · refine Ev.of_eq ?_ (if_neg h2).symm
      refine Ev.neg (by rw [decide_eq_false h2]; decide) ?_
      have e : (readVar b i).1 = (((readVar b i).1.toNat : Nat) : Int) := by omega
      have := spec_ReadVars_l0 b hb (readVar b i).1.toNat (by omega) (readVar b i).1.toNat 0 [] (readVar b i).2.1 (by omega) rfl
      rw [← e] at this
      refine Ev.of_eq this ?_
      cases readMany b (readVar b i).1.toNat (readVar b i).2.1 <;> rfl
  · refine Ev.of_eq (r := ([], 0, false)) ?_ (if_neg h).symm
    refine Ev.neg h (Ev.step (fun k => by rw [spec_ReadVars.j0]) ?_)
    exact Ev.pos rfl (Ev.now _)
theorem impl_readVars_l0 (b : ByteArray) (hb : b.size ≤ 140737488355328) (N : Nat) (hN : N ≤ 1000) (n : Nat) : ∀ (j : Nat) (acc : List Int) (i : Int), j + n = N → acc.length = j → (-9223372036854775808 ≤ i ∧ i ≤ 9223372036854775807) →
    Ev (fun k => impl_readVars.l0 k b i acc (N : Int) (j : Int)) (match readMany b n i with | none => ([], 0, false) | some p => (acc ++ p.1, p.2, true)) := by
  induction n with
  | zero =>
    intro j acc i hj ha hi
    refine Ev.of_eq (r := (acc, i, true)) ?_ (by rw [readMany]; dsimp only; rw [List.append_nil])
    refine Ev.step (fun k => by rw [impl_readVars.l0]) ?_
    exact Ev.neg (by omega) (Ev.now _)
  | succ n ih =>
    intro j acc i hj ha hi
    refine Ev.step (fun k => by rw [impl_readVars.l0]) (Ev.pos (by omega) (Ev.bind (impl_ReadVar_ev b hb i hi) ?_))
    rw [wrap64_id (by omega) (by omega)]
    have hs := readVar_span b i
    by_cases h : (readVar b i).2.2 = true
    · refine Ev.pos h (Ev.pos (by omega) ?_)
      refine Ev.of_eq (ih (j + 1) (acc ++ [(readVar b i).1]) (readVar b i).2.1 (by omega) (by rw [List.length_append, List.length_singleton]; omega) (by omega)) ?_
      rw [readMany, if_pos h]
      cases readMany b n (readVar b i).2.1 with
      | none => rfl
      | some p => simp
    · refine Ev.of_eq (r := ([], 0, false)) (Ev.neg h (Ev.now _)) ?_
      rw [readMany, if_neg h]
theorem impl_ReadVars_ev (b : ByteArray) (hb : b.size ≤ 140737488355328) (i : Int) (hi : -9223372036854775808 ≤ i ∧ i ≤ 9223372036854775807) : Ev (fun k => impl_ReadVars.f k b i) (readVars b i) := by
  unfold impl_ReadVars.f
  refine Ev.bind (impl_ReadVar_ev b hb i hi) ?_
  unfold readVars
  have hs := readVar_span b i
  by_cases h : (readVar b i).2.2 = true
  · refine Ev.of_eq ?_ (if_pos h).symm
    refine Ev.pos h ?_
    by_cases h2 : (readVar b i).1 > 1000
    · refine Ev.of_eq (r := ([], 0, false)) ?_ (if_pos h2).symm
      exact Ev.pos h2 (Ev.now _)
    · refine Ev.of_eq ?_ (if_neg h2).symm
      refine Ev.neg h2 ?_
      have e : (readVar b i).1 = (((readVar b i).1.toNat : Nat) : Int) := by omega
      have := impl_readVars_l0 b hb (readVar b i).1.toNat (by omega) (readVar b i).1.toNat 0 [] (readVar b i).2.1 (by omega) rfl (by omega)
      rw [← e] at this
      refine Ev.of_eq (Ev.bind this (Ev.now _)) ?_
      cases readMany b (readVar b i).1.toNat (readVar b i).2.1 <;> rfl
  · refine Ev.of_eq (r := ([], 0, false)) ?_ (if_neg h).symm
    exact Ev.neg h (Ev.now _)
theorem readMany_len (b : ByteArray) (n : Nat) : ∀ (i : Int) (p : List Int × Int), readMany b n i = some p → p.1.length = n := by
  induction n with
  | zero => intro i p h; rw [readMany] at h; rw [← Option.some.inj h]; rfl
  | succ n ih =>
    intro i p h
    rw [readMany] at h
    split at h
    · cases e : readMany b n (readVar b i).2.1 with
      | none => rw [e] at h; cases h
      | some q =>
        rw [e] at h
        rw [← Option.some.inj h]
        exact congrArg Nat.succ (ih _ _ e)
    · cases h
theorem readVars_len (b : ByteArray) (i : Int) : (readVars b i).1.length ≤ 1000 := by
  unfold readVars
  split
  · split
    · exact Nat.zero_le _
    · cases e : readMany b (readVar b i).1.toNat (readVar b i).2.1 with
      | none => exact Nat.zero_le _
      | some p => have := readMany_len _ _ _ _ e; dsimp only; omega
  · exact Nat.zero_le _
theorem FnVarLists_end : Ev (fun k => (impl_VarList.f k ([] : List Int)).bind fun t282 => (some (t282.toList == ([0] : List UInt8)))) true :=
  Ev.bind (impl_VarList_ev [] (by decide)) (Ev.const (by decide +kernel))
theorem FnVarLists_j0 (xs : List Int) (hx : xs.length ≤ 7) : Ev (fun k => laws_FnVarLists.j0 k xs (varList xs) false) true := by
  have hz := varList_size xs
  have s1 : (⟨#[97, 98]⟩ : ByteArray).size = 2 := rfl
  have s2 : (⟨#[122]⟩ : ByteArray).size = 1 := rfl
  have er := impl_ReadVars_ev (((⟨#[97, 98]⟩ : ByteArray) ++ varList xs) ++ (⟨#[122]⟩ : ByteArray)) (by rw [ByteArray.size_append, ByteArray.size_append]; omega) 2 (by decide)
  refine Ev.step (fun k => by rw [laws_FnVarLists.j0]) (Ev.neg Bool.false_ne_true (Ev.pos (by omega) (Ev.pos (by omega) (Ev.bind er ?_))))
  by_cases he : (varList xs).toList = []
  · exact Ev.pos he FnVarLists_end
  · have hn : Nums xs := Classical.byContradiction fun h => he ((varList_empty xs (by omega)).mpr h)
    have hb := readVars_back xs hn (by omega) (((⟨#[97, 98]⟩ : ByteArray) ++ varList xs) ++ (⟨#[122]⟩ : ByteArray)) (⟨#[97, 98]⟩ : ByteArray) [122] (by rw [toList_app2, toList_app2, List.append_assoc])
    rw [s1] at hb
    rw [show (2 : Int) = ((2 : Nat) : Int) from rfl, hb]
    refine Ev.neg he (Ev.pos rfl (Ev.bind (sameInts_refl xs (by omega)) (Ev.pos rfl (Ev.pos ?_ FnVarLists_end))))
    show ((2 + (varList xs).size : Nat) : Int) = _
    rw [wrap64_id (by omega) (by omega)]
    omega
theorem FnVarLists : laws_FnVarLists.Pure := by
  intro l _ hl _
  refine Ev.rounds (g := fun k => laws_FnVarLists.f k l) ?_
  unfold laws_FnVarLists.f
  rw [big_f]
  refine Ev.bind (Ev.const rfl) ?_
  by_cases h : (l.length : Int) > 1048576
  · exact Ev.pos (decide_eq_true h) (Ev.now _)
  refine Ev.neg (by rw [decide_eq_false h]; decide) ?_
  obtain ⟨xs, ex, hx⟩ := DrawVarList_ev l (by omega)
  obtain ⟨s, i, es, hs, hi⟩ := DrawReadVars_ev l (by omega)
  have hj := FnVarLists_j0 xs hx
  have hb := readVars_bytes s i
  refine Ev.bind ex (Ev.bind (impl_VarList_ev xs (by omega)) (Ev.bind es (Ev.bind (impl_ReadVars_ev s (by omega) i hi) (Ev.bind (spec_ReadVars_ev s (by omega) i) (Ev.bind (spec_VarList_ev xs (by omega)) (Ev.pos rfl ?_))))))
  by_cases hr : (readVars s i).2.2 = true
  · obtain ⟨h1, h2, h3, h4, h5⟩ := hb hr
    refine Ev.bind (sameInts_refl _ (by omega)) (Ev.pos rfl (Ev.pos rfl (Ev.neg (by simp) (Ev.pos hr (Ev.bind (impl_VarList_ev _ (by omega)) (Ev.pos h1 (Ev.pos h2 (Ev.pos h3 ?_))))))))
    rw [show ((varList (readVars s i).1).toList != (s.extract i.toNat (readVars s i).2.1.toNat).toList) = false by rw [h5]; simp]
    exact hj
  · have hne : (readVars s i).1.length ≤ 1000 := by
      unfold readVars at hr ⊢
      split at hr
      · rw [if_pos (by assumption)]
        split at hr
        · rw [if_pos (by assumption)]; exact Nat.zero_le _
        · rw [if_neg (by assumption)]
          split at hr
          · exact Nat.zero_le _
          · exact absurd rfl hr
      · rw [if_neg (by assumption)]; exact Nat.zero_le _
    exact Ev.bind (sameInts_refl _ (by omega)) (Ev.pos rfl (Ev.pos rfl (Ev.neg (by simp) (Ev.neg hr hj))))
end Go.Proofs.Ytdjgnooacaoomaa.Pure
