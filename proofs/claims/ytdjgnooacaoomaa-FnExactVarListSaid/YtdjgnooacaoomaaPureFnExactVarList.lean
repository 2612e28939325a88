/- The law FnExactVarList answers true for every list of whole numbers: the program's VarList tells what the reference's tells, and its argument reads on as it did. Conditions: those of the given row, and no others. -/
import Derived.Test.YtdjgnooacaoomaaMFnExactVarListx2
namespace Go.Proofs.Ytdjgnooacaoomaa.Pure
open Go.RowKit Go.Proofs.Ytdjgnooacaoomaa.MFnExactVarList Go.Proofs.YtdjgnooacaoomaaW.PrintWords Go.Proofs.YtdjgnooacaoomaaW.PrintLast Go.Proofs.YtdjgnooacaoomaaW.PrintMore
set_option linter.unusedVariables false
set_option linter.unusedSimpArgs false
/-! ### Whole numbers and bits -/
theorem wrap64_id {x : Int} (h0 : -9223372036854775808 ≤ x) (h1 : x ≤ 9223372036854775807) : wrap64 x = x := by unfold wrap64; omega
theorem wf_i64 {x : Int} (h : (Lit.int .i64 x).wf = true) : -9223372036854775808 ≤ x ∧ x ≤ 9223372036854775807 := by
  simp only [Lit.wf, IntKind.min, IntKind.max, IntKind.signed, IntKind.bits, Bool.and_eq_true, decide_eq_true_eq, if_true] at h
  omega
theorem mod_toNat_nat (a : Nat) (m : Nat) : (((a : Int) % (m : Int)).toNat) = a % m := by
  rw [← Int.natCast_emod, Int.toNat_natCast]
theorem bv_mask (j : Nat) (hj : j < 64) (x : Int) : (BitVec.ofInt 64 x &&& BitVec.ofInt 64 ((2 ^ j - 1 : Nat) : Int)).toNat = (x % ((2 ^ j : Nat) : Int)).toNat := by
  have hle : 2 ^ j ≤ 2 ^ 63 := Nat.pow_le_pow_right (by decide) (by omega)
  have hpos : 0 < 2 ^ j := Nat.two_pow_pos j
  have hlt : 2 ^ j - 1 < 2 ^ 64 := by omega
  have hd : (2 : Nat) ^ j ∣ 2 ^ 64 := Nat.pow_dvd_pow 2 (by omega)
  rw [BitVec.ofInt_natCast, BitVec.toNat_and, BitVec.toNat_ofNat, Nat.mod_eq_of_lt hlt, Nat.and_two_pow_sub_one_eq_mod, BitVec.toNat_ofInt]
  have h0 : 0 ≤ x % ((2 ^ 64 : Nat) : Int) := Int.emod_nonneg _ (by simp)
  have h1 : 0 ≤ x % ((2 ^ j : Nat) : Int) := Int.emod_nonneg _ (by omega)
  have : (((x % ((2 ^ 64 : Nat) : Int)).toNat % 2 ^ j : Nat) : Int) = x % ((2 ^ j : Nat) : Int) := by
    rw [Int.natCast_emod, Int.toNat_of_nonneg h0]
    exact Int.emod_emod_of_dvd x (Int.natCast_dvd_natCast.mpr hd)
  omega
/-- A mask of the lowest j bits, of any i64. -/
theorem i64_mask (j : Nat) (hj : j < 64) (x : Int) : Go.bits .and .i64 x (((2 ^ j - 1 : Nat) : Int)) = x % ((2 ^ j : Nat) : Int) := by
  have hpos : 0 < 2 ^ j := Nat.two_pow_pos j
  have hle : 2 ^ j ≤ 2 ^ 63 := Nat.pow_le_pow_right (by decide) (by omega)
  show IntKind.i64.wrap (((BitVec.ofInt 64 x &&& BitVec.ofInt 64 ((2 ^ j - 1 : Nat) : Int)).toNat : Nat) : Int) = _
  rw [bv_mask j hj x]
  have h1 : 0 ≤ x % ((2 ^ j : Nat) : Int) := Int.emod_nonneg _ (by omega)
  have h2 : x % ((2 ^ j : Nat) : Int) < ((2 ^ j : Nat) : Int) := Int.emod_lt_of_pos _ (by omega)
  rw [Int.toNat_of_nonneg h1, IntKind.wrap_i64]
  have h3 : ((2 ^ j : Nat) : Int) ≤ ((2 ^ 63 : Nat) : Int) := Int.ofNat_le.mpr hle
  have h5 : ((2 ^ 63 : Nat) : Int) = 9223372036854775808 := by decide
  omega
theorem i64_mask32 (x : Int) : Go.bits .and .i64 x 4294967295 = x % 4294967296 := i64_mask 32 (by decide) x
theorem i64_mask8 (x : Int) : Go.bits .and .i64 x 255 = x % 256 := i64_mask 8 (by decide) x
theorem i64_mask7 (x : Int) : Go.bits .and .i64 x 127 = x % 128 := i64_mask 7 (by decide) x
theorem i64_mask4 (x : Int) : Go.bits .and .i64 x 15 = x % 16 := i64_mask 4 (by decide) x
theorem i64_mask1 (x : Int) : Go.bits .and .i64 x 1 = x % 2 := i64_mask 1 (by decide) x
theorem xor_nat (k : IntKind) (j : Nat) (hj : j ≤ k.bits) (hk : ∀ n : Int, 0 ≤ n → n < 2 ^ j → k.wrap n = n) (a b : Nat) (ha : a < 2 ^ j) (hb : b < 2 ^ j) :
    Go.bits .xor k a b = ((a ^^^ b : Nat) : Int) := by
  have hp : 2 ^ j ≤ 2 ^ k.bits := Nat.pow_le_pow_right (by decide) hj
  have ha' : a % 2 ^ k.bits = a := Nat.mod_eq_of_lt (Nat.lt_of_lt_of_le ha hp)
  have hb' : b % 2 ^ k.bits = b := Nat.mod_eq_of_lt (Nat.lt_of_lt_of_le hb hp)
  simp only [Go.bits, BitVec.ofInt_natCast, BitVec.toNat_xor, BitVec.toNat_ofNat, ha', hb']
  exact hk _ (Int.natCast_nonneg _) (by exact_mod_cast Nat.xor_lt_two_pow ha hb)
theorem wraps_i64 (n : Int) (h0 : 0 ≤ n) (h1 : n < 2 ^ 63) : IntKind.i64.wrap n = n := by rw [IntKind.wrap_i64]; omega
theorem wraps_u32 (n : Int) (h0 : 0 ≤ n) (h1 : n < 2 ^ 32) : IntKind.u32.wrap n = n := by rw [IntKind.wrap_u32]; omega
theorem i64_xor (a b : Nat) (ha : a < 2 ^ 63) (hb : b < 2 ^ 63) : Go.bits .xor .i64 a b = ((a ^^^ b : Nat) : Int) := xor_nat .i64 63 (by decide) wraps_i64 a b ha hb
theorem u32_xor (a b : Nat) (ha : a < 2 ^ 32) (hb : b < 2 ^ 32) : Go.bits .xor .u32 a b = ((a ^^^ b : Nat) : Int) := xor_nat .u32 32 (by decide) wraps_u32 a b ha hb
theorem i64_or (a b : Nat) (ha : a < 2 ^ 63) (hb : b < 2 ^ 63) : Go.bits .or .i64 a b = ((a ||| b : Nat) : Int) := (Go.bits_nat .i64 63 (by decide) wraps_i64 a b ha hb).2
theorem u8_or (a b : Nat) (ha : a < 2 ^ 8) (hb : b < 2 ^ 8) : Go.bits .or .u8 a b = ((a ||| b : Nat) : Int) := (Go.bits_nat .u8 8 (by decide) Go.wraps_u8 a b ha hb).2
theorem u32_and1 (a : Nat) (ha : a < 2 ^ 32) : Go.bits .and .u32 a 1 = ((a % 2 : Nat) : Int) := by
  rw [show (1 : Int) = ((1 : Nat) : Int) from rfl, (Go.bits_nat .u32 32 (by decide) wraps_u32 a 1 ha (by decide)).1, show (1 : Nat) = 2 ^ 1 - 1 from rfl, Nat.and_two_pow_sub_one_eq_mod]
/-! ### Bytes of a text -/
theorem bt_list (s : ByteArray) (i : Nat) (h : i < s.data.toList.length) : bt s (i : Int) = ((s.data.toList[i]).toNat : Int) := by
  have h' : i < s.size := by rw [Array.length_toList] at h; exact h
  have hn : (i : Int).toNat < s.size := by rw [Int.toNat_natCast]; exact h'
  rw [← bt_at s i hn]
  rfl
theorem size_list (s : ByteArray) : s.data.toList.length = s.size := by rw [Array.length_toList]; rfl
theorem drop_cons (s : ByteArray) (i : Nat) (h : i < s.size) : s.data.toList.drop i = s.data.toList[i]'(by rw [size_list]; exact h) :: s.data.toList.drop (i + 1) :=
  List.drop_eq_getElem_cons (by rw [size_list]; exact h)
/-! ### From some number of rounds on -/
section
variable {α : Type} {f g : Nat → Option α} {r : α} {c : Prop} [Decidable c]
theorem Ev.pos (h : c) (e : Ev f r) : Ev (fun k => if c then f k else g k) r := Ev.congr (fun _ => if_pos h) e
theorem Ev.neg (h : ¬ c) (e : Ev g r) : Ev (fun k => if c then f k else g k) r := Ev.congr (fun _ => if_neg h) e
theorem Ev.const {o : Option α} (h : o = some r) : Ev (fun _ => o) r := ⟨0, fun _ _ => h⟩
theorem Ev.at (K : Nat) (h : ∀ k, K ≤ k → f k = some r) : Ev f r := ⟨K, h⟩
theorem Ev.of_eq {r' : α} (e : Ev f r) (h : r = r') : Ev f r' := h ▸ e
end
theorem Ev.both {α β : Type} {f : Nat → Option α} {g : Nat → Option β} {a : α} {b : β} (h : Ev f a) (h' : Ev g b) : ∃ k, f k = some a ∧ g k = some b := by
  obtain ⟨K, h⟩ := h
  obtain ⟨K', h'⟩ := h'
  exact ⟨max K K', h _ (by omega), h' _ (by omega)⟩
theorem rd_Z (xs : List Int) (i : Nat) (h : i < xs.length) : rd xs (i : Int) = xs[i] := by
  unfold rd
  rw [Int.toNat_natCast, List.getD_eq_getElem?_getD, List.getElem?_eq_getElem h]; rfl
def toIntS : List Int → List Int := List.map (fun x => x)
theorem toIntS_l0 (xs : List Int) (hl : xs.length ≤ 1048576) (n : Nat) : ∀ (i : Nat) (acc : List Int), i + n = xs.length → acc.length = xs.length → (∀ j, j < i → acc[j]? = (toIntS xs)[j]?) →
    Ev (fun k => laws_toIntS.l0 k xs acc (i : Int)) (toIntS xs) := by
  induction n with
  | zero =>
    intro i acc hi ha hp
    refine Ev.step (fun k => by rw [laws_toIntS.l0]) (Ev.neg (by omega) (Ev.const ?_))
    refine congrArg some (List.ext_getElem? fun j => ?_)
    by_cases hj : j < i
    · exact hp j hj
    · rw [List.getElem?_eq_none (by omega), List.getElem?_eq_none (by unfold toIntS; rw [List.length_map]; omega)]
  | succ n ih =>
    intro i acc hi ha hp
    have hi2 : i < xs.length := by omega
    refine Ev.step (fun k => by rw [laws_toIntS.l0]) (Ev.pos (by omega) (Ev.pos (by omega) (Ev.pos (by omega) ?_)))
    rw [rd_Z xs i hi2]
    rw [wrap64_id (by omega) (by omega), Int.toNat_natCast]
    refine ih (i + 1) _ (by omega) (by rw [List.length_set]; exact ha) ?_
    intro j hj
    by_cases h : j < i
    · rw [List.getElem?_set_ne (by omega)]; exact hp j h
    · obtain rfl : j = i := by omega
      rw [List.getElem?_set_self (by omega)]
      unfold toIntS
      rw [List.getElem?_map, List.getElem?_eq_getElem hi2]; rfl
theorem toIntS_ev (xs : List Int) (hl : xs.length ≤ 1048576) : Ev (fun k => laws_toIntS.f k xs) (toIntS xs) := by
  unfold laws_toIntS.f
  refine Ev.pos (by omega) (Ev.pos (by omega) ?_)
  rw [Int.toNat_natCast]
  exact toIntS_l0 xs hl xs.length 0 _ (by omega) (List.length_replicate ..) (fun j hj => absurd hj (Nat.not_lt_zero _))
theorem eqIntS_l0 (xs : List Int) (hl : xs.length ≤ 9223372036854775806) (n : Nat) : ∀ (i : Nat), i + n = xs.length → Ev (fun k => laws_eqIntS.l0 k xs xs (i : Int)) true := by
  induction n with
  | zero =>
    intro i hi
    refine Ev.step (fun k => by rw [laws_eqIntS.l0]) ?_
    exact Ev.neg (by omega) (Ev.now _)
  | succ n ih =>
    intro i hi
    refine Ev.step (fun k => by rw [laws_eqIntS.l0]) (Ev.pos (by omega) (Ev.pos (by omega) (Ev.pos (by omega) ?_)))
    refine Ev.pos rfl ?_
    rw [wrap64_id (by omega) (by omega)]
    exact ih (i + 1) (by omega)
theorem eqIntS_refl (xs : List Int) (hl : xs.length ≤ 9223372036854775806) : Ev (fun k => laws_eqIntS.f k xs xs) true := by
  unfold laws_eqIntS.f
  exact Ev.pos rfl (eqIntS_l0 xs hl xs.length 0 (by omega))
/-! ### A number in bytes of seven bits -/
def vn : Nat → Nat → List Int
  | 0, n => [((n % 256 : Nat) : Int)]
  | f + 1, n => if n ≥ 128 then ((n % 128 + 128 : Nat) : Int) :: vn f (n / 128) else [((n % 256 : Nat) : Int)]
def varText (n : Int) : ByteArray := if 0 ≤ n ∧ n ≤ 1000000000 then strOfNums (vn 5 n.toNat) else ⟨#[]⟩
theorem vn_length (f n : Nat) : (vn f n).length ≤ f + 1 := by
  induction f generalizing n with
  | zero => simp [vn]
  | succ f ih =>
    unfold vn
    split
    · have := ih (n / 128); rw [List.length_cons]; omega
    · simp
theorem byte_or128 : ∀ b : Nat, b < 256 → b ||| 128 = b % 128 + 128 := by decide +kernel
theorem l01In_f (a b c : Int) : spec_l01In.f a b c = some (decide (b ≤ a ∧ a ≤ c)) := by
  unfold spec_l01In.f
  by_cases h : a ≥ b
  · rw [if_pos h]; congr 1; rw [decide_eq_decide]; omega
  · rw [if_neg h]; congr 1; symm; rw [decide_eq_false_iff_not]; omega
theorem spec_VarText_l0 (f : Nat) : ∀ (n : Nat) (acc : List Int), n < 128 ^ (f + 1) → n < 2 ^ 31 → acc.length + f < 1000 →
    Ev (fun k => spec_VarText.l0 k (n : Int) acc) (strOfNums (acc ++ vn f n)) := by
  induction f with
  | zero =>
    intro n acc hn hb ha
    refine Ev.step (fun k => by rw [spec_VarText.l0]) ?_
    refine Ev.neg (by omega) (Ev.pos (by omega) (Ev.const ?_))
    rw [show ((n : Int) % 256) = ((n % 256 : Nat) : Int) by omega]; rfl
  | succ f ih =>
    intro n acc hn hb ha
    refine Ev.step (fun k => by rw [spec_VarText.l0]) ?_
    unfold vn
    by_cases h : n ≥ 128
    · rw [if_pos h]
      refine Ev.pos (by omega) (Ev.pos (by omega) ?_)
      rw [i64_mask7, show ((n : Int) % 128) = ((n % 128 : Nat) : Int) by omega, show (128 : Int) = ((128 : Nat) : Int) from rfl, i64_or _ _ (by omega) (by decide), byte_or128 _ (by omega)]
      rw [show (((n % 128 % 128 + 128 : Nat) : Int) % 256) = ((n % 128 + 128 : Nat) : Int) by omega, show ((n : Int) / ((128 : Nat) : Int)) = ((n / 128 : Nat) : Int) by omega]
      refine Ev.of_eq (ih (n / 128) _ ?_ (by omega) (by rw [List.length_append, List.length_singleton]; omega)) (by rw [List.append_assoc]; rfl)
      rw [Nat.pow_succ] at hn
      exact Nat.div_lt_of_lt_mul (by rw [Nat.mul_comm]; exact hn)
    · rw [if_neg h]
      refine Ev.neg (by omega) (Ev.pos (by omega) (Ev.const ?_))
      rw [show ((n : Int) % 256) = ((n % 256 : Nat) : Int) by omega]
theorem spec_VarText_ev (n : Int) : Ev (fun k => spec_VarText.f k n) (varText n) := by
  unfold spec_VarText.f varText
  rw [l01In_f]
  refine Ev.bind (Ev.const rfl) ?_
  simp only [decide_eq_true_eq]
  by_cases h : 0 ≤ n ∧ n ≤ 1000000000
  · rw [if_pos h]
    refine Ev.pos h ?_
    have e : n = ((n.toNat : Nat) : Int) := by omega
    rw [e, Int.toNat_natCast]
    exact spec_VarText_l0 5 n.toNat [] (Nat.lt_of_lt_of_le (m := 2 ^ 31) (by omega) (by decide)) (by omega) (by decide)
  · rw [if_neg h]
    exact Ev.neg h (Ev.now _)
theorem within_f (a b c : Int) : impl_within.f a b c = some (decide (b ≤ a ∧ a ≤ c)) := by
  unfold impl_within.f
  by_cases h : a ≥ b
  · rw [if_pos h]; congr 1; rw [decide_eq_decide]; omega
  · rw [if_neg h]; congr 1; symm; rw [decide_eq_false_iff_not]; omega
theorem isNumber_f (a : Int) : impl_isNumber.f a = some (decide (0 ≤ a ∧ a ≤ 1000000000)) := by
  unfold impl_isNumber.f
  rw [within_f]; rfl
theorem impl_VarText_l0 (f : Nat) : ∀ (n : Nat) (acc : List Int), n < 128 ^ (f + 1) → n < 2 ^ 31 → acc.length + f < 1000 →
    Ev (fun k => impl_VarText.l0 k (n : Int) acc) (strOfNums (acc ++ vn f n)) := by
  induction f with
  | zero =>
    intro n acc hn hb ha
    refine Ev.step (fun k => by rw [impl_VarText.l0]) ?_
    refine Ev.neg (by omega) (Ev.pos (by omega) (Ev.const ?_))
    rw [show ((n : Int) % 256) = ((n % 256 : Nat) : Int) by omega]; rfl
  | succ f ih =>
    intro n acc hn hb ha
    refine Ev.step (fun k => by rw [impl_VarText.l0]) ?_
    unfold vn
    by_cases h : n ≥ 128
    · rw [if_pos h]
      refine Ev.pos (by omega) (Ev.pos (by omega) ?_)
      rw [show ((n : Int) % 256) = ((n % 256 : Nat) : Int) by omega, show (128 : Int) = ((128 : Nat) : Int) from rfl, u8_or _ _ (by omega) (by decide), byte_or128 _ (by omega)]
      rw [show ((n % 256 % 128 + 128 : Nat) : Int) = ((n % 128 + 128 : Nat) : Int) by omega, show ((n : Int) / ((128 : Nat) : Int)) = ((n / 128 : Nat) : Int) by omega]
      refine Ev.of_eq (ih (n / 128) _ ?_ (by omega) (by rw [List.length_append, List.length_singleton]; omega)) (by rw [List.append_assoc]; rfl)
      rw [Nat.pow_succ] at hn
      exact Nat.div_lt_of_lt_mul (by rw [Nat.mul_comm]; exact hn)
    · rw [if_neg h]
      refine Ev.neg (by omega) (Ev.pos (by omega) (Ev.const ?_))
      rw [show ((n : Int) % 256) = ((n % 256 : Nat) : Int) by omega]
theorem impl_VarText_ev (n : Int) : Ev (fun k => impl_VarText.f k n) (varText n) := by
  unfold impl_VarText.f varText
  rw [isNumber_f]
  refine Ev.bind (Ev.const rfl) ?_
  simp only [decide_eq_true_eq]
  by_cases h : 0 ≤ n ∧ n ≤ 1000000000
  · rw [if_pos h]
    refine Ev.pos h ?_
    have e : n = ((n.toNat : Nat) : Int) := by omega
    rw [e, Int.toNat_natCast]
    exact impl_VarText_l0 5 n.toNat [] (Nat.lt_of_lt_of_le (m := 2 ^ 31) (by omega) (by decide)) (by omega) (by decide)
  · rw [if_neg h]
    exact Ev.neg h (Ev.now _)
/-! ### Texts as lists of bytes -/
def mkT (l : List UInt8) : ByteArray := ⟨l.toArray⟩
theorem mkT_list (l : List UInt8) : (mkT l).data.toList = l := rfl
theorem ba_ext {a b : ByteArray} (h : a.data.toList = b.data.toList) : a = b := by
  cases a; cases b
  exact congrArg ByteArray.mk (Array.toList_inj.1 h)
theorem mkT_of (a : ByteArray) : mkT a.data.toList = a := ba_ext rfl
theorem toList_app2 (a b : ByteArray) : (a ++ b).data.toList = a.data.toList ++ b.data.toList := by rw [ByteArray.data_append, Array.toList_append]
theorem mkT_size (l : List UInt8) : (mkT l).size = l.length := by rw [← size_list, mkT_list]
theorem vt_short (n : Int) : (varText n).size ≤ 6 := by
  unfold varText
  split
  · rw [strOfNums_size]; exact vn_length 5 _
  · exact Nat.zero_le _
theorem vn_pos (f n : Nat) : 1 ≤ (vn f n).length := by
  cases f with
  | zero => simp [vn]
  | succ f => unfold vn; split <;> simp
theorem vt_empty (n : Int) : (varText n).toList = [] ↔ ¬ (0 ≤ n ∧ n ≤ 1000000000) := by
  rw [Lib.toList_data]
  constructor
  · intro h hn
    have h1 := congrArg List.length h
    rw [size_list] at h1
    unfold varText at h1
    rw [if_pos hn, strOfNums_size] at h1
    have := vn_pos 5 n.toNat
    rw [List.length_nil] at h1
    omega
  · intro h
    unfold varText
    rw [if_neg h]
/-- The texts of numbers, one behind the other; none if one is no number. -/
def vlGo : List Int → ByteArray → ByteArray
  | [], acc => acc
  | n :: l, acc => if (varText n).toList = [] then ⟨#[]⟩ else vlGo l (acc ++ varText n)
def varList (l : List Int) : ByteArray := vlGo l (varText (l.length : Int))
theorem ba_nil_append (a : ByteArray) : (⟨#[]⟩ : ByteArray) ++ a = a := by apply ba_ext; rw [toList_app2]; rfl
theorem impl_varGo_ev : ∀ (l : List Int) (acc : ByteArray), acc.size + 6 * l.length ≤ 140737488355328 → Ev (fun k => varGo k l acc) (vlGo l acc)
  | [], acc, _ => Ev.now _
  | n :: l, acc, h => by
    have hv := vt_short n
    rw [List.length_cons] at h
    refine Ev.congr (fun k => by rw [varGo]) (Ev.bind (impl_VarText_ev n) ?_)
    unfold vlGo
    by_cases he : (varText n).toList = []
    · rw [if_pos he]; exact Ev.pos he (Ev.now _)
    · rw [if_neg he]
      exact Ev.neg he (Ev.pos (by omega) (impl_varGo_ev l _ (by rw [ByteArray.size_append]; omega)))
theorem impl_VarList_ev (l : List Int) (hl : l.length ≤ 1048576) : Ev (fun k => impl_VarList.f k l) (varList l) := by
  unfold impl_VarList.f
  refine Ev.pos (by omega) ?_
  have h := impl_varGo_ev ((l.length : Int) :: l) ⟨#[]⟩ (by rw [List.length_cons]; show 0 + _ ≤ _; omega)
  rw [vlGo, if_neg (fun e => (vt_empty _).mp e ⟨by omega, by omega⟩), ba_nil_append] at h
  exact h
theorem spec_VarList_l0 (xs : List Int) (hl : xs.length ≤ 1048576) (n : Nat) : ∀ (i : Nat) (acc : ByteArray), i + n = xs.length → acc.size ≤ 6 * (i + 1) → Ev (fun k => spec_VarList.l0 k xs acc (i : Int)) (vlGo (xs.drop i) acc) := by
  induction n with
  | zero =>
    intro i acc hi _
    refine Ev.step (fun k => by rw [spec_VarList.l0]) (Ev.neg (by omega) (Ev.const ?_))
    rw [List.drop_eq_nil_of_le (by omega)]; rfl
  | succ n ih =>
    intro i acc hi ha
    have hi2 : i < xs.length := by omega
    have hv := vt_short xs[i]
    refine Ev.step (fun k => by rw [spec_VarList.l0]) (Ev.pos (by omega) (Ev.pos (by omega) ?_))
    rw [rd_Z xs i hi2, List.drop_eq_getElem_cons hi2, vlGo]
    refine Ev.bind (spec_VarText_ev xs[i]) ?_
    by_cases he : (varText xs[i]).toList = []
    · rw [if_pos he]; exact Ev.pos he (Ev.now _)
    · rw [if_neg he]
      refine Ev.neg he (Ev.pos (by omega) ?_)
      rw [wrap64_id (by omega) (by omega)]
      exact ih (i + 1) _ (by omega) (by rw [ByteArray.size_append]; omega)
theorem spec_VarList_ev (l : List Int) (hl : l.length ≤ 1048576) : Ev (fun k => spec_VarList.f k l) (varList l) := by
  unfold spec_VarList.f
  have hv := vt_short (l.length : Int)
  exact Ev.bind (spec_VarText_ev _) (spec_VarList_l0 l hl l.length 0 _ (by omega) (by omega))
theorem toIntS_id (l : List Int) : toIntS l = l := by unfold toIntS; exact List.map_id l
theorem FnExactVarList : laws_FnExactVarList.Pure := by
  intro l _ hl _
  refine Ev.rounds (g := fun k => laws_FnExactVarList.f k l) ?_
  unfold laws_FnExactVarList.f
  by_cases h : (l.length : Int) > 1048576
  · exact Ev.pos h (Ev.now _)
  refine Ev.neg h ?_
  have ht := toIntS_ev l (by omega)
  rw [toIntS_id] at ht
  refine Ev.bind ht (Ev.bind (spec_VarList_ev l (by omega)) (Ev.bind ht (Ev.bind (impl_VarList_ev l (by omega)) (Ev.pos rfl ?_))))
  exact Ev.bind ht (Ev.bind (eqIntS_refl l (by omega)) (Ev.pos rfl (Ev.now _)))
end Go.Proofs.Ytdjgnooacaoomaa.Pure
