/- The law FnExactNameOk answers true for every text: the program's NameOk tells what the reference's tells. Conditions: those of the given row, and no others. -/
import Derived.Test.YtmmjiladgdmgjaaPFnExactNameOkx1
namespace Go.Proofs.Ytmmjiladgdmgjaa.Pure
open Go.RowKit Go.Proofs.Ytmmjiladgdmgjaa.PFnExactNameOk Go.Proofs.YtmmjiladgdmgjaaW.PrintWords Go.Proofs.YtmmjiladgdmgjaaW.PrintLast Go.Proofs.YtmmjiladgdmgjaaW.PrintMore
set_option linter.unusedVariables false
set_option linter.unusedSimpArgs false
/-! ### Whole numbers and bits -/
theorem wrap64_id {x : Int} (h0 : -9223372036854775808 ≤ x) (h1 : x ≤ 9223372036854775807) : wrap64 x = x := by unfold wrap64; omega
theorem wf_i64 {x : Int} (h : (Lit.int .i64 x).wf = true) : -9223372036854775808 ≤ x ∧ x ≤ 9223372036854775807 := by
  simp only [Lit.wf, IntKind.min, IntKind.max, IntKind.signed, IntKind.bits, Bool.and_eq_true, decide_eq_true_eq, if_true] at h
  omega
theorem mod_toNat_nat (a : Nat) (m : Nat) : (((a : Int) % (m : Int)).toNat) = a % m := by
  rw [← Int.natCast_emod, Int.toNat_natCast]
theorem bv_mask (j : Nat) (hj : j < 64) (x : Int) : (BitVec.ofInt 64 x &&& BitVec.ofInt 64 ((2 ^ j - 1 : Nat) : Int)).toNat = (x % ((2 ^ j : Nat) : Int)).toNat := by
  have hle : 2 ^ j ≤ 2 ^ 63 := Nat.pow_le_pow_right (by decide) (by omega)
  have hpos : 0 < 2 ^ j := Nat.two_pow_pos j
  have hlt : 2 ^ j - 1 < 2 ^ 64 := by omega
  have hd : (2 : Nat) ^ j ∣ 2 ^ 64 := Nat.pow_dvd_pow 2 (by omega)
  rw [BitVec.ofInt_natCast, BitVec.toNat_and, BitVec.toNat_ofNat, Nat.mod_eq_of_lt hlt, Nat.and_two_pow_sub_one_eq_mod, BitVec.toNat_ofInt]
  have h0 : 0 ≤ x % ((2 ^ 64 : Nat) : Int) := Int.emod_nonneg _ (by simp)
  have h1 : 0 ≤ x % ((2 ^ j : Nat) : Int) := Int.emod_nonneg _ (by omega)
  have : (((x % ((2 ^ 64 : Nat) : Int)).toNat % 2 ^ j : Nat) : Int) = x % ((2 ^ j : Nat) : Int) := by
    rw [Int.natCast_emod, Int.toNat_of_nonneg h0]
    exact Int.emod_emod_of_dvd x (Int.natCast_dvd_natCast.mpr hd)
  omega
/-- A mask of the lowest j bits, of any i64. -/
theorem i64_mask (j : Nat) (hj : j < 64) (x : Int) : Go.bits .and .i64 x (((2 ^ j - 1 : Nat) : Int)) = x % ((2 ^ j : Nat) : Int) := by
  have hpos : 0 < 2 ^ j := Nat.two_pow_pos j
  have hle : 2 ^ j ≤ 2 ^ 63 := Nat.pow_le_pow_right (by decide) (by omega)
  show IntKind.i64.wrap (((BitVec.ofInt 64 x &&& BitVec.ofInt 64 ((2 ^ j - 1 : Nat) : Int)).toNat : Nat) : Int) = _
  rw [bv_mask j hj x]
  have h1 : 0 ≤ x % ((2 ^ j : Nat) : Int) := Int.emod_nonneg _ (by omega)
  have h2 : x % ((2 ^ j : Nat) : Int) < ((2 ^ j : Nat) : Int) := Int.emod_lt_of_pos _ (by omega)
  rw [Int.toNat_of_nonneg h1, IntKind.wrap_i64]
  have h3 : ((2 ^ j : Nat) : Int) ≤ ((2 ^ 63 : Nat) : Int) := Int.ofNat_le.mpr hle
  have h5 : ((2 ^ 63 : Nat) : Int) = 9223372036854775808 := by decide
  omega
theorem i64_mask32 (x : Int) : Go.bits .and .i64 x 4294967295 = x % 4294967296 := i64_mask 32 (by decide) x
theorem i64_mask8 (x : Int) : Go.bits .and .i64 x 255 = x % 256 := i64_mask 8 (by decide) x
theorem i64_mask7 (x : Int) : Go.bits .and .i64 x 127 = x % 128 := i64_mask 7 (by decide) x
theorem i64_mask4 (x : Int) : Go.bits .and .i64 x 15 = x % 16 := i64_mask 4 (by decide) x
theorem i64_mask1 (x : Int) : Go.bits .and .i64 x 1 = x % 2 := i64_mask 1 (by decide) x
theorem xor_nat (k : IntKind) (j : Nat) (hj : j ≤ k.bits) (hk : ∀ n : Int, 0 ≤ n → n < 2 ^ j → k.wrap n = n) (a b : Nat) (ha : a < 2 ^ j) (hb : b < 2 ^ j) :
    Go.bits .xor k a b = ((a ^^^ b : Nat) : Int) := by
  have hp : 2 ^ j ≤ 2 ^ k.bits := Nat.pow_le_pow_right (by decide) hj
  have ha' : a % 2 ^ k.bits = a := Nat.mod_eq_of_lt (Nat.lt_of_lt_of_le ha hp)
  have hb' : b % 2 ^ k.bits = b := Nat.mod_eq_of_lt (Nat.lt_of_lt_of_le hb hp)
  simp only [Go.bits, BitVec.ofInt_natCast, BitVec.toNat_xor, BitVec.toNat_ofNat, ha', hb']
  exact hk _ (Int.natCast_nonneg _) (by exact_mod_cast Nat.xor_lt_two_pow ha hb)
theorem wraps_i64 (n : Int) (h0 : 0 ≤ n) (h1 : n < 2 ^ 63) : IntKind.i64.wrap n = n := by rw [IntKind.wrap_i64]; omega
theorem wraps_u32 (n : Int) (h0 : 0 ≤ n) (h1 : n < 2 ^ 32) : IntKind.u32.wrap n = n := by rw [IntKind.wrap_u32]; omega
theorem i64_xor (a b : Nat) (ha : a < 2 ^ 63) (hb : b < 2 ^ 63) : Go.bits .xor .i64 a b = ((a ^^^ b : Nat) : Int) := xor_nat .i64 63 (by decide) wraps_i64 a b ha hb
theorem u32_xor (a b : Nat) (ha : a < 2 ^ 32) (hb : b < 2 ^ 32) : Go.bits .xor .u32 a b = ((a ^^^ b : Nat) : Int) := xor_nat .u32 32 (by decide) wraps_u32 a b ha hb
theorem i64_or (a b : Nat) (ha : a < 2 ^ 63) (hb : b < 2 ^ 63) : Go.bits .or .i64 a b = ((a ||| b : Nat) : Int) := (Go.bits_nat .i64 63 (by decide) wraps_i64 a b ha hb).2
theorem u8_or (a b : Nat) (ha : a < 2 ^ 8) (hb : b < 2 ^ 8) : Go.bits .or .u8 a b = ((a ||| b : Nat) : Int) := (Go.bits_nat .u8 8 (by decide) Go.wraps_u8 a b ha hb).2
theorem u32_and1 (a : Nat) (ha : a < 2 ^ 32) : Go.bits .and .u32 a 1 = ((a % 2 : Nat) : Int) := by
  rw [show (1 : Int) = ((1 : Nat) : Int) from rfl, (Go.bits_nat .u32 32 (by decide) wraps_u32 a 1 ha (by decide)).1, show (1 : Nat) = 2 ^ 1 - 1 from rfl, Nat.and_two_pow_sub_one_eq_mod]
/-! ### Bytes of a text -/
theorem bt_list (s : ByteArray) (i : Nat) (h : i < s.data.toList.length) : bt s (i : Int) = ((s.data.toList[i]).toNat : Int) := by
  have h' : i < s.size := by rw [Array.length_toList] at h; exact h
  have hn : (i : Int).toNat < s.size := by rw [Int.toNat_natCast]; exact h'
  rw [← bt_at s i hn]
  rfl
theorem size_list (s : ByteArray) : s.data.toList.length = s.size := by rw [Array.length_toList]; rfl
theorem drop_cons (s : ByteArray) (i : Nat) (h : i < s.size) : s.data.toList.drop i = s.data.toList[i]'(by rw [size_list]; exact h) :: s.data.toList.drop (i + 1) :=
  List.drop_eq_getElem_cons (by rw [size_list]; exact h)
/-! ### From some number of rounds on -/
section
variable {α : Type} {f g : Nat → Option α} {r : α} {c : Prop} [Decidable c]
theorem Ev.pos (h : c) (e : Ev f r) : Ev (fun k => if c then f k else g k) r := Ev.congr (fun _ => if_pos h) e
theorem Ev.neg (h : ¬ c) (e : Ev g r) : Ev (fun k => if c then f k else g k) r := Ev.congr (fun _ => if_neg h) e
theorem Ev.const {o : Option α} (h : o = some r) : Ev (fun _ => o) r := ⟨0, fun _ _ => h⟩
theorem Ev.at (K : Nat) (h : ∀ k, K ≤ k → f k = some r) : Ev f r := ⟨K, h⟩
theorem Ev.of_eq {r' : α} (e : Ev f r) (h : r = r') : Ev f r' := h ▸ e
end
theorem Ev.both {α β : Type} {f : Nat → Option α} {g : Nat → Option β} {a : α} {b : β} (h : Ev f a) (h' : Ev g b) : ∃ k, f k = some a ∧ g k = some b := by
  obtain ⟨K, h⟩ := h
  obtain ⟨K', h'⟩ := h'
  exact ⟨max K K', h _ (by omega), h' _ (by omega)⟩
/-! ### Names -/
def okc (c : UInt8) : Bool := decide (97 ≤ c.toNat ∧ c.toNat ≤ 122) || decide (48 ≤ c.toNat ∧ c.toNat ≤ 57) || decide (c.toNat = 46) || decide (c.toNat = 45)
def nameOk (l : List UInt8) : Bool := l.all okc && decide (1 ≤ l.length ∧ l.length ≤ 20)
theorem okc_true {c : UInt8} (h : (97 ≤ c.toNat ∧ c.toNat ≤ 122) ∨ (48 ≤ c.toNat ∧ c.toNat ≤ 57) ∨ c.toNat = 46 ∨ c.toNat = 45) : okc c = true := by
  unfold okc
  rcases h with h | h | h | h
  · simp [h]
  · simp [h]
  · simp [h]
  · simp [h]
theorem okc_false {c : UInt8} (h1 : ¬ (97 ≤ c.toNat ∧ c.toNat ≤ 122)) (h2 : ¬ (48 ≤ c.toNat ∧ c.toNat ≤ 57)) (h3 : ¬ c.toNat = 46) (h4 : ¬ c.toNat = 45) : okc c = false := by
  unfold okc
  rw [decide_eq_false h1, decide_eq_false h2, decide_eq_false h3, decide_eq_false h4]; rfl
theorem l01In_f (a b c : Int) : spec_l01In.f a b c = some (decide (b ≤ a ∧ a ≤ c)) := by
  unfold spec_l01In.f
  by_cases h : a ≥ b
  · rw [if_pos h]; congr 1; rw [decide_eq_decide]; omega
  · rw [if_neg h]; congr 1; symm; rw [decide_eq_false_iff_not]; omega
theorem spec_NameOk_l0 (s : ByteArray) (hs : s.size ≤ 140737488355328) (n : Nat) : ∀ (i : Nat), i + n = s.size →
    Ev (fun k => spec_NameOk.l0 k s (i : Int)) ((s.data.toList.drop i).all okc && decide (1 ≤ s.size ∧ s.size ≤ 20)) := by
  induction n with
  | zero =>
    intro i hi
    refine Ev.step (fun k => by rw [spec_NameOk.l0]) (Ev.neg (by omega) ?_)
    rw [l01In_f, List.drop_eq_nil_of_le (by rw [size_list]; omega)]
    refine Ev.bind (Ev.const rfl) (Ev.const ?_)
    refine congrArg some ?_
    rw [List.all_nil, Bool.true_and, decide_eq_decide]; omega
  | succ n ih =>
    intro i hi
    have hlt : i < s.size := by omega
    refine Ev.step (fun k => by rw [spec_NameOk.l0]) (Ev.pos (by omega) (Ev.pos (by omega) ?_))
    rw [bt_list s i (by rw [size_list]; exact hlt), drop_cons s i hlt, List.all_cons]
    have hc := (s.data.toList[i]'(by rw [size_list]; exact hlt)).toNat_lt
    have ih := ih (i + 1) (by omega)
    generalize s.data.toList[i]'(by rw [size_list]; exact hlt) = c at hc ⊢
    rw [wrap64_id (x := (c.toNat : Int)) (by omega) (by omega), wrap64_id (x := (i : Int) + 1) (by omega) (by omega), l01In_f, l01In_f]
    refine Ev.bind (Ev.const rfl) ?_
    by_cases h1 : 97 ≤ c.toNat ∧ c.toNat ≤ 122
    · refine Ev.pos (decide_eq_true (by omega)) ?_
      rw [okc_true (.inl h1), Bool.true_and]; exact ih
    · refine Ev.neg (by rw [decide_eq_false (by omega)]; decide) (Ev.bind (Ev.const rfl) ?_)
      by_cases h2 : 48 ≤ c.toNat ∧ c.toNat ≤ 57
      · refine Ev.pos (decide_eq_true (by omega)) ?_
        rw [okc_true (.inr (.inl h2)), Bool.true_and]; exact ih
      · refine Ev.neg (by rw [decide_eq_false (by omega)]; decide) ?_
        by_cases h3 : c.toNat = 46
        · refine Ev.pos (by omega) ?_
          rw [okc_true (.inr (.inr (.inl h3))), Bool.true_and]; exact ih
        · refine Ev.neg (by omega) ?_
          by_cases h4 : c.toNat = 45
          · refine Ev.pos (by omega) ?_
            rw [okc_true (.inr (.inr (.inr h4))), Bool.true_and]; exact ih
          · refine Ev.neg (by omega) ?_
            rw [okc_false h1 h2 h3 h4, Bool.false_and, Bool.false_and]; exact Ev.now _
theorem spec_NameOk_ev (s : ByteArray) (hs : s.size ≤ 140737488355328) : Ev (fun k => spec_NameOk.f k s) (nameOk s.data.toList) := by
  unfold spec_NameOk.f nameOk
  rw [size_list]
  exact spec_NameOk_l0 s hs s.size 0 (by omega)
theorem within_f (a b c : Int) : impl_within.f a b c = some (decide (b ≤ a ∧ a ≤ c)) := by
  unfold impl_within.f
  by_cases h : a ≥ b
  · rw [if_pos h]; congr 1; rw [decide_eq_decide]; omega
  · rw [if_neg h]; congr 1; symm; rw [decide_eq_false_iff_not]; omega
theorem impl_NameOk_l0 (s : ByteArray) (hs : s.size ≤ 140737488355328) (n : Nat) : ∀ (i : Nat), i + n = s.size →
    Ev (fun k => impl_NameOk.l0 k s (s.size : Int) (i : Int)) ((s.data.toList.drop i).all okc && decide (1 ≤ s.size ∧ s.size ≤ 20)) := by
  induction n with
  | zero =>
    intro i hi
    refine Ev.step (fun k => by rw [impl_NameOk.l0]) (Ev.neg (by omega) ?_)
    rw [within_f, List.drop_eq_nil_of_le (by rw [size_list]; omega)]
    refine Ev.bind (Ev.const rfl) (Ev.const ?_)
    refine congrArg some ?_
    rw [List.all_nil, Bool.true_and, decide_eq_decide]; omega
  | succ n ih =>
    intro i hi
    have hlt : i < s.size := by omega
    refine Ev.step (fun k => by rw [impl_NameOk.l0]) (Ev.pos (by omega) (Ev.pos (by omega) (Ev.pos (by omega) ?_)))
    rw [bt_list s i (by rw [size_list]; exact hlt), drop_cons s i hlt, List.all_cons]
    have hc := (s.data.toList[i]'(by rw [size_list]; exact hlt)).toNat_lt
    have ih := ih (i + 1) (by omega)
    generalize s.data.toList[i]'(by rw [size_list]; exact hlt) = c at hc ⊢
    rw [wrap64_id (x := (i : Int) + 1) (by omega) (by omega)]
    have yes (h : (97 ≤ c.toNat ∧ c.toNat ≤ 122) ∨ (48 ≤ c.toNat ∧ c.toNat ≤ 57) ∨ c.toNat = 46 ∨ c.toNat = 45) :
        Ev (fun k => impl_NameOk.l0 k s (s.size : Int) ((i : Int) + 1)) (okc c && (s.data.toList.drop (i + 1)).all okc && decide (1 ≤ s.size ∧ s.size ≤ 20)) := by
      rw [okc_true h, Bool.true_and]; exact ih
    by_cases a1 : (c.toNat : Int) ≥ 97
    · refine Ev.pos a1 ?_
      by_cases a2 : (c.toNat : Int) ≤ 122
      · exact Ev.pos a2 (yes (.inl (by omega)))
      · refine Ev.neg a2 (Ev.pos (by omega) (Ev.neg (by omega) (Ev.neg (by omega) (Ev.neg (by omega) ?_))))
        rw [okc_false (by omega) (by omega) (by omega) (by omega), Bool.false_and, Bool.false_and]; exact Ev.now _
    · refine Ev.neg a1 ?_
      by_cases b1 : (c.toNat : Int) ≥ 48
      · refine Ev.pos b1 ?_
        by_cases b2 : (c.toNat : Int) ≤ 57
        · exact Ev.pos b2 (yes (.inr (.inl (by omega))))
        · refine Ev.neg b2 (Ev.neg (by omega) (Ev.neg (by omega) ?_))
          rw [okc_false (by omega) (by omega) (by omega) (by omega), Bool.false_and, Bool.false_and]; exact Ev.now _
      · refine Ev.neg b1 ?_
        by_cases b3 : (c.toNat : Int) = 46
        · exact Ev.pos b3 (yes (.inr (.inr (.inl (by omega)))))
        · refine Ev.neg b3 ?_
          by_cases b4 : (c.toNat : Int) = 45
          · exact Ev.pos b4 (yes (.inr (.inr (.inr (by omega)))))
          · refine Ev.neg b4 ?_
            rw [okc_false (by omega) (by omega) (by omega) (by omega), Bool.false_and, Bool.false_and]; exact Ev.now _
theorem impl_NameOk_ev (s : ByteArray) (hs : s.size ≤ 140737488355328) : Ev (fun k => impl_NameOk.f k s) (nameOk s.data.toList) := by
  unfold impl_NameOk.f nameOk
  rw [size_list]
  exact impl_NameOk_l0 s hs s.size 0 (by omega)
theorem FnExactNameOk : laws_FnExactNameOk.Pure := by
  intro s hs
  refine Ev.rounds (g := fun k => laws_FnExactNameOk.f k s) ?_
  unfold laws_FnExactNameOk.f
  by_cases h : (s.size : Int) > 1048576
  · exact Ev.pos h (Ev.now _)
  · refine Ev.neg h (Ev.bind (spec_NameOk_ev s (by omega)) (Ev.bind (impl_NameOk_ev s (by omega)) ?_))
    exact Ev.neg (by simp) (Ev.now _)
end Go.Proofs.Ytmmjiladgdmgjaa.Pure
