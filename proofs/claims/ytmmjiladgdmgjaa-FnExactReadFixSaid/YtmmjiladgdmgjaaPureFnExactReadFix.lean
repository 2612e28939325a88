/- The law FnExactReadFix answers true for every text and all whole numbers: the program's ReadFix tells what the reference's tells. Conditions: those of the given row, and no others. -/
import Derived.Test.YtmmjiladgdmgjaaPFnExactReadFixx1
namespace Go.Proofs.Ytmmjiladgdmgjaa.Pure
open Go.RowKit Go.Proofs.Ytmmjiladgdmgjaa.PFnExactReadFix Go.Proofs.YtmmjiladgdmgjaaW.PrintWords Go.Proofs.YtmmjiladgdmgjaaW.PrintLast Go.Proofs.YtmmjiladgdmgjaaW.PrintMore
set_option linter.unusedVariables false
set_option linter.unusedSimpArgs false
/-! ### Whole numbers and bits -/
theorem wrap64_id {x : Int} (h0 : -9223372036854775808 ≤ x) (h1 : x ≤ 9223372036854775807) : wrap64 x = x := by unfold wrap64; omega
theorem wf_i64 {x : Int} (h : (Lit.int .i64 x).wf = true) : -9223372036854775808 ≤ x ∧ x ≤ 9223372036854775807 := by
  simp only [Lit.wf, IntKind.min, IntKind.max, IntKind.signed, IntKind.bits, Bool.and_eq_true, decide_eq_true_eq, if_true] at h
  omega
theorem mod_toNat_nat (a : Nat) (m : Nat) : (((a : Int) % (m : Int)).toNat) = a % m := by
  rw [← Int.natCast_emod, Int.toNat_natCast]
theorem bv_mask (j : Nat) (hj : j < 64) (x : Int) : (BitVec.ofInt 64 x &&& BitVec.ofInt 64 ((2 ^ j - 1 : Nat) : Int)).toNat = (x % ((2 ^ j : Nat) : Int)).toNat := by
  have hle : 2 ^ j ≤ 2 ^ 63 := Nat.pow_le_pow_right (by decide) (by omega)
  have hpos : 0 < 2 ^ j := Nat.two_pow_pos j
  have hlt : 2 ^ j - 1 < 2 ^ 64 := by omega
  have hd : (2 : Nat) ^ j ∣ 2 ^ 64 := Nat.pow_dvd_pow 2 (by omega)
  rw [BitVec.ofInt_natCast, BitVec.toNat_and, BitVec.toNat_ofNat, Nat.mod_eq_of_lt hlt, Nat.and_two_pow_sub_one_eq_mod, BitVec.toNat_ofInt]
  have h0 : 0 ≤ x % ((2 ^ 64 : Nat) : Int) := Int.emod_nonneg _ (by simp)
  have h1 : 0 ≤ x % ((2 ^ j : Nat) : Int) := Int.emod_nonneg _ (by omega)
  have : (((x % ((2 ^ 64 : Nat) : Int)).toNat % 2 ^ j : Nat) : Int) = x % ((2 ^ j : Nat) : Int) := by
    rw [Int.natCast_emod, Int.toNat_of_nonneg h0]
    exact Int.emod_emod_of_dvd x (Int.natCast_dvd_natCast.mpr hd)
  omega
/-- A mask of the lowest j bits, of any i64. -/
theorem i64_mask (j : Nat) (hj : j < 64) (x : Int) : Go.bits .and .i64 x (((2 ^ j - 1 : Nat) : Int)) = x % ((2 ^ j : Nat) : Int) := by
  have hpos : 0 < 2 ^ j := Nat.two_pow_pos j
  have hle : 2 ^ j ≤ 2 ^ 63 := Nat.pow_le_pow_right (by decide) (by omega)
  show IntKind.i64.wrap (((BitVec.ofInt 64 x &&& BitVec.ofInt 64 ((2 ^ j - 1 : Nat) : Int)).toNat : Nat) : Int) = _
  rw [bv_mask j hj x]
  have h1 : 0 ≤ x % ((2 ^ j : Nat) : Int) := Int.emod_nonneg _ (by omega)
  have h2 : x % ((2 ^ j : Nat) : Int) < ((2 ^ j : Nat) : Int) := Int.emod_lt_of_pos _ (by omega)
  rw [Int.toNat_of_nonneg h1, IntKind.wrap_i64]
  have h3 : ((2 ^ j : Nat) : Int) ≤ ((2 ^ 63 : Nat) : Int) := Int.ofNat_le.mpr hle
  have h5 : ((2 ^ 63 : Nat) : Int) = 9223372036854775808 := by decide
  omega
theorem i64_mask32 (x : Int) : Go.bits .and .i64 x 4294967295 = x % 4294967296 := i64_mask 32 (by decide) x
theorem i64_mask8 (x : Int) : Go.bits .and .i64 x 255 = x % 256 := i64_mask 8 (by decide) x
theorem i64_mask7 (x : Int) : Go.bits .and .i64 x 127 = x % 128 := i64_mask 7 (by decide) x
theorem i64_mask4 (x : Int) : Go.bits .and .i64 x 15 = x % 16 := i64_mask 4 (by decide) x
theorem i64_mask1 (x : Int) : Go.bits .and .i64 x 1 = x % 2 := i64_mask 1 (by decide) x
theorem xor_nat (k : IntKind) (j : Nat) (hj : j ≤ k.bits) (hk : ∀ n : Int, 0 ≤ n → n < 2 ^ j → k.wrap n = n) (a b : Nat) (ha : a < 2 ^ j) (hb : b < 2 ^ j) :
    Go.bits .xor k a b = ((a ^^^ b : Nat) : Int) := by
  have hp : 2 ^ j ≤ 2 ^ k.bits := Nat.pow_le_pow_right (by decide) hj
  have ha' : a % 2 ^ k.bits = a := Nat.mod_eq_of_lt (Nat.lt_of_lt_of_le ha hp)
  have hb' : b % 2 ^ k.bits = b := Nat.mod_eq_of_lt (Nat.lt_of_lt_of_le hb hp)
  simp only [Go.bits, BitVec.ofInt_natCast, BitVec.toNat_xor, BitVec.toNat_ofNat, ha', hb']
  exact hk _ (Int.natCast_nonneg _) (by exact_mod_cast Nat.xor_lt_two_pow ha hb)
theorem wraps_i64 (n : Int) (h0 : 0 ≤ n) (h1 : n < 2 ^ 63) : IntKind.i64.wrap n = n := by rw [IntKind.wrap_i64]; omega
theorem wraps_u32 (n : Int) (h0 : 0 ≤ n) (h1 : n < 2 ^ 32) : IntKind.u32.wrap n = n := by rw [IntKind.wrap_u32]; omega
theorem i64_xor (a b : Nat) (ha : a < 2 ^ 63) (hb : b < 2 ^ 63) : Go.bits .xor .i64 a b = ((a ^^^ b : Nat) : Int) := xor_nat .i64 63 (by decide) wraps_i64 a b ha hb
theorem u32_xor (a b : Nat) (ha : a < 2 ^ 32) (hb : b < 2 ^ 32) : Go.bits .xor .u32 a b = ((a ^^^ b : Nat) : Int) := xor_nat .u32 32 (by decide) wraps_u32 a b ha hb
theorem i64_or (a b : Nat) (ha : a < 2 ^ 63) (hb : b < 2 ^ 63) : Go.bits .or .i64 a b = ((a ||| b : Nat) : Int) := (Go.bits_nat .i64 63 (by decide) wraps_i64 a b ha hb).2
theorem u8_or (a b : Nat) (ha : a < 2 ^ 8) (hb : b < 2 ^ 8) : Go.bits .or .u8 a b = ((a ||| b : Nat) : Int) := (Go.bits_nat .u8 8 (by decide) Go.wraps_u8 a b ha hb).2
theorem u32_and1 (a : Nat) (ha : a < 2 ^ 32) : Go.bits .and .u32 a 1 = ((a % 2 : Nat) : Int) := by
  rw [show (1 : Int) = ((1 : Nat) : Int) from rfl, (Go.bits_nat .u32 32 (by decide) wraps_u32 a 1 ha (by decide)).1, show (1 : Nat) = 2 ^ 1 - 1 from rfl, Nat.and_two_pow_sub_one_eq_mod]
/-! ### Bytes of a text -/
theorem bt_list (s : ByteArray) (i : Nat) (h : i < s.data.toList.length) : bt s (i : Int) = ((s.data.toList[i]).toNat : Int) := by
  have h' : i < s.size := by rw [Array.length_toList] at h; exact h
  have hn : (i : Int).toNat < s.size := by rw [Int.toNat_natCast]; exact h'
  rw [← bt_at s i hn]
  rfl
theorem size_list (s : ByteArray) : s.data.toList.length = s.size := by rw [Array.length_toList]; rfl
theorem drop_cons (s : ByteArray) (i : Nat) (h : i < s.size) : s.data.toList.drop i = s.data.toList[i]'(by rw [size_list]; exact h) :: s.data.toList.drop (i + 1) :=
  List.drop_eq_getElem_cons (by rw [size_list]; exact h)
/-! ### From some number of rounds on -/
section
variable {α : Type} {f g : Nat → Option α} {r : α} {c : Prop} [Decidable c]
theorem Ev.pos (h : c) (e : Ev f r) : Ev (fun k => if c then f k else g k) r := Ev.congr (fun _ => if_pos h) e
theorem Ev.neg (h : ¬ c) (e : Ev g r) : Ev (fun k => if c then f k else g k) r := Ev.congr (fun _ => if_neg h) e
theorem Ev.const {o : Option α} (h : o = some r) : Ev (fun _ => o) r := ⟨0, fun _ _ => h⟩
theorem Ev.at (K : Nat) (h : ∀ k, K ≤ k → f k = some r) : Ev f r := ⟨K, h⟩
theorem Ev.of_eq {r' : α} (e : Ev f r) (h : r = r') : Ev f r' := h ▸ e
end
theorem Ev.both {α β : Type} {f : Nat → Option α} {g : Nat → Option β} {a : α} {b : β} (h : Ev f a) (h' : Ev g b) : ∃ k, f k = some a ∧ g k = some b := by
  obtain ⟨K, h⟩ := h
  obtain ⟨K', h'⟩ := h'
  exact ⟨max K K', h _ (by omega), h' _ (by omega)⟩
/-! ### The number of so many bytes -/
def rv : List UInt8 → Nat
  | [] => 0
  | c :: l => c.toNat + 256 * rv l
theorem rv_lt (l : List UInt8) : rv l < 256 ^ l.length := by
  induction l with
  | nil => decide
  | cons c l ih =>
    rw [rv, List.length_cons, Nat.pow_succ]
    have := c.toNat_lt
    omega
theorem rv_snoc (l : List UInt8) (c : UInt8) : rv (l ++ [c]) = rv l + c.toNat * 256 ^ l.length := by
  induction l with
  | nil => simp [rv]
  | cons d l ih =>
    rw [List.cons_append, rv, rv, ih, List.length_cons, Nat.pow_succ, Nat.mul_add, Nat.add_assoc, Nat.mul_comm (256 ^ l.length) 256, ← Nat.mul_assoc, ← Nat.mul_assoc, Nat.mul_comm 256 c.toNat]
theorem pow256' (i : Nat) : (256 : Nat) ^ i = 2 ^ (8 * i) := by rw [show (256 : Nat) = 2 ^ 8 from rfl, ← Nat.pow_mul]
def bytesAt (b : List UInt8) (i w : Nat) : List UInt8 := (b.drop i).take w
def readFix (b : ByteArray) (i w : Int) : Int × Bool :=
  if 1 ≤ w ∧ w ≤ 8 ∧ 0 ≤ i ∧ i ≤ b.size - w ∧ rv (bytesAt b.data.toList i.toNat w.toNat) < 2 ^ 63 then ((rv (bytesAt b.data.toList i.toNat w.toNat) : Nat), true) else (0, false)
theorem bytesAt_length (b : ByteArray) (i w : Nat) (h : i + w ≤ b.size) : (bytesAt b.data.toList i w).length = w := by
  unfold bytesAt
  rw [List.length_take, List.length_drop, size_list]; omega
theorem bytesAt_get (b : ByteArray) (i w j : Nat) (h : i + w ≤ b.size) (hj : j < w) : (bytesAt b.data.toList i w)[j]'(by rw [bytesAt_length b i w h]; exact hj) = b.data.toList[i + j]'(by rw [size_list]; omega) := by
  unfold bytesAt
  rw [List.getElem_take, List.getElem_drop]
theorem or_join (x i y : Nat) (hy : y < 2 ^ i) : (2 ^ i * x) ||| y = 2 ^ i * x + y := (Nat.two_pow_add_eq_or_of_lt hy x).symm
theorem l01In_f (a b c : Int) : spec_l01In.f a b c = some (decide (b ≤ a ∧ a ≤ c)) := by
  unfold spec_l01In.f
  by_cases h : a ≥ b
  · rw [if_pos h]; congr 1; rw [decide_eq_decide]; omega
  · rw [if_neg h]; congr 1; symm; rw [decide_eq_false_iff_not]; omega
theorem spec_ReadFix_l0 (b : ByteArray) (hb : b.size ≤ 140737488355328) (a w : Nat) (hw : w ≤ 8) (h : a + w ≤ b.size) (hv : rv (bytesAt b.data.toList a w) < 2 ^ 63) (n : Nat) : ∀ (x : Nat), n ≤ w →
    x = rv ((bytesAt b.data.toList a w).drop n) →
    Ev (fun k => spec_ReadFix.l0 k b (a : Int) (x : Int) ((n : Int) - 1)) ((rv (bytesAt b.data.toList a w) : Nat), true) := by
  have hl := bytesAt_length b a w h
  induction n with
  | zero =>
    intro x hn hx
    refine Ev.step (fun k => by rw [spec_ReadFix.l0]) (Ev.neg (by omega) (Ev.const ?_))
    rw [hx, List.drop_zero]
  | succ n ih =>
    intro x hn hx
    have hd : (bytesAt b.data.toList a w).drop n = (bytesAt b.data.toList a w)[n]'(by omega) :: (bytesAt b.data.toList a w).drop (n + 1) := List.drop_eq_getElem_cons (by omega)
    have hg := bytesAt_get b a w n h (by omega)
    refine Ev.step (fun k => by rw [spec_ReadFix.l0]) (Ev.pos (by omega) ?_)
    rw [show ((n + 1 : Nat) : Int) - 1 = (n : Int) by omega, wrap64_id (x := (a : Int) + n) (by omega) (by omega)]
    refine Ev.pos (by omega) (Ev.pos (by omega) ?_)
    rw [show (a : Int) + n = ((a + n : Nat) : Int) by omega, bt_list b (a + n) (by rw [size_list]; omega), ← hg]
    have hc := ((bytesAt b.data.toList a w)[n]'(by omega)).toNat_lt
    have hle : rv ((bytesAt b.data.toList a w).drop n) < 2 ^ 63 := by
      refine Nat.lt_of_le_of_lt ?_ hv
      have key : ∀ (l : List UInt8) (n : Nat), rv (l.drop n) ≤ rv l := by
        intro l
        induction l with
        | nil => intro n; simp
        | cons c l ih =>
          intro n
          cases n with
          | zero => exact Nat.le_refl _
          | succ n => rw [List.drop_succ_cons, rv]; have := ih n; omega
      exact key _ _
    rw [hd, rv, ← hx] at hle
    rw [wrap64_id (x := (x : Int) * 256) (by omega) (by omega), wrap64_id (by omega) (by omega), wrap64_id (x := (n : Int) - 1) (by omega) (by omega), show (x : Int) * 256 = ((2 ^ 8 * x : Nat) : Int) by omega, i64_or _ _ (by omega) (by omega), or_join _ _ _ hc]
    refine ih _ (by omega) ?_
    rw [hd, rv, ← hx]; omega
theorem rv_top (l : List UInt8) (hl : l.length = 8) : rv l < 2 ^ 63 ↔ (l[7]'(by omega)).toNat ≤ 127 := by
  have e : l = l.take 7 ++ [l[7]'(by omega)] := by
    have := List.take_append_drop 7 l
    rw [List.drop_eq_getElem_cons (by omega), List.drop_eq_nil_of_le (by omega)] at this
    exact this.symm
  have ht : (l.take 7).length = 7 := by rw [List.length_take]; omega
  have h1 := rv_lt (l.take 7)
  have h2 : rv l = rv (l.take 7) + (l[7]'(by omega)).toNat * 256 ^ 7 := by
    have h3 := rv_snoc (l.take 7) (l[7]'(by omega))
    rw [← e, ht] at h3
    exact h3
  rw [ht] at h1
  have e3 : (256 : Nat) ^ 7 = 72057594037927936 := by decide
  rw [e3] at h1 h2
  omega
theorem spec_ReadFix_ev (b : ByteArray) (hb : b.size ≤ 140737488355328) (i w : Int) : Ev (fun k => spec_ReadFix.f k b i w) (readFix b i w) := by
  unfold spec_ReadFix.f
  rw [l01In_f]
  refine Ev.bind (Ev.const rfl) ?_
  by_cases h1 : 1 ≤ w ∧ w ≤ 8
  · refine Ev.pos (decide_eq_true h1) ?_
    rw [l01In_f, wrap64_id (by omega) (by omega)]
    refine Ev.bind (Ev.const rfl) (Ev.step (fun k => by rw [spec_ReadFix.j0]) ?_)
    by_cases h2 : 0 ≤ i ∧ i ≤ (b.size : Int) - w
    · refine Ev.neg (by rw [decide_eq_true h2]; decide) ?_
      obtain ⟨a, rfl⟩ := Int.eq_ofNat_of_zero_le h2.1
      obtain ⟨m, rfl⟩ := Int.eq_ofNat_of_zero_le (show 0 ≤ w by omega)
      have hl := bytesAt_length b a m (by omega)
      have go (hv : rv (bytesAt b.data.toList a m) < 2 ^ 63) : Ev (fun k => spec_ReadFix.j1 k b (a : Int) (m : Int) false) (readFix b a m) := by
        refine Ev.step (fun k => by rw [spec_ReadFix.j1]) (Ev.neg (by decide) ?_)
        rw [wrap64_id (by omega) (by omega)]
        refine Ev.of_eq (spec_ReadFix_l0 b hb a m (by omega) (by omega) hv m 0 (Nat.le_refl _) (by rw [List.drop_eq_nil_of_le (by omega)]; rfl)) ?_
        unfold readFix
        rw [Int.toNat_natCast, Int.toNat_natCast, if_pos ⟨h1.1, h1.2, h2.1, h2.2, hv⟩]
      by_cases h3 : (m : Int) = 8
      · refine Ev.pos h3 ?_
        obtain rfl : m = 8 := by omega
        have ht := rv_top _ hl
        rw [bytesAt_get b a 8 7 (by omega) (by decide)] at ht
        rw [wrap64_id (by omega) (by omega)]
        refine Ev.pos (by omega) (Ev.pos (by omega) ?_)
        rw [show (a : Int) + 7 = ((a + 7 : Nat) : Int) by omega, bt_list b (a + 7) (by rw [size_list]; omega)]
        by_cases h4 : (b.data.toList[a + 7]'(by rw [size_list]; omega)).toNat ≤ 127
        · rw [decide_eq_false (by omega)]
          exact go (ht.2 h4)
        · rw [decide_eq_true (by omega)]
          refine Ev.step (fun k => by rw [spec_ReadFix.j1]) ?_
          refine Ev.of_eq (r := (0, false)) ?_ ?_
          · exact Ev.pos rfl (Ev.now _)
          · unfold readFix
            rw [if_neg]
            rintro ⟨_, _, _, _, h⟩
            exact h4 (ht.1 h)
      · refine Ev.neg h3 (go ?_)
        refine Nat.lt_of_lt_of_le (rv_lt _) ?_
        rw [hl, pow256']
        exact Nat.le_trans (Nat.pow_le_pow_right (by decide) (show 8 * m ≤ 56 by omega)) (by decide)
    · refine Ev.of_eq (r := (0, false)) ?_ ?_
      · refine Ev.pos ?_ (Ev.now _)
        rw [decide_eq_false h2]; rfl
      · unfold readFix
        rw [if_neg]
        rintro ⟨_, _, c, d, _⟩
        exact h2 ⟨c, d⟩
  · refine Ev.neg (by rw [decide_eq_false h1]; decide) (Ev.step (fun k => by rw [spec_ReadFix.j0]) ?_)
    refine Ev.of_eq (r := (0, false)) ?_ ?_
    · exact Ev.pos rfl (Ev.now _)
    · unfold readFix
      rw [if_neg]
      rintro ⟨c, d, _⟩
      exact h1 ⟨c, d⟩
theorem within_f (a b c : Int) : impl_within.f a b c = some (decide (b ≤ a ∧ a ≤ c)) := by
  unfold impl_within.f
  by_cases h : a ≥ b
  · rw [if_pos h]; congr 1; rw [decide_eq_decide]; omega
  · rw [if_neg h]; congr 1; symm; rw [decide_eq_false_iff_not]; omega
theorem or_neg (x y : Nat) (hx : x < 2 ^ 56) (hy : y < 256) : Go.bits .or .i64 (x : Int) (shl .i64 (y : Int) 56) = if y < 128 then ((x + y * 2 ^ 56 : Nat) : Int) else ((x + y * 2 ^ 56 : Nat) : Int) - 18446744073709551616 := by
  have e1 : shl .i64 (y : Int) 56 = IntKind.i64.wrap ((y * 2 ^ 56 : Nat) : Int) := by
    unfold shl
    rw [show min ((56 : Int).toNat) IntKind.i64.bits = 56 from rfl]
    refine congrArg _ ?_
    rw [Int.natCast_mul]; rfl
  have e2 : BitVec.ofInt 64 (shl .i64 (y : Int) 56) = BitVec.ofNat 64 (y * 2 ^ 56) := by
    rw [e1, IntKind.wrap_i64]
    apply BitVec.eq_of_toNat_eq
    rw [BitVec.toNat_ofInt, BitVec.toNat_ofNat]
    have : y * 2 ^ 56 < 2 ^ 64 := by omega
    omega
  show IntKind.i64.wrap (((BitVec.ofInt 64 (x : Int) ||| BitVec.ofInt 64 (shl .i64 (y : Int) 56)).toNat : Nat) : Int) = _
  rw [e2, BitVec.ofInt_natCast, BitVec.toNat_or, BitVec.toNat_ofNat, BitVec.toNat_ofNat, Nat.mod_eq_of_lt (by omega), Nat.mod_eq_of_lt (by omega), Nat.mul_comm, Nat.or_comm, or_join _ _ _ hx, IntKind.wrap_i64]
  split <;> omega
theorem impl_ReadFix_l0 (b : ByteArray) (hb : b.size ≤ 140737488355328) (a w : Nat) (hw : w ≤ 8) (h : a + w ≤ b.size) (n : Nat) : ∀ (i x : Nat), i + n = w → x < 2 ^ 63 →
    x = rv ((bytesAt b.data.toList a w).take i) →
    Ev (fun k => impl_ReadFix.l0 k b (a : Int) (x : Int) (w : Int) (i : Int)) (if rv (bytesAt b.data.toList a w) < 2 ^ 63 then ((rv (bytesAt b.data.toList a w) : Nat), true) else (0, false)) := by
  have hl := bytesAt_length b a w h
  induction n with
  | zero =>
    intro i x hi hxx hx
    rw [List.take_of_length_le (by omega)] at hx
    refine Ev.of_eq (r := ((x : Int), true)) ?_ ?_
    · refine Ev.step (fun k => by rw [impl_ReadFix.l0]) (Ev.neg (by omega) ?_)
      exact Ev.neg (by omega) (Ev.now _)
    · rw [← hx, if_pos hxx]
  | succ n ih =>
    intro i x hi hxx hx
    have hg := bytesAt_get b a w i h (by omega)
    have ht : (bytesAt b.data.toList a w).take (i + 1) = (bytesAt b.data.toList a w).take i ++ [(bytesAt b.data.toList a w)[i]'(by omega)] := by
      rw [List.take_succ_eq_append_getElem (by omega)]
    have htl : ((bytesAt b.data.toList a w).take i).length = i := by rw [List.length_take]; omega
    have hr := rv_snoc ((bytesAt b.data.toList a w).take i) ((bytesAt b.data.toList a w)[i]'(by omega))
    rw [← ht, ← hx, htl] at hr
    have hxl := rv_lt ((bytesAt b.data.toList a w).take i)
    rw [← hx, htl, pow256'] at hxl
    refine Ev.step (fun k => by rw [impl_ReadFix.l0]) (Ev.pos (by omega) ?_)
    rw [wrap64_id (x := (a : Int) + i) (by omega) (by omega)]
    refine Ev.pos (by omega) (Ev.pos (by omega) ?_)
    rw [wrap64_id (x := 8 * (i : Int)) (by omega) (by omega), wrap64_id (x := (i : Int) + 1) (by omega) (by omega)]
    refine Ev.pos (by omega) ?_
    rw [show (a : Int) + i = ((a + i : Nat) : Int) by omega, bt_list b (a + i) (by rw [size_list]; omega), ← hg]
    have hc := ((bytesAt b.data.toList a w)[i]'(by omega)).toNat_lt
    generalize ((bytesAt b.data.toList a w)[i]'(by omega)) = c at *
    rw [wrap64_id (x := (c.toNat : Int)) (by omega) (by omega)]
    by_cases h7 : i = 7
    · subst h7
      obtain rfl : w = 8 := by omega
      obtain rfl : n = 0 := by omega
      have e8 : (bytesAt b.data.toList a 8).take (7 + 1) = bytesAt b.data.toList a 8 := List.take_of_length_le (by omega)
      rw [e8] at hr
      rw [show (8 * ((7 : Nat) : Int)) = 56 from rfl, or_neg x c.toNat (by omega) hc]
      have e3 : (256 : Nat) ^ 7 = 72057594037927936 := by decide
      rw [e3] at hr
      by_cases h128 : c.toNat < 128
      · rw [if_pos h128]
        have := ih 8 (x + c.toNat * 2 ^ 56) (by omega) (by omega) (by rw [e8, hr])
        exact this
      · rw [if_neg h128]
        refine Ev.of_eq (r := (0, false)) ?_ ?_
        · refine Ev.step (fun k => by rw [impl_ReadFix.l0]) (Ev.neg (by omega) ?_)
          exact Ev.pos (by omega) (Ev.now _)
        · rw [if_neg (by omega)]
    · have hsh : shl .i64 (c.toNat : Int) (8 * (i : Int)) = ((2 ^ (8 * i) * c.toNat : Nat) : Int) := by
        unfold shl
        rw [show min ((8 * (i : Int)).toNat) IntKind.i64.bits = 8 * i by have : IntKind.i64.bits = 64 := rfl; omega]
        have : 2 ^ (8 * i) * c.toNat < 2 ^ 56 := by
          refine Nat.lt_of_lt_of_le (m := 2 ^ (8 * i) * 2 ^ 8) ((Nat.mul_lt_mul_left (Nat.two_pow_pos _)).2 hc) ?_
          rw [← Nat.pow_add]
          exact Nat.pow_le_pow_right (by decide) (by omega)
        rw [show ((c.toNat : Int) * 2 ^ (8 * i)) = ((2 ^ (8 * i) * c.toNat : Nat) : Int) by rw [Int.natCast_mul, Int.natCast_pow, Int.mul_comm]; rfl]
        exact wraps_i64 _ (Int.natCast_nonneg _) (by omega)
      have hb2 : 2 ^ (8 * i) * c.toNat + x < 2 ^ 56 := by
        have : 2 ^ (8 * i) * c.toNat + x < 2 ^ (8 * i) * 2 ^ 8 := by
          have : 2 ^ (8 * i) * (c.toNat + 1) ≤ 2 ^ (8 * i) * 2 ^ 8 := Nat.mul_le_mul_left _ hc
          rw [Nat.mul_add, Nat.mul_one] at this
          omega
        refine Nat.lt_of_lt_of_le this ?_
        rw [← Nat.pow_add]
        exact Nat.pow_le_pow_right (by decide) (by omega)
      rw [hsh, i64_or _ _ (by omega) (by omega), Nat.or_comm, or_join _ _ _ hxl]
      refine ih (i + 1) _ (by omega) (by omega) ?_
      rw [hr, pow256', Nat.mul_comm, Nat.add_comm]
theorem impl_ReadFix_ev (b : ByteArray) (hb : b.size ≤ 140737488355328) (i w : Int) : Ev (fun k => impl_ReadFix.f k b i w) (readFix b i w) := by
  unfold impl_ReadFix.f
  rw [within_f]
  refine Ev.bind (Ev.const rfl) ?_
  by_cases h1 : 1 ≤ w ∧ w ≤ 8
  · refine Ev.pos (decide_eq_true h1) ?_
    rw [within_f, wrap64_id (by omega) (by omega)]
    refine Ev.bind (Ev.const rfl) (Ev.step (fun k => by rw [impl_ReadFix.j0]) ?_)
    by_cases h2 : 0 ≤ i ∧ i ≤ (b.size : Int) - w
    · refine Ev.neg (by rw [decide_eq_true h2]; decide) ?_
      obtain ⟨a, rfl⟩ := Int.eq_ofNat_of_zero_le h2.1
      obtain ⟨m, rfl⟩ := Int.eq_ofNat_of_zero_le (show 0 ≤ w by omega)
      refine Ev.of_eq (impl_ReadFix_l0 b hb a m (by omega) (by omega) m 0 0 (by omega) (by decide) rfl) ?_
      unfold readFix
      rw [Int.toNat_natCast, Int.toNat_natCast]
      by_cases hv : rv (bytesAt b.data.toList a m) < 2 ^ 63
      · rw [if_pos hv, if_pos ⟨h1.1, h1.2, h2.1, h2.2, hv⟩]
      · rw [if_neg hv, if_neg (by rintro ⟨_, _, _, _, h⟩; exact hv h)]
    · refine Ev.of_eq (r := (0, false)) ?_ ?_
      · refine Ev.pos ?_ (Ev.now _)
        rw [decide_eq_false h2]; rfl
      · unfold readFix
        rw [if_neg]
        rintro ⟨_, _, c, d, _⟩
        exact h2 ⟨c, d⟩
  · refine Ev.neg (by rw [decide_eq_false h1]; decide) (Ev.step (fun k => by rw [impl_ReadFix.j0]) ?_)
    refine Ev.of_eq (r := (0, false)) ?_ ?_
    · exact Ev.pos rfl (Ev.now _)
    · unfold readFix
      rw [if_neg]
      rintro ⟨c, d, _⟩
      exact h1 ⟨c, d⟩
theorem FnExactReadFix : laws_FnExactReadFix.Pure := by
  intro b i w hb _ _
  refine Ev.rounds (g := fun k => laws_FnExactReadFix.f k b i w) ?_
  unfold laws_FnExactReadFix.f
  by_cases h : (b.size : Int) > 1048576
  · exact Ev.pos h (Ev.now _)
  · refine Ev.neg h (Ev.bind (spec_ReadFix_ev b (by omega) i w) (Ev.bind (impl_ReadFix_ev b (by omega) i w) ?_))
    refine Ev.pos rfl (Ev.neg (by simp) (Ev.now _))
end Go.Proofs.Ytmmjiladgdmgjaa.Pure
