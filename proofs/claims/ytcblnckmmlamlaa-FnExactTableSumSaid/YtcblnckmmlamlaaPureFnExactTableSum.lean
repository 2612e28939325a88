/- The law FnExactTableSum answers true for every whole number and every text: the program's TableSum tells what the reference's tells. Conditions: those of the given row, and no others. -/
import Derived.Test.YtcblnckmmlamlaaPFnExactTableSumx1
namespace Go.Proofs.Ytcblnckmmlamlaa.Pure
open Go.RowKit Go.Proofs.Ytcblnckmmlamlaa.PFnExactTableSum Go.Proofs.YtcblnckmmlamlaaW.PrintWords Go.Proofs.YtcblnckmmlamlaaW.PrintLast Go.Proofs.YtcblnckmmlamlaaW.PrintMore
/-! ### Whole numbers and bits -/
theorem wrap64_id {x : Int} (h0 : -9223372036854775808 ≤ x) (h1 : x ≤ 9223372036854775807) : wrap64 x = x := by unfold wrap64; omega
theorem wf_i64 {x : Int} (h : (Lit.int .i64 x).wf = true) : -9223372036854775808 ≤ x ∧ x ≤ 9223372036854775807 := by
  simp only [Lit.wf, IntKind.min, IntKind.max, IntKind.signed, IntKind.bits, Bool.and_eq_true, decide_eq_true_eq, if_true] at h
  omega
theorem mod_toNat_nat (a : Nat) (m : Nat) : (((a : Int) % (m : Int)).toNat) = a % m := by
  rw [← Int.natCast_emod, Int.toNat_natCast]
theorem bv_mask (j : Nat) (hj : j < 64) (x : Int) : (BitVec.ofInt 64 x &&& BitVec.ofInt 64 ((2 ^ j - 1 : Nat) : Int)).toNat = (x % ((2 ^ j : Nat) : Int)).toNat := by
  have hle : 2 ^ j ≤ 2 ^ 63 := Nat.pow_le_pow_right (by decide) (by omega)
  have hpos : 0 < 2 ^ j := Nat.two_pow_pos j
  have hlt : 2 ^ j - 1 < 2 ^ 64 := by omega
  have hd : (2 : Nat) ^ j ∣ 2 ^ 64 := Nat.pow_dvd_pow 2 (by omega)
  rw [BitVec.ofInt_natCast, BitVec.toNat_and, BitVec.toNat_ofNat, Nat.mod_eq_of_lt hlt, Nat.and_two_pow_sub_one_eq_mod, BitVec.toNat_ofInt]
  have h0 : 0 ≤ x % ((2 ^ 64 : Nat) : Int) := Int.emod_nonneg _ (by simp)
  have h1 : 0 ≤ x % ((2 ^ j : Nat) : Int) := Int.emod_nonneg _ (by omega)
  have : (((x % ((2 ^ 64 : Nat) : Int)).toNat % 2 ^ j : Nat) : Int) = x % ((2 ^ j : Nat) : Int) := by
    rw [Int.natCast_emod, Int.toNat_of_nonneg h0]
    exact Int.emod_emod_of_dvd x (Int.natCast_dvd_natCast.mpr hd)
  omega
/-- A mask of the lowest j bits, of any i64. -/
theorem i64_mask (j : Nat) (hj : j < 64) (x : Int) : Go.bits .and .i64 x (((2 ^ j - 1 : Nat) : Int)) = x % ((2 ^ j : Nat) : Int) := by
  have hpos : 0 < 2 ^ j := Nat.two_pow_pos j
  have hle : 2 ^ j ≤ 2 ^ 63 := Nat.pow_le_pow_right (by decide) (by omega)
  show IntKind.i64.wrap (((BitVec.ofInt 64 x &&& BitVec.ofInt 64 ((2 ^ j - 1 : Nat) : Int)).toNat : Nat) : Int) = _
  rw [bv_mask j hj x]
  have h1 : 0 ≤ x % ((2 ^ j : Nat) : Int) := Int.emod_nonneg _ (by omega)
  have h2 : x % ((2 ^ j : Nat) : Int) < ((2 ^ j : Nat) : Int) := Int.emod_lt_of_pos _ (by omega)
  rw [Int.toNat_of_nonneg h1, IntKind.wrap_i64]
  have h3 : ((2 ^ j : Nat) : Int) ≤ ((2 ^ 63 : Nat) : Int) := Int.ofNat_le.mpr hle
  have h5 : ((2 ^ 63 : Nat) : Int) = 9223372036854775808 := by decide
  omega
theorem i64_mask32 (x : Int) : Go.bits .and .i64 x 4294967295 = x % 4294967296 := i64_mask 32 (by decide) x
theorem i64_mask8 (x : Int) : Go.bits .and .i64 x 255 = x % 256 := i64_mask 8 (by decide) x
theorem i64_mask7 (x : Int) : Go.bits .and .i64 x 127 = x % 128 := i64_mask 7 (by decide) x
theorem i64_mask4 (x : Int) : Go.bits .and .i64 x 15 = x % 16 := i64_mask 4 (by decide) x
theorem i64_mask1 (x : Int) : Go.bits .and .i64 x 1 = x % 2 := i64_mask 1 (by decide) x
theorem xor_nat (k : IntKind) (j : Nat) (hj : j ≤ k.bits) (hk : ∀ n : Int, 0 ≤ n → n < 2 ^ j → k.wrap n = n) (a b : Nat) (ha : a < 2 ^ j) (hb : b < 2 ^ j) :
    Go.bits .xor k a b = ((a ^^^ b : Nat) : Int) := by
  have hp : 2 ^ j ≤ 2 ^ k.bits := Nat.pow_le_pow_right (by decide) hj
  have ha' : a % 2 ^ k.bits = a := Nat.mod_eq_of_lt (Nat.lt_of_lt_of_le ha hp)
  have hb' : b % 2 ^ k.bits = b := Nat.mod_eq_of_lt (Nat.lt_of_lt_of_le hb hp)
  simp only [Go.bits, BitVec.ofInt_natCast, BitVec.toNat_xor, BitVec.toNat_ofNat, ha', hb']
  exact hk _ (Int.natCast_nonneg _) (by exact_mod_cast Nat.xor_lt_two_pow ha hb)
theorem wraps_i64 (n : Int) (h0 : 0 ≤ n) (h1 : n < 2 ^ 63) : IntKind.i64.wrap n = n := by rw [IntKind.wrap_i64]; omega
theorem wraps_u32 (n : Int) (h0 : 0 ≤ n) (h1 : n < 2 ^ 32) : IntKind.u32.wrap n = n := by rw [IntKind.wrap_u32]; omega
theorem i64_xor (a b : Nat) (ha : a < 2 ^ 63) (hb : b < 2 ^ 63) : Go.bits .xor .i64 a b = ((a ^^^ b : Nat) : Int) := xor_nat .i64 63 (by decide) wraps_i64 a b ha hb
theorem u32_xor (a b : Nat) (ha : a < 2 ^ 32) (hb : b < 2 ^ 32) : Go.bits .xor .u32 a b = ((a ^^^ b : Nat) : Int) := xor_nat .u32 32 (by decide) wraps_u32 a b ha hb
theorem i64_or (a b : Nat) (ha : a < 2 ^ 63) (hb : b < 2 ^ 63) : Go.bits .or .i64 a b = ((a ||| b : Nat) : Int) := (Go.bits_nat .i64 63 (by decide) wraps_i64 a b ha hb).2
theorem u8_or (a b : Nat) (ha : a < 2 ^ 8) (hb : b < 2 ^ 8) : Go.bits .or .u8 a b = ((a ||| b : Nat) : Int) := (Go.bits_nat .u8 8 (by decide) Go.wraps_u8 a b ha hb).2
theorem u32_and1 (a : Nat) (ha : a < 2 ^ 32) : Go.bits .and .u32 a 1 = ((a % 2 : Nat) : Int) := by
  rw [show (1 : Int) = ((1 : Nat) : Int) from rfl, (Go.bits_nat .u32 32 (by decide) wraps_u32 a 1 ha (by decide)).1, show (1 : Nat) = 2 ^ 1 - 1 from rfl, Nat.and_two_pow_sub_one_eq_mod]
/-! ### Bytes of a text -/
theorem bt_list (s : ByteArray) (i : Nat) (h : i < s.data.toList.length) : bt s (i : Int) = ((s.data.toList[i]).toNat : Int) := by
  have h' : i < s.size := by rw [Array.length_toList] at h; exact h
  have hn : (i : Int).toNat < s.size := by rw [Int.toNat_natCast]; exact h'
  rw [← bt_at s i hn]
  rfl
theorem size_list (s : ByteArray) : s.data.toList.length = s.size := by rw [Array.length_toList]; rfl
theorem drop_cons (s : ByteArray) (i : Nat) (h : i < s.size) : s.data.toList.drop i = s.data.toList[i]'(by rw [size_list]; exact h) :: s.data.toList.drop (i + 1) :=
  List.drop_eq_getElem_cons (by rw [size_list]; exact h)
/-! ### From some number of rounds on -/
section
variable {α : Type} {f g : Nat → Option α} {r : α} {c : Prop} [Decidable c]
theorem Ev.pos (h : c) (e : Ev f r) : Ev (fun k => if c then f k else g k) r := Ev.congr (fun _ => if_pos h) e
theorem Ev.neg (h : ¬ c) (e : Ev g r) : Ev (fun k => if c then f k else g k) r := Ev.congr (fun _ => if_neg h) e
theorem Ev.const {o : Option α} (h : o = some r) : Ev (fun _ => o) r := ⟨0, fun _ _ => h⟩
theorem Ev.at (K : Nat) (h : ∀ k, K ≤ k → f k = some r) : Ev f r := ⟨K, h⟩
theorem Ev.of_eq {r' : α} (e : Ev f r) (h : r = r') : Ev f r' := h ▸ e
end
theorem Ev.both {α β : Type} {f : Nat → Option α} {g : Nat → Option β} {a : α} {b : β} (h : Ev f a) (h' : Ev g b) : ∃ k, f k = some a ∧ g k = some b := by
  obtain ⟨K, h⟩ := h
  obtain ⟨K', h'⟩ := h'
  exact ⟨max K K', h _ (by omega), h' _ (by omega)⟩
/-! ### The sum of a byte, on natural numbers -/
def stp (x : Nat) : Nat := if x % 2 = 1 then (x / 2) ^^^ 2197175160 else x / 2
def it : Nat → Nat → Nat
  | 0, x => x
  | n + 1, x => it n (stp x)
def sm (x : Nat) (l : List UInt8) : Nat := l.foldl (fun x c => it 8 (x ^^^ c.toNat)) x
theorem stp_lt {x : Nat} (h : x < 2 ^ 32) : stp x < 2 ^ 32 := by
  unfold stp
  split
  · exact Nat.xor_lt_two_pow (by omega) (by decide)
  · omega
theorem it_lt (n : Nat) : ∀ {x : Nat}, x < 2 ^ 32 → it n x < 2 ^ 32 := by
  induction n with
  | zero => intro x h; exact h
  | succ n ih => intro x h; exact ih (stp_lt h)
theorem sm_cons (x : Nat) (c : UInt8) (l : List UInt8) : sm x (c :: l) = sm (it 8 (x ^^^ c.toNat)) l := rfl
theorem sm_append (x : Nat) (l m : List UInt8) : sm x (l ++ m) = sm (sm x l) m := by unfold sm; rw [List.foldl_append]
theorem xor_byte_lt {x : Nat} (h : x < 2 ^ 32) (c : UInt8) : x ^^^ c.toNat < 2 ^ 32 :=
  Nat.xor_lt_two_pow h (Nat.lt_of_lt_of_le c.toNat_lt (by decide))
theorem sm_lt (l : List UInt8) : ∀ {x : Nat}, x < 2 ^ 32 → sm x l < 2 ^ 32 := by
  induction l with
  | nil => intro x h; exact h
  | cons c l ih => intro x h; exact ih (it_lt 8 (xor_byte_lt h c))
theorem u32_of (s : Int) : s % 4294967296 = (((s % 4294967296).toNat : Nat) : Int) ∧ (s % 4294967296).toNat < 2 ^ 32 := by omega
theorem u8_of (s : Int) : s % 256 = (((s % 256).toNat : Nat) : Int) ∧ (s % 256).toNat < 2 ^ 8 := by omega
/-- What SumMore tells: of any s, and the bytes. -/
def sumMore (s : Int) (l : List UInt8) : Nat := sm ((s % 4294967296).toNat ^^^ 4294967295) l ^^^ 4294967295
theorem sumMore_lt (s : Int) (l : List UInt8) : sumMore s l < 2 ^ 32 := Nat.xor_lt_two_pow (sm_lt l (Nat.xor_lt_two_pow (u32_of s).2 (by decide))) (by decide)
theorem spec_SumByte_l0 (n : Nat) : ∀ (k x : Nat), x < 2 ^ 32 → n ≤ 8 → n < k → spec_SumByte.l0 k (x : Int) (8 - (n : Int)) = some ((it n x : Nat) : Int) := by
  induction n with
  | zero =>
    intro k x hx hn hk
    obtain ⟨k, rfl⟩ : ∃ m, k = m + 1 := ⟨k - 1, by omega⟩
    simp only [spec_SumByte.l0]
    rw [if_neg (by omega)]; rfl
  | succ n ih =>
    intro k x hx hn hk
    obtain ⟨k, rfl⟩ : ∃ m, k = m + 1 := ⟨k - 1, by omega⟩
    simp only [spec_SumByte.l0]
    rw [if_pos (by omega), i64_mask1, wrap64_id (by omega) (by omega), show (8 - ((n + 1 : Nat) : Int) + 1) = 8 - (n : Int) by omega]
    have hs : it (n + 1) x = it n (stp x) := rfl
    rw [hs]
    by_cases c : x % 2 = 1
    · rw [if_pos (by omega), show ((x : Int) / 2) = ((x / 2 : Nat) : Int) by omega, show (2197175160 : Int) = ((2197175160 : Nat) : Int) from rfl, i64_xor _ _ (by omega) (by decide)]
      have e : x / 2 ^^^ 2197175160 = stp x := by unfold stp; rw [if_pos c]
      rw [e]
      exact ih k _ (stp_lt hx) (by omega) (by omega)
    · rw [if_neg (by omega), show ((x : Int) / 2) = ((x / 2 : Nat) : Int) by omega]
      have e : x / 2 = stp x := by unfold stp; rw [if_neg c]
      rw [e]
      exact ih k _ (stp_lt hx) (by omega) (by omega)
/-- What SumByte tells, of whatever numbers. -/
theorem spec_SumByte_f (k : Nat) (hk : 8 < k) (s b : Int) : spec_SumByte.f k s b = some ((it 8 ((s % 4294967296).toNat ^^^ (b % 256).toNat) : Nat) : Int) := by
  unfold spec_SumByte.f
  rw [i64_mask32, i64_mask8, (u32_of s).1, (u8_of b).1, i64_xor _ _ (by have := (u32_of s).2; omega) (by have := (u8_of b).2; omega)]
  rw [Int.toNat_natCast, Int.toNat_natCast]
  exact spec_SumByte_l0 8 k _ (Nat.xor_lt_two_pow (u32_of s).2 (Nat.lt_of_lt_of_le (u8_of b).2 (by decide))) (by omega) hk
theorem spec_SumByte_nat (k : Nat) (hk : 8 < k) (x : Nat) (hx : x < 2 ^ 32) (c : UInt8) : spec_SumByte.f k (x : Int) (c.toNat : Int) = some ((it 8 (x ^^^ c.toNat) : Nat) : Int) := by
  have hc := c.toNat_lt
  rw [spec_SumByte_f k hk, show ((x : Int) % 4294967296).toNat = x by omega, show ((c.toNat : Int) % 256).toNat = c.toNat by omega]
theorem spec_SumByte_ev (s b : Int) : Ev (fun k => spec_SumByte.f k s b) ((it 8 ((s % 4294967296).toNat ^^^ (b % 256).toNat) : Nat) : Int) := Ev.at 9 fun k hk => spec_SumByte_f k (by omega) s b
theorem spec_SumByte_evn (x : Nat) (hx : x < 2 ^ 32) (c : UInt8) : Ev (fun k => spec_SumByte.f k (x : Int) (c.toNat : Int)) ((it 8 (x ^^^ c.toNat) : Nat) : Int) := Ev.at 9 fun k hk => spec_SumByte_nat k (by omega) x hx c
theorem spec_SumMore_l0 (s : ByteArray) (hs : s.size ≤ 140737488355328) (n : Nat) : ∀ (i x : Nat), i + n = s.size → x < 2 ^ 32 →
    Ev (fun k => spec_SumMore.l0 k s (x : Int) (i : Int)) ((sm x (s.data.toList.drop i) ^^^ 4294967295 : Nat) : Int) := by
  induction n with
  | zero =>
    intro i x hi hx
    refine Ev.step (fun k => by rw [spec_SumMore.l0]) (Ev.neg (by omega) (Ev.const ?_))
    rw [List.drop_eq_nil_of_le (by rw [size_list]; omega), show (4294967295 : Int) = ((4294967295 : Nat) : Int) from rfl, i64_xor _ _ (by omega) (by decide)]
    rfl
  | succ n ih =>
    intro i x hi hx
    have hlt : i < s.size := by omega
    refine Ev.step (fun k => by rw [spec_SumMore.l0]) (Ev.pos (by omega) (Ev.pos (by omega) ?_))
    rw [bt_list s i (by rw [size_list]; exact hlt), drop_cons s i hlt, sm_cons]
    have hc := (s.data.toList[i]'(by rw [size_list]; exact hlt)).toNat_lt
    rw [wrap64_id (by omega) (by omega), wrap64_id (by omega) (by omega)]
    refine Ev.bind (spec_SumByte_evn x hx _) ?_
    exact ih (i + 1) _ (by omega) (it_lt 8 (xor_byte_lt hx _))
theorem spec_SumMore_ev (s : Int) (b : ByteArray) (hb : b.size ≤ 140737488355328) : Ev (fun k => spec_SumMore.f k s b) ((sumMore s b.data.toList : Nat) : Int) := by
  unfold spec_SumMore.f
  have h := u32_of s
  rw [i64_mask32, h.1, show (4294967295 : Int) = ((4294967295 : Nat) : Int) from rfl, i64_xor _ _ (by omega) (by decide)]
  exact spec_SumMore_l0 b hb b.size 0 _ (by omega) (Nat.xor_lt_two_pow h.2 (by decide))
theorem impl_sumByte_l0 (n : Nat) : ∀ (k x : Nat), x < 2 ^ 32 → n ≤ 8 → n < k → impl_sumByte.l0 k (x : Int) (8 - (n : Int)) = some ((it n x : Nat) : Int) := by
  induction n with
  | zero =>
    intro k x hx hn hk
    obtain ⟨k, rfl⟩ : ∃ m, k = m + 1 := ⟨k - 1, by omega⟩
    simp only [impl_sumByte.l0]
    rw [if_neg (by omega)]; rfl
  | succ n ih =>
    intro k x hx hn hk
    obtain ⟨k, rfl⟩ : ∃ m, k = m + 1 := ⟨k - 1, by omega⟩
    simp only [impl_sumByte.l0]
    rw [if_pos (by omega), u32_and1 _ hx, wrap64_id (by omega) (by omega), show (8 - ((n + 1 : Nat) : Int) + 1) = 8 - (n : Int) by omega]
    have hs : it (n + 1) x = it n (stp x) := rfl
    rw [hs]
    by_cases c : x % 2 = 1
    · rw [if_pos (by omega), show ((x : Int) / 2) = ((x / 2 : Nat) : Int) by omega, show (2197175160 : Int) = ((2197175160 : Nat) : Int) from rfl, u32_xor _ _ (by omega) (by decide)]
      have e : x / 2 ^^^ 2197175160 = stp x := by unfold stp; rw [if_pos c]
      rw [e]
      exact ih k _ (stp_lt hx) (by omega) (by omega)
    · rw [if_neg (by omega), show ((x : Int) / 2) = ((x / 2 : Nat) : Int) by omega]
      have e : x / 2 = stp x := by unfold stp; rw [if_neg c]
      rw [e]
      exact ih k _ (stp_lt hx) (by omega) (by omega)
theorem impl_sumByte_f (k : Nat) (hk : 8 < k) (x b : Nat) (hx : x < 2 ^ 32) (hb : b < 2 ^ 8) : impl_sumByte.f k (x : Int) (b : Int) = some ((it 8 (x ^^^ b) : Nat) : Int) := by
  unfold impl_sumByte.f
  rw [show ((b : Int) % 4294967296) = (b : Int) by omega, u32_xor _ _ hx (by omega)]
  exact impl_sumByte_l0 8 k _ (Nat.xor_lt_two_pow hx (by omega)) (by omega) hk
theorem impl_sumByte_ev (x b : Nat) (hx : x < 2 ^ 32) (hb : b < 2 ^ 8) : Ev (fun k => impl_sumByte.f k (x : Int) (b : Int)) ((it 8 (x ^^^ b) : Nat) : Int) := Ev.at 9 fun k hk => impl_sumByte_f k (by omega) x b hx hb
theorem impl_SumMore_l0 (s : ByteArray) (hs : s.size ≤ 140737488355328) (n : Nat) : ∀ (i x : Nat), i + n = s.size → x < 2 ^ 32 →
    Ev (fun k => impl_SumMore.l0 k s (x : Int) (s.size : Int) (i : Int)) ((sm x (s.data.toList.drop i) ^^^ 4294967295 : Nat) : Int) := by
  induction n with
  | zero =>
    intro i x hi hx
    refine Ev.step (fun k => by rw [impl_SumMore.l0]) (Ev.neg (by omega) (Ev.const ?_))
    rw [List.drop_eq_nil_of_le (by rw [size_list]; omega), show (4294967295 : Int) = ((4294967295 : Nat) : Int) from rfl, u32_xor _ _ hx (by decide)]
    have : x ^^^ 4294967295 < 2 ^ 32 := Nat.xor_lt_two_pow hx (by decide)
    rw [wrap64_id (by omega) (by omega)]
    rfl
  | succ n ih =>
    intro i x hi hx
    have hlt : i < s.size := by omega
    refine Ev.step (fun k => by rw [impl_SumMore.l0]) (Ev.pos (by omega) (Ev.pos (by omega) (Ev.pos (by omega) ?_)))
    rw [bt_list s i (by rw [size_list]; exact hlt), drop_cons s i hlt, sm_cons]
    have hc := (s.data.toList[i]'(by rw [size_list]; exact hlt)).toNat_lt
    rw [wrap64_id (by omega) (by omega)]
    refine Ev.bind (impl_sumByte_ev x _ hx (by omega)) ?_
    exact ih (i + 1) _ (by omega) (it_lt 8 (xor_byte_lt hx _))
theorem impl_SumMore_ev (s : Int) (b : ByteArray) (hb : b.size ≤ 140737488355328) : Ev (fun k => impl_SumMore.f k s b) ((sumMore s b.data.toList : Nat) : Int) := by
  unfold impl_SumMore.f
  have h := u32_of s
  rw [h.1, show (4294967295 : Int) = ((4294967295 : Nat) : Int) from rfl, u32_xor _ _ h.2 (by decide)]
  exact impl_SumMore_l0 b hb b.size 0 _ (by omega) (Nat.xor_lt_two_pow h.2 (by decide))
theorem FnExactTableSum : laws_FnExactTableSum.Pure := by
  intro s b _ hb
  refine Ev.rounds (g := fun k => laws_FnExactTableSum.f k s b) ?_
  unfold laws_FnExactTableSum.f spec_TableSum.f impl_TableSum.f
  by_cases h : (b.size : Int) > 1048576
  · exact Ev.pos h (Ev.now _)
  · exact Ev.neg h (Ev.bind (Ev.bind (spec_SumMore_ev s b (by omega)) (Ev.now _)) (Ev.bind (Ev.bind (impl_SumMore_ev s b (by omega)) (Ev.now _)) (Ev.pos rfl (Ev.now _))))
end Go.Proofs.Ytcblnckmmlamlaa.Pure
