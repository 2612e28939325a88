/- The law FnExactUnhex answers true for every text: the program's Unhex tells what the reference's tells. Conditions: those of the given row, and no others. -/
import Derived.Test.YtcblnckmmlamlaaMFnExactUnhexx1
namespace Go.Proofs.Ytcblnckmmlamlaa.Pure
open Go.RowKit Go.Proofs.Ytcblnckmmlamlaa.MFnExactUnhex Go.Proofs.YtcblnckmmlamlaaW.PrintWords Go.Proofs.YtcblnckmmlamlaaW.PrintLast Go.Proofs.YtcblnckmmlamlaaW.PrintMore
set_option linter.unusedVariables false
set_option linter.unusedSimpArgs false
/-! ### Whole numbers and bits -/
theorem wrap64_id {x : Int} (h0 : -9223372036854775808 ≤ x) (h1 : x ≤ 9223372036854775807) : wrap64 x = x := by unfold wrap64; omega
theorem wf_i64 {x : Int} (h : (Lit.int .i64 x).wf = true) : -9223372036854775808 ≤ x ∧ x ≤ 9223372036854775807 := by
  simp only [Lit.wf, IntKind.min, IntKind.max, IntKind.signed, IntKind.bits, Bool.and_eq_true, decide_eq_true_eq, if_true] at h
  omega
theorem mod_toNat_nat (a : Nat) (m : Nat) : (((a : Int) % (m : Int)).toNat) = a % m := by
  rw [← Int.natCast_emod, Int.toNat_natCast]
theorem bv_mask (j : Nat) (hj : j < 64) (x : Int) : (BitVec.ofInt 64 x &&& BitVec.ofInt 64 ((2 ^ j - 1 : Nat) : Int)).toNat = (x % ((2 ^ j : Nat) : Int)).toNat := by
  have hle : 2 ^ j ≤ 2 ^ 63 := Nat.pow_le_pow_right (by decide) (by omega)
  have hpos : 0 < 2 ^ j := Nat.two_pow_pos j
  have hlt : 2 ^ j - 1 < 2 ^ 64 := by omega
  have hd : (2 : Nat) ^ j ∣ 2 ^ 64 := Nat.pow_dvd_pow 2 (by omega)
  rw [BitVec.ofInt_natCast, BitVec.toNat_and, BitVec.toNat_ofNat, Nat.mod_eq_of_lt hlt, Nat.and_two_pow_sub_one_eq_mod, BitVec.toNat_ofInt]
  have h0 : 0 ≤ x % ((2 ^ 64 : Nat) : Int) := Int.emod_nonneg _ (by simp)
  have h1 : 0 ≤ x % ((2 ^ j : Nat) : Int) := Int.emod_nonneg _ (by omega)
  have : (((x % ((2 ^ 64 : Nat) : Int)).toNat % 2 ^ j : Nat) : Int) = x % ((2 ^ j : Nat) : Int) := by
    rw [Int.natCast_emod, Int.toNat_of_nonneg h0]
    exact Int.emod_emod_of_dvd x (Int.natCast_dvd_natCast.mpr hd)
  omega
/-- A mask of the lowest j bits, of any i64. -/
theorem i64_mask (j : Nat) (hj : j < 64) (x : Int) : Go.bits .and .i64 x (((2 ^ j - 1 : Nat) : Int)) = x % ((2 ^ j : Nat) : Int) := by
  have hpos : 0 < 2 ^ j := Nat.two_pow_pos j
  have hle : 2 ^ j ≤ 2 ^ 63 := Nat.pow_le_pow_right (by decide) (by omega)
  show IntKind.i64.wrap (((BitVec.ofInt 64 x &&& BitVec.ofInt 64 ((2 ^ j - 1 : Nat) : Int)).toNat : Nat) : Int) = _
  rw [bv_mask j hj x]
  have h1 : 0 ≤ x % ((2 ^ j : Nat) : Int) := Int.emod_nonneg _ (by omega)
  have h2 : x % ((2 ^ j : Nat) : Int) < ((2 ^ j : Nat) : Int) := Int.emod_lt_of_pos _ (by omega)
  rw [Int.toNat_of_nonneg h1, IntKind.wrap_i64]
  have h3 : ((2 ^ j : Nat) : Int) ≤ ((2 ^ 63 : Nat) : Int) := Int.ofNat_le.mpr hle
  have h5 : ((2 ^ 63 : Nat) : Int) = 9223372036854775808 := by decide
  omega
theorem i64_mask32 (x : Int) : Go.bits .and .i64 x 4294967295 = x % 4294967296 := i64_mask 32 (by decide) x
theorem i64_mask8 (x : Int) : Go.bits .and .i64 x 255 = x % 256 := i64_mask 8 (by decide) x
theorem i64_mask7 (x : Int) : Go.bits .and .i64 x 127 = x % 128 := i64_mask 7 (by decide) x
theorem i64_mask4 (x : Int) : Go.bits .and .i64 x 15 = x % 16 := i64_mask 4 (by decide) x
theorem i64_mask1 (x : Int) : Go.bits .and .i64 x 1 = x % 2 := i64_mask 1 (by decide) x
theorem xor_nat (k : IntKind) (j : Nat) (hj : j ≤ k.bits) (hk : ∀ n : Int, 0 ≤ n → n < 2 ^ j → k.wrap n = n) (a b : Nat) (ha : a < 2 ^ j) (hb : b < 2 ^ j) :
    Go.bits .xor k a b = ((a ^^^ b : Nat) : Int) := by
  have hp : 2 ^ j ≤ 2 ^ k.bits := Nat.pow_le_pow_right (by decide) hj
  have ha' : a % 2 ^ k.bits = a := Nat.mod_eq_of_lt (Nat.lt_of_lt_of_le ha hp)
  have hb' : b % 2 ^ k.bits = b := Nat.mod_eq_of_lt (Nat.lt_of_lt_of_le hb hp)
  simp only [Go.bits, BitVec.ofInt_natCast, BitVec.toNat_xor, BitVec.toNat_ofNat, ha', hb']
  exact hk _ (Int.natCast_nonneg _) (by exact_mod_cast Nat.xor_lt_two_pow ha hb)
theorem wraps_i64 (n : Int) (h0 : 0 ≤ n) (h1 : n < 2 ^ 63) : IntKind.i64.wrap n = n := by rw [IntKind.wrap_i64]; omega
theorem wraps_u32 (n : Int) (h0 : 0 ≤ n) (h1 : n < 2 ^ 32) : IntKind.u32.wrap n = n := by rw [IntKind.wrap_u32]; omega
theorem i64_xor (a b : Nat) (ha : a < 2 ^ 63) (hb : b < 2 ^ 63) : Go.bits .xor .i64 a b = ((a ^^^ b : Nat) : Int) := xor_nat .i64 63 (by decide) wraps_i64 a b ha hb
theorem u32_xor (a b : Nat) (ha : a < 2 ^ 32) (hb : b < 2 ^ 32) : Go.bits .xor .u32 a b = ((a ^^^ b : Nat) : Int) := xor_nat .u32 32 (by decide) wraps_u32 a b ha hb
theorem i64_or (a b : Nat) (ha : a < 2 ^ 63) (hb : b < 2 ^ 63) : Go.bits .or .i64 a b = ((a ||| b : Nat) : Int) := (Go.bits_nat .i64 63 (by decide) wraps_i64 a b ha hb).2
theorem u8_or (a b : Nat) (ha : a < 2 ^ 8) (hb : b < 2 ^ 8) : Go.bits .or .u8 a b = ((a ||| b : Nat) : Int) := (Go.bits_nat .u8 8 (by decide) Go.wraps_u8 a b ha hb).2
theorem u32_and1 (a : Nat) (ha : a < 2 ^ 32) : Go.bits .and .u32 a 1 = ((a % 2 : Nat) : Int) := by
  rw [show (1 : Int) = ((1 : Nat) : Int) from rfl, (Go.bits_nat .u32 32 (by decide) wraps_u32 a 1 ha (by decide)).1, show (1 : Nat) = 2 ^ 1 - 1 from rfl, Nat.and_two_pow_sub_one_eq_mod]
/-! ### Bytes of a text -/
theorem bt_list (s : ByteArray) (i : Nat) (h : i < s.data.toList.length) : bt s (i : Int) = ((s.data.toList[i]).toNat : Int) := by
  have h' : i < s.size := by rw [Array.length_toList] at h; exact h
  have hn : (i : Int).toNat < s.size := by rw [Int.toNat_natCast]; exact h'
  rw [← bt_at s i hn]
  rfl
theorem size_list (s : ByteArray) : s.data.toList.length = s.size := by rw [Array.length_toList]; rfl
theorem drop_cons (s : ByteArray) (i : Nat) (h : i < s.size) : s.data.toList.drop i = s.data.toList[i]'(by rw [size_list]; exact h) :: s.data.toList.drop (i + 1) :=
  List.drop_eq_getElem_cons (by rw [size_list]; exact h)
/-! ### From some number of rounds on -/
section
variable {α : Type} {f g : Nat → Option α} {r : α} {c : Prop} [Decidable c]
theorem Ev.pos (h : c) (e : Ev f r) : Ev (fun k => if c then f k else g k) r := Ev.congr (fun _ => if_pos h) e
theorem Ev.neg (h : ¬ c) (e : Ev g r) : Ev (fun k => if c then f k else g k) r := Ev.congr (fun _ => if_neg h) e
theorem Ev.const {o : Option α} (h : o = some r) : Ev (fun _ => o) r := ⟨0, fun _ _ => h⟩
theorem Ev.at (K : Nat) (h : ∀ k, K ≤ k → f k = some r) : Ev f r := ⟨K, h⟩
theorem Ev.of_eq {r' : α} (e : Ev f r) (h : r = r') : Ev f r' := h ▸ e
end
theorem Ev.both {α β : Type} {f : Nat → Option α} {g : Nat → Option β} {a : α} {b : β} (h : Ev f a) (h' : Ev g b) : ∃ k, f k = some a ∧ g k = some b := by
  obtain ⟨K, h⟩ := h
  obtain ⟨K', h'⟩ := h'
  exact ⟨max K K', h _ (by omega), h' _ (by omega)⟩
/-! ### The text with such figures -/
def hv (c : Nat) : Int := if 48 ≤ c ∧ c ≤ 57 then (c : Int) - 48 else if 97 ≤ c ∧ c ≤ 102 then (c : Int) - 87 else -1
theorem hv_range (c : Nat) : -1 ≤ hv c ∧ hv c ≤ 15 := by
  unfold hv
  split
  · omega
  · split <;> omega
theorem hv_digit {c : Nat} (h : 48 ≤ c ∧ c ≤ 57) : hv c = (c : Int) - 48 := if_pos h
theorem hv_letter {c : Nat} (h : 97 ≤ c ∧ c ≤ 102) : hv c = (c : Int) - 87 := by
  unfold hv
  rw [if_neg (by omega), if_pos h]
theorem hv_none {c : Nat} (h : ¬ (48 ≤ c ∧ c ≤ 57)) (h2 : ¬ (97 ≤ c ∧ c ≤ 102)) : hv c = -1 := by
  unfold hv
  rw [if_neg h, if_neg h2]
def unhexR : List UInt8 → Option (List Int)
  | [] => some []
  | [_] => none
  | c :: d :: l => if hv c.toNat < 0 ∨ hv d.toNat < 0 then none else (unhexR l).map fun r => (16 * hv c.toNat + hv d.toNat) :: r
def unhexOut (acc : List Int) : Option (List Int) → ByteArray × Bool
  | none => (⟨#[]⟩, false)
  | some r => (strOfNums (acc ++ r), true)
theorem unhexOut_map (acc : List Int) (x : Int) (o : Option (List Int)) : unhexOut (acc ++ [x]) o = unhexOut acc (o.map fun r => x :: r) := by
  cases o with
  | none => rfl
  | some r => show (strOfNums (acc ++ [x] ++ r), true) = (strOfNums (acc ++ x :: r), true); rw [List.append_assoc]; rfl
theorem unhexR_length (n : Nat) : ∀ (l : List UInt8) (r : List Int), l.length ≤ n → unhexR l = some r → l.length = 2 * r.length := by
  induction n with
  | zero => intro l r hl h; cases l with
    | nil => rw [unhexR] at h; rw [← Option.some.inj h]; rfl
    | cons c l => simp at hl
  | succ n ih =>
    intro l r hl h
    match l, hl, h with
    | [], _, h => rw [unhexR] at h; rw [← Option.some.inj h]; rfl
    | [_], _, h => rw [unhexR] at h; cases h
    | c :: d :: l, hl, h =>
      rw [unhexR] at h
      split at h
      · cases h
      · cases e : unhexR l with
        | none => rw [e] at h; cases h
        | some q =>
          rw [e] at h
          have := ih l q (by simp only [List.length_cons] at hl; omega) e
          rw [← Option.some.inj h]
          simp only [List.length_cons]; omega
theorem drop_two (s : ByteArray) (i : Nat) (h : i + 1 < s.size) : s.data.toList.drop i = s.data.toList[i]'(by rw [size_list]; omega) :: s.data.toList[i + 1]'(by rw [size_list]; exact h) :: s.data.toList.drop (i + 2) := by
  rw [drop_cons s i (by omega), drop_cons s (i + 1) h]
theorem l01Value_ev (c : Nat) (hc : c < 256) : Ev (fun k => spec_l01Value.f k (c : Int)) (hv c) := by
  unfold spec_l01Value.f
  by_cases h : (c : Int) ≥ 48
  · refine Ev.pos h (Ev.step (fun k => by rw [spec_l01Value.j0]) ?_)
    by_cases h2 : (c : Int) ≤ 57
    · rw [hv_digit (by omega)]
      refine Ev.pos (decide_eq_true h2) (Ev.const ?_)
      rw [wrap64_id (x := (c : Int)) (by omega) (by omega), wrap64_id (by omega) (by omega)]
    · refine Ev.neg (by rw [decide_eq_false h2]; decide) ?_
      by_cases h3 : (c : Int) ≥ 97
      · refine Ev.pos h3 ?_
        by_cases h4 : (c : Int) ≤ 102
        · rw [hv_letter (by omega)]
          refine Ev.pos h4 (Ev.const ?_)
          rw [wrap64_id (x := (c : Int)) (by omega) (by omega), wrap64_id (x := (c : Int) - 97) (by omega) (by omega), wrap64_id (by omega) (by omega)]
          congr 1; omega
        · rw [hv_none (by omega) (by omega)]; exact Ev.neg h4 (Ev.now _)
      · rw [hv_none (by omega) (by omega)]; exact Ev.neg h3 (Ev.now _)
  · rw [hv_none (by omega) (by omega)]
    refine Ev.neg h (Ev.step (fun k => by rw [spec_l01Value.j0]) (Ev.neg (by decide) ?_))
    exact Ev.neg (by omega) (Ev.now _)
theorem spec_Unhex_l0 (s : ByteArray) (hs : s.size ≤ 1048576) (m : Nat) : ∀ (i : Nat) (acc : List Int), i + 2 * m = s.size → 2 * acc.length = i →
    Ev (fun k => spec_Unhex.l0 k s acc (i : Int)) (unhexOut acc (unhexR (s.data.toList.drop i))) := by
  induction m with
  | zero =>
    intro i acc hi ha
    refine Ev.step (fun k => by rw [spec_Unhex.l0]) (Ev.neg (by omega) (Ev.const ?_))
    rw [List.drop_eq_nil_of_le (by rw [size_list]; omega), unhexR, unhexOut, List.append_nil]
  | succ m ih =>
    intro i acc hi ha
    have hlt : i + 1 < s.size := by omega
    refine Ev.step (fun k => by rw [spec_Unhex.l0]) (Ev.pos (by omega) (Ev.pos (by omega) ?_))
    rw [wrap64_id (x := (i : Int) + 1) (by omega) (by omega), wrap64_id (x := (i : Int) + 2) (by omega) (by omega), show (i : Int) + 1 = ((i + 1 : Nat) : Int) by omega]
    rw [bt_list s i (by rw [size_list]; omega), bt_list s (i + 1) (by rw [size_list]; exact hlt), drop_two s i hlt, unhexR]
    have hc := (s.data.toList[i]'(by rw [size_list]; omega)).toNat_lt
    have hd := (s.data.toList[i + 1]'(by rw [size_list]; exact hlt)).toNat_lt
    generalize (s.data.toList[i]'(by rw [size_list]; omega)) = c at hc ⊢
    generalize (s.data.toList[i + 1]'(by rw [size_list]; exact hlt)) = d at hd ⊢
    have r1 := hv_range c.toNat
    have r2 := hv_range d.toNat
    refine Ev.bind (l01Value_ev _ (by omega)) (Ev.pos (by omega) (Ev.pos (by omega) (Ev.bind (l01Value_ev _ (by omega)) ?_)))
    by_cases h1 : hv c.toNat < 0
    · refine Ev.of_eq (r := (⟨#[]⟩, false)) (Ev.pos h1 (Ev.now _)) ?_
      rw [if_pos (show hv c.toNat < 0 ∨ hv d.toNat < 0 from .inl h1)]; rfl
    · by_cases h2 : hv d.toNat < 0
      · refine Ev.of_eq (r := (⟨#[]⟩, false)) (Ev.neg h1 (Ev.pos h2 (Ev.now _))) ?_
        rw [if_pos (show hv c.toNat < 0 ∨ hv d.toNat < 0 from .inr h2)]; rfl
      · rw [if_neg (show ¬ (hv c.toNat < 0 ∨ hv d.toNat < 0) by omega)]
        refine Ev.neg h1 (Ev.neg h2 (Ev.pos (by omega) ?_))
        rw [wrap64_id (x := 16 * hv c.toNat) (by omega) (by omega), wrap64_id (by omega) (by omega), show (16 * hv c.toNat + hv d.toNat) % 256 = 16 * hv c.toNat + hv d.toNat by omega]
        have := ih (i + 2) (acc ++ [16 * hv c.toNat + hv d.toNat]) (by omega) (by rw [List.length_append, List.length_singleton]; omega)
        rw [unhexOut_map] at this
        exact this
def unhexOf (s : ByteArray) : ByteArray × Bool := if (s.size : Int) > 40000 ∨ s.size % 2 = 1 then (⟨#[]⟩, false) else unhexOut [] (unhexR s.data.toList)
theorem spec_Unhex_ev (s : ByteArray) : Ev (fun k => spec_Unhex.f k s) (unhexOf s) := by
  unfold spec_Unhex.f unhexOf
  by_cases h : (s.size : Int) > 40000
  · rw [if_pos (show (s.size : Int) > 40000 ∨ s.size % 2 = 1 from .inl h)]
    refine Ev.pos h (Ev.step (fun k => by rw [spec_Unhex.j0]) ?_)
    exact Ev.pos rfl (Ev.now _)
  · refine Ev.neg h (Ev.step (fun k => by rw [spec_Unhex.j0]) ?_)
    by_cases h2 : s.size % 2 = 1
    · rw [if_pos (show (s.size : Int) > 40000 ∨ s.size % 2 = 1 from .inr h2)]
      exact Ev.pos (by rw [bne_iff_ne]; omega) (Ev.now _)
    · rw [if_neg (show ¬ ((s.size : Int) > 40000 ∨ s.size % 2 = 1) by omega)]
      refine Ev.neg (by rw [bne_iff_ne]; omega) ?_
      exact spec_Unhex_l0 s (by omega) (s.size / 2) 0 [] (by omega) rfl
theorem or16 : ∀ a : Nat, a < 16 → ∀ b : Nat, b < 16 → Go.bits .or .u8 (((a : Int) * 16) % 256) (b : Int) = 16 * (a : Int) + (b : Int) := by
  intro a ha b hb
  rw [show ((a : Int) * 16) % 256 = ((2 ^ 4 * a : Nat) : Int) by omega, u8_or _ _ (by omega) (by omega), ← Nat.two_pow_add_eq_or_of_lt (by omega : b < 2 ^ 4)]
  omega
def hx16 (c : Nat) : Int := if hv c < 0 then 16 else hv c
theorem hx16_ok {c : Nat} (h : ¬ hv c < 0) : hx16 c = hv c := if_neg h
theorem hx16_no {c : Nat} (h : hv c < 0) : hx16 c = 16 := if_pos h
theorem hexDigit_ev (c : Nat) (hc : c < 256) : Ev (fun k => impl_hexDigit.f k (c : Int)) (hx16 c) := by
  unfold impl_hexDigit.f
  by_cases h : (c : Int) ≥ 48
  · refine Ev.pos h (Ev.step (fun k => by rw [impl_hexDigit.j0]) ?_)
    by_cases h2 : (c : Int) ≤ 57
    · have e := hv_digit (c := c) (by omega)
      rw [hx16_ok (by omega), e]
      refine Ev.pos (decide_eq_true h2) (Ev.const ?_)
      congr 1; omega
    · refine Ev.neg (by rw [decide_eq_false h2]; decide) ?_
      by_cases h3 : (c : Int) ≥ 97
      · refine Ev.pos h3 ?_
        by_cases h4 : (c : Int) ≤ 102
        · have e := hv_letter (c := c) (by omega)
          rw [hx16_ok (by omega), e]
          refine Ev.pos h4 (Ev.const ?_)
          congr 1; omega
        · rw [hx16_no (by rw [hv_none (by omega) (by omega)]; decide)]; exact Ev.neg h4 (Ev.now _)
      · rw [hx16_no (by rw [hv_none (by omega) (by omega)]; decide)]; exact Ev.neg h3 (Ev.now _)
  · rw [hx16_no (by rw [hv_none (by omega) (by omega)]; decide)]
    refine Ev.neg h (Ev.step (fun k => by rw [impl_hexDigit.j0]) (Ev.neg (by decide) ?_))
    exact Ev.neg (by omega) (Ev.now _)
theorem impl_readHex_l0 (s : ByteArray) (hs : s.size ≤ 1048576) (m : Nat) : ∀ (i : Nat) (acc : List Int), i + 2 * m = s.size → 2 * acc.length = i →
    Ev (fun k => impl_readHex.l0 k s acc (i : Int)) (unhexOut acc (unhexR (s.data.toList.drop i))) := by
  induction m with
  | zero =>
    intro i acc hi ha
    refine Ev.step (fun k => by rw [impl_readHex.l0]) (Ev.neg (by omega) (Ev.const ?_))
    rw [List.drop_eq_nil_of_le (by rw [size_list]; omega), unhexR, unhexOut, List.append_nil]
  | succ m ih =>
    intro i acc hi ha
    have hlt : i + 1 < s.size := by omega
    refine Ev.step (fun k => by rw [impl_readHex.l0]) (Ev.pos (by omega) (Ev.pos (by omega) ?_))
    rw [wrap64_id (x := (i : Int) + 1) (by omega) (by omega), wrap64_id (x := (i : Int) + 2) (by omega) (by omega), show (i : Int) + 1 = ((i + 1 : Nat) : Int) by omega]
    rw [bt_list s i (by rw [size_list]; omega), bt_list s (i + 1) (by rw [size_list]; exact hlt), drop_two s i hlt, unhexR]
    have hc := (s.data.toList[i]'(by rw [size_list]; omega)).toNat_lt
    have hd := (s.data.toList[i + 1]'(by rw [size_list]; exact hlt)).toNat_lt
    generalize (s.data.toList[i]'(by rw [size_list]; omega)) = c at hc ⊢
    generalize (s.data.toList[i + 1]'(by rw [size_list]; exact hlt)) = d at hd ⊢
    have r1 := hv_range c.toNat
    have r2 := hv_range d.toNat
    refine Ev.bind (hexDigit_ev _ (by omega)) (Ev.pos (by omega) (Ev.pos (by omega) (Ev.bind (hexDigit_ev _ (by omega)) ?_)))
    by_cases h1 : hv c.toNat < 0
    · refine Ev.of_eq (r := (⟨#[]⟩, false)) (Ev.pos (hx16_no h1) (Ev.now _)) ?_
      rw [if_pos (show hv c.toNat < 0 ∨ hv d.toNat < 0 from .inl h1)]; rfl
    · by_cases h2 : hv d.toNat < 0
      · refine Ev.of_eq (r := (⟨#[]⟩, false)) (Ev.neg (by rw [hx16_ok h1]; omega) (Ev.pos (hx16_no h2) (Ev.now _))) ?_
        rw [if_pos (show hv c.toNat < 0 ∨ hv d.toNat < 0 from .inr h2)]; rfl
      · rw [hx16_ok h1, hx16_ok h2, if_neg (show ¬ (hv c.toNat < 0 ∨ hv d.toNat < 0) by omega)]
        refine Ev.neg (by omega) (Ev.neg (by omega) (Ev.pos (by omega) ?_))
        have e := or16 (hv c.toNat).toNat (by omega) (hv d.toNat).toNat (by omega)
        rw [Int.toNat_of_nonneg (by omega), Int.toNat_of_nonneg (by omega)] at e
        rw [e]
        have := ih (i + 2) (acc ++ [16 * hv c.toNat + hv d.toNat]) (by omega) (by rw [List.length_append, List.length_singleton]; omega)
        rw [unhexOut_map] at this
        exact this
theorem impl_readHex_ev (s : ByteArray) (hs : s.size ≤ 1048576) (h : ¬ s.size % 2 = 1) : Ev (fun k => impl_readHex.f k s) (unhexOut [] (unhexR s.data.toList)) := by
  unfold impl_readHex.f
  refine Ev.neg (by omega) ?_
  rw [wrap64_id (by omega) (by omega)]
  refine Ev.pos (by omega) (Ev.pos (by omega) ?_)
  exact impl_readHex_l0 s hs (s.size / 2) 0 [] (by omega) rfl
theorem impl_readHex_odd (s : ByteArray) (h : s.size % 2 = 1) : Ev (fun k => impl_readHex.f k s) (⟨#[]⟩, false) := by
  unfold impl_readHex.f
  exact Ev.pos (by omega) (Ev.now _)
theorem impl_Unhex_ev (s : ByteArray) (hs : s.size ≤ 1048576) : Ev (fun k => impl_Unhex.f k s) (unhexOf s) := by
  unfold impl_Unhex.f unhexOf
  by_cases h : s.size % 2 = 1
  · refine Ev.of_eq (r := (⟨#[]⟩, false)) (Ev.bind (impl_readHex_odd s h) (Ev.neg Bool.false_ne_true (Ev.now _))) ?_
    rw [if_pos (show (s.size : Int) > 40000 ∨ s.size % 2 = 1 from .inr h)]
  · have hr := impl_readHex_ev s hs h
    cases e : unhexR s.data.toList with
    | none =>
      rw [e] at hr
      refine Ev.of_eq (r := (⟨#[]⟩, false)) (Ev.bind hr (Ev.neg Bool.false_ne_true (Ev.now _))) ?_
      split <;> rfl
    | some r =>
      rw [e] at hr
      have hl := unhexR_length _ _ _ (Nat.le_refl _) e
      rw [size_list] at hl
      have hz : (strOfNums ([] ++ r)).size = r.length := by rw [List.nil_append, strOfNums_size]
      by_cases h2 : (s.size : Int) > 40000
      · refine Ev.of_eq (r := (⟨#[]⟩, false)) (Ev.bind hr (Ev.pos rfl (Ev.pos ?_ (Ev.now _)))) ?_
        · show ((strOfNums ([] ++ r)).size : Int) > 20000
          rw [hz]; omega
        · rw [if_pos (show (s.size : Int) > 40000 ∨ s.size % 2 = 1 from .inl h2)]
      · refine Ev.of_eq (r := (strOfNums ([] ++ r), true)) (Ev.bind hr (Ev.pos rfl (Ev.neg ?_ (Ev.now _)))) ?_
        · show ¬ ((strOfNums ([] ++ r)).size : Int) > 20000
          rw [hz]; omega
        · rw [if_neg (show ¬ ((s.size : Int) > 40000 ∨ s.size % 2 = 1) by omega)]; rfl
theorem FnExactUnhex : laws_FnExactUnhex.Pure := by
  intro s _
  refine Ev.rounds (g := fun k => laws_FnExactUnhex.f k s) ?_
  unfold laws_FnExactUnhex.f
  by_cases h : (s.size : Int) > 1048576
  · exact Ev.pos h (Ev.now _)
  · exact Ev.neg h (Ev.bind (spec_Unhex_ev s) (Ev.bind (impl_Unhex_ev s (by omega)) (Ev.pos rfl (Ev.neg (by simp) (Ev.now _)))))
end Go.Proofs.Ytcblnckmmlamlaa.Pure
