/- The law FnExactSameDisk answers true for all disks: the program's SameDisk tells what the reference's tells, and its arguments read on as they did. Conditions: those of the given row, and no others. -/
import Derived.Test.YtdjgnooacaoomaaMFnExactSameDiskx8
namespace Go.Proofs.Ytdjgnooacaoomaa.Pure
open Go.RowKit Go.Proofs.Ytdjgnooacaoomaa.MFnExactSameDisk Go.Proofs.YtdjgnooacaoomaaW.PrintWords Go.Proofs.YtdjgnooacaoomaaW.PrintLast Go.Proofs.YtdjgnooacaoomaaW.PrintMore
set_option linter.unusedVariables false
set_option linter.unusedSimpArgs false
/-! ### Whole numbers and bits -/
theorem wrap64_id {x : Int} (h0 : -9223372036854775808 ≤ x) (h1 : x ≤ 9223372036854775807) : wrap64 x = x := by unfold wrap64; omega
theorem wf_i64 {x : Int} (h : (Lit.int .i64 x).wf = true) : -9223372036854775808 ≤ x ∧ x ≤ 9223372036854775807 := by
  simp only [Lit.wf, IntKind.min, IntKind.max, IntKind.signed, IntKind.bits, Bool.and_eq_true, decide_eq_true_eq, if_true] at h
  omega
theorem mod_toNat_nat (a : Nat) (m : Nat) : (((a : Int) % (m : Int)).toNat) = a % m := by
  rw [← Int.natCast_emod, Int.toNat_natCast]
theorem bv_mask (j : Nat) (hj : j < 64) (x : Int) : (BitVec.ofInt 64 x &&& BitVec.ofInt 64 ((2 ^ j - 1 : Nat) : Int)).toNat = (x % ((2 ^ j : Nat) : Int)).toNat := by
  have hle : 2 ^ j ≤ 2 ^ 63 := Nat.pow_le_pow_right (by decide) (by omega)
  have hpos : 0 < 2 ^ j := Nat.two_pow_pos j
  have hlt : 2 ^ j - 1 < 2 ^ 64 := by omega
  have hd : (2 : Nat) ^ j ∣ 2 ^ 64 := Nat.pow_dvd_pow 2 (by omega)
  rw [BitVec.ofInt_natCast, BitVec.toNat_and, BitVec.toNat_ofNat, Nat.mod_eq_of_lt hlt, Nat.and_two_pow_sub_one_eq_mod, BitVec.toNat_ofInt]
  have h0 : 0 ≤ x % ((2 ^ 64 : Nat) : Int) := Int.emod_nonneg _ (by simp)
  have h1 : 0 ≤ x % ((2 ^ j : Nat) : Int) := Int.emod_nonneg _ (by omega)
  have : (((x % ((2 ^ 64 : Nat) : Int)).toNat % 2 ^ j : Nat) : Int) = x % ((2 ^ j : Nat) : Int) := by
    rw [Int.natCast_emod, Int.toNat_of_nonneg h0]
    exact Int.emod_emod_of_dvd x (Int.natCast_dvd_natCast.mpr hd)
  omega
/-- A mask of the lowest j bits, of any i64. -/
theorem i64_mask (j : Nat) (hj : j < 64) (x : Int) : Go.bits .and .i64 x (((2 ^ j - 1 : Nat) : Int)) = x % ((2 ^ j : Nat) : Int) := by
  have hpos : 0 < 2 ^ j := Nat.two_pow_pos j
  have hle : 2 ^ j ≤ 2 ^ 63 := Nat.pow_le_pow_right (by decide) (by omega)
  show IntKind.i64.wrap (((BitVec.ofInt 64 x &&& BitVec.ofInt 64 ((2 ^ j - 1 : Nat) : Int)).toNat : Nat) : Int) = _
  rw [bv_mask j hj x]
  have h1 : 0 ≤ x % ((2 ^ j : Nat) : Int) := Int.emod_nonneg _ (by omega)
  have h2 : x % ((2 ^ j : Nat) : Int) < ((2 ^ j : Nat) : Int) := Int.emod_lt_of_pos _ (by omega)
  rw [Int.toNat_of_nonneg h1, IntKind.wrap_i64]
  have h3 : ((2 ^ j : Nat) : Int) ≤ ((2 ^ 63 : Nat) : Int) := Int.ofNat_le.mpr hle
  have h5 : ((2 ^ 63 : Nat) : Int) = 9223372036854775808 := by decide
  omega
theorem i64_mask32 (x : Int) : Go.bits .and .i64 x 4294967295 = x % 4294967296 := i64_mask 32 (by decide) x
theorem i64_mask8 (x : Int) : Go.bits .and .i64 x 255 = x % 256 := i64_mask 8 (by decide) x
theorem i64_mask7 (x : Int) : Go.bits .and .i64 x 127 = x % 128 := i64_mask 7 (by decide) x
theorem i64_mask4 (x : Int) : Go.bits .and .i64 x 15 = x % 16 := i64_mask 4 (by decide) x
theorem i64_mask1 (x : Int) : Go.bits .and .i64 x 1 = x % 2 := i64_mask 1 (by decide) x
theorem xor_nat (k : IntKind) (j : Nat) (hj : j ≤ k.bits) (hk : ∀ n : Int, 0 ≤ n → n < 2 ^ j → k.wrap n = n) (a b : Nat) (ha : a < 2 ^ j) (hb : b < 2 ^ j) :
    Go.bits .xor k a b = ((a ^^^ b : Nat) : Int) := by
  have hp : 2 ^ j ≤ 2 ^ k.bits := Nat.pow_le_pow_right (by decide) hj
  have ha' : a % 2 ^ k.bits = a := Nat.mod_eq_of_lt (Nat.lt_of_lt_of_le ha hp)
  have hb' : b % 2 ^ k.bits = b := Nat.mod_eq_of_lt (Nat.lt_of_lt_of_le hb hp)
  simp only [Go.bits, BitVec.ofInt_natCast, BitVec.toNat_xor, BitVec.toNat_ofNat, ha', hb']
  exact hk _ (Int.natCast_nonneg _) (by exact_mod_cast Nat.xor_lt_two_pow ha hb)
theorem wraps_i64 (n : Int) (h0 : 0 ≤ n) (h1 : n < 2 ^ 63) : IntKind.i64.wrap n = n := by rw [IntKind.wrap_i64]; omega
theorem wraps_u32 (n : Int) (h0 : 0 ≤ n) (h1 : n < 2 ^ 32) : IntKind.u32.wrap n = n := by rw [IntKind.wrap_u32]; omega
theorem i64_xor (a b : Nat) (ha : a < 2 ^ 63) (hb : b < 2 ^ 63) : Go.bits .xor .i64 a b = ((a ^^^ b : Nat) : Int) := xor_nat .i64 63 (by decide) wraps_i64 a b ha hb
theorem u32_xor (a b : Nat) (ha : a < 2 ^ 32) (hb : b < 2 ^ 32) : Go.bits .xor .u32 a b = ((a ^^^ b : Nat) : Int) := xor_nat .u32 32 (by decide) wraps_u32 a b ha hb
theorem i64_or (a b : Nat) (ha : a < 2 ^ 63) (hb : b < 2 ^ 63) : Go.bits .or .i64 a b = ((a ||| b : Nat) : Int) := (Go.bits_nat .i64 63 (by decide) wraps_i64 a b ha hb).2
theorem u8_or (a b : Nat) (ha : a < 2 ^ 8) (hb : b < 2 ^ 8) : Go.bits .or .u8 a b = ((a ||| b : Nat) : Int) := (Go.bits_nat .u8 8 (by decide) Go.wraps_u8 a b ha hb).2
theorem u32_and1 (a : Nat) (ha : a < 2 ^ 32) : Go.bits .and .u32 a 1 = ((a % 2 : Nat) : Int) := by
  rw [show (1 : Int) = ((1 : Nat) : Int) from rfl, (Go.bits_nat .u32 32 (by decide) wraps_u32 a 1 ha (by decide)).1, show (1 : Nat) = 2 ^ 1 - 1 from rfl, Nat.and_two_pow_sub_one_eq_mod]
/-! ### Bytes of a text -/
theorem bt_list (s : ByteArray) (i : Nat) (h : i < s.data.toList.length) : bt s (i : Int) = ((s.data.toList[i]).toNat : Int) := by
  have h' : i < s.size := by rw [Array.length_toList] at h; exact h
  have hn : (i : Int).toNat < s.size := by rw [Int.toNat_natCast]; exact h'
  rw [← bt_at s i hn]
  rfl
theorem size_list (s : ByteArray) : s.data.toList.length = s.size := by rw [Array.length_toList]; rfl
theorem drop_cons (s : ByteArray) (i : Nat) (h : i < s.size) : s.data.toList.drop i = s.data.toList[i]'(by rw [size_list]; exact h) :: s.data.toList.drop (i + 1) :=
  List.drop_eq_getElem_cons (by rw [size_list]; exact h)
/-! ### From some number of rounds on -/
section
variable {α : Type} {f g : Nat → Option α} {r : α} {c : Prop} [Decidable c]
theorem Ev.pos (h : c) (e : Ev f r) : Ev (fun k => if c then f k else g k) r := Ev.congr (fun _ => if_pos h) e
theorem Ev.neg (h : ¬ c) (e : Ev g r) : Ev (fun k => if c then f k else g k) r := Ev.congr (fun _ => if_neg h) e
theorem Ev.const {o : Option α} (h : o = some r) : Ev (fun _ => o) r := ⟨0, fun _ _ => h⟩
theorem Ev.at (K : Nat) (h : ∀ k, K ≤ k → f k = some r) : Ev f r := ⟨K, h⟩
theorem Ev.of_eq {r' : α} (e : Ev f r) (h : r = r') : Ev f r' := h ▸ e
end
theorem Ev.both {α β : Type} {f : Nat → Option α} {g : Nat → Option β} {a : α} {b : β} (h : Ev f a) (h' : Ev g b) : ∃ k, f k = some a ∧ g k = some b := by
  obtain ⟨K, h⟩ := h
  obtain ⟨K', h'⟩ := h'
  exact ⟨max K K', h _ (by omega), h' _ (by omega)⟩
theorem rd_LNode (xs : List S118) (i : Nat) (h : i < xs.length) : rd_T118 xs (i : Int) = xs[i] := by
  unfold rd_T118
  rw [Int.toNat_natCast, List.getD_eq_getElem?_getD, List.getElem?_eq_getElem h]; rfl
def totNode : List S118 → Nat
  | [] => 0
  | x :: l => x.f1.size + totNode l
theorem szNodeS_l0 (xs : List S118) (hl : xs.length ≤ 1048576) (hs : ∀ x ∈ xs, x.f1.size ≤ 9223372036854775807) (n : Nat) : ∀ (i : Nat) (x1 : Int), i + n = xs.length → 0 ≤ x1 → x1 ≤ 1048576 →
    ∃ r, Ev (fun k => laws_szNodeS.l0 k xs x1 (i : Int)) r ∧ (r = -1 ∨ (0 ≤ r ∧ r + totNode (xs.drop i) = x1)) := by
  induction n with
  | zero =>
    intro i x1 hi h0 h1
    refine ⟨x1, Ev.step (fun k => by rw [laws_szNodeS.l0]) (Ev.neg (by omega) (Ev.now _)), .inr ⟨h0, ?_⟩⟩
    rw [List.drop_eq_nil_of_le (by omega), totNode]; omega
  | succ n ih =>
    intro i x1 hi h0 h1
    have hi2 : i < xs.length := by omega
    have hb : xs[i].f1.size ≤ 9223372036854775807 := hs xs[i] (List.getElem_mem hi2)
    by_cases h : x1 - (xs[i].f1.size : Int) < 0
    · refine ⟨-1, ?_, .inl rfl⟩
      refine Ev.step (fun k => by rw [laws_szNodeS.l0]) ?_
      refine Ev.pos (by omega) (Ev.pos (by omega) ?_)
      refine Ev.bind (Ev.const (r := (-1 : Int)) ?_) ?_
      · rw [rd_LNode xs i hi2]; unfold laws_szNode.f
        rw [wrap64_id (by omega) (by omega), if_pos h]
      · exact Ev.pos (by decide) (Ev.now _)
    · obtain ⟨r, hr, h2⟩ := ih (i + 1) (x1 - (xs[i].f1.size : Int)) (by omega) (by omega) (by omega)
      refine ⟨r, ?_, ?_⟩
      · refine Ev.step (fun k => by rw [laws_szNodeS.l0]) ?_
        refine Ev.pos (by omega) (Ev.pos (by omega) ?_)
        refine Ev.bind (Ev.const (r := x1 - (xs[i].f1.size : Int)) ?_) ?_
        · rw [rd_LNode xs i hi2]; unfold laws_szNode.f
          rw [wrap64_id (by omega) (by omega), if_neg h]
        · refine Ev.neg (by omega) ?_
          rw [wrap64_id (by omega) (by omega)]; exact hr
      rcases h2 with h2 | ⟨h3, h4⟩
      · exact .inl h2
      · refine .inr ⟨h3, ?_⟩
        rw [List.drop_eq_getElem_cons hi2, totNode]; omega
theorem szNodeS_ev (xs : List S118) (left : Int) (h0 : 0 ≤ left) (h1 : left ≤ 1048576) (hx : xs.length ≤ 9223372036854775807) (hs : ∀ x ∈ xs, x.f1.size ≤ 9223372036854775807) :
    ∃ r, Ev (fun k => laws_szNodeS.f k xs left) r ∧ (r = -1 ∨ (0 ≤ r ∧ r + totNode xs + xs.length = left)) := by
  unfold laws_szNodeS.f
  rw [wrap64_id (by omega) (by omega)]
  by_cases h : left - (xs.length : Int) < 0
  · exact ⟨-1, Ev.pos h (Ev.now _), .inl rfl⟩
  · obtain ⟨r, hr, h2⟩ := szNodeS_l0 xs (by omega) hs xs.length 0 (left - (xs.length : Int)) (by omega) (by omega) (by omega)
    refine ⟨r, Ev.neg h hr, ?_⟩
    rcases h2 with h2 | ⟨h3, h4⟩
    · exact .inl h2
    · rw [List.drop_zero] at h4; exact .inr ⟨h3, by omega⟩
theorem rd_LEntry (xs : List S106) (i : Nat) (h : i < xs.length) : rd_T106 xs (i : Int) = xs[i] := by
  unfold rd_T106
  rw [Int.toNat_natCast, List.getD_eq_getElem?_getD, List.getElem?_eq_getElem h]; rfl
def totEntry : List S106 → Nat
  | [] => 0
  | x :: l => x.f0.size + totEntry l
theorem szEntryS_l0 (xs : List S106) (hl : xs.length ≤ 1048576) (hs : ∀ x ∈ xs, x.f0.size ≤ 9223372036854775807) (n : Nat) : ∀ (i : Nat) (x1 : Int), i + n = xs.length → 0 ≤ x1 → x1 ≤ 1048576 →
    ∃ r, Ev (fun k => laws_szEntryS.l0 k xs x1 (i : Int)) r ∧ (r = -1 ∨ (0 ≤ r ∧ r + totEntry (xs.drop i) = x1)) := by
  induction n with
  | zero =>
    intro i x1 hi h0 h1
    refine ⟨x1, Ev.step (fun k => by rw [laws_szEntryS.l0]) (Ev.neg (by omega) (Ev.now _)), .inr ⟨h0, ?_⟩⟩
    rw [List.drop_eq_nil_of_le (by omega), totEntry]; omega
  | succ n ih =>
    intro i x1 hi h0 h1
    have hi2 : i < xs.length := by omega
    have hb : xs[i].f0.size ≤ 9223372036854775807 := hs xs[i] (List.getElem_mem hi2)
    by_cases h : x1 - (xs[i].f0.size : Int) < 0
    · refine ⟨-1, ?_, .inl rfl⟩
      refine Ev.step (fun k => by rw [laws_szEntryS.l0]) ?_
      refine Ev.pos (by omega) (Ev.pos (by omega) ?_)
      refine Ev.bind (Ev.const (r := (-1 : Int)) ?_) ?_
      · rw [rd_LEntry xs i hi2]; unfold laws_szEntry.f
        rw [wrap64_id (by omega) (by omega), if_pos h]
      · exact Ev.pos (by decide) (Ev.now _)
    · obtain ⟨r, hr, h2⟩ := ih (i + 1) (x1 - (xs[i].f0.size : Int)) (by omega) (by omega) (by omega)
      refine ⟨r, ?_, ?_⟩
      · refine Ev.step (fun k => by rw [laws_szEntryS.l0]) ?_
        refine Ev.pos (by omega) (Ev.pos (by omega) ?_)
        refine Ev.bind (Ev.const (r := x1 - (xs[i].f0.size : Int)) ?_) ?_
        · rw [rd_LEntry xs i hi2]; unfold laws_szEntry.f
          rw [wrap64_id (by omega) (by omega), if_neg h]
        · refine Ev.neg (by omega) ?_
          rw [wrap64_id (by omega) (by omega)]; exact hr
      rcases h2 with h2 | ⟨h3, h4⟩
      · exact .inl h2
      · refine .inr ⟨h3, ?_⟩
        rw [List.drop_eq_getElem_cons hi2, totEntry]; omega
theorem szEntryS_ev (xs : List S106) (left : Int) (h0 : 0 ≤ left) (h1 : left ≤ 1048576) (hx : xs.length ≤ 9223372036854775807) (hs : ∀ x ∈ xs, x.f0.size ≤ 9223372036854775807) :
    ∃ r, Ev (fun k => laws_szEntryS.f k xs left) r ∧ (r = -1 ∨ (0 ≤ r ∧ r + totEntry xs + xs.length = left)) := by
  unfold laws_szEntryS.f
  rw [wrap64_id (by omega) (by omega)]
  by_cases h : left - (xs.length : Int) < 0
  · exact ⟨-1, Ev.pos h (Ev.now _), .inl rfl⟩
  · obtain ⟨r, hr, h2⟩ := szEntryS_l0 xs (by omega) hs xs.length 0 (left - (xs.length : Int)) (by omega) (by omega) (by omega)
    refine ⟨r, Ev.neg h hr, ?_⟩
    rcases h2 with h2 | ⟨h3, h4⟩
    · exact .inl h2
    · rw [List.drop_zero] at h4; exact .inr ⟨h3, by omega⟩
theorem rd_S (xs : List ByteArray) (i : Nat) (h : i < xs.length) : rdOf ByteArray.empty xs (i : Int) = xs[i] := by
  unfold rdOf
  rw [Int.toNat_natCast, List.getD_eq_getElem?_getD, List.getElem?_eq_getElem h]; rfl
def totString : List ByteArray → Nat
  | [] => 0
  | x :: l => x.size + totString l
theorem szStringS_l0 (xs : List ByteArray) (hl : xs.length ≤ 1048576) (hs : ∀ x ∈ xs, x.size ≤ 9223372036854775807) (n : Nat) : ∀ (i : Nat) (x1 : Int), i + n = xs.length → 0 ≤ x1 → x1 ≤ 1048576 →
    ∃ r, Ev (fun k => laws_szStringS.l0 k xs x1 (i : Int)) r ∧ (r = -1 ∨ (0 ≤ r ∧ r + totString (xs.drop i) = x1)) := by
  induction n with
  | zero =>
    intro i x1 hi h0 h1
    refine ⟨x1, Ev.step (fun k => by rw [laws_szStringS.l0]) (Ev.neg (by omega) (Ev.now _)), .inr ⟨h0, ?_⟩⟩
    rw [List.drop_eq_nil_of_le (by omega), totString]; omega
  | succ n ih =>
    intro i x1 hi h0 h1
    have hi2 : i < xs.length := by omega
    have hb : xs[i].size ≤ 9223372036854775807 := hs xs[i] (List.getElem_mem hi2)
    by_cases h : x1 - (xs[i].size : Int) < 0
    · exact ⟨-1, Ev.step (fun k => by rw [laws_szStringS.l0]) (Ev.pos (by omega) (Ev.pos (by omega) (by rw [rd_S xs i hi2, wrap64_id (by omega) (by omega)]; exact Ev.pos h (Ev.now _)))), .inl rfl⟩
    · obtain ⟨r, hr, h2⟩ := ih (i + 1) (x1 - (xs[i].size : Int)) (by omega) (by omega) (by omega)
      refine ⟨r, Ev.step (fun k => by rw [laws_szStringS.l0]) (Ev.pos (by omega) (Ev.pos (by omega) (by rw [rd_S xs i hi2, wrap64_id (x := x1 - (xs[i].size : Int)) (by omega) (by omega), wrap64_id (by omega) (by omega)]; exact Ev.neg h hr))), ?_⟩
      rcases h2 with h2 | ⟨h3, h4⟩
      · exact .inl h2
      · refine .inr ⟨h3, ?_⟩
        rw [List.drop_eq_getElem_cons hi2, totString]; omega
theorem szStringS_ev (xs : List ByteArray) (left : Int) (h0 : 0 ≤ left) (h1 : left ≤ 1048576) (hx : xs.length ≤ 9223372036854775807) (hs : ∀ x ∈ xs, x.size ≤ 9223372036854775807) :
    ∃ r, Ev (fun k => laws_szStringS.f k xs left) r ∧ (r = -1 ∨ (0 ≤ r ∧ r + totString xs + xs.length = left)) := by
  unfold laws_szStringS.f
  rw [wrap64_id (by omega) (by omega)]
  by_cases h : left - (xs.length : Int) < 0
  · exact ⟨-1, Ev.pos h (Ev.now _), .inl rfl⟩
  · obtain ⟨r, hr, h2⟩ := szStringS_l0 xs (by omega) hs xs.length 0 (left - (xs.length : Int)) (by omega) (by omega) (by omega)
    refine ⟨r, Ev.neg h hr, ?_⟩
    rcases h2 with h2 | ⟨h3, h4⟩
    · exact .inl h2
    · rw [List.drop_zero] at h4; exact .inr ⟨h3, by omega⟩
def toNodeS : List S118 → List S70 := List.map (fun x => (⟨x.f0, x.f1, x.f2⟩ : S70))
theorem toNodeS_l0 (xs : List S118) (hl : xs.length ≤ 1048576) (n : Nat) : ∀ (i : Nat) (acc : List S70), i + n = xs.length → acc.length = xs.length → (∀ j, j < i → acc[j]? = (toNodeS xs)[j]?) →
    Ev (fun k => laws_toNodeS.l0 k xs acc (i : Int)) (toNodeS xs) := by
  induction n with
  | zero =>
    intro i acc hi ha hp
    refine Ev.step (fun k => by rw [laws_toNodeS.l0]) (Ev.neg (by omega) (Ev.const ?_))
    refine congrArg some (List.ext_getElem? fun j => ?_)
    by_cases hj : j < i
    · exact hp j hj
    · rw [List.getElem?_eq_none (by omega), List.getElem?_eq_none (by unfold toNodeS; rw [List.length_map]; omega)]
  | succ n ih =>
    intro i acc hi ha hp
    have hi2 : i < xs.length := by omega
    refine Ev.step (fun k => by rw [laws_toNodeS.l0]) ?_
    refine Ev.pos (by omega) (Ev.pos (by omega) ?_)
    rw [rd_LNode xs i hi2]
    refine Ev.bind (Ev.const rfl) (Ev.pos (by omega) ?_)
    rw [wrap64_id (by omega) (by omega), Int.toNat_natCast]
    refine ih (i + 1) _ (by omega) (by rw [List.length_set]; exact ha) ?_
    intro j hj
    by_cases h : j < i
    · rw [List.getElem?_set_ne (by omega)]; exact hp j h
    · obtain rfl : j = i := by omega
      rw [List.getElem?_set_self (by omega)]
      unfold toNodeS
      rw [List.getElem?_map, List.getElem?_eq_getElem hi2]; rfl
theorem toNodeS_ev (xs : List S118) (hl : xs.length ≤ 1048576) : Ev (fun k => laws_toNodeS.f k xs) (toNodeS xs) := by
  unfold laws_toNodeS.f
  refine Ev.pos (by omega) (Ev.pos (by omega) ?_)
  rw [Int.toNat_natCast]
  exact toNodeS_l0 xs hl xs.length 0 _ (by omega) (List.length_replicate ..) (fun j hj => absurd hj (Nat.not_lt_zero _))
def toEntryS : List S106 → List S104 := List.map (fun x => (⟨x.f0, x.f1⟩ : S104))
theorem toEntryS_l0 (xs : List S106) (hl : xs.length ≤ 1048576) (n : Nat) : ∀ (i : Nat) (acc : List S104), i + n = xs.length → acc.length = xs.length → (∀ j, j < i → acc[j]? = (toEntryS xs)[j]?) →
    Ev (fun k => laws_toEntryS.l0 k xs acc (i : Int)) (toEntryS xs) := by
  induction n with
  | zero =>
    intro i acc hi ha hp
    refine Ev.step (fun k => by rw [laws_toEntryS.l0]) (Ev.neg (by omega) (Ev.const ?_))
    refine congrArg some (List.ext_getElem? fun j => ?_)
    by_cases hj : j < i
    · exact hp j hj
    · rw [List.getElem?_eq_none (by omega), List.getElem?_eq_none (by unfold toEntryS; rw [List.length_map]; omega)]
  | succ n ih =>
    intro i acc hi ha hp
    have hi2 : i < xs.length := by omega
    refine Ev.step (fun k => by rw [laws_toEntryS.l0]) ?_
    refine Ev.pos (by omega) (Ev.pos (by omega) ?_)
    rw [rd_LEntry xs i hi2]
    refine Ev.bind (Ev.const rfl) (Ev.pos (by omega) ?_)
    rw [wrap64_id (by omega) (by omega), Int.toNat_natCast]
    refine ih (i + 1) _ (by omega) (by rw [List.length_set]; exact ha) ?_
    intro j hj
    by_cases h : j < i
    · rw [List.getElem?_set_ne (by omega)]; exact hp j h
    · obtain rfl : j = i := by omega
      rw [List.getElem?_set_self (by omega)]
      unfold toEntryS
      rw [List.getElem?_map, List.getElem?_eq_getElem hi2]; rfl
theorem toEntryS_ev (xs : List S106) (hl : xs.length ≤ 1048576) : Ev (fun k => laws_toEntryS.f k xs) (toEntryS xs) := by
  unfold laws_toEntryS.f
  refine Ev.pos (by omega) (Ev.pos (by omega) ?_)
  rw [Int.toNat_natCast]
  exact toEntryS_l0 xs hl xs.length 0 _ (by omega) (List.length_replicate ..) (fun j hj => absurd hj (Nat.not_lt_zero _))
def toStringS : List ByteArray → List ByteArray := List.map (fun x => x)
theorem toStringS_l0 (xs : List ByteArray) (hl : xs.length ≤ 1048576) (n : Nat) : ∀ (i : Nat) (acc : List ByteArray), i + n = xs.length → acc.length = xs.length → (∀ j, j < i → acc[j]? = (toStringS xs)[j]?) →
    Ev (fun k => laws_toStringS.l0 k xs acc (i : Int)) (toStringS xs) := by
  induction n with
  | zero =>
    intro i acc hi ha hp
    refine Ev.step (fun k => by rw [laws_toStringS.l0]) (Ev.neg (by omega) (Ev.const ?_))
    refine congrArg some (List.ext_getElem? fun j => ?_)
    by_cases hj : j < i
    · exact hp j hj
    · rw [List.getElem?_eq_none (by omega), List.getElem?_eq_none (by unfold toStringS; rw [List.length_map]; omega)]
  | succ n ih =>
    intro i acc hi ha hp
    have hi2 : i < xs.length := by omega
    refine Ev.step (fun k => by rw [laws_toStringS.l0]) (Ev.pos (by omega) (Ev.pos (by omega) (Ev.pos (by omega) ?_)))
    rw [rd_S xs i hi2]
    rw [wrap64_id (by omega) (by omega), Int.toNat_natCast]
    refine ih (i + 1) _ (by omega) (by rw [List.length_set]; exact ha) ?_
    intro j hj
    by_cases h : j < i
    · rw [List.getElem?_set_ne (by omega)]; exact hp j h
    · obtain rfl : j = i := by omega
      rw [List.getElem?_set_self (by omega)]
      unfold toStringS
      rw [List.getElem?_map, List.getElem?_eq_getElem hi2]; rfl
theorem toStringS_ev (xs : List ByteArray) (hl : xs.length ≤ 1048576) : Ev (fun k => laws_toStringS.f k xs) (toStringS xs) := by
  unfold laws_toStringS.f
  refine Ev.pos (by omega) (Ev.pos (by omega) ?_)
  rw [Int.toNat_natCast]
  exact toStringS_l0 xs hl xs.length 0 _ (by omega) (List.length_replicate ..) (fun j hj => absurd hj (Nat.not_lt_zero _))
/-- What is known of a disk that came in. -/
def DiskIn (a : List S118) (b c : List S106) (d : List ByteArray) (e f : Int) : Prop :=
  (a.length ≤ 9223372036854775807 ∧ ∀ x ∈ a, ((Lit.int .i64 x.f0).wf = true ∧ x.f1.size ≤ 9223372036854775807 ∧ (Lit.int .i64 x.f2).wf = true)) ∧ (b.length ≤ 9223372036854775807 ∧ ∀ x ∈ b, (x.f0.size ≤ 9223372036854775807 ∧ (Lit.int .i64 x.f1).wf = true)) ∧
  (c.length ≤ 9223372036854775807 ∧ ∀ x ∈ c, (x.f0.size ≤ 9223372036854775807 ∧ (Lit.int .i64 x.f1).wf = true)) ∧ (d.length ≤ 9223372036854775807 ∧ ∀ x ∈ d, x.size ≤ 9223372036854775807) ∧ (Lit.int .i64 e).wf = true ∧ (Lit.int .i64 f).wf = true
/-- A disk that the law looks at: how large it may be. -/
def DiskFits (a : List S118) (b c : List S106) (d : List ByteArray) : Prop :=
  totNode a + a.length + totEntry b + b.length + totEntry c + c.length + totString d + d.length ≤ 1048576
theorem szDisk_ev (a : List S118) (b c : List S106) (d : List ByteArray) (e f : Int) (h : DiskIn a b c d e f) (left : Int) (h0 : 0 ≤ left) (h1 : left ≤ 1048576) :
    ∃ r, Ev (fun k => laws_szDisk.f k a b c d e f left) r ∧ (r < 0 ∨ (0 ≤ r ∧ r + (totNode a + a.length + totEntry b + b.length + totEntry c + c.length + totString d + d.length : Nat) = left)) := by
  obtain ⟨⟨la, ha⟩, ⟨lb, hb⟩, ⟨lc, hc⟩, ⟨ld, hd⟩, _, _⟩ := h
  unfold laws_szDisk.f
  obtain ⟨r1, e1, p1⟩ := szNodeS_ev a left h0 h1 la (fun x hx => (ha x hx).2.1)
  by_cases q1 : r1 < 0
  · exact ⟨-1, Ev.bind e1 (Ev.pos q1 (Ev.now _)), .inl (by decide)⟩
  obtain ⟨r2, e2, p2⟩ := szEntryS_ev b r1 (by omega) (by omega) lb (fun x hx => (hb x hx).1)
  by_cases q2 : r2 < 0
  · exact ⟨-1, Ev.bind e1 (Ev.neg q1 (Ev.bind e2 (Ev.pos q2 (Ev.now _)))), .inl (by decide)⟩
  obtain ⟨r3, e3, p3⟩ := szEntryS_ev c r2 (by omega) (by omega) lc (fun x hx => (hc x hx).1)
  by_cases q3 : r3 < 0
  · exact ⟨-1, Ev.bind e1 (Ev.neg q1 (Ev.bind e2 (Ev.neg q2 (Ev.bind e3 (Ev.pos q3 (Ev.now _)))))), .inl (by decide)⟩
  obtain ⟨r4, e4, p4⟩ := szStringS_ev d r3 (by omega) (by omega) ld hd
  by_cases q4 : r4 < 0
  · exact ⟨-1, Ev.bind e1 (Ev.neg q1 (Ev.bind e2 (Ev.neg q2 (Ev.bind e3 (Ev.neg q3 (Ev.bind e4 (Ev.pos q4 (Ev.now _)))))))), .inl (by decide)⟩
  · exact ⟨r4, Ev.bind e1 (Ev.neg q1 (Ev.bind e2 (Ev.neg q2 (Ev.bind e3 (Ev.neg q3 (Ev.bind e4 (Ev.neg q4 (Ev.now _)))))))), .inr ⟨by omega, by omega⟩⟩
theorem toDisk_ev (a : List S118) (b c : List S106) (d : List ByteArray) (e f : Int) (h : DiskFits a b c d) : Ev (fun k => laws_toDisk.f k a b c d e f) (toNodeS a, toEntryS b, toEntryS c, toStringS d, e, f) := by
  unfold DiskFits at h
  unfold laws_toDisk.f
  exact Ev.bind (toNodeS_ev a (by omega)) (Ev.bind (toEntryS_ev b (by omega)) (Ev.bind (toEntryS_ev c (by omega)) (Ev.bind (toStringS_ev d (by omega)) (Ev.now _))))
theorem toNodeS_length (a : List S118) : (toNodeS a).length = a.length := List.length_map ..
theorem toEntryS_length (a : List S106) : (toEntryS a).length = a.length := List.length_map ..
theorem toStringS_length (a : List ByteArray) : (toStringS a).length = a.length := List.length_map ..
theorem rd_INode (xs : List S70) (i : Nat) (h : i < xs.length) : rd_T70 xs (i : Int) = xs[i] := by
  unfold rd_T70
  rw [Int.toNat_natCast, List.getD_eq_getElem?_getD, List.getElem?_eq_getElem h]; rfl
theorem eqNodeS_l0 (xs : List S70) (hl : xs.length ≤ 9223372036854775806) (n : Nat) : ∀ (i : Nat), i + n = xs.length → Ev (fun k => laws_eqNodeS.l0 k xs xs (i : Int)) true := by
  induction n with
  | zero =>
    intro i hi
    refine Ev.step (fun k => by rw [laws_eqNodeS.l0]) ?_
    exact Ev.neg (by omega) (Ev.now _)
  | succ n ih =>
    intro i hi
    refine Ev.step (fun k => by rw [laws_eqNodeS.l0]) (Ev.pos (by omega) (Ev.pos (by omega) (Ev.pos (by omega) ?_)))
    rw [rd_INode xs i (by omega)]
    refine Ev.bind (Ev.const (r := true) ?_) (Ev.pos rfl ?_)
    · unfold laws_eqNode.f
      rw [if_pos rfl, if_pos rfl, if_pos rfl]
    rw [wrap64_id (by omega) (by omega)]
    exact ih (i + 1) (by omega)
theorem eqNodeS_refl (xs : List S70) (hl : xs.length ≤ 9223372036854775806) : Ev (fun k => laws_eqNodeS.f k xs xs) true := by
  unfold laws_eqNodeS.f
  exact Ev.pos rfl (eqNodeS_l0 xs hl xs.length 0 (by omega))
theorem rd_IEntry (xs : List S104) (i : Nat) (h : i < xs.length) : rd_T104 xs (i : Int) = xs[i] := by
  unfold rd_T104
  rw [Int.toNat_natCast, List.getD_eq_getElem?_getD, List.getElem?_eq_getElem h]; rfl
theorem eqEntryS_l0 (xs : List S104) (hl : xs.length ≤ 9223372036854775806) (n : Nat) : ∀ (i : Nat), i + n = xs.length → Ev (fun k => laws_eqEntryS.l0 k xs xs (i : Int)) true := by
  induction n with
  | zero =>
    intro i hi
    refine Ev.step (fun k => by rw [laws_eqEntryS.l0]) ?_
    exact Ev.neg (by omega) (Ev.now _)
  | succ n ih =>
    intro i hi
    refine Ev.step (fun k => by rw [laws_eqEntryS.l0]) (Ev.pos (by omega) (Ev.pos (by omega) (Ev.pos (by omega) ?_)))
    rw [rd_IEntry xs i (by omega)]
    refine Ev.bind (Ev.const (r := true) ?_) (Ev.pos rfl ?_)
    · unfold laws_eqEntry.f
      rw [if_pos rfl, if_pos rfl]
    rw [wrap64_id (by omega) (by omega)]
    exact ih (i + 1) (by omega)
theorem eqEntryS_refl (xs : List S104) (hl : xs.length ≤ 9223372036854775806) : Ev (fun k => laws_eqEntryS.f k xs xs) true := by
  unfold laws_eqEntryS.f
  exact Ev.pos rfl (eqEntryS_l0 xs hl xs.length 0 (by omega))
theorem eqStringS_l0 (xs : List ByteArray) (hl : xs.length ≤ 9223372036854775806) (n : Nat) : ∀ (i : Nat), i + n = xs.length → Ev (fun k => laws_eqStringS.l0 k xs xs (i : Int)) true := by
  induction n with
  | zero =>
    intro i hi
    refine Ev.step (fun k => by rw [laws_eqStringS.l0]) ?_
    exact Ev.neg (by omega) (Ev.now _)
  | succ n ih =>
    intro i hi
    refine Ev.step (fun k => by rw [laws_eqStringS.l0]) (Ev.pos (by omega) (Ev.pos (by omega) (Ev.pos (by omega) ?_)))
    refine Ev.pos rfl ?_
    rw [wrap64_id (by omega) (by omega)]
    exact ih (i + 1) (by omega)
theorem eqStringS_refl (xs : List ByteArray) (hl : xs.length ≤ 9223372036854775806) : Ev (fun k => laws_eqStringS.f k xs xs) true := by
  unfold laws_eqStringS.f
  exact Ev.pos rfl (eqStringS_l0 xs hl xs.length 0 (by omega))
theorem eqDisk_refl (a : List S70) (b c : List S104) (d : List ByteArray) (e f : Int) (ha : a.length ≤ 9223372036854775806) (hb : b.length ≤ 9223372036854775806) (hc : c.length ≤ 9223372036854775806) (hd : d.length ≤ 9223372036854775806) :
    Ev (fun k => laws_eqDisk.f k a b c d e f a b c d e f) true := by
  unfold laws_eqDisk.f
  refine Ev.bind (eqNodeS_refl a ha) (Ev.pos rfl (Ev.bind (eqEntryS_refl b hb) (Ev.pos rfl (Ev.bind (eqEntryS_refl c hc) (Ev.pos rfl (Ev.bind (eqStringS_refl d hd) (Ev.pos rfl ?_)))))))
  exact Ev.pos rfl (Ev.pos rfl (Ev.now _))
def eqW {α : Type} (p : α → α → Bool) : List α → List α → Bool
  | [], [] => true
  | x :: xs, y :: ys => p x y && eqW p xs ys
  | _, _ => false
theorem eqW_len {α : Type} (p : α → α → Bool) : ∀ (xs ys : List α), xs.length ≠ ys.length → eqW p xs ys = false
  | [], [], h => absurd rfl h
  | [], _ :: _, _ => rfl
  | _ :: _, [], _ => rfl
  | x :: xs, y :: ys, h => by
    unfold eqW
    rw [eqW_len p xs ys (by intro e; apply h; rw [List.length_cons, List.length_cons, e]), Bool.and_false]
theorem eqW_drop {α : Type} (p : α → α → Bool) (xs ys : List α) (i : Nat) (hx : i < xs.length) (hy : i < ys.length) : eqW p (xs.drop i) (ys.drop i) = (p xs[i] ys[i] && eqW p (xs.drop (i + 1)) (ys.drop (i + 1))) := by
  rw [List.drop_eq_getElem_cons hx, List.drop_eq_getElem_cons hy]; rfl
theorem eqW_end {α : Type} (p : α → α → Bool) (xs ys : List α) (i : Nat) (hx : xs.length ≤ i) (hy : ys.length ≤ i) : eqW p (xs.drop i) (ys.drop i) = true := by
  rw [List.drop_eq_nil_of_le hx, List.drop_eq_nil_of_le hy]; rfl
theorem eqW_iff {α : Type} (p : α → α → Bool) (hp : ∀ x y, p x y = true ↔ x = y) : ∀ (xs ys : List α), eqW p xs ys = true ↔ xs = ys
  | [], [] => by simp [eqW]
  | [], _ :: _ => by simp [eqW]
  | _ :: _, [] => by simp [eqW]
  | x :: xs, y :: ys => by simp [eqW, hp, eqW_iff p hp xs ys]
theorem ba_eq_of_toList {x y : ByteArray} : x.toList = y.toList ↔ x = y := by
  rw [ByteArray.toList_eq, ByteArray.toList_eq]
  constructor
  · intro h; cases x; cases y; simp only at h; rw [Array.toList_inj.1 h]
  · intro h; rw [h]
def eqB (x y : ByteArray) : Bool := x.toList == y.toList
theorem eqB_iff (x y : ByteArray) : eqB x y = true ↔ x = y := by unfold eqB; rw [beq_iff_eq, ba_eq_of_toList]
def eqE (x y : S104) : Bool := (x.f0.toList == y.f0.toList) && (x.f1 == y.f1)
theorem eqE_iff (x y : S104) : eqE x y = true ↔ x = y := by
  unfold eqE
  rw [Bool.and_eq_true, beq_iff_eq, beq_iff_eq, ba_eq_of_toList]
  cases x; cases y; simp
theorem eqE_not (x y : S104) : (!(x.f0.toList == y.f0.toList) || !(x.f1 == y.f1)) = !eqE x y := by unfold eqE; rw [Bool.not_and]
theorem eqE_neq (x y : S104) : ((x.f0.toList != y.f0.toList) || (x.f1 != y.f1)) = !eqE x y := eqE_not x y
theorem l06Same_l0 (xs ys : List S104) (hl : xs.length = ys.length) (hx : xs.length ≤ 140737488355328) (n : Nat) : ∀ (i : Nat), i + n = xs.length →
    Ev (fun k => spec_l06Same.l0 k xs ys (i : Int)) (eqW eqE (xs.drop i) (ys.drop i)) := by
  induction n with
  | zero =>
    intro i hi
    rw [eqW_end _ _ _ _ (by omega) (by omega)]
    refine Ev.step (fun k => by rw [spec_l06Same.l0]) ?_
    exact Ev.neg (by omega) (Ev.now _)
  | succ n ih =>
    intro i hi
    rw [eqW_drop _ _ _ _ (by omega) (by omega)]
    refine Ev.step (fun k => by rw [spec_l06Same.l0]) (Ev.pos (by omega) (Ev.pos (by omega) (Ev.pos (by omega) ?_)))
    rw [rd_IEntry xs i (by omega), rd_IEntry ys i (by omega), eqE_not]
    by_cases h : eqE (xs[i]'(by omega)) (ys[i]'(by omega)) = true
    · rw [h, Bool.true_and]
      refine Ev.neg (by decide) ?_
      rw [wrap64_id (by omega) (by omega)]
      exact ih (i + 1) (by omega)
    · rw [Bool.eq_false_iff.2 h, Bool.false_and]
      exact Ev.pos (by decide) (Ev.now _)
theorem l06Same_ev (xs ys : List S104) (hx : xs.length ≤ 140737488355328) : Ev (fun k => spec_l06Same.f k xs ys) (eqW eqE xs ys) := by
  unfold spec_l06Same.f
  by_cases h : xs.length = ys.length
  · exact Ev.pos (by omega) (l06Same_l0 xs ys h hx xs.length 0 (by omega))
  · rw [eqW_len _ _ _ h]
    exact Ev.neg (by omega) (Ev.now _)
def eqN (x y : S70) : Bool := (x.f0 == y.f0) && ((x.f1.toList == y.f1.toList) && (x.f2 == y.f2))
theorem eqN_iff (x y : S70) : eqN x y = true ↔ x = y := by
  unfold eqN
  rw [Bool.and_eq_true, Bool.and_eq_true, beq_iff_eq, beq_iff_eq, beq_iff_eq, ba_eq_of_toList]
  cases x; cases y; simp
theorem eqN_not (x y : S70) : (!(x.f0 == y.f0) || (!(x.f1.toList == y.f1.toList) || !(x.f2 == y.f2))) = !eqN x y := by unfold eqN; rw [Bool.not_and, Bool.not_and]
theorem eqN_neq (x y : S70) : ((x.f0 != y.f0) || ((x.f1.toList != y.f1.toList) || (x.f2 != y.f2))) = !eqN x y := eqN_not x y
def sameDisk (a : List S70) (b c : List S104) (d : List ByteArray) (e f : Int) (a' : List S70) (b' c' : List S104) (d' : List ByteArray) (e' f' : Int) : Bool := eqW eqN a a' && (eqW eqE b b' && (eqW eqE c c' && (eqW eqB d d' && ((e == e') && (f == f')))))
theorem spec_SameDisk_l1 (a : List S70) (b c : List S104) (d : List ByteArray) (e f : Int) (a' : List S70) (b' c' : List S104) (d' : List ByteArray) (e' f' : Int) (hl : d.length = d'.length) (hx : d.length ≤ 140737488355328) (n : Nat) : ∀ (i : Nat), i + n = d.length →
    Ev (fun k => spec_SameDisk.l1 k (i : Int) a b c d e f a' b' c' d' e' f') (eqW eqB (d.drop i) (d'.drop i)) := by
  induction n with
  | zero =>
    intro i hi
    rw [eqW_end _ _ _ _ (by omega) (by omega)]
    refine Ev.step (fun k => by rw [spec_SameDisk.l1]) ?_
    exact Ev.neg (by omega) (Ev.now _)
  | succ n ih =>
    intro i hi
    rw [eqW_drop _ _ _ _ (by omega) (by omega)]
    refine Ev.step (fun k => by rw [spec_SameDisk.l1]) (Ev.pos (by omega) (Ev.pos (by omega) (Ev.pos (by omega) ?_)))
    rw [rd_S d i (by omega), rd_S d' i (by omega)]
    by_cases h : eqB (d[i]'(by omega)) (d'[i]'(by omega)) = true
    · rw [h, Bool.true_and]
      refine Ev.pos (beq_iff_eq.1 h) ?_
      rw [wrap64_id (by omega) (by omega)]
      exact ih (i + 1) (by omega)
    · rw [Bool.eq_false_iff.2 h, Bool.false_and]
      exact Ev.neg (fun e => h (beq_iff_eq.2 e)) (Ev.now _)
theorem spec_SameDisk_l0 (a : List S70) (b c : List S104) (d : List ByteArray) (e f : Int) (a' : List S70) (b' c' : List S104) (d' : List ByteArray) (e' f' : Int) (hl : d.length = d'.length) (hx : d.length ≤ 140737488355328) (hla : a.length = a'.length) (hxa : a.length ≤ 140737488355328) (n : Nat) : ∀ (i : Nat), i + n = a.length →
    Ev (fun k => spec_SameDisk.l0 k (i : Int) a b c d e f a' b' c' d' e' f') (eqW eqN (a.drop i) (a'.drop i) && eqW eqB d d') := by
  induction n with
  | zero =>
    intro i hi
    rw [eqW_end _ _ _ _ (by omega) (by omega), Bool.true_and]
    refine Ev.step (fun k => by rw [spec_SameDisk.l0]) (Ev.neg (by omega) ?_)
    exact spec_SameDisk_l1 a b c d e f a' b' c' d' e' f' hl hx d.length 0 (by omega)
  | succ n ih =>
    intro i hi
    rw [eqW_drop _ _ _ _ (by omega) (by omega)]
    refine Ev.step (fun k => by rw [spec_SameDisk.l0]) (Ev.pos (by omega) (Ev.pos (by omega) (Ev.pos (by omega) ?_)))
    rw [rd_INode a i (by omega), rd_INode a' i (by omega), eqN_not]
    by_cases h : eqN (a[i]'(by omega)) (a'[i]'(by omega)) = true
    · rw [h, Bool.true_and]
      refine Ev.neg (by decide) ?_
      rw [wrap64_id (by omega) (by omega)]
      exact ih (i + 1) (by omega)
    · rw [Bool.eq_false_iff.2 h, Bool.false_and, Bool.false_and]
      exact Ev.pos (by decide) (Ev.now _)
theorem spec_SameDisk_ev (a : List S70) (b c : List S104) (d : List ByteArray) (e f : Int) (a' : List S70) (b' c' : List S104) (d' : List ByteArray) (e' f' : Int) (ha : a.length ≤ 140737488355328) (hb : b.length ≤ 140737488355328) (hc : c.length ≤ 140737488355328) (hd : d.length ≤ 140737488355328) :
    Ev (fun k => spec_SameDisk.f k a b c d e f a' b' c' d' e' f') (sameDisk a b c d e f a' b' c' d' e' f') := by
  unfold spec_SameDisk.f
  have no (z : sameDisk a b c d e f a' b' c' d' e' f' = false) : Ev (fun k => spec_SameDisk.j0 k true a b c d e f a' b' c' d' e' f') (sameDisk a b c d e f a' b' c' d' e' f') := by
    rw [z]
    refine Ev.step (fun k => by rw [spec_SameDisk.j0]) ?_
    exact Ev.pos rfl (Ev.now _)
  by_cases h1 : a.length = a'.length
  · refine Ev.pos (by omega) (Ev.bind (l06Same_ev b b' hb) ?_)
    by_cases h2 : eqW eqE b b' = true
    · refine Ev.pos h2 (Ev.bind (l06Same_ev c c' hc) ?_)
      by_cases h3 : eqW eqE c c' = true
      · refine Ev.pos h3 ?_
        by_cases h4 : d.length = d'.length
        · refine Ev.pos (by omega) ?_
          by_cases h5 : e = e'
          · refine Ev.pos h5 (Ev.step (fun k => by rw [spec_SameDisk.j0]) ?_)
            by_cases h6 : f = f'
            · refine Ev.neg (by rw [h6, bne_self_eq_false]; decide) ?_
              refine Ev.of_eq (spec_SameDisk_l0 a b c d e f a' b' c' d' e' f' h4 hd h1 ha a.length 0 (by omega)) ?_
              unfold sameDisk
              rw [h2, h3, h5, h6, beq_self_eq_true, beq_self_eq_true]
              simp
            · refine Ev.of_eq (r := false) ?_ (by unfold sameDisk; rw [beq_eq_false_iff_ne.2 h6]; simp)
              exact Ev.pos (bne_iff_ne.2 h6) (Ev.now _)
          · exact Ev.neg h5 (no (by unfold sameDisk; rw [beq_eq_false_iff_ne.2 h5]; simp))
        · exact Ev.neg (by omega) (no (by unfold sameDisk; rw [eqW_len _ _ _ h4]; simp))
      · exact Ev.neg h3 (no (by unfold sameDisk; rw [Bool.eq_false_iff.2 h3]; simp))
    · exact Ev.neg h2 (no (by unfold sameDisk; rw [Bool.eq_false_iff.2 h2]; simp))
  · exact Ev.neg (by omega) (no (by unfold sameDisk; rw [eqW_len _ _ _ h1]; simp))
theorem slicesEqualNode_l0 (xs ys : List S70) (hl : xs.length = ys.length) (hx : xs.length ≤ 140737488355328) (n : Nat) : ∀ (i : Nat), i + n = xs.length →
    Ev (fun k => impl_Node.l0 k xs ys (xs.length : Int) (i : Int)) (eqW eqN (xs.drop i) (ys.drop i)) := by
  induction n with
  | zero =>
    intro i hi
    rw [eqW_end _ _ _ _ (by omega) (by omega)]
    refine Ev.step (fun k => by rw [impl_Node.l0]) ?_
    exact Ev.neg (by omega) (Ev.now _)
  | succ n ih =>
    intro i hi
    rw [eqW_drop _ _ _ _ (by omega) (by omega)]
    refine Ev.step (fun k => by rw [impl_Node.l0]) (Ev.pos (by omega) (Ev.pos (by omega) (Ev.pos (by omega) (Ev.pos (by omega) ?_))))
    rw [rd_INode xs i (by omega), rd_INode ys i (by omega)]
    rw [eqN_not]
    by_cases h : eqN (xs[i]'(by omega)) (ys[i]'(by omega)) = true
    · rw [h, Bool.true_and]
      refine Ev.neg (by decide) ?_
      rw [wrap64_id (by omega) (by omega)]
      exact ih (i + 1) (by omega)
    · rw [Bool.eq_false_iff.2 h, Bool.false_and]
      exact Ev.pos (by decide) (Ev.now _)
theorem slicesEqualNode_ev (xs ys : List S70) (hx : xs.length ≤ 140737488355328) : Ev (fun k => impl_Node.f k xs ys) (eqW eqN xs ys) := by
  unfold impl_Node.f
  by_cases h : xs.length = ys.length
  · exact Ev.pos (by omega) (slicesEqualNode_l0 xs ys h hx xs.length 0 (by omega))
  · rw [eqW_len _ _ _ h]
    exact Ev.neg (by omega) (Ev.now _)
theorem slicesEqualEntry_l0 (xs ys : List S104) (hl : xs.length = ys.length) (hx : xs.length ≤ 140737488355328) (n : Nat) : ∀ (i : Nat), i + n = xs.length →
    Ev (fun k => impl_Entry.l0 k xs ys (xs.length : Int) (i : Int)) (eqW eqE (xs.drop i) (ys.drop i)) := by
  induction n with
  | zero =>
    intro i hi
    rw [eqW_end _ _ _ _ (by omega) (by omega)]
    refine Ev.step (fun k => by rw [impl_Entry.l0]) ?_
    exact Ev.neg (by omega) (Ev.now _)
  | succ n ih =>
    intro i hi
    rw [eqW_drop _ _ _ _ (by omega) (by omega)]
    refine Ev.step (fun k => by rw [impl_Entry.l0]) (Ev.pos (by omega) (Ev.pos (by omega) (Ev.pos (by omega) (Ev.pos (by omega) ?_))))
    rw [rd_IEntry xs i (by omega), rd_IEntry ys i (by omega)]
    rw [eqE_not]
    by_cases h : eqE (xs[i]'(by omega)) (ys[i]'(by omega)) = true
    · rw [h, Bool.true_and]
      refine Ev.neg (by decide) ?_
      rw [wrap64_id (by omega) (by omega)]
      exact ih (i + 1) (by omega)
    · rw [Bool.eq_false_iff.2 h, Bool.false_and]
      exact Ev.pos (by decide) (Ev.now _)
theorem slicesEqualEntry_ev (xs ys : List S104) (hx : xs.length ≤ 140737488355328) : Ev (fun k => impl_Entry.f k xs ys) (eqW eqE xs ys) := by
  unfold impl_Entry.f
  by_cases h : xs.length = ys.length
  · exact Ev.pos (by omega) (slicesEqualEntry_l0 xs ys h hx xs.length 0 (by omega))
  · rw [eqW_len _ _ _ h]
    exact Ev.neg (by omega) (Ev.now _)
theorem slicesEqualString_l0 (xs ys : List ByteArray) (hl : xs.length = ys.length) (hx : xs.length ≤ 140737488355328) (n : Nat) : ∀ (i : Nat), i + n = xs.length →
    Ev (fun k => slices_Equal_string_string.l0 k xs ys (xs.length : Int) (i : Int)) (eqW eqB (xs.drop i) (ys.drop i)) := by
  induction n with
  | zero =>
    intro i hi
    rw [eqW_end _ _ _ _ (by omega) (by omega)]
    refine Ev.step (fun k => by rw [slices_Equal_string_string.l0]) ?_
    exact Ev.neg (by omega) (Ev.now _)
  | succ n ih =>
    intro i hi
    rw [eqW_drop _ _ _ _ (by omega) (by omega)]
    refine Ev.step (fun k => by rw [slices_Equal_string_string.l0]) (Ev.pos (by omega) (Ev.pos (by omega) (Ev.pos (by omega) (Ev.pos (by omega) ?_))))
    rw [rd_S xs i (by omega), rd_S ys i (by omega)]
    by_cases h : eqB (xs[i]'(by omega)) (ys[i]'(by omega)) = true
    · rw [h, Bool.true_and]
      refine Ev.pos (beq_iff_eq.1 h) ?_
      rw [wrap64_id (by omega) (by omega)]
      exact ih (i + 1) (by omega)
    · rw [Bool.eq_false_iff.2 h, Bool.false_and]
      exact Ev.neg (fun e => h (beq_iff_eq.2 e)) (Ev.now _)
theorem slicesEqualString_ev (xs ys : List ByteArray) (hx : xs.length ≤ 140737488355328) : Ev (fun k => slices_Equal_string_string.f k xs ys) (eqW eqB xs ys) := by
  unfold slices_Equal_string_string.f
  by_cases h : xs.length = ys.length
  · exact Ev.pos (by omega) (slicesEqualString_l0 xs ys h hx xs.length 0 (by omega))
  · rw [eqW_len _ _ _ h]
    exact Ev.neg (by omega) (Ev.now _)
theorem impl_SameDisk_ev (a : List S70) (b c : List S104) (d : List ByteArray) (e f : Int) (a' : List S70) (b' c' : List S104) (d' : List ByteArray) (e' f' : Int) (ha : a.length ≤ 140737488355328) (hb : b.length ≤ 140737488355328) (hc : c.length ≤ 140737488355328) (hd : d.length ≤ 140737488355328) :
    Ev (fun k => impl_SameDisk.f k a b c d e f a' b' c' d' e' f') (sameDisk a b c d e f a' b' c' d' e' f') := by
  unfold impl_SameDisk.f
  refine Ev.bind (slicesEqualNode_ev a a' ha) ?_
  by_cases h1 : eqW eqN a a' = true
  · refine Ev.pos h1 (Ev.bind (slicesEqualEntry_ev b b' hb) ?_)
    by_cases h2 : eqW eqE b b' = true
    · refine Ev.pos h2 (Ev.bind (slicesEqualEntry_ev c c' hc) ?_)
      by_cases h3 : eqW eqE c c' = true
      · refine Ev.pos h3 (Ev.bind (slicesEqualString_ev d d' hd) ?_)
        by_cases h4 : eqW eqB d d' = true
        · refine Ev.pos h4 ?_
          by_cases h5 : e = e'
          · refine Ev.pos h5 (Ev.const ?_)
            unfold sameDisk
            rw [h1, h2, h3, h4, h5, beq_self_eq_true]; simp
          · refine Ev.of_eq (r := false) (Ev.neg h5 (Ev.now _)) (by unfold sameDisk; rw [beq_eq_false_iff_ne.2 h5]; simp)
        · refine Ev.of_eq (r := false) (Ev.neg h4 (Ev.now _)) (by unfold sameDisk; rw [Bool.eq_false_iff.2 h4]; simp)
      · refine Ev.of_eq (r := false) (Ev.neg h3 (Ev.now _)) (by unfold sameDisk; rw [Bool.eq_false_iff.2 h3]; simp)
    · refine Ev.of_eq (r := false) (Ev.neg h2 (Ev.now _)) (by unfold sameDisk; rw [Bool.eq_false_iff.2 h2]; simp)
  · refine Ev.of_eq (r := false) (Ev.neg h1 (Ev.now _)) (by unfold sameDisk; rw [Bool.eq_false_iff.2 h1]; simp)
theorem FnExactSameDisk : laws_FnExactSameDisk.Pure := by
  intro a b c d e f a' b' c' d' e' f' ha hb hc hd he hf ha' hb' hc' hd' he' hf'
  refine Ev.rounds (g := fun k => laws_FnExactSameDisk.f k a b c d e f a' b' c' d' e' f') ?_
  unfold laws_FnExactSameDisk.f
  obtain ⟨r, hr, h⟩ := szDisk_ev a b c d e f ⟨ha, hb, hc, hd, he, hf⟩ 1048576 (by decide) (by decide)
  refine Ev.bind hr ?_
  rcases h with h | ⟨h0, h⟩
  · exact Ev.pos h (Ev.now _)
  refine Ev.neg (by omega) ?_
  obtain ⟨r', hr', h'⟩ := szDisk_ev a' b' c' d' e' f' ⟨ha', hb', hc', hd', he', hf'⟩ r h0 (by omega)
  refine Ev.bind hr' ?_
  rcases h' with h' | ⟨h0', h'⟩
  · exact Ev.pos h' (Ev.now _)
  refine Ev.neg (by omega) ?_
  have hfit : DiskFits a b c d := by unfold DiskFits; omega
  have hfit' : DiskFits a' b' c' d' := by unfold DiskFits; omega
  have hd2 := toDisk_ev a b c d e f hfit
  have hd2' := toDisk_ev a' b' c' d' e' f' hfit'
  have hl := toNodeS_length a
  have h2 := toEntryS_length b
  have h3 := toEntryS_length c
  have h4 := toStringS_length d
  have hl' := toNodeS_length a'
  have h2' := toEntryS_length b'
  have h3' := toEntryS_length c'
  have h4' := toStringS_length d'
  unfold DiskFits at hfit hfit'
  refine Ev.bind hd2 (Ev.bind hd2' (Ev.bind (spec_SameDisk_ev (toNodeS a) (toEntryS b) (toEntryS c) (toStringS d) e f (toNodeS a') (toEntryS b') (toEntryS c') (toStringS d') e' f' (by omega) (by omega) (by omega) (by omega)) ?_))
  refine Ev.bind hd2 (Ev.bind hd2' (Ev.bind (impl_SameDisk_ev (toNodeS a) (toEntryS b) (toEntryS c) (toStringS d) e f (toNodeS a') (toEntryS b') (toEntryS c') (toStringS d') e' f' (by omega) (by omega) (by omega) (by omega)) ?_))
  refine Ev.neg (by rw [bne_self_eq_false]; decide) ?_
  refine Ev.bind hd2 (Ev.bind (eqDisk_refl (toNodeS a) (toEntryS b) (toEntryS c) (toStringS d) e f (by omega) (by omega) (by omega) (by omega)) (Ev.pos rfl ?_))
  refine Ev.bind hd2' (Ev.bind (eqDisk_refl (toNodeS a') (toEntryS b') (toEntryS c') (toStringS d') e' f' (by omega) (by omega) (by omega) (by omega)) ?_)
  exact Ev.pos rfl (Ev.now _)
end Go.Proofs.Ytdjgnooacaoomaa.Pure
