/- The law FnExactEntryAt answers true for every list of entries and every text: the program's EntryAt tells what the reference's tells, and its argument reads on as it did. Conditions: those of the given row, and no others. -/
import Derived.Test.YtdjgnooacaoomaaMFnExactEntryAtx2
namespace Go.Proofs.Ytdjgnooacaoomaa.Pure
open Go.RowKit Go.Proofs.Ytdjgnooacaoomaa.MFnExactEntryAt Go.Proofs.YtdjgnooacaoomaaW.PrintWords Go.Proofs.YtdjgnooacaoomaaW.PrintLast Go.Proofs.YtdjgnooacaoomaaW.PrintMore
set_option linter.unusedVariables false
set_option linter.unusedSimpArgs false
/-! ### Whole numbers and bits -/
theorem wrap64_id {x : Int} (h0 : -9223372036854775808 ≤ x) (h1 : x ≤ 9223372036854775807) : wrap64 x = x := by unfold wrap64; omega
theorem wf_i64 {x : Int} (h : (Lit.int .i64 x).wf = true) : -9223372036854775808 ≤ x ∧ x ≤ 9223372036854775807 := by
  simp only [Lit.wf, IntKind.min, IntKind.max, IntKind.signed, IntKind.bits, Bool.and_eq_true, decide_eq_true_eq, if_true] at h
  omega
theorem mod_toNat_nat (a : Nat) (m : Nat) : (((a : Int) % (m : Int)).toNat) = a % m := by
  rw [← Int.natCast_emod, Int.toNat_natCast]
theorem bv_mask (j : Nat) (hj : j < 64) (x : Int) : (BitVec.ofInt 64 x &&& BitVec.ofInt 64 ((2 ^ j - 1 : Nat) : Int)).toNat = (x % ((2 ^ j : Nat) : Int)).toNat := by
  have hle : 2 ^ j ≤ 2 ^ 63 := Nat.pow_le_pow_right (by decide) (by omega)
  have hpos : 0 < 2 ^ j := Nat.two_pow_pos j
  have hlt : 2 ^ j - 1 < 2 ^ 64 := by omega
  have hd : (2 : Nat) ^ j ∣ 2 ^ 64 := Nat.pow_dvd_pow 2 (by omega)
  rw [BitVec.ofInt_natCast, BitVec.toNat_and, BitVec.toNat_ofNat, Nat.mod_eq_of_lt hlt, Nat.and_two_pow_sub_one_eq_mod, BitVec.toNat_ofInt]
  have h0 : 0 ≤ x % ((2 ^ 64 : Nat) : Int) := Int.emod_nonneg _ (by simp)
  have h1 : 0 ≤ x % ((2 ^ j : Nat) : Int) := Int.emod_nonneg _ (by omega)
  have : (((x % ((2 ^ 64 : Nat) : Int)).toNat % 2 ^ j : Nat) : Int) = x % ((2 ^ j : Nat) : Int) := by
    rw [Int.natCast_emod, Int.toNat_of_nonneg h0]
    exact Int.emod_emod_of_dvd x (Int.natCast_dvd_natCast.mpr hd)
  omega
/-- A mask of the lowest j bits, of any i64. -/
theorem i64_mask (j : Nat) (hj : j < 64) (x : Int) : Go.bits .and .i64 x (((2 ^ j - 1 : Nat) : Int)) = x % ((2 ^ j : Nat) : Int) := by
  have hpos : 0 < 2 ^ j := Nat.two_pow_pos j
  have hle : 2 ^ j ≤ 2 ^ 63 := Nat.pow_le_pow_right (by decide) (by omega)
  show IntKind.i64.wrap (((BitVec.ofInt 64 x &&& BitVec.ofInt 64 ((2 ^ j - 1 : Nat) : Int)).toNat : Nat) : Int) = _
  rw [bv_mask j hj x]
  have h1 : 0 ≤ x % ((2 ^ j : Nat) : Int) := Int.emod_nonneg _ (by omega)
  have h2 : x % ((2 ^ j : Nat) : Int) < ((2 ^ j : Nat) : Int) := Int.emod_lt_of_pos _ (by omega)
  rw [Int.toNat_of_nonneg h1, IntKind.wrap_i64]
  have h3 : ((2 ^ j : Nat) : Int) ≤ ((2 ^ 63 : Nat) : Int) := Int.ofNat_le.mpr hle
  have h5 : ((2 ^ 63 : Nat) : Int) = 9223372036854775808 := by decide
  omega
theorem i64_mask32 (x : Int) : Go.bits .and .i64 x 4294967295 = x % 4294967296 := i64_mask 32 (by decide) x
theorem i64_mask8 (x : Int) : Go.bits .and .i64 x 255 = x % 256 := i64_mask 8 (by decide) x
theorem i64_mask7 (x : Int) : Go.bits .and .i64 x 127 = x % 128 := i64_mask 7 (by decide) x
theorem i64_mask4 (x : Int) : Go.bits .and .i64 x 15 = x % 16 := i64_mask 4 (by decide) x
theorem i64_mask1 (x : Int) : Go.bits .and .i64 x 1 = x % 2 := i64_mask 1 (by decide) x
theorem xor_nat (k : IntKind) (j : Nat) (hj : j ≤ k.bits) (hk : ∀ n : Int, 0 ≤ n → n < 2 ^ j → k.wrap n = n) (a b : Nat) (ha : a < 2 ^ j) (hb : b < 2 ^ j) :
    Go.bits .xor k a b = ((a ^^^ b : Nat) : Int) := by
  have hp : 2 ^ j ≤ 2 ^ k.bits := Nat.pow_le_pow_right (by decide) hj
  have ha' : a % 2 ^ k.bits = a := Nat.mod_eq_of_lt (Nat.lt_of_lt_of_le ha hp)
  have hb' : b % 2 ^ k.bits = b := Nat.mod_eq_of_lt (Nat.lt_of_lt_of_le hb hp)
  simp only [Go.bits, BitVec.ofInt_natCast, BitVec.toNat_xor, BitVec.toNat_ofNat, ha', hb']
  exact hk _ (Int.natCast_nonneg _) (by exact_mod_cast Nat.xor_lt_two_pow ha hb)
theorem wraps_i64 (n : Int) (h0 : 0 ≤ n) (h1 : n < 2 ^ 63) : IntKind.i64.wrap n = n := by rw [IntKind.wrap_i64]; omega
theorem wraps_u32 (n : Int) (h0 : 0 ≤ n) (h1 : n < 2 ^ 32) : IntKind.u32.wrap n = n := by rw [IntKind.wrap_u32]; omega
theorem i64_xor (a b : Nat) (ha : a < 2 ^ 63) (hb : b < 2 ^ 63) : Go.bits .xor .i64 a b = ((a ^^^ b : Nat) : Int) := xor_nat .i64 63 (by decide) wraps_i64 a b ha hb
theorem u32_xor (a b : Nat) (ha : a < 2 ^ 32) (hb : b < 2 ^ 32) : Go.bits .xor .u32 a b = ((a ^^^ b : Nat) : Int) := xor_nat .u32 32 (by decide) wraps_u32 a b ha hb
theorem i64_or (a b : Nat) (ha : a < 2 ^ 63) (hb : b < 2 ^ 63) : Go.bits .or .i64 a b = ((a ||| b : Nat) : Int) := (Go.bits_nat .i64 63 (by decide) wraps_i64 a b ha hb).2
theorem u8_or (a b : Nat) (ha : a < 2 ^ 8) (hb : b < 2 ^ 8) : Go.bits .or .u8 a b = ((a ||| b : Nat) : Int) := (Go.bits_nat .u8 8 (by decide) Go.wraps_u8 a b ha hb).2
theorem u32_and1 (a : Nat) (ha : a < 2 ^ 32) : Go.bits .and .u32 a 1 = ((a % 2 : Nat) : Int) := by
  rw [show (1 : Int) = ((1 : Nat) : Int) from rfl, (Go.bits_nat .u32 32 (by decide) wraps_u32 a 1 ha (by decide)).1, show (1 : Nat) = 2 ^ 1 - 1 from rfl, Nat.and_two_pow_sub_one_eq_mod]
/-! ### Bytes of a text -/
theorem bt_list (s : ByteArray) (i : Nat) (h : i < s.data.toList.length) : bt s (i : Int) = ((s.data.toList[i]).toNat : Int) := by
  have h' : i < s.size := by rw [Array.length_toList] at h; exact h
  have hn : (i : Int).toNat < s.size := by rw [Int.toNat_natCast]; exact h'
  rw [← bt_at s i hn]
  rfl
theorem size_list (s : ByteArray) : s.data.toList.length = s.size := by rw [Array.length_toList]; rfl
theorem drop_cons (s : ByteArray) (i : Nat) (h : i < s.size) : s.data.toList.drop i = s.data.toList[i]'(by rw [size_list]; exact h) :: s.data.toList.drop (i + 1) :=
  List.drop_eq_getElem_cons (by rw [size_list]; exact h)
/-! ### From some number of rounds on -/
section
variable {α : Type} {f g : Nat → Option α} {r : α} {c : Prop} [Decidable c]
theorem Ev.pos (h : c) (e : Ev f r) : Ev (fun k => if c then f k else g k) r := Ev.congr (fun _ => if_pos h) e
theorem Ev.neg (h : ¬ c) (e : Ev g r) : Ev (fun k => if c then f k else g k) r := Ev.congr (fun _ => if_neg h) e
theorem Ev.const {o : Option α} (h : o = some r) : Ev (fun _ => o) r := ⟨0, fun _ _ => h⟩
theorem Ev.at (K : Nat) (h : ∀ k, K ≤ k → f k = some r) : Ev f r := ⟨K, h⟩
theorem Ev.of_eq {r' : α} (e : Ev f r) (h : r = r') : Ev f r' := h ▸ e
end
theorem Ev.both {α β : Type} {f : Nat → Option α} {g : Nat → Option β} {a : α} {b : β} (h : Ev f a) (h' : Ev g b) : ∃ k, f k = some a ∧ g k = some b := by
  obtain ⟨K, h⟩ := h
  obtain ⟨K', h'⟩ := h'
  exact ⟨max K K', h _ (by omega), h' _ (by omega)⟩
theorem rd_LEntry (xs : List S106) (i : Nat) (h : i < xs.length) : rd_T106 xs (i : Int) = xs[i] := by
  unfold rd_T106
  rw [Int.toNat_natCast, List.getD_eq_getElem?_getD, List.getElem?_eq_getElem h]; rfl
def totEntry : List S106 → Nat
  | [] => 0
  | x :: l => x.f0.size + totEntry l
theorem szEntryS_l0 (xs : List S106) (hl : xs.length ≤ 1048576) (hs : ∀ x ∈ xs, x.f0.size ≤ 9223372036854775807) (n : Nat) : ∀ (i : Nat) (x1 : Int), i + n = xs.length → 0 ≤ x1 → x1 ≤ 1048576 →
    ∃ r, Ev (fun k => laws_szEntryS.l0 k xs x1 (i : Int)) r ∧ (r = -1 ∨ (0 ≤ r ∧ r + totEntry (xs.drop i) = x1)) := by
  induction n with
  | zero =>
    intro i x1 hi h0 h1
    refine ⟨x1, Ev.step (fun k => by rw [laws_szEntryS.l0]) (Ev.neg (by omega) (Ev.now _)), .inr ⟨h0, ?_⟩⟩
    rw [List.drop_eq_nil_of_le (by omega), totEntry]; omega
  | succ n ih =>
    intro i x1 hi h0 h1
    have hi2 : i < xs.length := by omega
    have hb : xs[i].f0.size ≤ 9223372036854775807 := hs xs[i] (List.getElem_mem hi2)
    by_cases h : x1 - (xs[i].f0.size : Int) < 0
    · refine ⟨-1, ?_, .inl rfl⟩
      refine Ev.step (fun k => by rw [laws_szEntryS.l0]) ?_
      refine Ev.pos (by omega) (Ev.pos (by omega) ?_)
      refine Ev.bind (Ev.const (r := (-1 : Int)) ?_) ?_
      · rw [rd_LEntry xs i hi2]; unfold laws_szEntry.f
        rw [wrap64_id (by omega) (by omega), if_pos h]
      · exact Ev.pos (by decide) (Ev.now _)
    · obtain ⟨r, hr, h2⟩ := ih (i + 1) (x1 - (xs[i].f0.size : Int)) (by omega) (by omega) (by omega)
      refine ⟨r, ?_, ?_⟩
      · refine Ev.step (fun k => by rw [laws_szEntryS.l0]) ?_
        refine Ev.pos (by omega) (Ev.pos (by omega) ?_)
        refine Ev.bind (Ev.const (r := x1 - (xs[i].f0.size : Int)) ?_) ?_
        · rw [rd_LEntry xs i hi2]; unfold laws_szEntry.f
          rw [wrap64_id (by omega) (by omega), if_neg h]
        · refine Ev.neg (by omega) ?_
          rw [wrap64_id (by omega) (by omega)]; exact hr
      rcases h2 with h2 | ⟨h3, h4⟩
      · exact .inl h2
      · refine .inr ⟨h3, ?_⟩
        rw [List.drop_eq_getElem_cons hi2, totEntry]; omega
theorem szEntryS_ev (xs : List S106) (left : Int) (h0 : 0 ≤ left) (h1 : left ≤ 1048576) (hx : xs.length ≤ 9223372036854775807) (hs : ∀ x ∈ xs, x.f0.size ≤ 9223372036854775807) :
    ∃ r, Ev (fun k => laws_szEntryS.f k xs left) r ∧ (r = -1 ∨ (0 ≤ r ∧ r + totEntry xs + xs.length = left)) := by
  unfold laws_szEntryS.f
  rw [wrap64_id (by omega) (by omega)]
  by_cases h : left - (xs.length : Int) < 0
  · exact ⟨-1, Ev.pos h (Ev.now _), .inl rfl⟩
  · obtain ⟨r, hr, h2⟩ := szEntryS_l0 xs (by omega) hs xs.length 0 (left - (xs.length : Int)) (by omega) (by omega) (by omega)
    refine ⟨r, Ev.neg h hr, ?_⟩
    rcases h2 with h2 | ⟨h3, h4⟩
    · exact .inl h2
    · rw [List.drop_zero] at h4; exact .inr ⟨h3, by omega⟩
def toEntryS : List S106 → List S104 := List.map (fun x => (⟨x.f0, x.f1⟩ : S104))
theorem toEntryS_l0 (xs : List S106) (hl : xs.length ≤ 1048576) (n : Nat) : ∀ (i : Nat) (acc : List S104), i + n = xs.length → acc.length = xs.length → (∀ j, j < i → acc[j]? = (toEntryS xs)[j]?) →
    Ev (fun k => laws_toEntryS.l0 k xs acc (i : Int)) (toEntryS xs) := by
  induction n with
  | zero =>
    intro i acc hi ha hp
    refine Ev.step (fun k => by rw [laws_toEntryS.l0]) (Ev.neg (by omega) (Ev.const ?_))
    refine congrArg some (List.ext_getElem? fun j => ?_)
    by_cases hj : j < i
    · exact hp j hj
    · rw [List.getElem?_eq_none (by omega), List.getElem?_eq_none (by unfold toEntryS; rw [List.length_map]; omega)]
  | succ n ih =>
    intro i acc hi ha hp
    have hi2 : i < xs.length := by omega
    refine Ev.step (fun k => by rw [laws_toEntryS.l0]) ?_
    refine Ev.pos (by omega) (Ev.pos (by omega) ?_)
    rw [rd_LEntry xs i hi2]
    refine Ev.bind (Ev.const rfl) (Ev.pos (by omega) ?_)
    rw [wrap64_id (by omega) (by omega), Int.toNat_natCast]
    refine ih (i + 1) _ (by omega) (by rw [List.length_set]; exact ha) ?_
    intro j hj
    by_cases h : j < i
    · rw [List.getElem?_set_ne (by omega)]; exact hp j h
    · obtain rfl : j = i := by omega
      rw [List.getElem?_set_self (by omega)]
      unfold toEntryS
      rw [List.getElem?_map, List.getElem?_eq_getElem hi2]; rfl
theorem toEntryS_ev (xs : List S106) (hl : xs.length ≤ 1048576) : Ev (fun k => laws_toEntryS.f k xs) (toEntryS xs) := by
  unfold laws_toEntryS.f
  refine Ev.pos (by omega) (Ev.pos (by omega) ?_)
  rw [Int.toNat_natCast]
  exact toEntryS_l0 xs hl xs.length 0 _ (by omega) (List.length_replicate ..) (fun j hj => absurd hj (Nat.not_lt_zero _))
theorem rd_IEntry (xs : List S104) (i : Nat) (h : i < xs.length) : rd_T104 xs (i : Int) = xs[i] := by
  unfold rd_T104
  rw [Int.toNat_natCast, List.getD_eq_getElem?_getD, List.getElem?_eq_getElem h]; rfl
theorem eqEntryS_l0 (xs : List S104) (hl : xs.length ≤ 9223372036854775806) (n : Nat) : ∀ (i : Nat), i + n = xs.length → Ev (fun k => laws_eqEntryS.l0 k xs xs (i : Int)) true := by
  induction n with
  | zero =>
    intro i hi
    refine Ev.step (fun k => by rw [laws_eqEntryS.l0]) ?_
    exact Ev.neg (by omega) (Ev.now _)
  | succ n ih =>
    intro i hi
    refine Ev.step (fun k => by rw [laws_eqEntryS.l0]) (Ev.pos (by omega) (Ev.pos (by omega) (Ev.pos (by omega) ?_)))
    rw [rd_IEntry xs i (by omega)]
    refine Ev.bind (Ev.const (r := true) ?_) (Ev.pos rfl ?_)
    · unfold laws_eqEntry.f
      rw [if_pos rfl, if_pos rfl]
    rw [wrap64_id (by omega) (by omega)]
    exact ih (i + 1) (by omega)
theorem eqEntryS_refl (xs : List S104) (hl : xs.length ≤ 9223372036854775806) : Ev (fun k => laws_eqEntryS.f k xs xs) true := by
  unfold laws_eqEntryS.f
  exact Ev.pos rfl (eqEntryS_l0 xs hl xs.length 0 (by omega))
theorem idxOf_span {α : Type} (p : α → Bool) : ∀ (l : List α) (i : Nat), (idxOf p l i = -1 ∧ ∀ x ∈ l, p x = false) ∨ ∃ j, ∃ h : j < l.length, idxOf p l i = ((i + j : Nat) : Int) ∧ p l[j] = true := by
  intro l
  induction l with
  | nil => intro i; exact .inl ⟨rfl, fun x hx => absurd hx List.not_mem_nil⟩
  | cons x l ih =>
    intro i
    unfold idxOf
    by_cases h : p x = true
    · rw [if_pos h]; exact .inr ⟨0, Nat.zero_lt_succ _, by omega, h⟩
    · rw [if_neg h]
      rcases ih (i + 1) with ⟨h1, h2⟩ | ⟨j, hj, h1, h2⟩
      · refine .inl ⟨h1, fun y hy => ?_⟩
        rcases List.mem_cons.1 hy with e | hy
        · rw [e]; exact Bool.eq_false_iff.mpr h
        · exact h2 y hy
      · exact .inr ⟨j + 1, Nat.succ_lt_succ hj, by rw [h1]; omega, h2⟩
theorem idxOf_range {α : Type} (p : α → Bool) (l : List α) : -1 ≤ idxOf p l 0 ∧ idxOf p l 0 < (l.length : Int) := by
  rcases idxOf_span p l 0 with ⟨h, _⟩ | ⟨j, hj, h, _⟩ <;> omega
theorem idxOf_hit {α : Type} (p : α → Bool) (x : α) (l : List α) (i : Nat) (h : p x = true) : idxOf p (x :: l) i = (i : Int) := if_pos h
theorem idxOf_miss {α : Type} (p : α → Bool) (x : α) (l : List α) (i : Nat) (h : p x = false) : idxOf p (x :: l) i = idxOf p l (i + 1) := if_neg (by rw [h]; decide)
/-! ### A name's place among entries -/
def named (a : ByteArray) : S104 → Bool := fun x => x.f0.toList == a.toList
def placeE (l : List S104) (a : ByteArray) : Int := idxOf (named a) l 0
def entAt (l : List S104) (a : ByteArray) : Int := if placeE l a < 0 then 0 else (rd_T104 l (placeE l a)).f1
theorem spec_EntryAt_l0 (l : List S104) (a : ByteArray) (hl : l.length ≤ 1048576) (n : Nat) : ∀ i : Nat, i + n = l.length → Ev (fun k => spec_EntryAt.l0 k l a (i : Int)) (if idxOf (named a) (l.drop i) i < 0 then 0 else (rd_T104 l (idxOf (named a) (l.drop i) i)).f1) := by
  induction n with
  | zero =>
    intro i hi
    rw [List.drop_eq_nil_of_le (by omega)]
    refine Ev.of_eq (r := 0) ?_ (if_pos (show (-1 : Int) < 0 by decide)).symm
    refine Ev.step (fun k => by rw [spec_EntryAt.l0]) ?_
    exact Ev.neg (by omega) (Ev.now _)
  | succ n ih =>
    intro i hi
    have hi2 : i < l.length := by omega
    refine Ev.step (fun k => by rw [spec_EntryAt.l0]) (Ev.pos (by omega) (Ev.pos (by omega) ?_))
    rw [rd_IEntry l i hi2, List.drop_eq_getElem_cons hi2]
    by_cases h : l[i].f0.toList = a.toList
    · rw [idxOf_hit (named a) _ _ i (beq_iff_eq.mpr h)]
      refine Ev.of_eq (r := l[i].f1) (Ev.pos h (Ev.now _)) ?_
      rw [if_neg (by omega), rd_IEntry l i hi2]
    · rw [idxOf_miss (named a) _ _ i (beq_eq_false_iff_ne.mpr h)]
      refine Ev.neg h ?_
      rw [wrap64_id (by omega) (by omega)]
      exact ih (i + 1) (by omega)
theorem spec_EntryAt_ev (l : List S104) (a : ByteArray) (hl : l.length ≤ 1048576) : Ev (fun k => spec_EntryAt.f k l a) (entAt l a) := by
  unfold spec_EntryAt.f
  exact spec_EntryAt_l0 l a hl l.length 0 (by omega)
theorem impl_placeOf_f (l : List S104) (a : ByteArray) : impl_placeOf.f l a = some (placeE l a) := rfl
theorem impl_EntryAt_f (l : List S104) (a : ByteArray) : impl_EntryAt.f l a = some (entAt l a) := by
  unfold impl_EntryAt.f entAt
  rw [impl_placeOf_f]
  have h : -1 ≤ placeE l a ∧ placeE l a < (l.length : Int) := idxOf_range _ l
  show (if placeE l a < 0 then _ else _) = _
  by_cases c : placeE l a < 0
  · rw [if_pos c, if_pos c]
  · rw [if_neg c, if_neg c, if_pos (by omega), if_pos h.2]
theorem FnExactEntryAt : laws_FnExactEntryAt.Pure := by
  intro b a hb ha
  refine Ev.rounds (g := fun k => laws_FnExactEntryAt.f k b a) ?_
  unfold laws_FnExactEntryAt.f
  by_cases hs : (a.size : Int) > 1048576
  · exact Ev.pos hs (Ev.now _)
  refine Ev.neg hs ?_
  obtain ⟨r, hr, h⟩ := szEntryS_ev b 1048576 (by decide) (by decide) hb.1 (fun x hx => (hb.2 x hx).1)
  refine Ev.bind hr ?_
  by_cases hn : r < 0
  · exact Ev.pos hn (Ev.now _)
  · have hl : b.length ≤ 1048576 := by omega
    have ht := toEntryS_ev b hl
    have h2 : (toEntryS b).length = b.length := List.length_map ..
    refine Ev.neg hn (Ev.bind ht (Ev.bind (spec_EntryAt_ev _ a (by omega)) (Ev.bind ht (Ev.bind (Ev.const (impl_EntryAt_f _ a)) (Ev.pos rfl ?_)))))
    refine Ev.bind ht (Ev.bind (eqEntryS_refl _ (by omega)) ?_)
    exact Ev.pos rfl (Ev.now _)
end Go.Proofs.Ytdjgnooacaoomaa.Pure
