/- The law FnExactSameFiles answers true for all disks: the program's SameFiles tells what the reference's tells, and its arguments read on as they did. Conditions: those of the given row, and no others. -/
import Derived.Test.YtdjgnooacaoomaaMFnExactSameFilesx7
namespace Go.Proofs.Ytdjgnooacaoomaa.Pure
open Go.RowKit Go.Proofs.Ytdjgnooacaoomaa.MFnExactSameFiles Go.Proofs.YtdjgnooacaoomaaW.PrintWords Go.Proofs.YtdjgnooacaoomaaW.PrintLast Go.Proofs.YtdjgnooacaoomaaW.PrintMore
set_option linter.unusedVariables false
set_option linter.unusedSimpArgs false
/-! ### Whole numbers and bits -/
theorem wrap64_id {x : Int} (h0 : -9223372036854775808 ≤ x) (h1 : x ≤ 9223372036854775807) : wrap64 x = x := by unfold wrap64; omega
/-! ### Bytes of a text -/
/-! ### From some number of rounds on -/
section
variable {α : Type} {f g : Nat → Option α} {r : α} {c : Prop} [Decidable c]
theorem Ev.pos (h : c) (e : Ev f r) : Ev (fun k => if c then f k else g k) r := Ev.congr (fun _ => if_pos h) e
theorem Ev.neg (h : ¬ c) (e : Ev g r) : Ev (fun k => if c then f k else g k) r := Ev.congr (fun _ => if_neg h) e
theorem Ev.const {o : Option α} (h : o = some r) : Ev (fun _ => o) r := ⟨0, fun _ _ => h⟩
theorem Ev.at (K : Nat) (h : ∀ k, K ≤ k → f k = some r) : Ev f r := ⟨K, h⟩
theorem Ev.of_eq {r' : α} (e : Ev f r) (h : r = r') : Ev f r' := h ▸ e
end
theorem rd_LNode (xs : List S118) (i : Nat) (h : i < xs.length) : rd_T118 xs (i : Int) = xs[i] := by
  unfold rd_T118
  rw [Int.toNat_natCast, List.getD_eq_getElem?_getD, List.getElem?_eq_getElem h]; rfl
def totNode : List S118 → Nat
  | [] => 0
  | x :: l => x.f1.size + totNode l
theorem szNodeS_l0 (xs : List S118) (hl : xs.length ≤ 1048576) (hs : ∀ x ∈ xs, x.f1.size ≤ 9223372036854775807) (n : Nat) : ∀ (i : Nat) (x1 : Int), i + n = xs.length → 0 ≤ x1 → x1 ≤ 1048576 →
    ∃ r, Ev (fun k => laws_szNodeS.l0 k xs x1 (i : Int)) r ∧ (r = -1 ∨ (0 ≤ r ∧ r + totNode (xs.drop i) = x1)) := by
  induction n with
  | zero =>
    intro i x1 hi h0 h1
    refine ⟨x1, Ev.step (fun k => by rw [laws_szNodeS.l0]) (Ev.neg (by omega) (Ev.now _)), .inr ⟨h0, ?_⟩⟩
    rw [List.drop_eq_nil_of_le (by omega), totNode]; omega
  | succ n ih =>
    intro i x1 hi h0 h1
    have hi2 : i < xs.length := by omega
    have hb : xs[i].f1.size ≤ 9223372036854775807 := hs xs[i] (List.getElem_mem hi2)
    by_cases h : x1 - (xs[i].f1.size : Int) < 0
    · refine ⟨-1, ?_, .inl rfl⟩
      refine Ev.step (fun k => by rw [laws_szNodeS.l0]) ?_
      refine Ev.pos (by omega) (Ev.pos (by omega) ?_)
      refine Ev.bind (Ev.const (r := (-1 : Int)) ?_) ?_
      · rw [rd_LNode xs i hi2]; unfold laws_szNode.f
        rw [wrap64_id (by omega) (by omega), if_pos h]
      · exact Ev.pos (by decide) (Ev.now _)
    · obtain ⟨r, hr, h2⟩ := ih (i + 1) (x1 - (xs[i].f1.size : Int)) (by omega) (by omega) (by omega)
      refine ⟨r, ?_, ?_⟩
      · refine Ev.step (fun k => by rw [laws_szNodeS.l0]) ?_
        refine Ev.pos (by omega) (Ev.pos (by omega) ?_)
        refine Ev.bind (Ev.const (r := x1 - (xs[i].f1.size : Int)) ?_) ?_
        · rw [rd_LNode xs i hi2]; unfold laws_szNode.f
          rw [wrap64_id (by omega) (by omega), if_neg h]
        · refine Ev.neg (by omega) ?_
          rw [wrap64_id (by omega) (by omega)]; exact hr
      rcases h2 with h2 | ⟨h3, h4⟩
      · exact .inl h2
      · refine .inr ⟨h3, ?_⟩
        rw [List.drop_eq_getElem_cons hi2, totNode]; omega
theorem szNodeS_ev (xs : List S118) (left : Int) (h0 : 0 ≤ left) (h1 : left ≤ 1048576) (hx : xs.length ≤ 9223372036854775807) (hs : ∀ x ∈ xs, x.f1.size ≤ 9223372036854775807) :
    ∃ r, Ev (fun k => laws_szNodeS.f k xs left) r ∧ (r = -1 ∨ (0 ≤ r ∧ r + totNode xs + xs.length = left)) := by
  unfold laws_szNodeS.f
  rw [wrap64_id (by omega) (by omega)]
  by_cases h : left - (xs.length : Int) < 0
  · exact ⟨-1, Ev.pos h (Ev.now _), .inl rfl⟩
  · obtain ⟨r, hr, h2⟩ := szNodeS_l0 xs (by omega) hs xs.length 0 (left - (xs.length : Int)) (by omega) (by omega) (by omega)
    refine ⟨r, Ev.neg h hr, ?_⟩
    rcases h2 with h2 | ⟨h3, h4⟩
    · exact .inl h2
    · rw [List.drop_zero] at h4; exact .inr ⟨h3, by omega⟩
theorem rd_LEntry (xs : List S106) (i : Nat) (h : i < xs.length) : rd_T106 xs (i : Int) = xs[i] := by
  unfold rd_T106
  rw [Int.toNat_natCast, List.getD_eq_getElem?_getD, List.getElem?_eq_getElem h]; rfl
def totEntry : List S106 → Nat
  | [] => 0
  | x :: l => x.f0.size + totEntry l
theorem szEntryS_l0 (xs : List S106) (hl : xs.length ≤ 1048576) (hs : ∀ x ∈ xs, x.f0.size ≤ 9223372036854775807) (n : Nat) : ∀ (i : Nat) (x1 : Int), i + n = xs.length → 0 ≤ x1 → x1 ≤ 1048576 →
    ∃ r, Ev (fun k => laws_szEntryS.l0 k xs x1 (i : Int)) r ∧ (r = -1 ∨ (0 ≤ r ∧ r + totEntry (xs.drop i) = x1)) := by
  induction n with
  | zero =>
    intro i x1 hi h0 h1
    refine ⟨x1, Ev.step (fun k => by rw [laws_szEntryS.l0]) (Ev.neg (by omega) (Ev.now _)), .inr ⟨h0, ?_⟩⟩
    rw [List.drop_eq_nil_of_le (by omega), totEntry]; omega
  | succ n ih =>
    intro i x1 hi h0 h1
    have hi2 : i < xs.length := by omega
    have hb : xs[i].f0.size ≤ 9223372036854775807 := hs xs[i] (List.getElem_mem hi2)
    by_cases h : x1 - (xs[i].f0.size : Int) < 0
    · refine ⟨-1, ?_, .inl rfl⟩
      refine Ev.step (fun k => by rw [laws_szEntryS.l0]) ?_
      refine Ev.pos (by omega) (Ev.pos (by omega) ?_)
      refine Ev.bind (Ev.const (r := (-1 : Int)) ?_) ?_
      · rw [rd_LEntry xs i hi2]; unfold laws_szEntry.f
        rw [wrap64_id (by omega) (by omega), if_pos h]
      · exact Ev.pos (by decide) (Ev.now _)
    · obtain ⟨r, hr, h2⟩ := ih (i + 1) (x1 - (xs[i].f0.size : Int)) (by omega) (by omega) (by omega)
      refine ⟨r, ?_, ?_⟩
      · refine Ev.step (fun k => by rw [laws_szEntryS.l0]) ?_
        refine Ev.pos (by omega) (Ev.pos (by omega) ?_)
        refine Ev.bind (Ev.const (r := x1 - (xs[i].f0.size : Int)) ?_) ?_
        · rw [rd_LEntry xs i hi2]; unfold laws_szEntry.f
          rw [wrap64_id (by omega) (by omega), if_neg h]
        · refine Ev.neg (by omega) ?_
          rw [wrap64_id (by omega) (by omega)]; exact hr
      rcases h2 with h2 | ⟨h3, h4⟩
      · exact .inl h2
      · refine .inr ⟨h3, ?_⟩
        rw [List.drop_eq_getElem_cons hi2, totEntry]; omega
theorem szEntryS_ev (xs : List S106) (left : Int) (h0 : 0 ≤ left) (h1 : left ≤ 1048576) (hx : xs.length ≤ 9223372036854775807) (hs : ∀ x ∈ xs, x.f0.size ≤ 9223372036854775807) :
    ∃ r, Ev (fun k => laws_szEntryS.f k xs left) r ∧ (r = -1 ∨ (0 ≤ r ∧ r + totEntry xs + xs.length = left)) := by
  unfold laws_szEntryS.f
  rw [wrap64_id (by omega) (by omega)]
  by_cases h : left - (xs.length : Int) < 0
  · exact ⟨-1, Ev.pos h (Ev.now _), .inl rfl⟩
  · obtain ⟨r, hr, h2⟩ := szEntryS_l0 xs (by omega) hs xs.length 0 (left - (xs.length : Int)) (by omega) (by omega) (by omega)
    refine ⟨r, Ev.neg h hr, ?_⟩
    rcases h2 with h2 | ⟨h3, h4⟩
    · exact .inl h2
    · rw [List.drop_zero] at h4; exact .inr ⟨h3, by omega⟩
theorem rd_S (xs : List ByteArray) (i : Nat) (h : i < xs.length) : rdOf ByteArray.empty xs (i : Int) = xs[i] := by
  unfold rdOf
  rw [Int.toNat_natCast, List.getD_eq_getElem?_getD, List.getElem?_eq_getElem h]; rfl
def totString : List ByteArray → Nat
  | [] => 0
  | x :: l => x.size + totString l
theorem szStringS_l0 (xs : List ByteArray) (hl : xs.length ≤ 1048576) (hs : ∀ x ∈ xs, x.size ≤ 9223372036854775807) (n : Nat) : ∀ (i : Nat) (x1 : Int), i + n = xs.length → 0 ≤ x1 → x1 ≤ 1048576 →
    ∃ r, Ev (fun k => laws_szStringS.l0 k xs x1 (i : Int)) r ∧ (r = -1 ∨ (0 ≤ r ∧ r + totString (xs.drop i) = x1)) := by
  induction n with
  | zero =>
    intro i x1 hi h0 h1
    refine ⟨x1, Ev.step (fun k => by rw [laws_szStringS.l0]) (Ev.neg (by omega) (Ev.now _)), .inr ⟨h0, ?_⟩⟩
    rw [List.drop_eq_nil_of_le (by omega), totString]; omega
  | succ n ih =>
    intro i x1 hi h0 h1
    have hi2 : i < xs.length := by omega
    have hb : xs[i].size ≤ 9223372036854775807 := hs xs[i] (List.getElem_mem hi2)
    by_cases h : x1 - (xs[i].size : Int) < 0
    · exact ⟨-1, Ev.step (fun k => by rw [laws_szStringS.l0]) (Ev.pos (by omega) (Ev.pos (by omega) (by rw [rd_S xs i hi2, wrap64_id (by omega) (by omega)]; exact Ev.pos h (Ev.now _)))), .inl rfl⟩
    · obtain ⟨r, hr, h2⟩ := ih (i + 1) (x1 - (xs[i].size : Int)) (by omega) (by omega) (by omega)
      refine ⟨r, Ev.step (fun k => by rw [laws_szStringS.l0]) (Ev.pos (by omega) (Ev.pos (by omega) (by rw [rd_S xs i hi2, wrap64_id (x := x1 - (xs[i].size : Int)) (by omega) (by omega), wrap64_id (by omega) (by omega)]; exact Ev.neg h hr))), ?_⟩
      rcases h2 with h2 | ⟨h3, h4⟩
      · exact .inl h2
      · refine .inr ⟨h3, ?_⟩
        rw [List.drop_eq_getElem_cons hi2, totString]; omega
theorem szStringS_ev (xs : List ByteArray) (left : Int) (h0 : 0 ≤ left) (h1 : left ≤ 1048576) (hx : xs.length ≤ 9223372036854775807) (hs : ∀ x ∈ xs, x.size ≤ 9223372036854775807) :
    ∃ r, Ev (fun k => laws_szStringS.f k xs left) r ∧ (r = -1 ∨ (0 ≤ r ∧ r + totString xs + xs.length = left)) := by
  unfold laws_szStringS.f
  rw [wrap64_id (by omega) (by omega)]
  by_cases h : left - (xs.length : Int) < 0
  · exact ⟨-1, Ev.pos h (Ev.now _), .inl rfl⟩
  · obtain ⟨r, hr, h2⟩ := szStringS_l0 xs (by omega) hs xs.length 0 (left - (xs.length : Int)) (by omega) (by omega) (by omega)
    refine ⟨r, Ev.neg h hr, ?_⟩
    rcases h2 with h2 | ⟨h3, h4⟩
    · exact .inl h2
    · rw [List.drop_zero] at h4; exact .inr ⟨h3, by omega⟩
def toNodeS : List S118 → List S70 := List.map (fun x => (⟨x.f0, x.f1, x.f2⟩ : S70))
theorem toNodeS_l0 (xs : List S118) (hl : xs.length ≤ 1048576) (n : Nat) : ∀ (i : Nat) (acc : List S70), i + n = xs.length → acc.length = xs.length → (∀ j, j < i → acc[j]? = (toNodeS xs)[j]?) →
    Ev (fun k => laws_toNodeS.l0 k xs acc (i : Int)) (toNodeS xs) := by
  induction n with
  | zero =>
    intro i acc hi ha hp
    refine Ev.step (fun k => by rw [laws_toNodeS.l0]) (Ev.neg (by omega) (Ev.const ?_))
    refine congrArg some (List.ext_getElem? fun j => ?_)
    by_cases hj : j < i
    · exact hp j hj
    · rw [List.getElem?_eq_none (by omega), List.getElem?_eq_none (by unfold toNodeS; rw [List.length_map]; omega)]
  | succ n ih =>
    intro i acc hi ha hp
    have hi2 : i < xs.length := by omega
    refine Ev.step (fun k => by rw [laws_toNodeS.l0]) ?_
    refine Ev.pos (by omega) (Ev.pos (by omega) ?_)
    rw [rd_LNode xs i hi2]
    refine Ev.bind (Ev.const rfl) (Ev.pos (by omega) ?_)
    rw [wrap64_id (by omega) (by omega), Int.toNat_natCast]
    refine ih (i + 1) _ (by omega) (by rw [List.length_set]; exact ha) ?_
    intro j hj
    by_cases h : j < i
    · rw [List.getElem?_set_ne (by omega)]; exact hp j h
    · obtain rfl : j = i := by omega
      rw [List.getElem?_set_self (by omega)]
      unfold toNodeS
      rw [List.getElem?_map, List.getElem?_eq_getElem hi2]; rfl
theorem toNodeS_ev (xs : List S118) (hl : xs.length ≤ 1048576) : Ev (fun k => laws_toNodeS.f k xs) (toNodeS xs) := by
  unfold laws_toNodeS.f
  refine Ev.pos (by omega) (Ev.pos (by omega) ?_)
  rw [Int.toNat_natCast]
  exact toNodeS_l0 xs hl xs.length 0 _ (by omega) (List.length_replicate ..) (fun j hj => absurd hj (Nat.not_lt_zero _))
def toEntryS : List S106 → List S104 := List.map (fun x => (⟨x.f0, x.f1⟩ : S104))
theorem toEntryS_l0 (xs : List S106) (hl : xs.length ≤ 1048576) (n : Nat) : ∀ (i : Nat) (acc : List S104), i + n = xs.length → acc.length = xs.length → (∀ j, j < i → acc[j]? = (toEntryS xs)[j]?) →
    Ev (fun k => laws_toEntryS.l0 k xs acc (i : Int)) (toEntryS xs) := by
  induction n with
  | zero =>
    intro i acc hi ha hp
    refine Ev.step (fun k => by rw [laws_toEntryS.l0]) (Ev.neg (by omega) (Ev.const ?_))
    refine congrArg some (List.ext_getElem? fun j => ?_)
    by_cases hj : j < i
    · exact hp j hj
    · rw [List.getElem?_eq_none (by omega), List.getElem?_eq_none (by unfold toEntryS; rw [List.length_map]; omega)]
  | succ n ih =>
    intro i acc hi ha hp
    have hi2 : i < xs.length := by omega
    refine Ev.step (fun k => by rw [laws_toEntryS.l0]) ?_
    refine Ev.pos (by omega) (Ev.pos (by omega) ?_)
    rw [rd_LEntry xs i hi2]
    refine Ev.bind (Ev.const rfl) (Ev.pos (by omega) ?_)
    rw [wrap64_id (by omega) (by omega), Int.toNat_natCast]
    refine ih (i + 1) _ (by omega) (by rw [List.length_set]; exact ha) ?_
    intro j hj
    by_cases h : j < i
    · rw [List.getElem?_set_ne (by omega)]; exact hp j h
    · obtain rfl : j = i := by omega
      rw [List.getElem?_set_self (by omega)]
      unfold toEntryS
      rw [List.getElem?_map, List.getElem?_eq_getElem hi2]; rfl
theorem toEntryS_ev (xs : List S106) (hl : xs.length ≤ 1048576) : Ev (fun k => laws_toEntryS.f k xs) (toEntryS xs) := by
  unfold laws_toEntryS.f
  refine Ev.pos (by omega) (Ev.pos (by omega) ?_)
  rw [Int.toNat_natCast]
  exact toEntryS_l0 xs hl xs.length 0 _ (by omega) (List.length_replicate ..) (fun j hj => absurd hj (Nat.not_lt_zero _))
def toStringS : List ByteArray → List ByteArray := List.map (fun x => x)
theorem toStringS_l0 (xs : List ByteArray) (hl : xs.length ≤ 1048576) (n : Nat) : ∀ (i : Nat) (acc : List ByteArray), i + n = xs.length → acc.length = xs.length → (∀ j, j < i → acc[j]? = (toStringS xs)[j]?) →
    Ev (fun k => laws_toStringS.l0 k xs acc (i : Int)) (toStringS xs) := by
  induction n with
  | zero =>
    intro i acc hi ha hp
    refine Ev.step (fun k => by rw [laws_toStringS.l0]) (Ev.neg (by omega) (Ev.const ?_))
    refine congrArg some (List.ext_getElem? fun j => ?_)
    by_cases hj : j < i
    · exact hp j hj
    · rw [List.getElem?_eq_none (by omega), List.getElem?_eq_none (by unfold toStringS; rw [List.length_map]; omega)]
  | succ n ih =>
    intro i acc hi ha hp
    have hi2 : i < xs.length := by omega
    refine Ev.step (fun k => by rw [laws_toStringS.l0]) (Ev.pos (by omega) (Ev.pos (by omega) (Ev.pos (by omega) ?_)))
    rw [rd_S xs i hi2]
    rw [wrap64_id (by omega) (by omega), Int.toNat_natCast]
    refine ih (i + 1) _ (by omega) (by rw [List.length_set]; exact ha) ?_
    intro j hj
    by_cases h : j < i
    · rw [List.getElem?_set_ne (by omega)]; exact hp j h
    · obtain rfl : j = i := by omega
      rw [List.getElem?_set_self (by omega)]
      unfold toStringS
      rw [List.getElem?_map, List.getElem?_eq_getElem hi2]; rfl
theorem toStringS_ev (xs : List ByteArray) (hl : xs.length ≤ 1048576) : Ev (fun k => laws_toStringS.f k xs) (toStringS xs) := by
  unfold laws_toStringS.f
  refine Ev.pos (by omega) (Ev.pos (by omega) ?_)
  rw [Int.toNat_natCast]
  exact toStringS_l0 xs hl xs.length 0 _ (by omega) (List.length_replicate ..) (fun j hj => absurd hj (Nat.not_lt_zero _))
/-- What is known of a disk that came in. -/
def DiskIn (a : List S118) (b c : List S106) (d : List ByteArray) (e f : Int) : Prop :=
  (a.length ≤ 9223372036854775807 ∧ ∀ x ∈ a, ((Lit.int .i64 x.f0).wf = true ∧ x.f1.size ≤ 9223372036854775807 ∧ (Lit.int .i64 x.f2).wf = true)) ∧ (b.length ≤ 9223372036854775807 ∧ ∀ x ∈ b, (x.f0.size ≤ 9223372036854775807 ∧ (Lit.int .i64 x.f1).wf = true)) ∧
  (c.length ≤ 9223372036854775807 ∧ ∀ x ∈ c, (x.f0.size ≤ 9223372036854775807 ∧ (Lit.int .i64 x.f1).wf = true)) ∧ (d.length ≤ 9223372036854775807 ∧ ∀ x ∈ d, x.size ≤ 9223372036854775807) ∧ (Lit.int .i64 e).wf = true ∧ (Lit.int .i64 f).wf = true
/-- A disk that the law looks at: how large it may be. -/
def DiskFits (a : List S118) (b c : List S106) (d : List ByteArray) : Prop :=
  totNode a + a.length + totEntry b + b.length + totEntry c + c.length + totString d + d.length ≤ 1048576
theorem szDisk_ev (a : List S118) (b c : List S106) (d : List ByteArray) (e f : Int) (h : DiskIn a b c d e f) (left : Int) (h0 : 0 ≤ left) (h1 : left ≤ 1048576) :
    ∃ r, Ev (fun k => laws_szDisk.f k a b c d e f left) r ∧ (r < 0 ∨ (0 ≤ r ∧ r + (totNode a + a.length + totEntry b + b.length + totEntry c + c.length + totString d + d.length : Nat) = left)) := by
  obtain ⟨⟨la, ha⟩, ⟨lb, hb⟩, ⟨lc, hc⟩, ⟨ld, hd⟩, _, _⟩ := h
  unfold laws_szDisk.f
  obtain ⟨r1, e1, p1⟩ := szNodeS_ev a left h0 h1 la (fun x hx => (ha x hx).2.1)
  by_cases q1 : r1 < 0
  · exact ⟨-1, Ev.bind e1 (Ev.pos q1 (Ev.now _)), .inl (by decide)⟩
  obtain ⟨r2, e2, p2⟩ := szEntryS_ev b r1 (by omega) (by omega) lb (fun x hx => (hb x hx).1)
  by_cases q2 : r2 < 0
  · exact ⟨-1, Ev.bind e1 (Ev.neg q1 (Ev.bind e2 (Ev.pos q2 (Ev.now _)))), .inl (by decide)⟩
  obtain ⟨r3, e3, p3⟩ := szEntryS_ev c r2 (by omega) (by omega) lc (fun x hx => (hc x hx).1)
  by_cases q3 : r3 < 0
  · exact ⟨-1, Ev.bind e1 (Ev.neg q1 (Ev.bind e2 (Ev.neg q2 (Ev.bind e3 (Ev.pos q3 (Ev.now _)))))), .inl (by decide)⟩
  obtain ⟨r4, e4, p4⟩ := szStringS_ev d r3 (by omega) (by omega) ld hd
  by_cases q4 : r4 < 0
  · exact ⟨-1, Ev.bind e1 (Ev.neg q1 (Ev.bind e2 (Ev.neg q2 (Ev.bind e3 (Ev.neg q3 (Ev.bind e4 (Ev.pos q4 (Ev.now _)))))))), .inl (by decide)⟩
  · exact ⟨r4, Ev.bind e1 (Ev.neg q1 (Ev.bind e2 (Ev.neg q2 (Ev.bind e3 (Ev.neg q3 (Ev.bind e4 (Ev.neg q4 (Ev.now _)))))))), .inr ⟨by omega, by omega⟩⟩
theorem toDisk_ev (a : List S118) (b c : List S106) (d : List ByteArray) (e f : Int) (h : DiskFits a b c d) : Ev (fun k => laws_toDisk.f k a b c d e f) (toNodeS a, toEntryS b, toEntryS c, toStringS d, e, f) := by
  unfold DiskFits at h
  unfold laws_toDisk.f
  exact Ev.bind (toNodeS_ev a (by omega)) (Ev.bind (toEntryS_ev b (by omega)) (Ev.bind (toEntryS_ev c (by omega)) (Ev.bind (toStringS_ev d (by omega)) (Ev.now _))))
theorem toNodeS_length (a : List S118) : (toNodeS a).length = a.length := List.length_map ..
theorem toEntryS_length (a : List S106) : (toEntryS a).length = a.length := List.length_map ..
theorem toStringS_length (a : List ByteArray) : (toStringS a).length = a.length := List.length_map ..
theorem rd_INode (xs : List S70) (i : Nat) (h : i < xs.length) : rd_T70 xs (i : Int) = xs[i] := by
  unfold rd_T70
  rw [Int.toNat_natCast, List.getD_eq_getElem?_getD, List.getElem?_eq_getElem h]; rfl
theorem eqNodeS_l0 (xs : List S70) (hl : xs.length ≤ 9223372036854775806) (n : Nat) : ∀ (i : Nat), i + n = xs.length → Ev (fun k => laws_eqNodeS.l0 k xs xs (i : Int)) true := by
  induction n with
  | zero =>
    intro i hi
    refine Ev.step (fun k => by rw [laws_eqNodeS.l0]) ?_
    exact Ev.neg (by omega) (Ev.now _)
  | succ n ih =>
    intro i hi
    refine Ev.step (fun k => by rw [laws_eqNodeS.l0]) (Ev.pos (by omega) (Ev.pos (by omega) (Ev.pos (by omega) ?_)))
    rw [rd_INode xs i (by omega)]
    refine Ev.bind (Ev.const (r := true) ?_) (Ev.pos rfl ?_)
    · unfold laws_eqNode.f
      rw [if_pos rfl, if_pos rfl, if_pos rfl]
    rw [wrap64_id (by omega) (by omega)]
    exact ih (i + 1) (by omega)
theorem eqNodeS_refl (xs : List S70) (hl : xs.length ≤ 9223372036854775806) : Ev (fun k => laws_eqNodeS.f k xs xs) true := by
  unfold laws_eqNodeS.f
  exact Ev.pos rfl (eqNodeS_l0 xs hl xs.length 0 (by omega))
theorem rd_IEntry (xs : List S104) (i : Nat) (h : i < xs.length) : rd_T104 xs (i : Int) = xs[i] := by
  unfold rd_T104
  rw [Int.toNat_natCast, List.getD_eq_getElem?_getD, List.getElem?_eq_getElem h]; rfl
theorem eqEntryS_l0 (xs : List S104) (hl : xs.length ≤ 9223372036854775806) (n : Nat) : ∀ (i : Nat), i + n = xs.length → Ev (fun k => laws_eqEntryS.l0 k xs xs (i : Int)) true := by
  induction n with
  | zero =>
    intro i hi
    refine Ev.step (fun k => by rw [laws_eqEntryS.l0]) ?_
    exact Ev.neg (by omega) (Ev.now _)
  | succ n ih =>
    intro i hi
    refine Ev.step (fun k => by rw [laws_eqEntryS.l0]) (Ev.pos (by omega) (Ev.pos (by omega) (Ev.pos (by omega) ?_)))
    rw [rd_IEntry xs i (by omega)]
    refine Ev.bind (Ev.const (r := true) ?_) (Ev.pos rfl ?_)
    · unfold laws_eqEntry.f
      rw [if_pos rfl, if_pos rfl]
    rw [wrap64_id (by omega) (by omega)]
    exact ih (i + 1) (by omega)
theorem eqEntryS_refl (xs : List S104) (hl : xs.length ≤ 9223372036854775806) : Ev (fun k => laws_eqEntryS.f k xs xs) true := by
  unfold laws_eqEntryS.f
  exact Ev.pos rfl (eqEntryS_l0 xs hl xs.length 0 (by omega))
theorem eqStringS_l0 (xs : List ByteArray) (hl : xs.length ≤ 9223372036854775806) (n : Nat) : ∀ (i : Nat), i + n = xs.length → Ev (fun k => laws_eqStringS.l0 k xs xs (i : Int)) true := by
  induction n with
  | zero =>
    intro i hi
    refine Ev.step (fun k => by rw [laws_eqStringS.l0]) ?_
    exact Ev.neg (by omega) (Ev.now _)
  | succ n ih =>
    intro i hi
    refine Ev.step (fun k => by rw [laws_eqStringS.l0]) (Ev.pos (by omega) (Ev.pos (by omega) (Ev.pos (by omega) ?_)))
    refine Ev.pos rfl ?_
    rw [wrap64_id (by omega) (by omega)]
    exact ih (i + 1) (by omega)
theorem eqStringS_refl (xs : List ByteArray) (hl : xs.length ≤ 9223372036854775806) : Ev (fun k => laws_eqStringS.f k xs xs) true := by
  unfold laws_eqStringS.f
  exact Ev.pos rfl (eqStringS_l0 xs hl xs.length 0 (by omega))
theorem eqDisk_refl (a : List S70) (b c : List S104) (d : List ByteArray) (e f : Int) (ha : a.length ≤ 9223372036854775806) (hb : b.length ≤ 9223372036854775806) (hc : c.length ≤ 9223372036854775806) (hd : d.length ≤ 9223372036854775806) :
    Ev (fun k => laws_eqDisk.f k a b c d e f a b c d e f) true := by
  unfold laws_eqDisk.f
  refine Ev.bind (eqNodeS_refl a ha) (Ev.pos rfl (Ev.bind (eqEntryS_refl b hb) (Ev.pos rfl (Ev.bind (eqEntryS_refl c hc) (Ev.pos rfl (Ev.bind (eqStringS_refl d hd) (Ev.pos rfl ?_)))))))
  exact Ev.pos rfl (Ev.pos rfl (Ev.now _))
theorem idxOf_span {α : Type} (p : α → Bool) : ∀ (l : List α) (i : Nat), (idxOf p l i = -1 ∧ ∀ x ∈ l, p x = false) ∨ ∃ j, ∃ h : j < l.length, idxOf p l i = ((i + j : Nat) : Int) ∧ p l[j] = true := by
  intro l
  induction l with
  | nil => intro i; exact .inl ⟨rfl, fun x hx => absurd hx List.not_mem_nil⟩
  | cons x l ih =>
    intro i
    unfold idxOf
    by_cases h : p x = true
    · rw [if_pos h]; exact .inr ⟨0, Nat.zero_lt_succ _, by omega, h⟩
    · rw [if_neg h]
      rcases ih (i + 1) with ⟨h1, h2⟩ | ⟨j, hj, h1, h2⟩
      · refine .inl ⟨h1, fun y hy => ?_⟩
        rcases List.mem_cons.1 hy with e | hy
        · rw [e]; exact Bool.eq_false_iff.mpr h
        · exact h2 y hy
      · exact .inr ⟨j + 1, Nat.succ_lt_succ hj, by rw [h1]; omega, h2⟩
theorem idxOf_range {α : Type} (p : α → Bool) (l : List α) : -1 ≤ idxOf p l 0 ∧ idxOf p l 0 < (l.length : Int) := by
  rcases idxOf_span p l 0 with ⟨h, _⟩ | ⟨j, hj, h, _⟩ <;> omega
theorem idxOf_hit {α : Type} (p : α → Bool) (x : α) (l : List α) (i : Nat) (h : p x = true) : idxOf p (x :: l) i = (i : Int) := if_pos h
theorem idxOf_miss {α : Type} (p : α → Bool) (x : α) (l : List α) (i : Nat) (h : p x = false) : idxOf p (x :: l) i = idxOf p l (i + 1) := if_neg (by rw [h]; decide)
/-! ### A name's place among entries -/
def named (a : ByteArray) : S104 → Bool := fun x => x.f0.toList == a.toList
def placeE (l : List S104) (a : ByteArray) : Int := idxOf (named a) l 0
def entAt (l : List S104) (a : ByteArray) : Int := if placeE l a < 0 then 0 else (rd_T104 l (placeE l a)).f1
theorem spec_EntryAt_l0 (l : List S104) (a : ByteArray) (hl : l.length ≤ 1048576) (n : Nat) : ∀ i : Nat, i + n = l.length → Ev (fun k => spec_EntryAt.l0 k l a (i : Int)) (if idxOf (named a) (l.drop i) i < 0 then 0 else (rd_T104 l (idxOf (named a) (l.drop i) i)).f1) := by
  induction n with
  | zero =>
    intro i hi
    rw [List.drop_eq_nil_of_le (by omega)]
    refine Ev.of_eq (r := 0) ?_ (if_pos (show (-1 : Int) < 0 by decide)).symm
    refine Ev.step (fun k => by rw [spec_EntryAt.l0]) ?_
    exact Ev.neg (by omega) (Ev.now _)
  | succ n ih =>
    intro i hi
    have hi2 : i < l.length := by omega
    refine Ev.step (fun k => by rw [spec_EntryAt.l0]) (Ev.pos (by omega) (Ev.pos (by omega) ?_))
    rw [rd_IEntry l i hi2, List.drop_eq_getElem_cons hi2]
    by_cases h : l[i].f0.toList = a.toList
    · rw [idxOf_hit (named a) _ _ i (beq_iff_eq.mpr h)]
      refine Ev.of_eq (r := l[i].f1) (Ev.pos h (Ev.now _)) ?_
      rw [if_neg (by omega), rd_IEntry l i hi2]
    · rw [idxOf_miss (named a) _ _ i (beq_eq_false_iff_ne.mpr h)]
      refine Ev.neg h ?_
      rw [wrap64_id (by omega) (by omega)]
      exact ih (i + 1) (by omega)
theorem spec_EntryAt_ev (l : List S104) (a : ByteArray) (hl : l.length ≤ 1048576) : Ev (fun k => spec_EntryAt.f k l a) (entAt l a) := by
  unfold spec_EntryAt.f
  exact spec_EntryAt_l0 l a hl l.length 0 (by omega)
/-! ### A node's place, and a name's node -/
def idIs (n : Int) : S70 → Bool := fun x => x.f0 == n
def nodeIx (a : List S70) (n : Int) : Int := idxOf (idIs n) a 0
def nodeOut (a : List S70) (k : Int) : Int × ByteArray × Int × Bool := if k < 0 then (0, ⟨#[]⟩, 0, false) else ((rd_T70 a k).f0, (rd_T70 a k).f1, (rd_T70 a k).f2, true)
def nodeAtR (a : List S70) (b : List S104) (s : ByteArray) : Int := if placeE b s < 0 then -1 else nodeIx a (rd_T104 b (placeE b s)).f1
theorem spec_l05Node_l0 (a : List S70) (b c : List S104) (d : List ByteArray) (e f : Int) (v : Int) (hl : a.length ≤ 1048576) (n : Nat) : ∀ i : Nat, i + n = a.length → Ev (fun k => spec_l05Node.l0 k v (i : Int) a b c d e f) (idxOf (idIs v) (a.drop i) i) := by
  induction n with
  | zero =>
    intro i hi
    rw [List.drop_eq_nil_of_le (by omega)]
    refine Ev.step (fun k => by rw [spec_l05Node.l0]) ?_
    exact Ev.neg (by omega) (Ev.now _)
  | succ n ih =>
    intro i hi
    have hi2 : i < a.length := by omega
    refine Ev.step (fun k => by rw [spec_l05Node.l0]) (Ev.pos (by omega) (Ev.pos (by omega) ?_))
    rw [rd_INode a i hi2, List.drop_eq_getElem_cons hi2]
    by_cases h : a[i].f0 = v
    · rw [idxOf_hit (idIs v) _ _ i (beq_iff_eq.mpr h)]
      exact Ev.pos h (Ev.now _)
    · rw [idxOf_miss (idIs v) _ _ i (beq_eq_false_iff_ne.mpr h)]
      refine Ev.neg h ?_
      rw [wrap64_id (by omega) (by omega)]
      exact ih (i + 1) (by omega)
theorem spec_l05Node_ev (a : List S70) (b c : List S104) (d : List ByteArray) (e f : Int) (v : Int) (hl : a.length ≤ 1048576) : Ev (fun k => spec_l05Node.f k a b c d e f v) (nodeIx a v) := by
  unfold spec_l05Node.f
  exact spec_l05Node_l0 a b c d e f v hl a.length 0 (by omega)
theorem spec_l06Has_l0 (l : List S104) (a : ByteArray) (hl : l.length ≤ 1048576) (n : Nat) : ∀ i : Nat, i + n = l.length → Ev (fun k => spec_l06Has.l0 k l a (i : Int)) (decide (0 ≤ idxOf (named a) (l.drop i) i)) := by
  induction n with
  | zero =>
    intro i hi
    rw [List.drop_eq_nil_of_le (by omega)]
    refine Ev.step (fun k => by rw [spec_l06Has.l0]) ?_
    exact Ev.neg (by omega) (Ev.now _)
  | succ n ih =>
    intro i hi
    have hi2 : i < l.length := by omega
    refine Ev.step (fun k => by rw [spec_l06Has.l0]) (Ev.pos (by omega) (Ev.pos (by omega) ?_))
    rw [rd_IEntry l i hi2, List.drop_eq_getElem_cons hi2]
    by_cases h : l[i].f0.toList = a.toList
    · rw [idxOf_hit (named a) _ _ i (beq_iff_eq.mpr h), decide_eq_true (by omega)]
      exact Ev.pos h (Ev.now _)
    · rw [idxOf_miss (named a) _ _ i (beq_eq_false_iff_ne.mpr h)]
      refine Ev.neg h ?_
      rw [wrap64_id (by omega) (by omega)]
      exact ih (i + 1) (by omega)
theorem spec_l06Has_ev (l : List S104) (a : ByteArray) (hl : l.length ≤ 1048576) : Ev (fun k => spec_l06Has.f k l a) (decide (0 ≤ placeE l a)) := by
  unfold spec_l06Has.f
  exact spec_l06Has_l0 l a hl l.length 0 (by omega)
theorem placeE_range (l : List S104) (s : ByteArray) : -1 ≤ placeE l s ∧ placeE l s < (l.length : Int) := idxOf_range _ l
theorem nodeIx_range (a : List S70) (v : Int) : -1 ≤ nodeIx a v ∧ nodeIx a v < (a.length : Int) := idxOf_range _ a
theorem spec_NodeAt_ev (a : List S70) (b c : List S104) (d : List ByteArray) (e f : Int) (s : ByteArray) (hl : a.length ≤ 1048576) (hb : b.length ≤ 1048576) : Ev (fun k => spec_NodeAt.f k a b c d e f s) (nodeOut a (nodeAtR a b s)) := by
  unfold spec_NodeAt.f
  refine Ev.bind (spec_EntryAt_ev b s hb) (Ev.bind (spec_l05Node_ev a b c d e f _ hl) ?_)
  have hp := placeE_range b s
  unfold nodeAtR
  by_cases h : placeE b s < 0
  · rw [if_pos h]
    refine Ev.of_eq (r := (0, ⟨#[]⟩, 0, false)) ?_ (if_pos (show (-1 : Int) < 0 by decide)).symm
    by_cases h2 : nodeIx a (entAt b s) < 0
    · exact Ev.pos h2 (Ev.now _)
    · refine Ev.neg h2 (Ev.bind (spec_l06Has_ev b s hb) ?_)
      exact Ev.neg (by rw [decide_eq_false (by omega)]; decide) (Ev.now _)
  · rw [if_neg h]
    have he : entAt b s = (rd_T104 b (placeE b s)).f1 := if_neg h
    rw [he]
    have hn := nodeIx_range a (rd_T104 b (placeE b s)).f1
    unfold nodeOut
    by_cases h2 : nodeIx a (rd_T104 b (placeE b s)).f1 < 0
    · refine Ev.of_eq (r := (0, ⟨#[]⟩, 0, false)) ?_ (if_pos h2).symm
      exact Ev.pos h2 (Ev.now _)
    · refine Ev.of_eq ?_ (if_neg h2).symm
      refine Ev.neg h2 (Ev.bind (spec_l06Has_ev b s hb) ?_)
      refine Ev.pos (decide_eq_true (by omega)) (Ev.pos (by omega) ?_)
      exact Ev.pos hn.2 (Ev.now _)
theorem impl_placeOf_f (l : List S104) (a : ByteArray) : impl_placeOf.f l a = some (placeE l a) := rfl
theorem impl_nodeOf_f (a : List S70) (b c : List S104) (d : List ByteArray) (e f : Int) (v : Int) : impl_Disk_nodeOf.f a b c d e f v = some (nodeIx a v) := rfl
theorem impl_nodeAt_f (a : List S70) (b c : List S104) (d : List ByteArray) (e f : Int) (s : ByteArray) : impl_Disk_nodeAt.f a b c d e f s = some (nodeAtR a b s) := by
  unfold impl_Disk_nodeAt.f nodeAtR
  rw [impl_placeOf_f]
  have h := placeE_range b s
  show (if placeE b s < 0 then _ else _) = _
  by_cases c : placeE b s < 0
  · rw [if_pos c, if_pos c]
  · rw [if_neg c, if_neg c, if_pos (by omega), if_pos h.2, impl_nodeOf_f]; rfl
theorem impl_NodeAt_f (a : List S70) (b c : List S104) (d : List ByteArray) (e f : Int) (s : ByteArray) : impl_NodeAt.f a b c d e f s = some (nodeOut a (nodeAtR a b s)) := by
  unfold impl_NodeAt.f nodeOut
  rw [impl_nodeAt_f]
  have h : -1 ≤ nodeAtR a b s ∧ nodeAtR a b s < (a.length : Int) := by
    unfold nodeAtR
    split
    · omega
    · exact nodeIx_range _ _
  show (if nodeAtR a b s < 0 then _ else _) = _
  by_cases c : nodeAtR a b s < 0
  · rw [if_pos c, if_pos c]
  · rw [if_neg c, if_neg c, if_pos (by omega), if_pos h.2]
def readFile (a : List S70) (b : List S104) (s : ByteArray) : ByteArray × Bool := ((nodeOut a (nodeAtR a b s)).2.1, (nodeOut a (nodeAtR a b s)).2.2.2)
theorem spec_ReadFile_ev (a : List S70) (b c : List S104) (d : List ByteArray) (e f : Int) (s : ByteArray) (hl : a.length ≤ 1048576) (hb : b.length ≤ 1048576) : Ev (fun k => spec_ReadFile.f k a b c d e f s) (readFile a b s) := by
  unfold spec_ReadFile.f
  exact Ev.bind (spec_NodeAt_ev a b c d e f s hl hb) (Ev.now _)
theorem impl_ReadFile_f (a : List S70) (b c : List S104) (d : List ByteArray) (e f : Int) (s : ByteArray) : impl_ReadFile.f a b c d e f s = some (readFile a b s) := by
  unfold impl_ReadFile.f
  rw [impl_NodeAt_f]; rfl
def eqW {α : Type} (p : α → α → Bool) : List α → List α → Bool
  | [], [] => true
  | x :: xs, y :: ys => p x y && eqW p xs ys
  | _, _ => false
theorem eqW_len {α : Type} (p : α → α → Bool) : ∀ (xs ys : List α), xs.length ≠ ys.length → eqW p xs ys = false
  | [], [], h => absurd rfl h
  | [], _ :: _, _ => rfl
  | _ :: _, [], _ => rfl
  | x :: xs, y :: ys, h => by
    unfold eqW
    rw [eqW_len p xs ys (by intro e; apply h; rw [List.length_cons, List.length_cons, e]), Bool.and_false]
theorem eqW_drop {α : Type} (p : α → α → Bool) (xs ys : List α) (i : Nat) (hx : i < xs.length) (hy : i < ys.length) : eqW p (xs.drop i) (ys.drop i) = (p xs[i] ys[i] && eqW p (xs.drop (i + 1)) (ys.drop (i + 1))) := by
  rw [List.drop_eq_getElem_cons hx, List.drop_eq_getElem_cons hy]; rfl
theorem eqW_end {α : Type} (p : α → α → Bool) (xs ys : List α) (i : Nat) (hx : xs.length ≤ i) (hy : ys.length ≤ i) : eqW p (xs.drop i) (ys.drop i) = true := by
  rw [List.drop_eq_nil_of_le hx, List.drop_eq_nil_of_le hy]; rfl
def eqB (x y : ByteArray) : Bool := x.toList == y.toList
def fileNames (b : List S104) : List ByteArray := b.map fun x => x.f0
theorem impl_FileNames_l0 (b : List S104) (hl : b.length ≤ 1048576) (n : Nat) : ∀ (i : Nat), i + n = b.length →
    Ev (fun k => impl_FileNames.l0 k ((fileNames b).take i) b (b.length : Int) (i : Int)) (fileNames b) := by
  have hL : (fileNames b).length = b.length := List.length_map ..
  induction n with
  | zero =>
    intro i hi
    refine Ev.step (fun k => by rw [impl_FileNames.l0]) (Ev.neg (by omega) (Ev.const ?_))
    rw [List.take_of_length_le (by omega)]
  | succ n ih =>
    intro i hi
    have hi2 : i < b.length := by omega
    refine Ev.step (fun k => by rw [impl_FileNames.l0]) (Ev.pos (by omega) (Ev.pos (by omega) (Ev.pos (by omega) (Ev.pos (by rw [List.length_take]; omega) ?_))))
    rw [rd_IEntry b i hi2, wrap64_id (by omega) (by omega)]
    have h2 : (fileNames b).take (i + 1) = (fileNames b).take i ++ [b[i].f0] := by
      rw [List.take_succ_eq_append_getElem (by omega)]
      unfold fileNames
      rw [List.getElem_map]
    rw [← h2]
    exact ih (i + 1) (by omega)
theorem impl_FileNames_ev (a : List S70) (b c : List S104) (d : List ByteArray) (e f : Int) (hl : b.length ≤ 1048576) : Ev (fun k => impl_FileNames.f k a b c d e f) (fileNames b) := by
  unfold impl_FileNames.f
  exact impl_FileNames_l0 b hl b.length 0 (by omega)
theorem slicesEqualString_l0 (xs ys : List ByteArray) (hl : xs.length = ys.length) (hx : xs.length ≤ 140737488355328) (n : Nat) : ∀ (i : Nat), i + n = xs.length →
    Ev (fun k => slices_Equal_string_string.l0 k xs ys (xs.length : Int) (i : Int)) (eqW eqB (xs.drop i) (ys.drop i)) := by
  induction n with
  | zero =>
    intro i hi
    rw [eqW_end _ _ _ _ (by omega) (by omega)]
    refine Ev.step (fun k => by rw [slices_Equal_string_string.l0]) ?_
    exact Ev.neg (by omega) (Ev.now _)
  | succ n ih =>
    intro i hi
    rw [eqW_drop _ _ _ _ (by omega) (by omega)]
    refine Ev.step (fun k => by rw [slices_Equal_string_string.l0]) (Ev.pos (by omega) (Ev.pos (by omega) (Ev.pos (by omega) (Ev.pos (by omega) ?_))))
    rw [rd_S xs i (by omega), rd_S ys i (by omega)]
    by_cases h : eqB (xs[i]'(by omega)) (ys[i]'(by omega)) = true
    · rw [h, Bool.true_and]
      refine Ev.pos (beq_iff_eq.1 h) ?_
      rw [wrap64_id (by omega) (by omega)]
      exact ih (i + 1) (by omega)
    · rw [Bool.eq_false_iff.2 h, Bool.false_and]
      exact Ev.neg (fun e => h (beq_iff_eq.2 e)) (Ev.now _)
theorem slicesEqualString_ev (xs ys : List ByteArray) (hx : xs.length ≤ 140737488355328) : Ev (fun k => slices_Equal_string_string.f k xs ys) (eqW eqB xs ys) := by
  unfold slices_Equal_string_string.f
  by_cases h : xs.length = ys.length
  · exact Ev.pos (by omega) (slicesEqualString_l0 xs ys h hx xs.length 0 (by omega))
  · rw [eqW_len _ _ _ h]
    exact Ev.neg (by omega) (Ev.now _)
def sfOk (g h : ByteArray → ByteArray × Bool) (x y : S104) : Bool := (y.f0.toList == x.f0.toList) && (((g x.f0).2 == (h x.f0).2) && ((g x.f0).1.toList == (h x.f0).1.toList))
theorem sf_impl (g h : ByteArray → ByteArray × Bool) (d : S104 → Bool) (hd : ∀ x, d x = (!((g x.f0).1.toList == (h x.f0).1.toList) || !((g x.f0).2 == (h x.f0).2))) : ∀ b b' : List S104, (if eqW eqB (fileNames b) (fileNames b') = true then !b.any d else false) = eqW (sfOk g h) b b'
  | [], [] => rfl
  | [], _ :: _ => rfl
  | _ :: _, [] => rfl
  | x :: xs, y :: ys => by
    have ih := sf_impl g h d hd xs ys
    unfold fileNames at ih ⊢
    rw [List.map_cons, List.map_cons, eqW, eqW, List.any_cons, hd, ← ih]
    unfold sfOk eqB
    rw [show (x.f0.toList == y.f0.toList) = (y.f0.toList == x.f0.toList) from Bool.beq_comm]
    cases (y.f0.toList == x.f0.toList) <;> cases ((g x.f0).2 == (h x.f0).2) <;> cases ((g x.f0).1.toList == (h x.f0).1.toList) <;> cases eqW (fun x y : ByteArray => x.toList == y.toList) (xs.map fun x => x.f0) (ys.map fun x => x.f0) <;> simp
section
variable (a : List S70) (b c : List S104) (d : List ByteArray) (e f : Int) (a' : List S70) (b' c' : List S104) (d' : List ByteArray) (e' f' : Int)
def sameFiles : Bool := eqW (sfOk (readFile a b) (readFile a' b')) b b'
theorem spec_SameFiles_l0 (hl : a.length ≤ 1048576) (hb : b.length ≤ 1048576) (hl' : a'.length ≤ 1048576) (hb' : b'.length ≤ 1048576) (hq : b.length = b'.length) (n : Nat) : ∀ (i : Nat), i + n = b.length →
    Ev (fun k => spec_SameFiles.l0 k (i : Int) a b c d e f a' b' c' d' e' f') (eqW (sfOk (readFile a b) (readFile a' b')) (b.drop i) (b'.drop i)) := by
  induction n with
  | zero =>
    intro i hi
    rw [eqW_end _ _ _ _ (by omega) (by omega)]
    exact Ev.step (fun k => by rw [spec_SameFiles.l0]) (Ev.neg (by omega) (Ev.now _))
  | succ n ih =>
    intro i hi
    have hi2 : i < b.length := by omega
    have hi3 : i < b'.length := by omega
    rw [eqW_drop _ _ _ _ hi2 hi3]
    refine Ev.step (fun k => by rw [spec_SameFiles.l0]) (Ev.pos (by omega) (Ev.pos (by omega) ?_))
    rw [rd_IEntry b i hi2, rd_IEntry b' i hi3, wrap64_id (by omega) (by omega)]
    refine Ev.bind (spec_ReadFile_ev a b c d e f _ hl hb) (Ev.bind (spec_ReadFile_ev a' b' c' d' e' f' _ hl' hb') (Ev.pos (by omega) ?_))
    have ih := ih (i + 1) (by omega)
    unfold sfOk at ih ⊢
    by_cases h1 : b'[i].f0.toList = b[i].f0.toList
    · refine Ev.pos h1 ?_
      rw [show (b'[i].f0.toList == b[i].f0.toList) = true from beq_iff_eq.mpr h1]
      by_cases h2 : (readFile a b b[i].f0).2 = (readFile a' b' b[i].f0).2
      · refine Ev.neg (by rw [h2, bne_self_eq_false]; exact Bool.false_ne_true) ?_
        rw [show ((readFile a b b[i].f0).2 == (readFile a' b' b[i].f0).2) = true from beq_iff_eq.mpr h2]
        by_cases h3 : (readFile a b b[i].f0).1.toList = (readFile a' b' b[i].f0).1.toList
        · refine Ev.pos h3 ?_
          rw [show ((readFile a b b[i].f0).1.toList == (readFile a' b' b[i].f0).1.toList) = true from beq_iff_eq.mpr h3]
          exact ih
        · rw [show ((readFile a b b[i].f0).1.toList == (readFile a' b' b[i].f0).1.toList) = false from beq_eq_false_iff_ne.mpr h3]
          exact Ev.neg h3 (Ev.now _)
      · rw [show ((readFile a b b[i].f0).2 == (readFile a' b' b[i].f0).2) = false from beq_eq_false_iff_ne.mpr h2]
        exact Ev.pos (bne_iff_ne.mpr h2) (Ev.now _)
    · rw [show (b'[i].f0.toList == b[i].f0.toList) = false from beq_eq_false_iff_ne.mpr h1]
      exact Ev.neg h1 (Ev.now _)
theorem spec_SameFiles_ev (hl : a.length ≤ 1048576) (hb : b.length ≤ 1048576) (hl' : a'.length ≤ 1048576) (hb' : b'.length ≤ 1048576) : Ev (fun k => spec_SameFiles.f k a b c d e f a' b' c' d' e' f') (sameFiles a b a' b') := by
  unfold spec_SameFiles.f sameFiles
  by_cases h : b.length = b'.length
  · exact Ev.pos (by omega) (spec_SameFiles_l0 a b c d e f a' b' c' d' e' f' hl hb hl' hb' h b.length 0 (by omega))
  · rw [eqW_len _ _ _ h]
    exact Ev.neg (by omega) (Ev.now _)
theorem sfr_readFile (s : ByteArray) : sfr a b c d e f s = readFile a b s := by
  unfold sfr
  rw [impl_ReadFile_f]; rfl
theorem impl_SameFiles_ev (hb : b.length ≤ 1048576) (hb' : b'.length ≤ 1048576) : Ev (fun k => impl_SameFiles.f k a b c d e f a' b' c' d' e' f') (sameFiles a b a' b') := by
  unfold impl_SameFiles.f sameFiles
  rw [← sf_impl (readFile a b) (readFile a' b') (sfd a b c d e f a' b' c' d' e' f') (fun x => by unfold sfd; rw [sfr_readFile, sfr_readFile])]
  have hN : (fileNames b).length = b.length := by unfold fileNames; rw [List.length_map]
  refine Ev.bind (impl_FileNames_ev a b c d e f hb) (Ev.bind (impl_FileNames_ev a' b' c' d' e' f' hb') (Ev.bind (slicesEqualString_ev _ _ (by omega)) ?_))
  by_cases h : eqW eqB (fileNames b) (fileNames b') = true
  · exact Ev.of_eq (Ev.pos h (Ev.now _)) (if_pos h).symm
  · exact Ev.of_eq (Ev.neg h (Ev.now _)) (if_neg h).symm
end
theorem FnExactSameFiles : laws_FnExactSameFiles.Pure := by
  intro a b c d e f a' b' c' d' e' f' ha hb hc hd he hf ha' hb' hc' hd' he' hf'
  refine Ev.rounds (g := fun k => laws_FnExactSameFiles.f k a b c d e f a' b' c' d' e' f') ?_
  unfold laws_FnExactSameFiles.f
  obtain ⟨r, hr, h⟩ := szDisk_ev a b c d e f ⟨ha, hb, hc, hd, he, hf⟩ 1048576 (by decide) (by decide)
  refine Ev.bind hr ?_
  rcases h with h | ⟨h0, h⟩
  · exact Ev.pos h (Ev.now _)
  refine Ev.neg (by omega) ?_
  obtain ⟨r', hr', h'⟩ := szDisk_ev a' b' c' d' e' f' ⟨ha', hb', hc', hd', he', hf'⟩ r h0 (by omega)
  refine Ev.bind hr' ?_
  rcases h' with h' | ⟨h0', h'⟩
  · exact Ev.pos h' (Ev.now _)
  refine Ev.neg (by omega) ?_
  have hfit : DiskFits a b c d := by unfold DiskFits; omega
  have hfit' : DiskFits a' b' c' d' := by unfold DiskFits; omega
  have hd2 := toDisk_ev a b c d e f hfit
  have hd2' := toDisk_ev a' b' c' d' e' f' hfit'
  have hl := toNodeS_length a
  have h2 := toEntryS_length b
  have h3 := toEntryS_length c
  have h4 := toStringS_length d
  have hl' := toNodeS_length a'
  have h2' := toEntryS_length b'
  have h3' := toEntryS_length c'
  have h4' := toStringS_length d'
  unfold DiskFits at hfit hfit'
  refine Ev.bind hd2 (Ev.bind hd2' (Ev.bind (spec_SameFiles_ev (toNodeS a) (toEntryS b) (toEntryS c) (toStringS d) e f (toNodeS a') (toEntryS b') (toEntryS c') (toStringS d') e' f' (by omega) (by omega) (by omega) (by omega)) ?_))
  refine Ev.bind hd2 (Ev.bind hd2' (Ev.bind (impl_SameFiles_ev (toNodeS a) (toEntryS b) (toEntryS c) (toStringS d) e f (toNodeS a') (toEntryS b') (toEntryS c') (toStringS d') e' f' (by omega) (by omega)) ?_))
  refine Ev.neg (by rw [bne_self_eq_false]; decide) ?_
  refine Ev.bind hd2 (Ev.bind (eqDisk_refl (toNodeS a) (toEntryS b) (toEntryS c) (toStringS d) e f (by omega) (by omega) (by omega) (by omega)) (Ev.pos rfl ?_))
  refine Ev.bind hd2' (Ev.bind (eqDisk_refl (toNodeS a') (toEntryS b') (toEntryS c') (toStringS d') e' f' (by omega) (by omega) (by omega) (by omega)) ?_)
  exact Ev.pos rfl (Ev.now _)
end Go.Proofs.Ytdjgnooacaoomaa.Pure
