/- The law FnExactCouldFall answers true for all disks: the program tells whether a disk can be what is left of another one as the reference does, and its arguments read on as they did. Conditions: those of the given row, and no others. -/
import Derived.Test.YtbcidclclckgfaaGreatDoorMFnExactCouldFallx19
namespace Go.Proofs.YtbcidclclckgfaaGreatDoor.Pure
open Go.RowKit Go.Proofs.YtbcidclclckgfaaGreatDoor.MFnExactCouldFall Go.Proofs.YtbcidclclckgfaaGreatDoorW.PrintWords Go.Proofs.YtbcidclclckgfaaGreatDoorW.PrintLast Go.Proofs.YtbcidclclckgfaaGreatDoorW.PrintMore
set_option linter.unusedVariables false
set_option linter.unusedSimpArgs false
/-! ### Whole numbers and bits -/
theorem wrap64_id {x : Int} (h0 : -9223372036854775808 ≤ x) (h1 : x ≤ 9223372036854775807) : wrap64 x = x := by unfold wrap64; omega
/-! ### Bytes of a text -/
theorem bt_list (s : ByteArray) (i : Nat) (h : i < s.data.toList.length) : bt s (i : Int) = ((s.data.toList[i]).toNat : Int) := by
  have h' : i < s.size := by rw [Array.length_toList] at h; exact h
  have hn : (i : Int).toNat < s.size := by rw [Int.toNat_natCast]; exact h'
  rw [← bt_at s i hn]
  rfl
theorem size_list (s : ByteArray) : s.data.toList.length = s.size := by rw [Array.length_toList]; rfl
theorem drop_cons (s : ByteArray) (i : Nat) (h : i < s.size) : s.data.toList.drop i = s.data.toList[i]'(by rw [size_list]; exact h) :: s.data.toList.drop (i + 1) :=
  List.drop_eq_getElem_cons (by rw [size_list]; exact h)
/-! ### From some number of rounds on -/
section
variable {α : Type} {f g : Nat → Option α} {r : α} {c : Prop} [Decidable c]
theorem Ev.pos (h : c) (e : Ev f r) : Ev (fun k => if c then f k else g k) r := Ev.congr (fun _ => if_pos h) e
theorem Ev.neg (h : ¬ c) (e : Ev g r) : Ev (fun k => if c then f k else g k) r := Ev.congr (fun _ => if_neg h) e
theorem Ev.const {o : Option α} (h : o = some r) : Ev (fun _ => o) r := ⟨0, fun _ _ => h⟩
theorem Ev.at (K : Nat) (h : ∀ k, K ≤ k → f k = some r) : Ev f r := ⟨K, h⟩
theorem Ev.of_eq {r' : α} (e : Ev f r) (h : r = r') : Ev f r' := h ▸ e
end
theorem rd_LNode (xs : List S110) (i : Nat) (h : i < xs.length) : rd_T110 xs (i : Int) = xs[i] := by
  unfold rd_T110
  rw [Int.toNat_natCast, List.getD_eq_getElem?_getD, List.getElem?_eq_getElem h]; rfl
def totNode : List S110 → Nat
  | [] => 0
  | x :: l => x.f1.size + totNode l
theorem szNodeS_l0 (xs : List S110) (hl : xs.length ≤ 1048576) (hs : ∀ x ∈ xs, x.f1.size ≤ 9223372036854775807) (n : Nat) : ∀ (i : Nat) (x1 : Int), i + n = xs.length → 0 ≤ x1 → x1 ≤ 1048576 →
    ∃ r, Ev (fun k => laws_szNodeS.l0 k xs x1 (i : Int)) r ∧ (r = -1 ∨ (0 ≤ r ∧ r + totNode (xs.drop i) = x1)) := by
  induction n with
  | zero =>
    intro i x1 hi h0 h1
    refine ⟨x1, Ev.step (fun k => by rw [laws_szNodeS.l0]) (Ev.neg (by omega) (Ev.now _)), .inr ⟨h0, ?_⟩⟩
    rw [List.drop_eq_nil_of_le (by omega), totNode]; omega
  | succ n ih =>
    intro i x1 hi h0 h1
    have hi2 : i < xs.length := by omega
    have hb : xs[i].f1.size ≤ 9223372036854775807 := hs xs[i] (List.getElem_mem hi2)
    by_cases h : x1 - (xs[i].f1.size : Int) < 0
    · refine ⟨-1, ?_, .inl rfl⟩
      refine Ev.step (fun k => by rw [laws_szNodeS.l0]) ?_
      refine Ev.pos (by omega) (Ev.pos (by omega) ?_)
      refine Ev.bind (Ev.const (r := (-1 : Int)) ?_) ?_
      · rw [rd_LNode xs i hi2]; unfold laws_szNode.f
        rw [wrap64_id (by omega) (by omega), if_pos h]
      · exact Ev.pos (by decide) (Ev.now _)
    · obtain ⟨r, hr, h2⟩ := ih (i + 1) (x1 - (xs[i].f1.size : Int)) (by omega) (by omega) (by omega)
      refine ⟨r, ?_, ?_⟩
      · refine Ev.step (fun k => by rw [laws_szNodeS.l0]) ?_
        refine Ev.pos (by omega) (Ev.pos (by omega) ?_)
        refine Ev.bind (Ev.const (r := x1 - (xs[i].f1.size : Int)) ?_) ?_
        · rw [rd_LNode xs i hi2]; unfold laws_szNode.f
          rw [wrap64_id (by omega) (by omega), if_neg h]
        · refine Ev.neg (by omega) ?_
          rw [wrap64_id (by omega) (by omega)]; exact hr
      rcases h2 with h2 | ⟨h3, h4⟩
      · exact .inl h2
      · refine .inr ⟨h3, ?_⟩
        rw [List.drop_eq_getElem_cons hi2, totNode]; omega
theorem szNodeS_ev (xs : List S110) (left : Int) (h0 : 0 ≤ left) (h1 : left ≤ 1048576) (hx : xs.length ≤ 9223372036854775807) (hs : ∀ x ∈ xs, x.f1.size ≤ 9223372036854775807) :
    ∃ r, Ev (fun k => laws_szNodeS.f k xs left) r ∧ (r = -1 ∨ (0 ≤ r ∧ r + totNode xs + xs.length = left)) := by
  unfold laws_szNodeS.f
  rw [wrap64_id (by omega) (by omega)]
  by_cases h : left - (xs.length : Int) < 0
  · exact ⟨-1, Ev.pos h (Ev.now _), .inl rfl⟩
  · obtain ⟨r, hr, h2⟩ := szNodeS_l0 xs (by omega) hs xs.length 0 (left - (xs.length : Int)) (by omega) (by omega) (by omega)
    refine ⟨r, Ev.neg h hr, ?_⟩
    rcases h2 with h2 | ⟨h3, h4⟩
    · exact .inl h2
    · rw [List.drop_zero] at h4; exact .inr ⟨h3, by omega⟩
theorem rd_LEntry (xs : List S112) (i : Nat) (h : i < xs.length) : rd_T112 xs (i : Int) = xs[i] := by
  unfold rd_T112
  rw [Int.toNat_natCast, List.getD_eq_getElem?_getD, List.getElem?_eq_getElem h]; rfl
def totEntry : List S112 → Nat
  | [] => 0
  | x :: l => x.f0.size + totEntry l
theorem szEntryS_l0 (xs : List S112) (hl : xs.length ≤ 1048576) (hs : ∀ x ∈ xs, x.f0.size ≤ 9223372036854775807) (n : Nat) : ∀ (i : Nat) (x1 : Int), i + n = xs.length → 0 ≤ x1 → x1 ≤ 1048576 →
    ∃ r, Ev (fun k => laws_szEntryS.l0 k xs x1 (i : Int)) r ∧ (r = -1 ∨ (0 ≤ r ∧ r + totEntry (xs.drop i) = x1)) := by
  induction n with
  | zero =>
    intro i x1 hi h0 h1
    refine ⟨x1, Ev.step (fun k => by rw [laws_szEntryS.l0]) (Ev.neg (by omega) (Ev.now _)), .inr ⟨h0, ?_⟩⟩
    rw [List.drop_eq_nil_of_le (by omega), totEntry]; omega
  | succ n ih =>
    intro i x1 hi h0 h1
    have hi2 : i < xs.length := by omega
    have hb : xs[i].f0.size ≤ 9223372036854775807 := hs xs[i] (List.getElem_mem hi2)
    by_cases h : x1 - (xs[i].f0.size : Int) < 0
    · refine ⟨-1, ?_, .inl rfl⟩
      refine Ev.step (fun k => by rw [laws_szEntryS.l0]) ?_
      refine Ev.pos (by omega) (Ev.pos (by omega) ?_)
      refine Ev.bind (Ev.const (r := (-1 : Int)) ?_) ?_
      · rw [rd_LEntry xs i hi2]; unfold laws_szEntry.f
        rw [wrap64_id (by omega) (by omega), if_pos h]
      · exact Ev.pos (by decide) (Ev.now _)
    · obtain ⟨r, hr, h2⟩ := ih (i + 1) (x1 - (xs[i].f0.size : Int)) (by omega) (by omega) (by omega)
      refine ⟨r, ?_, ?_⟩
      · refine Ev.step (fun k => by rw [laws_szEntryS.l0]) ?_
        refine Ev.pos (by omega) (Ev.pos (by omega) ?_)
        refine Ev.bind (Ev.const (r := x1 - (xs[i].f0.size : Int)) ?_) ?_
        · rw [rd_LEntry xs i hi2]; unfold laws_szEntry.f
          rw [wrap64_id (by omega) (by omega), if_neg h]
        · refine Ev.neg (by omega) ?_
          rw [wrap64_id (by omega) (by omega)]; exact hr
      rcases h2 with h2 | ⟨h3, h4⟩
      · exact .inl h2
      · refine .inr ⟨h3, ?_⟩
        rw [List.drop_eq_getElem_cons hi2, totEntry]; omega
theorem szEntryS_ev (xs : List S112) (left : Int) (h0 : 0 ≤ left) (h1 : left ≤ 1048576) (hx : xs.length ≤ 9223372036854775807) (hs : ∀ x ∈ xs, x.f0.size ≤ 9223372036854775807) :
    ∃ r, Ev (fun k => laws_szEntryS.f k xs left) r ∧ (r = -1 ∨ (0 ≤ r ∧ r + totEntry xs + xs.length = left)) := by
  unfold laws_szEntryS.f
  rw [wrap64_id (by omega) (by omega)]
  by_cases h : left - (xs.length : Int) < 0
  · exact ⟨-1, Ev.pos h (Ev.now _), .inl rfl⟩
  · obtain ⟨r, hr, h2⟩ := szEntryS_l0 xs (by omega) hs xs.length 0 (left - (xs.length : Int)) (by omega) (by omega) (by omega)
    refine ⟨r, Ev.neg h hr, ?_⟩
    rcases h2 with h2 | ⟨h3, h4⟩
    · exact .inl h2
    · rw [List.drop_zero] at h4; exact .inr ⟨h3, by omega⟩
theorem rd_S (xs : List ByteArray) (i : Nat) (h : i < xs.length) : rdOf ByteArray.empty xs (i : Int) = xs[i] := by
  unfold rdOf
  rw [Int.toNat_natCast, List.getD_eq_getElem?_getD, List.getElem?_eq_getElem h]; rfl
def totString : List ByteArray → Nat
  | [] => 0
  | x :: l => x.size + totString l
theorem szStringS_l0 (xs : List ByteArray) (hl : xs.length ≤ 1048576) (hs : ∀ x ∈ xs, x.size ≤ 9223372036854775807) (n : Nat) : ∀ (i : Nat) (x1 : Int), i + n = xs.length → 0 ≤ x1 → x1 ≤ 1048576 →
    ∃ r, Ev (fun k => laws_szStringS.l0 k xs x1 (i : Int)) r ∧ (r = -1 ∨ (0 ≤ r ∧ r + totString (xs.drop i) = x1)) := by
  induction n with
  | zero =>
    intro i x1 hi h0 h1
    refine ⟨x1, Ev.step (fun k => by rw [laws_szStringS.l0]) (Ev.neg (by omega) (Ev.now _)), .inr ⟨h0, ?_⟩⟩
    rw [List.drop_eq_nil_of_le (by omega), totString]; omega
  | succ n ih =>
    intro i x1 hi h0 h1
    have hi2 : i < xs.length := by omega
    have hb : xs[i].size ≤ 9223372036854775807 := hs xs[i] (List.getElem_mem hi2)
    by_cases h : x1 - (xs[i].size : Int) < 0
    · exact ⟨-1, Ev.step (fun k => by rw [laws_szStringS.l0]) (Ev.pos (by omega) (Ev.pos (by omega) (by rw [rd_S xs i hi2, wrap64_id (by omega) (by omega)]; exact Ev.pos h (Ev.now _)))), .inl rfl⟩
    · obtain ⟨r, hr, h2⟩ := ih (i + 1) (x1 - (xs[i].size : Int)) (by omega) (by omega) (by omega)
      refine ⟨r, Ev.step (fun k => by rw [laws_szStringS.l0]) (Ev.pos (by omega) (Ev.pos (by omega) (by rw [rd_S xs i hi2, wrap64_id (x := x1 - (xs[i].size : Int)) (by omega) (by omega), wrap64_id (by omega) (by omega)]; exact Ev.neg h hr))), ?_⟩
      rcases h2 with h2 | ⟨h3, h4⟩
      · exact .inl h2
      · refine .inr ⟨h3, ?_⟩
        rw [List.drop_eq_getElem_cons hi2, totString]; omega
theorem szStringS_ev (xs : List ByteArray) (left : Int) (h0 : 0 ≤ left) (h1 : left ≤ 1048576) (hx : xs.length ≤ 9223372036854775807) (hs : ∀ x ∈ xs, x.size ≤ 9223372036854775807) :
    ∃ r, Ev (fun k => laws_szStringS.f k xs left) r ∧ (r = -1 ∨ (0 ≤ r ∧ r + totString xs + xs.length = left)) := by
  unfold laws_szStringS.f
  rw [wrap64_id (by omega) (by omega)]
  by_cases h : left - (xs.length : Int) < 0
  · exact ⟨-1, Ev.pos h (Ev.now _), .inl rfl⟩
  · obtain ⟨r, hr, h2⟩ := szStringS_l0 xs (by omega) hs xs.length 0 (left - (xs.length : Int)) (by omega) (by omega) (by omega)
    refine ⟨r, Ev.neg h hr, ?_⟩
    rcases h2 with h2 | ⟨h3, h4⟩
    · exact .inl h2
    · rw [List.drop_zero] at h4; exact .inr ⟨h3, by omega⟩
def toNodeS : List S110 → List S57 := List.map (fun x => (⟨x.f0, x.f1, x.f2⟩ : S57))
theorem toNodeS_l0 (xs : List S110) (hl : xs.length ≤ 1048576) (n : Nat) : ∀ (i : Nat) (acc : List S57), i + n = xs.length → acc.length = xs.length → (∀ j, j < i → acc[j]? = (toNodeS xs)[j]?) →
    Ev (fun k => laws_toNodeS.l0 k xs acc (i : Int)) (toNodeS xs) := by
  induction n with
  | zero =>
    intro i acc hi ha hp
    refine Ev.step (fun k => by rw [laws_toNodeS.l0]) (Ev.neg (by omega) (Ev.const ?_))
    refine congrArg some (List.ext_getElem? fun j => ?_)
    by_cases hj : j < i
    · exact hp j hj
    · rw [List.getElem?_eq_none (by omega), List.getElem?_eq_none (by unfold toNodeS; rw [List.length_map]; omega)]
  | succ n ih =>
    intro i acc hi ha hp
    have hi2 : i < xs.length := by omega
    refine Ev.step (fun k => by rw [laws_toNodeS.l0]) ?_
    refine Ev.pos (by omega) (Ev.pos (by omega) ?_)
    rw [rd_LNode xs i hi2]
    refine Ev.bind (Ev.const rfl) (Ev.pos (by omega) ?_)
    rw [wrap64_id (by omega) (by omega), Int.toNat_natCast]
    refine ih (i + 1) _ (by omega) (by rw [List.length_set]; exact ha) ?_
    intro j hj
    by_cases h : j < i
    · rw [List.getElem?_set_ne (by omega)]; exact hp j h
    · obtain rfl : j = i := by omega
      rw [List.getElem?_set_self (by omega)]
      unfold toNodeS
      rw [List.getElem?_map, List.getElem?_eq_getElem hi2]; rfl
theorem toNodeS_ev (xs : List S110) (hl : xs.length ≤ 1048576) : Ev (fun k => laws_toNodeS.f k xs) (toNodeS xs) := by
  unfold laws_toNodeS.f
  refine Ev.pos (by omega) (Ev.pos (by omega) ?_)
  rw [Int.toNat_natCast]
  exact toNodeS_l0 xs hl xs.length 0 _ (by omega) (List.length_replicate ..) (fun j hj => absurd hj (Nat.not_lt_zero _))
def toEntryS : List S112 → List S59 := List.map (fun x => (⟨x.f0, x.f1⟩ : S59))
theorem toEntryS_l0 (xs : List S112) (hl : xs.length ≤ 1048576) (n : Nat) : ∀ (i : Nat) (acc : List S59), i + n = xs.length → acc.length = xs.length → (∀ j, j < i → acc[j]? = (toEntryS xs)[j]?) →
    Ev (fun k => laws_toEntryS.l0 k xs acc (i : Int)) (toEntryS xs) := by
  induction n with
  | zero =>
    intro i acc hi ha hp
    refine Ev.step (fun k => by rw [laws_toEntryS.l0]) (Ev.neg (by omega) (Ev.const ?_))
    refine congrArg some (List.ext_getElem? fun j => ?_)
    by_cases hj : j < i
    · exact hp j hj
    · rw [List.getElem?_eq_none (by omega), List.getElem?_eq_none (by unfold toEntryS; rw [List.length_map]; omega)]
  | succ n ih =>
    intro i acc hi ha hp
    have hi2 : i < xs.length := by omega
    refine Ev.step (fun k => by rw [laws_toEntryS.l0]) ?_
    refine Ev.pos (by omega) (Ev.pos (by omega) ?_)
    rw [rd_LEntry xs i hi2]
    refine Ev.bind (Ev.const rfl) (Ev.pos (by omega) ?_)
    rw [wrap64_id (by omega) (by omega), Int.toNat_natCast]
    refine ih (i + 1) _ (by omega) (by rw [List.length_set]; exact ha) ?_
    intro j hj
    by_cases h : j < i
    · rw [List.getElem?_set_ne (by omega)]; exact hp j h
    · obtain rfl : j = i := by omega
      rw [List.getElem?_set_self (by omega)]
      unfold toEntryS
      rw [List.getElem?_map, List.getElem?_eq_getElem hi2]; rfl
theorem toEntryS_ev (xs : List S112) (hl : xs.length ≤ 1048576) : Ev (fun k => laws_toEntryS.f k xs) (toEntryS xs) := by
  unfold laws_toEntryS.f
  refine Ev.pos (by omega) (Ev.pos (by omega) ?_)
  rw [Int.toNat_natCast]
  exact toEntryS_l0 xs hl xs.length 0 _ (by omega) (List.length_replicate ..) (fun j hj => absurd hj (Nat.not_lt_zero _))
def toStringS : List ByteArray → List ByteArray := List.map (fun x => x)
theorem toStringS_l0 (xs : List ByteArray) (hl : xs.length ≤ 1048576) (n : Nat) : ∀ (i : Nat) (acc : List ByteArray), i + n = xs.length → acc.length = xs.length → (∀ j, j < i → acc[j]? = (toStringS xs)[j]?) →
    Ev (fun k => laws_toStringS.l0 k xs acc (i : Int)) (toStringS xs) := by
  induction n with
  | zero =>
    intro i acc hi ha hp
    refine Ev.step (fun k => by rw [laws_toStringS.l0]) (Ev.neg (by omega) (Ev.const ?_))
    refine congrArg some (List.ext_getElem? fun j => ?_)
    by_cases hj : j < i
    · exact hp j hj
    · rw [List.getElem?_eq_none (by omega), List.getElem?_eq_none (by unfold toStringS; rw [List.length_map]; omega)]
  | succ n ih =>
    intro i acc hi ha hp
    have hi2 : i < xs.length := by omega
    refine Ev.step (fun k => by rw [laws_toStringS.l0]) (Ev.pos (by omega) (Ev.pos (by omega) (Ev.pos (by omega) ?_)))
    rw [rd_S xs i hi2]
    rw [wrap64_id (by omega) (by omega), Int.toNat_natCast]
    refine ih (i + 1) _ (by omega) (by rw [List.length_set]; exact ha) ?_
    intro j hj
    by_cases h : j < i
    · rw [List.getElem?_set_ne (by omega)]; exact hp j h
    · obtain rfl : j = i := by omega
      rw [List.getElem?_set_self (by omega)]
      unfold toStringS
      rw [List.getElem?_map, List.getElem?_eq_getElem hi2]; rfl
theorem toStringS_ev (xs : List ByteArray) (hl : xs.length ≤ 1048576) : Ev (fun k => laws_toStringS.f k xs) (toStringS xs) := by
  unfold laws_toStringS.f
  refine Ev.pos (by omega) (Ev.pos (by omega) ?_)
  rw [Int.toNat_natCast]
  exact toStringS_l0 xs hl xs.length 0 _ (by omega) (List.length_replicate ..) (fun j hj => absurd hj (Nat.not_lt_zero _))
/-- What is known of a disk that came in. -/
def DiskIn (a : List S110) (b c : List S112) (d : List ByteArray) (e f : Int) : Prop :=
  (a.length ≤ 9223372036854775807 ∧ ∀ x ∈ a, ((Lit.int .i64 x.f0).wf = true ∧ x.f1.size ≤ 9223372036854775807 ∧ (Lit.int .i64 x.f2).wf = true)) ∧ (b.length ≤ 9223372036854775807 ∧ ∀ x ∈ b, (x.f0.size ≤ 9223372036854775807 ∧ (Lit.int .i64 x.f1).wf = true)) ∧
  (c.length ≤ 9223372036854775807 ∧ ∀ x ∈ c, (x.f0.size ≤ 9223372036854775807 ∧ (Lit.int .i64 x.f1).wf = true)) ∧ (d.length ≤ 9223372036854775807 ∧ ∀ x ∈ d, x.size ≤ 9223372036854775807) ∧ (Lit.int .i64 e).wf = true ∧ (Lit.int .i64 f).wf = true
/-- A disk that the law looks at: how large it may be. -/
def DiskFits (a : List S110) (b c : List S112) (d : List ByteArray) : Prop :=
  totNode a + a.length + totEntry b + b.length + totEntry c + c.length + totString d + d.length ≤ 1048576
theorem szDisk_ev (a : List S110) (b c : List S112) (d : List ByteArray) (e f : Int) (h : DiskIn a b c d e f) (left : Int) (h0 : 0 ≤ left) (h1 : left ≤ 1048576) :
    ∃ r, Ev (fun k => laws_szDisk.f k a b c d e f left) r ∧ (r < 0 ∨ (0 ≤ r ∧ r + (totNode a + a.length + totEntry b + b.length + totEntry c + c.length + totString d + d.length : Nat) = left)) := by
  obtain ⟨⟨la, ha⟩, ⟨lb, hb⟩, ⟨lc, hc⟩, ⟨ld, hd⟩, _, _⟩ := h
  unfold laws_szDisk.f
  obtain ⟨r1, e1, p1⟩ := szNodeS_ev a left h0 h1 la (fun x hx => (ha x hx).2.1)
  by_cases q1 : r1 < 0
  · exact ⟨-1, Ev.bind e1 (Ev.pos q1 (Ev.now _)), .inl (by decide)⟩
  obtain ⟨r2, e2, p2⟩ := szEntryS_ev b r1 (by omega) (by omega) lb (fun x hx => (hb x hx).1)
  by_cases q2 : r2 < 0
  · exact ⟨-1, Ev.bind e1 (Ev.neg q1 (Ev.bind e2 (Ev.pos q2 (Ev.now _)))), .inl (by decide)⟩
  obtain ⟨r3, e3, p3⟩ := szEntryS_ev c r2 (by omega) (by omega) lc (fun x hx => (hc x hx).1)
  by_cases q3 : r3 < 0
  · exact ⟨-1, Ev.bind e1 (Ev.neg q1 (Ev.bind e2 (Ev.neg q2 (Ev.bind e3 (Ev.pos q3 (Ev.now _)))))), .inl (by decide)⟩
  obtain ⟨r4, e4, p4⟩ := szStringS_ev d r3 (by omega) (by omega) ld hd
  by_cases q4 : r4 < 0
  · exact ⟨-1, Ev.bind e1 (Ev.neg q1 (Ev.bind e2 (Ev.neg q2 (Ev.bind e3 (Ev.neg q3 (Ev.bind e4 (Ev.pos q4 (Ev.now _)))))))), .inl (by decide)⟩
  · exact ⟨r4, Ev.bind e1 (Ev.neg q1 (Ev.bind e2 (Ev.neg q2 (Ev.bind e3 (Ev.neg q3 (Ev.bind e4 (Ev.neg q4 (Ev.now _)))))))), .inr ⟨by omega, by omega⟩⟩
theorem toDisk_ev (a : List S110) (b c : List S112) (d : List ByteArray) (e f : Int) (h : DiskFits a b c d) : Ev (fun k => laws_toDisk.f k a b c d e f) (toNodeS a, toEntryS b, toEntryS c, toStringS d, e, f) := by
  unfold DiskFits at h
  unfold laws_toDisk.f
  exact Ev.bind (toNodeS_ev a (by omega)) (Ev.bind (toEntryS_ev b (by omega)) (Ev.bind (toEntryS_ev c (by omega)) (Ev.bind (toStringS_ev d (by omega)) (Ev.now _))))
theorem toNodeS_length (a : List S110) : (toNodeS a).length = a.length := List.length_map ..
theorem toEntryS_length (a : List S112) : (toEntryS a).length = a.length := List.length_map ..
theorem toStringS_length (a : List ByteArray) : (toStringS a).length = a.length := List.length_map ..
theorem rd_INode (xs : List S57) (i : Nat) (h : i < xs.length) : rd_T57 xs (i : Int) = xs[i] := by
  unfold rd_T57
  rw [Int.toNat_natCast, List.getD_eq_getElem?_getD, List.getElem?_eq_getElem h]; rfl
theorem eqNodeS_l0 (xs : List S57) (hl : xs.length ≤ 9223372036854775806) (n : Nat) : ∀ (i : Nat), i + n = xs.length → Ev (fun k => laws_eqNodeS.l0 k xs xs (i : Int)) true := by
  induction n with
  | zero =>
    intro i hi
    refine Ev.step (fun k => by rw [laws_eqNodeS.l0]) ?_
    exact Ev.neg (by omega) (Ev.now _)
  | succ n ih =>
    intro i hi
    refine Ev.step (fun k => by rw [laws_eqNodeS.l0]) (Ev.pos (by omega) (Ev.pos (by omega) (Ev.pos (by omega) ?_)))
    rw [rd_INode xs i (by omega)]
    refine Ev.bind (Ev.const (r := true) ?_) (Ev.pos rfl ?_)
    · unfold laws_eqNode.f
      rw [if_pos rfl, if_pos rfl, if_pos rfl]
    rw [wrap64_id (by omega) (by omega)]
    exact ih (i + 1) (by omega)
theorem eqNodeS_refl (xs : List S57) (hl : xs.length ≤ 9223372036854775806) : Ev (fun k => laws_eqNodeS.f k xs xs) true := by
  unfold laws_eqNodeS.f
  exact Ev.pos rfl (eqNodeS_l0 xs hl xs.length 0 (by omega))
theorem rd_IEntry (xs : List S59) (i : Nat) (h : i < xs.length) : rd_T59 xs (i : Int) = xs[i] := by
  unfold rd_T59
  rw [Int.toNat_natCast, List.getD_eq_getElem?_getD, List.getElem?_eq_getElem h]; rfl
theorem eqEntryS_l0 (xs : List S59) (hl : xs.length ≤ 9223372036854775806) (n : Nat) : ∀ (i : Nat), i + n = xs.length → Ev (fun k => laws_eqEntryS.l0 k xs xs (i : Int)) true := by
  induction n with
  | zero =>
    intro i hi
    refine Ev.step (fun k => by rw [laws_eqEntryS.l0]) ?_
    exact Ev.neg (by omega) (Ev.now _)
  | succ n ih =>
    intro i hi
    refine Ev.step (fun k => by rw [laws_eqEntryS.l0]) (Ev.pos (by omega) (Ev.pos (by omega) (Ev.pos (by omega) ?_)))
    rw [rd_IEntry xs i (by omega)]
    refine Ev.bind (Ev.const (r := true) ?_) (Ev.pos rfl ?_)
    · unfold laws_eqEntry.f
      rw [if_pos rfl, if_pos rfl]
    rw [wrap64_id (by omega) (by omega)]
    exact ih (i + 1) (by omega)
theorem eqEntryS_refl (xs : List S59) (hl : xs.length ≤ 9223372036854775806) : Ev (fun k => laws_eqEntryS.f k xs xs) true := by
  unfold laws_eqEntryS.f
  exact Ev.pos rfl (eqEntryS_l0 xs hl xs.length 0 (by omega))
theorem eqStringS_l0 (xs : List ByteArray) (hl : xs.length ≤ 9223372036854775806) (n : Nat) : ∀ (i : Nat), i + n = xs.length → Ev (fun k => laws_eqStringS.l0 k xs xs (i : Int)) true := by
  induction n with
  | zero =>
    intro i hi
    refine Ev.step (fun k => by rw [laws_eqStringS.l0]) ?_
    exact Ev.neg (by omega) (Ev.now _)
  | succ n ih =>
    intro i hi
    refine Ev.step (fun k => by rw [laws_eqStringS.l0]) (Ev.pos (by omega) (Ev.pos (by omega) (Ev.pos (by omega) ?_)))
    refine Ev.pos rfl ?_
    rw [wrap64_id (by omega) (by omega)]
    exact ih (i + 1) (by omega)
theorem eqStringS_refl (xs : List ByteArray) (hl : xs.length ≤ 9223372036854775806) : Ev (fun k => laws_eqStringS.f k xs xs) true := by
  unfold laws_eqStringS.f
  exact Ev.pos rfl (eqStringS_l0 xs hl xs.length 0 (by omega))
theorem eqDisk_refl (a : List S57) (b c : List S59) (d : List ByteArray) (e f : Int) (ha : a.length ≤ 9223372036854775806) (hb : b.length ≤ 9223372036854775806) (hc : c.length ≤ 9223372036854775806) (hd : d.length ≤ 9223372036854775806) :
    Ev (fun k => laws_eqDisk.f k a b c d e f a b c d e f) true := by
  unfold laws_eqDisk.f
  refine Ev.bind (eqNodeS_refl a ha) (Ev.pos rfl (Ev.bind (eqEntryS_refl b hb) (Ev.pos rfl (Ev.bind (eqEntryS_refl c hc) (Ev.pos rfl (Ev.bind (eqStringS_refl d hd) (Ev.pos rfl ?_)))))))
  exact Ev.pos rfl (Ev.pos rfl (Ev.now _))
def usedOn : List S57 → Nat
  | [] => 0
  | x :: l => x.f1.size + usedOn l
theorem spec_UsedOn_l0 (a : List S57) (b c : List S59) (d : List ByteArray) (e f : Int) (hl : a.length ≤ 1048576) (hu : usedOn a ≤ 1048576) (n : Nat) : ∀ (i x : Nat), i + n = a.length → x + usedOn (a.drop i) = usedOn a →
    Ev (fun k => spec_UsedOn.l0 k (x : Int) (i : Int) a b c d e f) ((usedOn a : Nat) : Int) := by
  induction n with
  | zero =>
    intro i x hi hx
    refine Ev.step (fun k => by rw [spec_UsedOn.l0]) (Ev.neg (by omega) (Ev.const ?_))
    rw [List.drop_eq_nil_of_le (by omega), usedOn] at hx
    rw [show x = usedOn a by omega]
  | succ n ih =>
    intro i x hi hx
    have hi2 : i < a.length := by omega
    rw [List.drop_eq_getElem_cons hi2, usedOn] at hx
    refine Ev.step (fun k => by rw [spec_UsedOn.l0]) (Ev.pos (by omega) (Ev.pos (by omega) ?_))
    rw [rd_INode a i hi2, wrap64_id (x := (i : Int) + 1) (by omega) (by omega), wrap64_id (by omega) (by omega)]
    exact ih (i + 1) (x + a[i].f1.size) (by omega) (by omega)
theorem spec_UsedOn_ev (a : List S57) (b c : List S59) (d : List ByteArray) (e f : Int) (hl : a.length ≤ 1048576) (hu : usedOn a ≤ 1048576) :
    Ev (fun k => spec_UsedOn.f k a b c d e f) ((usedOn a : Nat) : Int) := by
  unfold spec_UsedOn.f
  exact spec_UsedOn_l0 a b c d e f hl hu a.length 0 0 (by omega) (by rw [List.drop_zero]; omega)
theorem usedOn_toNodeS (a : List S110) : usedOn (toNodeS a) = totNode a := by
  induction a with
  | nil => rfl
  | cons x l ih =>
    show x.f1.size + usedOn (toNodeS l) = _
    rw [ih]; rfl
theorem totString_mem : ∀ (d : List ByteArray), ∀ s ∈ toStringS d, s.size ≤ totString d
  | [], _, h => by cases h
  | x :: l, s, h => by
    rcases List.mem_cons.mp h with rfl | h
    · show _ ≤ s.size + totString l
      omega
    · have := totString_mem l s h
      show _ ≤ x.size + totString l
      omega
theorem totEntry_mem : ∀ (c : List S112), ∀ y ∈ toEntryS c, y.f0.size ≤ totEntry c
  | [], _, h => by cases h
  | x :: l, y, h => by
    rcases List.mem_cons.mp h with rfl | h
    · show x.f0.size ≤ x.f0.size + totEntry l
      omega
    · have := totEntry_mem l y h
      show _ ≤ x.f0.size + totEntry l
      omega
/-- What is known of a disk that the laws make out of theirs. -/
theorem disk_small (a : List S110) (b c : List S112) (d : List ByteArray) (h : DiskFits a b c d) :
    (toNodeS a).length ≤ 1048576 ∧ usedOn (toNodeS a) ≤ 1048576 ∧ (toEntryS c).length + (toStringS d).length ≤ 1048576 ∧ (∀ s ∈ toStringS d, s.size ≤ 1048576) ∧ (∀ x ∈ toEntryS c, x.f0.size ≤ 1048576) := by
  have hl := toNodeS_length a
  have hu := usedOn_toNodeS a
  have h3 := toEntryS_length c
  have h4 := toStringS_length d
  unfold DiskFits at h
  refine ⟨by omega, by omega, by omega, fun s hs => ?_, fun x hx => ?_⟩
  · have := totString_mem d s hs
    omega
  · have := totEntry_mem c x hx
    omega
/-! ### The order of names -/
theorem bl_irr : ∀ a : List UInt8, Op.bytesLess a a = false
  | [] => rfl
  | a :: x => by rw [Op.bytesLess, bl_irr x]; simp
theorem bl_tri : ∀ a b : List UInt8, Op.bytesLess a b = false → Op.bytesLess b a = false → a = b
  | [], [], _, _ => rfl
  | [], _ :: _, h, _ => by simp [Op.bytesLess] at h
  | _ :: _, [], _, h => by simp [Op.bytesLess] at h
  | a :: x, b :: y, h1, h2 => by
    simp only [Op.bytesLess, Bool.or_eq_false_iff, Bool.and_eq_false_iff, decide_eq_false_iff_not, beq_eq_false_iff_ne] at h1 h2
    have hab : a = b := UInt8.le_antisymm (UInt8.not_lt.mp h2.1) (UInt8.not_lt.mp h1.1)
    subst hab
    rw [bl_tri x y (h1.2.resolve_left fun e => e rfl) (h2.2.resolve_left fun e => e rfl)]
theorem bl_trans : ∀ a b c : List UInt8, Op.bytesLess a b = true → Op.bytesLess b c = true → Op.bytesLess a c = true
  | _, _, [], _, h => by simp [Op.bytesLess] at h
  | _, [], _ :: _, h, _ => by simp [Op.bytesLess] at h
  | [], _ :: _, _ :: _, _, _ => rfl
  | a :: x, b :: y, c :: z, h1, h2 => by
    simp only [Op.bytesLess, Bool.or_eq_true, Bool.and_eq_true, decide_eq_true_eq, beq_iff_eq] at h1 h2 ⊢
    rcases h1 with h1 | ⟨rfl, h1⟩
    · rcases h2 with h2 | ⟨rfl, h2⟩
      · exact .inl (UInt8.lt_trans h1 h2)
      · exact .inl h1
    · rcases h2 with h2 | ⟨rfl, h2⟩
      · exact .inl h2
      · exact .inr ⟨rfl, bl_trans x y z h1 h2⟩
theorem bl_asymm {a b : List UInt8} (h : Op.bytesLess a b = true) : Op.bytesLess b a = false := by
  cases h2 : Op.bytesLess b a with
  | false => rfl
  | true =>
    have := bl_trans _ _ _ h h2
    rw [bl_irr] at this; cases this
theorem bl_not (a b : List UInt8) : (!Op.bytesLess a b) = (Op.bytesLess b a || b == a) := by
  cases h : Op.bytesLess a b with
  | true =>
    rw [bl_asymm h, beq_eq_false_iff_ne.mpr (fun e => by rw [e, bl_irr] at h; cases h)]; rfl
  | false =>
    cases h2 : Op.bytesLess b a with
    | true => rfl
    | false => rw [beq_iff_eq.mpr (bl_tri b a h2 h)]; rfl
theorem nl_ext {a b : ByteArray} (h : a.toList = b.toList) : a = b := by
  rw [ByteArray.toList_eq, ByteArray.toList_eq] at h
  cases a; cases b
  congr 1
  exact Array.ext' h
theorem idxOf_span {α : Type} (p : α → Bool) : ∀ (l : List α) (i : Nat), (idxOf p l i = -1 ∧ ∀ x ∈ l, p x = false) ∨ ∃ j, ∃ h : j < l.length, idxOf p l i = ((i + j : Nat) : Int) ∧ p l[j] = true := by
  intro l
  induction l with
  | nil => intro i; exact .inl ⟨rfl, fun x hx => absurd hx List.not_mem_nil⟩
  | cons x l ih =>
    intro i
    unfold idxOf
    by_cases h : p x = true
    · rw [if_pos h]; exact .inr ⟨0, Nat.zero_lt_succ _, by omega, h⟩
    · rw [if_neg h]
      rcases ih (i + 1) with ⟨h1, h2⟩ | ⟨j, hj, h1, h2⟩
      · refine .inl ⟨h1, fun y hy => ?_⟩
        rcases List.mem_cons.1 hy with e | hy
        · rw [e]; exact Bool.eq_false_iff.mpr h
        · exact h2 y hy
      · exact .inr ⟨j + 1, Nat.succ_lt_succ hj, by rw [h1]; omega, h2⟩
theorem idxOf_range {α : Type} (p : α → Bool) (l : List α) : -1 ≤ idxOf p l 0 ∧ idxOf p l 0 < (l.length : Int) := by
  rcases idxOf_span p l 0 with ⟨h, _⟩ | ⟨j, hj, h, _⟩ <;> omega
theorem idxOf_hit {α : Type} (p : α → Bool) (x : α) (l : List α) (i : Nat) (h : p x = true) : idxOf p (x :: l) i = (i : Int) := if_pos h
theorem idxOf_miss {α : Type} (p : α → Bool) (x : α) (l : List α) (i : Nat) (h : p x = false) : idxOf p (x :: l) i = idxOf p l (i + 1) := if_neg (by rw [h]; decide)
/-! ### A name's place among entries -/
def named (a : ByteArray) : S59 → Bool := fun x => x.f0.toList == a.toList
def placeE (l : List S59) (a : ByteArray) : Int := idxOf (named a) l 0
def entAt (l : List S59) (a : ByteArray) : Int := if placeE l a < 0 then 0 else (rd_T59 l (placeE l a)).f1
theorem spec_EntryAt_l0 (l : List S59) (a : ByteArray) (hl : l.length ≤ 1048576) (n : Nat) : ∀ i : Nat, i + n = l.length → Ev (fun k => spec_EntryAt.l0 k l a (i : Int)) (if idxOf (named a) (l.drop i) i < 0 then 0 else (rd_T59 l (idxOf (named a) (l.drop i) i)).f1) := by
  induction n with
  | zero =>
    intro i hi
    rw [List.drop_eq_nil_of_le (by omega)]
    refine Ev.of_eq (r := 0) ?_ (if_pos (show (-1 : Int) < 0 by decide)).symm
    refine Ev.step (fun k => by rw [spec_EntryAt.l0]) ?_
    exact Ev.neg (by omega) (Ev.now _)
  | succ n ih =>
    intro i hi
    have hi2 : i < l.length := by omega
    refine Ev.step (fun k => by rw [spec_EntryAt.l0]) (Ev.pos (by omega) (Ev.pos (by omega) ?_))
    rw [rd_IEntry l i hi2, List.drop_eq_getElem_cons hi2]
    by_cases h : l[i].f0.toList = a.toList
    · rw [idxOf_hit (named a) _ _ i (beq_iff_eq.mpr h)]
      refine Ev.of_eq (r := l[i].f1) (Ev.pos h (Ev.now _)) ?_
      rw [if_neg (by omega), rd_IEntry l i hi2]
    · rw [idxOf_miss (named a) _ _ i (beq_eq_false_iff_ne.mpr h)]
      refine Ev.neg h ?_
      rw [wrap64_id (by omega) (by omega)]
      exact ih (i + 1) (by omega)
theorem spec_EntryAt_ev (l : List S59) (a : ByteArray) (hl : l.length ≤ 1048576) : Ev (fun k => spec_EntryAt.f k l a) (entAt l a) := by
  unfold spec_EntryAt.f
  exact spec_EntryAt_l0 l a hl l.length 0 (by omega)
/-! ### Names -/
def okc (c : UInt8) : Bool := decide (97 ≤ c.toNat ∧ c.toNat ≤ 122) || decide (48 ≤ c.toNat ∧ c.toNat ≤ 57) || decide (c.toNat = 46) || decide (c.toNat = 45)
def nameOk (l : List UInt8) : Bool := l.all okc && decide (1 ≤ l.length ∧ l.length ≤ 20)
theorem okc_true {c : UInt8} (h : (97 ≤ c.toNat ∧ c.toNat ≤ 122) ∨ (48 ≤ c.toNat ∧ c.toNat ≤ 57) ∨ c.toNat = 46 ∨ c.toNat = 45) : okc c = true := by
  unfold okc
  rcases h with h | h | h | h
  · simp [h]
  · simp [h]
  · simp [h]
  · simp [h]
theorem okc_false {c : UInt8} (h1 : ¬ (97 ≤ c.toNat ∧ c.toNat ≤ 122)) (h2 : ¬ (48 ≤ c.toNat ∧ c.toNat ≤ 57)) (h3 : ¬ c.toNat = 46) (h4 : ¬ c.toNat = 45) : okc c = false := by
  unfold okc
  rw [decide_eq_false h1, decide_eq_false h2, decide_eq_false h3, decide_eq_false h4]; rfl
/-! ### Entries in order: a name put, a name dropped -/
def inOrder (l : List S59) : Prop := l.Pairwise fun x y => Op.bytesLess x.f0.toList y.f0.toList = true
def dropS (l : List S59) (n : ByteArray) : List S59 := l.filter fun x => !(x.f0.toList == n.toList)
def putW (n : ByteArray) (id : Int) : List S59 → Bool → List S59
  | [], d => if d = true then [] else [⟨n, id⟩]
  | x :: l, d => (if (!d && !Op.bytesLess x.f0.toList n.toList) = true then [⟨n, id⟩] else []) ++ ((if (x.f0.toList == n.toList) = true then [] else [x]) ++ putW n id l (d || !Op.bytesLess x.f0.toList n.toList))
def putR (n : ByteArray) (id : Int) : List S59 → List S59
  | [] => [⟨n, id⟩]
  | x :: l => if x.f0.toList = n.toList then ⟨n, id⟩ :: l else if Op.bytesLess n.toList x.f0.toList = true then ⟨n, id⟩ :: x :: l else x :: putR n id l
theorem nmOk_nameOk : nmOk = nameOk := rfl
theorem putW_done (n : ByteArray) (id : Int) : ∀ l : List S59, (∀ x ∈ l, Op.bytesLess n.toList x.f0.toList = true) → putW n id l true = l
  | [], _ => rfl
  | x :: l, h => by
    have hx := h x (List.mem_cons_self ..)
    have hne : (x.f0.toList == n.toList) = false := beq_eq_false_iff_ne.mpr fun e => by rw [e, bl_irr] at hx; cases hx
    rw [putW, hne, Bool.true_or, putW_done n id l fun y hy => h y (List.mem_cons_of_mem _ hy)]
    rfl
theorem putW_putR (n : ByteArray) (id : Int) : ∀ l : List S59, inOrder l → putW n id l false = putR n id l
  | [], _ => rfl
  | x :: l, h => by
    obtain ⟨hx, hl⟩ := List.pairwise_cons.mp h
    rw [putR]
    by_cases he : x.f0.toList = n.toList
    · rw [if_pos he, putW, he, bl_irr, beq_self_eq_true]
      rw [show (false || !false) = true from rfl, putW_done n id l fun y hy => by rw [← he]; exact hx y hy]
      rfl
    · rw [if_neg he]
      have hne : (x.f0.toList == n.toList) = false := beq_eq_false_iff_ne.mpr he
      by_cases hb : Op.bytesLess n.toList x.f0.toList = true
      · rw [if_pos hb, putW, hne, bl_asymm hb]
        rw [show (false || !false) = true from rfl, putW_done n id l fun y hy => bl_trans _ _ _ hb (hx y hy)]
        rfl
      · rw [if_neg hb, putW, hne]
        have hb2 : Op.bytesLess x.f0.toList n.toList = true := by
          cases h2 : Op.bytesLess x.f0.toList n.toList with
          | true => rfl
          | false => exact absurd (bl_tri _ _ h2 (Bool.eq_false_iff.mpr hb)) he
        rw [hb2, show (false || !true) = false from rfl, putW_putR n id l hl]
        rfl
theorem idxOf_succ {α : Type} (p : α → Bool) : ∀ (l : List α) (i : Nat), (idxOf p l i < 0 ∧ idxOf p l (i + 1) < 0) ∨ (0 ≤ idxOf p l i ∧ idxOf p l (i + 1) = idxOf p l i + 1)
  | [], i => .inl ⟨by rw [idxOf]; decide, by rw [idxOf]; decide⟩
  | x :: l, i => by
    rw [idxOf, idxOf]
    cases h : p x with
    | true => exact .inr ⟨by simp, by simp⟩
    | false => simpa using idxOf_succ p l (i + 1)
theorem set_putR (n : ByteArray) (id : Int) (x : S59) (l : List S59) (hne : ¬ x.f0.toList = n.toList) (h : 0 ≤ idxOf (isName n) l 0) : putI (x :: l) n id = x :: putI l n id := by
  have hx : isName n x = false := beq_eq_false_iff_ne.mpr hne
  have hr := ix_range (isName n) l 0
  rcases idxOf_succ (isName n) l 0 with ⟨h1, _⟩ | ⟨_, h2⟩
  · omega
  unfold putI
  rw [idxOf_miss _ _ _ _ hx, h2, if_neg (by omega), if_neg (by omega)]
  obtain ⟨j, hj⟩ : ∃ j : Nat, idxOf (isName n) l 0 = (j : Int) := ⟨(idxOf (isName n) l 0).toNat, by omega⟩
  rw [hj] at hr ⊢
  rw [show ((j : Int) + 1) = ((j + 1 : Nat) : Int) by omega, Int.toNat_natCast, Int.toNat_natCast, List.set_cons_succ, rd_IEntry _ _ (by simp only [List.length_cons]; omega), rd_IEntry _ _ (by omega), List.getElem_cons_succ]
theorem new_putR (n : ByteArray) (id : Int) (x : S59) (l : List S59) (hne : ¬ x.f0.toList = n.toList) (hb : Op.bytesLess n.toList x.f0.toList = false) (h : idxOf (isName n) l 0 < 0) : putI (x :: l) n id = x :: putI l n id := by
  have hx : isName n x = false := beq_eq_false_iff_ne.mpr hne
  have ha : isAbove n x = false := by
    unfold isAbove
    cases h2 : Op.bytesLess x.f0.toList n.toList with
    | true => rfl
    | false => exact absurd (bl_tri _ _ h2 hb) hne
  have hr := ix_range (isAbove n) l 0
  rcases idxOf_succ (isName n) l 0 with ⟨_, h2⟩ | ⟨h1, _⟩
  case inr => omega
  unfold putI
  rw [idxOf_miss _ _ _ _ hx, if_pos h2, if_pos h]
  have hp : putAt (x :: l) n = putAt l n + 1 := by
    unfold putAt
    rw [idxOf_miss _ _ _ _ ha]
    rcases idxOf_succ (isAbove n) l 0 with ⟨h3, h4⟩ | ⟨h3, h4⟩
    · rw [if_pos h4, if_pos h3, List.length_cons]
    · rw [if_neg (by omega), if_neg (by omega), h4]; omega
  rw [hp, List.take_succ_cons, List.drop_succ_cons]; rfl
theorem idxOf_all {α : Type} (p : α → Bool) : ∀ (l : List α) (i : Nat), (∀ x ∈ l, p x = false) → idxOf p l i < 0
  | [], _, _ => by rw [idxOf]; decide
  | x :: l, i, h => by
    rw [idxOf_miss _ _ _ _ (h x (List.mem_cons_self ..))]
    exact idxOf_all p l _ fun y hy => h y (List.mem_cons_of_mem _ hy)
theorem putI_putR (n : ByteArray) (id : Int) : ∀ l : List S59, inOrder l → putI l n id = putR n id l
  | [], _ => rfl
  | x :: l, h => by
    obtain ⟨hx, hl⟩ := List.pairwise_cons.mp h
    rw [putR]
    by_cases he : x.f0.toList = n.toList
    · rw [if_pos he]
      unfold putI
      rw [idxOf_hit (isName n) x l 0 (beq_iff_eq.mpr he), if_neg (by decide)]
      show (x :: l).set 0 ⟨(rd_T59 (x :: l) ((0 : Nat) : Int)).f0, id⟩ = _
      rw [rd_IEntry _ _ (by simp), List.set_cons_zero, List.getElem_cons_zero, nl_ext he]
    · rw [if_neg he]
      by_cases hb : Op.bytesLess n.toList x.f0.toList = true
      · rw [if_pos hb]
        have hno : ∀ y ∈ x :: l, isName n y = false := fun y hy => beq_eq_false_iff_ne.mpr fun e => by
          rcases List.mem_cons.mp hy with rfl | hy
          · exact he e
          · have := bl_trans _ _ _ hb (hx y hy)
            rw [e, bl_irr] at this; cases this
        unfold putI
        rw [if_pos (idxOf_all _ _ _ hno)]
        have hp : putAt (x :: l) n = 0 := by
          unfold putAt
          have ha : isAbove n x = true := by
            unfold isAbove
            rw [bl_asymm hb, beq_eq_false_iff_ne.mpr he]; rfl
          rw [idxOf_hit _ _ _ _ ha]; rfl
        rw [hp]; rfl
      · rw [if_neg hb, ← putI_putR n id l hl]
        by_cases h2 : 0 ≤ idxOf (isName n) l 0
        · exact set_putR n id x l he h2
        · exact new_putR n id x l he (Bool.eq_false_iff.mpr hb) (by omega)
theorem erase_dropS (n : ByteArray) : ∀ l : List S59, inOrder l → 0 ≤ idxOf (isName n) l 0 → l.eraseIdx (idxOf (isName n) l 0).toNat = dropS l n
  | [], _, h => by rw [idxOf] at h; exact absurd h (by decide)
  | x :: l, h, h0 => by
    obtain ⟨hx, hl⟩ := List.pairwise_cons.mp h
    unfold dropS
    by_cases he : x.f0.toList = n.toList
    · rw [idxOf_hit (isName n) x l 0 (beq_iff_eq.mpr he), List.filter_cons_of_neg (by rw [beq_iff_eq.mpr he]; decide)]
      show l = _
      symm
      refine List.filter_eq_self.mpr fun y hy => ?_
      have := hx y hy
      rw [beq_eq_false_iff_ne.mpr fun e => by rw [he, e, bl_irr] at this; cases this]; rfl
    · have hm : isName n x = false := beq_eq_false_iff_ne.mpr he
      rw [idxOf_miss _ _ _ _ hm] at h0 ⊢
      rw [List.filter_cons_of_pos (by rw [beq_eq_false_iff_ne.mpr he]; decide)]
      rcases idxOf_succ (isName n) l 0 with ⟨_, h2⟩ | ⟨h1, h2⟩
      · omega
      rw [h2]
      obtain ⟨j, hj⟩ : ∃ j : Nat, idxOf (isName n) l 0 = (j : Int) := ⟨(idxOf (isName n) l 0).toNat, by omega⟩
      have ih := erase_dropS n l hl h1
      rw [hj, Int.toNat_natCast] at ih
      rw [hj, show ((j : Int) + 1).toNat = j + 1 by omega, List.eraseIdx_cons_succ, ih]; rfl
theorem dropS_inOrder {l : List S59} (n : ByteArray) (h : inOrder l) : inOrder (dropS l n) := List.Pairwise.filter _ h
theorem mem_putW (n : ByteArray) (id : Int) : ∀ (l : List S59) (d : Bool) (x : S59), x ∈ putW n id l d → x = ⟨n, id⟩ ∨ x ∈ l
  | [], d, x, h => by
    rw [putW] at h
    split at h
    · cases h
    · exact .inl (List.mem_singleton.mp h)
  | y :: l, d, x, h => by
    rw [putW] at h
    rcases List.mem_append.mp h with h | h
    · split at h
      · exact .inl (List.mem_singleton.mp h)
      · cases h
    · rcases List.mem_append.mp h with h | h
      · split at h
        · cases h
        · exact .inr (by rw [List.mem_singleton.mp h]; exact List.mem_cons_self ..)
      · rcases mem_putW n id l _ x h with h | h
        · exact .inl h
        · exact .inr (List.mem_cons_of_mem _ h)
theorem putW_length (n : ByteArray) (id : Int) : ∀ (l : List S59) (d : Bool), (putW n id l d).length ≤ l.length + (if d = true then 0 else 1)
  | [], d => by rw [putW]; cases d <;> simp
  | y :: l, d => by
    have h := putW_length n id l (d || !Op.bytesLess y.f0.toList n.toList)
    rw [putW, List.length_append, List.length_append, List.length_cons]
    cases d <;> cases hb : Op.bytesLess y.f0.toList n.toList <;> cases hq : (y.f0.toList == n.toList) <;> rw [hb] at h <;> simp at h ⊢ <;> omega
/-! ### Texts as lists of bytes -/
def mkT (l : List UInt8) : ByteArray := ⟨l.toArray⟩
theorem mkT_list (l : List UInt8) : (mkT l).data.toList = l := rfl
theorem ba_ext {a b : ByteArray} (h : a.data.toList = b.data.toList) : a = b := by
  cases a; cases b
  exact congrArg ByteArray.mk (Array.toList_inj.1 h)
theorem toList_app2 (a b : ByteArray) : (a ++ b).data.toList = a.data.toList ++ b.data.toList := by rw [ByteArray.data_append, Array.toList_append]
open Go.Lib (decDigits itoa)
/-! ### A decimal numeral read back -/
def isDig (c : UInt8) : Prop := 48 ≤ c.toNat ∧ c.toNat ≤ 57
def dval (acc : Nat) (l : List UInt8) : Nat := l.foldl (fun n c => 10 * n + (c.toNat - 48)) acc
theorem dval_nil (acc : Nat) : dval acc [] = acc := rfl
theorem dval_cons (acc : Nat) (c : UInt8) (l : List UInt8) : dval acc (c :: l) = dval (10 * acc + (c.toNat - 48)) l := by unfold dval; rw [List.foldl_cons]
theorem dval_le : ∀ (l : List UInt8) (acc : Nat), acc ≤ dval acc l := by
  intro l
  induction l with
  | nil => intro acc; exact Nat.le_refl _
  | cons c l ih => intro acc; have := ih (10 * acc + (c.toNat - 48)); rw [dval_cons]; omega
theorem dval_snoc (c : UInt8) : ∀ (l : List UInt8) (acc : Nat), dval acc (l ++ [c]) = 10 * dval acc l + (c.toNat - 48) := by
  intro l
  induction l with
  | nil => intro acc; rw [List.nil_append, dval_cons, dval_nil, dval_nil]
  | cons d l ih => intro acc; rw [List.cons_append, dval_cons, ih, dval_cons]
theorem ofNat_dig (n : Nat) (h : n < 10) : (UInt8.ofNat (48 + n)).toNat = 48 + n := by rw [UInt8.toNat_ofNat']; omega
theorem decDigits_dig (u : Nat) : (∀ c ∈ decDigits u, isDig c) ∧ dval 0 (decDigits u) = u := by
  induction u using Nat.strongRecOn with
  | _ u ih =>
    rw [decDigits]
    by_cases h : u < 10
    · rw [dif_pos h]
      have e := ofNat_dig u h
      refine ⟨fun c hc => ?_, ?_⟩
      · rw [List.mem_singleton] at hc; subst hc; unfold isDig; omega
      · rw [dval_cons, dval_nil]; omega
    · rw [dif_neg h]
      obtain ⟨h1, h2⟩ := ih (u / 10) (by omega)
      have e := ofNat_dig (u % 10) (by omega)
      refine ⟨fun c hc => ?_, ?_⟩
      · rcases List.mem_append.1 hc with h | h
        · exact h1 c h
        · rw [List.mem_singleton] at h; subst h; unfold isDig; omega
      · rw [dval_snoc, h2, e]; omega
theorem decDigits_ne (u : Nat) : decDigits u ≠ [] := by
  rw [decDigits]
  split <;> simp
theorem decDigits_length (m : Nat) : ∀ u : Nat, u < 10 ^ (m + 1) → (decDigits u).length ≤ m + 1 := by
  induction m with
  | zero =>
    intro u h
    rw [decDigits, dif_pos (by omega)]; exact Nat.le_refl _
  | succ m ih =>
    intro u h
    rw [decDigits]
    by_cases c : u < 10
    · rw [dif_pos c]; show 1 ≤ _; omega
    · rw [dif_neg c, List.length_append, List.length_singleton]
      have := ih (u / 10) (Nat.div_lt_of_lt_mul (by rw [Nat.mul_comm, ← Nat.pow_succ]; exact h))
      omega
/-- What both read: the number whose numeral it is, in 0 .. 1000000000. -/
def IsDec (l : List UInt8) (v : Int) : Prop := 0 ≤ v ∧ v ≤ 1000000000 ∧ itoa v = l
theorem itoa_nat (u : Nat) : itoa (u : Int) = decDigits u := by
  unfold itoa
  rw [if_neg (by omega), Int.toNat_natCast]
theorem isDec_val {l : List UInt8} {v : Int} (h : IsDec l v) : (∀ c ∈ l, isDig c) ∧ ((dval 0 l : Nat) : Int) = v ∧ l ≠ [] ∧ l.length ≤ 10 := by
  obtain ⟨h0, h1, rfl⟩ := h
  obtain ⟨u, rfl⟩ := Int.eq_ofNat_of_zero_le h0
  rw [itoa_nat]
  obtain ⟨a, b⟩ := decDigits_dig u
  exact ⟨a, by rw [b], decDigits_ne u, decDigits_length 9 u (by omega)⟩
def decOut (s : ByteArray) (n : Nat) : Int × Bool := if n > 1000000000 then (0, false) else if (mkT (itoa (n : Int))).toList = s.toList then ((n : Int), true) else (0, false)
open Classical in
/-- What ReadDecimal tells. -/
noncomputable def readDec (s : ByteArray) : Int × Bool := if h : ∃ v, IsDec s.data.toList v then (h.choose, true) else (0, false)
theorem readDec_of {s : ByteArray} {v : Int} (h : IsDec s.data.toList v) : readDec s = (v, true) := by
  unfold readDec
  have hx : ∃ v, IsDec s.data.toList v := ⟨v, h⟩
  rw [dif_pos hx]
  have e1 := (isDec_val hx.choose_spec).2.1
  have e2 := (isDec_val h).2.1
  rw [← e1, ← e2]
theorem readDec_no {s : ByteArray} (h : ¬ ∃ v, IsDec s.data.toList v) : readDec s = (0, false) := by
  unfold readDec
  rw [dif_neg h]
theorem l01Figure_digit (n : Nat) (h : n < 10) : spec_l01Figure.f (n : Int) = some ((48 + n : Nat) : Int) := by
  unfold spec_l01Figure.f
  rw [if_pos (by omega), wrap64_id (by omega) (by omega)]; congr 1; omega
open Go.Lib (decDigits itoa)
def digitsNZ (u : Nat) : List UInt8 := if u = 0 then [] else decDigits u
theorem digitsNZ_step {u : Nat} (h : u ≠ 0) : digitsNZ u = digitsNZ (u / 10) ++ [UInt8.ofNat (48 + u % 10)] := by
  unfold digitsNZ
  rw [if_neg h, decDigits]
  by_cases c : u < 10
  · rw [dif_pos c, if_pos (by omega), Nat.mod_eq_of_lt c]; rfl
  · rw [dif_neg c, if_neg (by omega)]
theorem one_text (n : Nat) : (strOfNums [(n : Int)]).data.toList = [UInt8.ofNat n] := by
  show [UInt8.ofNat ((n : Int)).toNat] = _
  rw [Int.toNat_natCast]
theorem spec_Decimal_l0 (b : Bool) (m : Nat) : ∀ (x : Int) (s : ByteArray), x.natAbs < 10 ^ m → m ≤ 30 → s.size + m ≤ 100 → (-9223372036854775808 ≤ x ∧ x ≤ 9223372036854775807) →
    Ev (fun k => spec_Decimal.l0 k x b s) (mkT ((if b then [45] else []) ++ digitsNZ x.natAbs ++ s.data.toList)) := by
  induction m with
  | zero =>
    intro x s hx _ hs _
    obtain rfl : x = 0 := by simp at hx; omega
    refine Ev.step (fun k => by rw [spec_Decimal.l0]) (Ev.pos rfl ?_)
    cases b with
    | true =>
      refine Ev.pos rfl (Ev.pos (by omega) (Ev.const ?_))
      refine congrArg some (ba_ext ?_)
      rw [toList_app2, mkT_list]; rfl
    | false =>
      refine Ev.neg (by decide) (Ev.const ?_)
      refine congrArg some (ba_ext ?_)
      rw [mkT_list]; rfl
  | succ m ih =>
    intro x s hx hm hs hb
    by_cases h0 : x = 0
    · subst h0
      refine Ev.step (fun k => by rw [spec_Decimal.l0]) (Ev.pos rfl ?_)
      cases b with
      | true =>
        refine Ev.pos rfl (Ev.pos (by omega) (Ev.const ?_))
        refine congrArg some (ba_ext ?_)
        rw [toList_app2, mkT_list]; rfl
      | false =>
        refine Ev.neg (by decide) (Ev.const ?_)
        refine congrArg some (ba_ext ?_)
        rw [mkT_list]; rfl
    · have hlt : (Int.tdiv x 10).natAbs < 10 ^ m := by
        rw [Int.natAbs_tdiv]
        exact Nat.div_lt_of_lt_mul (by rw [Nat.pow_succ] at hx; rw [show (10 : Int).natAbs = 10 from rfl, Nat.mul_comm]; exact hx)
      have hq : (Int.tdiv x 10).natAbs = x.natAbs / 10 := by rw [Int.natAbs_tdiv]; rfl
      have hmod : (Int.tmod x 10).natAbs = x.natAbs % 10 := by rw [Int.natAbs_tmod]; rfl
      have hsum : 10 * Int.tdiv x 10 + Int.tmod x 10 = x := Int.mul_tdiv_add_tmod x 10
      have hqb : -9223372036854775808 ≤ Int.tdiv x 10 ∧ Int.tdiv x 10 ≤ 9223372036854775807 := by
        constructor <;> omega
      have go : ∀ d : Nat, d = x.natAbs % 10 → Ev (fun k => (some (([((48 + d : Nat) : Int)] : List Int) : List Int)).bind fun y => if (strOfNums y).size + s.size ≤ 9223372036854775807 then spec_Decimal.l0 k (wrap64 (Int.tdiv x 10)) b ((strOfNums y) ++ s) else none) (mkT ((if b then [45] else []) ++ digitsNZ x.natAbs ++ s.data.toList)) := by
        intro d hd
        have hz : (strOfNums [((48 + d : Nat) : Int)]).size = 1 := by rw [strOfNums_size]; rfl
        refine Ev.bind (Ev.const rfl) (Ev.pos (by rw [hz]; omega) ?_)
        rw [wrap64_id hqb.1 hqb.2]
        have := ih (Int.tdiv x 10) ((strOfNums [((48 + d : Nat) : Int)]) ++ s) hlt (by omega) (by rw [ByteArray.size_append, hz]; omega) hqb
        refine Ev.of_eq this ?_
        rw [toList_app2, one_text, hq, digitsNZ_step (u := x.natAbs) (by omega), hd]
        simp only [List.append_assoc]
      refine Ev.step (fun k => by rw [spec_Decimal.l0]) (Ev.neg h0 ?_)
      by_cases hneg : Int.tmod x 10 < 0
      · have e : wrap64 (-(Int.tmod x 10)) = ((x.natAbs % 10 : Nat) : Int) := by rw [wrap64_id (by omega) (by omega)]; omega
        refine Ev.pos hneg ?_
        rw [e]
        exact Ev.bind (Ev.const (l01Figure_digit _ (by omega))) (go _ rfl)
      · have e : Int.tmod x 10 = ((x.natAbs % 10 : Nat) : Int) := by omega
        refine Ev.neg hneg ?_
        rw [e]
        exact Ev.bind (Ev.const (l01Figure_digit _ (by omega))) (go _ rfl)
theorem spec_Decimal_ev (n : Int) (hn : -9223372036854775808 ≤ n ∧ n ≤ 9223372036854775807) : Ev (fun k => spec_Decimal.f k n) (mkT (itoa n)) := by
  unfold spec_Decimal.f
  by_cases h : n = 0
  · subst h
    refine Ev.pos rfl (Ev.const ?_)
    refine congrArg some (ba_ext ?_)
    rw [mkT_list]
    unfold itoa
    rw [if_neg (by decide), decDigits, dif_pos (by decide)]; rfl
  · refine Ev.neg h ?_
    have := spec_Decimal_l0 (decide (n < 0)) 19 n (⟨#[]⟩ : ByteArray) (Nat.lt_of_le_of_lt (m := 9223372036854775808) (by omega) (by decide)) (by decide) (by decide) hn
    refine Ev.of_eq this ?_
    refine ba_ext ?_
    rw [mkT_list, mkT_list]
    show (_ ++ digitsNZ n.natAbs) ++ [] = _
    rw [List.append_nil]
    have hd : digitsNZ n.natAbs = decDigits n.natAbs := if_neg (by omega)
    rw [hd]
    unfold itoa
    by_cases c : n < 0
    · rw [decide_eq_true c, if_pos c]; rfl
    · rw [decide_eq_false c, if_neg c, show n.natAbs = n.toNat by omega]; rfl
theorem spec_ReadDecimal_l0 (s : ByteArray) (hs : s.size ≤ 10) (m : Nat) : ∀ (i acc : Nat), i + m = s.size → acc < 10 ^ i →
    ∃ r, Ev (fun k => spec_ReadDecimal.l0 k s (acc : Int) (i : Int)) r ∧ ((∀ c ∈ s.data.toList.drop i, isDig c) → r = decOut s (dval acc (s.data.toList.drop i))) ∧ (¬ (∀ c ∈ s.data.toList.drop i, isDig c) → r = (0, false)) := by
  induction m with
  | zero =>
    intro i acc hi ha
    have hp : 10 ^ i ≤ 10 ^ 10 := Nat.pow_le_pow_right (by decide) (by omega)
    rw [List.drop_eq_nil_of_le (by rw [size_list]; omega)]
    refine ⟨decOut s acc, ?_, fun _ => rfl, fun h => absurd (fun c hc => absurd hc List.not_mem_nil) h⟩
    refine Ev.step (fun k => by rw [spec_ReadDecimal.l0]) (Ev.neg (by omega) ?_)
    unfold decOut
    by_cases c : acc > 1000000000
    · refine Ev.of_eq (r := (0, false)) ?_ (if_pos c).symm
      exact Ev.pos (by omega) (Ev.now _)
    · refine Ev.of_eq ?_ (if_neg c).symm
      refine Ev.neg (by omega) (Ev.bind (spec_Decimal_ev (acc : Int) (by omega)) ?_)
      by_cases e : (mkT (itoa (acc : Int))).toList = s.toList
      · refine Ev.of_eq (r := ((acc : Int), true)) ?_ (if_pos e).symm
        exact Ev.pos e (Ev.now _)
      · refine Ev.of_eq (r := (0, false)) ?_ (if_neg e).symm
        exact Ev.neg e (Ev.now _)
  | succ m ih =>
    intro i acc hi ha
    have hp : 10 ^ i ≤ 10 ^ 9 := Nat.pow_le_pow_right (by decide) (by omega)
    have hlt : i < s.size := by omega
    have hb := bt_list s i (by rw [size_list]; exact hlt)
    rw [drop_cons s i hlt]
    have hc := (s.data.toList[i]'(by rw [size_list]; exact hlt)).toNat_lt
    generalize (s.data.toList[i]'(by rw [size_list]; exact hlt)) = c at hc hb ⊢
    by_cases h1 : 48 ≤ c.toNat
    · by_cases h2 : c.toNat ≤ 57
      · obtain ⟨r, hr, h3, h4⟩ := ih (i + 1) (10 * acc + (c.toNat - 48)) (by omega) (by rw [Nat.pow_succ]; omega)
        refine ⟨r, ?_, fun h => h3 fun d hd => h d (List.mem_cons_of_mem _ hd), fun h => h4 fun h' => h fun d hd => ?_⟩
        · refine Ev.step (fun k => by rw [spec_ReadDecimal.l0]) (Ev.pos (by omega) (Ev.pos (by omega) ?_))
          rw [hb]
          refine Ev.neg (by omega) (Ev.neg (by omega) ?_)
          rw [wrap64_id (x := 10 * (acc : Int)) (by omega) (by omega), wrap64_id (x := (c.toNat : Int)) (by omega) (by omega), wrap64_id (x := 10 * (acc : Int) + (c.toNat : Int)) (by omega) (by omega), wrap64_id (by omega) (by omega), wrap64_id (by omega) (by omega)]
          rw [show 10 * (acc : Int) + (c.toNat : Int) - 48 = ((10 * acc + (c.toNat - 48) : Nat) : Int) by omega]
          exact hr
        · rcases List.mem_cons.1 hd with e | hd
          · rw [e]; exact ⟨h1, h2⟩
          · exact h' d hd
      · refine ⟨(0, false), ?_, fun h => absurd (h c (List.mem_cons_self ..)).2 h2, fun _ => rfl⟩
        refine Ev.step (fun k => by rw [spec_ReadDecimal.l0]) (Ev.pos (by omega) (Ev.pos (by omega) ?_))
        rw [hb]
        refine Ev.neg (by omega) ?_
        exact Ev.pos (by omega) (Ev.now _)
    · refine ⟨(0, false), ?_, fun h => absurd (h c (List.mem_cons_self ..)).1 h1, fun _ => rfl⟩
      refine Ev.step (fun k => by rw [spec_ReadDecimal.l0]) (Ev.pos (by omega) (Ev.pos (by omega) ?_))
      rw [hb]
      exact Ev.pos (by omega) (Ev.now _)
theorem spec_ReadDecimal_ev (s : ByteArray) (hs : s.size ≤ 140737488355328) : Ev (fun k => spec_ReadDecimal.f k s) (readDec s) := by
  unfold spec_ReadDecimal.f
  by_cases h : (s.size : Int) > 10
  · rw [readDec_no]
    · exact Ev.pos h (Ev.now _)
    · rintro ⟨v, hv⟩
      have := (isDec_val hv).2.2.2
      rw [size_list] at this
      omega
  · obtain ⟨r, hr, h3, h4⟩ := spec_ReadDecimal_l0 s (by omega) s.size 0 0 (by omega) (by decide)
    rw [List.drop_zero] at h3 h4
    refine Ev.neg h (Ev.of_eq hr ?_)
    by_cases hx : ∃ v, IsDec s.data.toList v
    · obtain ⟨v, hv⟩ := hx
      obtain ⟨a, b, _, _⟩ := isDec_val hv
      rw [readDec_of hv, h3 a]
      unfold decOut
      obtain ⟨v0, v1, v2⟩ := hv
      rw [if_neg (by omega), if_pos, b]
      rw [ByteArray.toList_eq, ByteArray.toList_eq, mkT_list, b, v2]
    · rw [readDec_no hx]
      by_cases hd : ∀ c ∈ s.data.toList, isDig c
      · rw [h3 hd]
        unfold decOut
        by_cases c1 : dval 0 s.data.toList > 1000000000
        · rw [if_pos c1]
        · rw [if_neg c1, if_neg]
          intro e
          rw [ByteArray.toList_eq, ByteArray.toList_eq, mkT_list] at e
          exact hx ⟨_, by omega, by omega, e⟩
      · exact h4 hd
theorem l01In_f (a b c : Int) : spec_l01In.f a b c = some (decide (b ≤ a ∧ a ≤ c)) := by
  unfold spec_l01In.f
  by_cases h : a ≥ b
  · rw [if_pos h]; congr 1; rw [decide_eq_decide]; omega
  · rw [if_neg h]; congr 1; symm; rw [decide_eq_false_iff_not]; omega
theorem spec_NameOk_l0 (s : ByteArray) (hs : s.size ≤ 140737488355328) (n : Nat) : ∀ (i : Nat), i + n = s.size →
    Ev (fun k => spec_NameOk.l0 k s (i : Int)) ((s.data.toList.drop i).all okc && decide (1 ≤ s.size ∧ s.size ≤ 20)) := by
  induction n with
  | zero =>
    intro i hi
    refine Ev.step (fun k => by rw [spec_NameOk.l0]) (Ev.neg (by omega) ?_)
    rw [l01In_f, List.drop_eq_nil_of_le (by rw [size_list]; omega)]
    refine Ev.bind (Ev.const rfl) (Ev.const ?_)
    refine congrArg some ?_
    rw [List.all_nil, Bool.true_and, decide_eq_decide]; omega
  | succ n ih =>
    intro i hi
    have hlt : i < s.size := by omega
    refine Ev.step (fun k => by rw [spec_NameOk.l0]) (Ev.pos (by omega) (Ev.pos (by omega) ?_))
    rw [bt_list s i (by rw [size_list]; exact hlt), drop_cons s i hlt, List.all_cons]
    have hc := (s.data.toList[i]'(by rw [size_list]; exact hlt)).toNat_lt
    have ih := ih (i + 1) (by omega)
    generalize s.data.toList[i]'(by rw [size_list]; exact hlt) = c at hc ⊢
    rw [wrap64_id (x := (c.toNat : Int)) (by omega) (by omega), wrap64_id (x := (i : Int) + 1) (by omega) (by omega), l01In_f, l01In_f]
    refine Ev.bind (Ev.const rfl) ?_
    by_cases h1 : 97 ≤ c.toNat ∧ c.toNat ≤ 122
    · refine Ev.pos (decide_eq_true (by omega)) ?_
      rw [okc_true (.inl h1), Bool.true_and]; exact ih
    · refine Ev.neg (by rw [decide_eq_false (by omega)]; decide) (Ev.bind (Ev.const rfl) ?_)
      by_cases h2 : 48 ≤ c.toNat ∧ c.toNat ≤ 57
      · refine Ev.pos (decide_eq_true (by omega)) ?_
        rw [okc_true (.inr (.inl h2)), Bool.true_and]; exact ih
      · refine Ev.neg (by rw [decide_eq_false (by omega)]; decide) ?_
        by_cases h3 : c.toNat = 46
        · refine Ev.pos (by omega) ?_
          rw [okc_true (.inr (.inr (.inl h3))), Bool.true_and]; exact ih
        · refine Ev.neg (by omega) ?_
          by_cases h4 : c.toNat = 45
          · refine Ev.pos (by omega) ?_
            rw [okc_true (.inr (.inr (.inr h4))), Bool.true_and]; exact ih
          · refine Ev.neg (by omega) ?_
            rw [okc_false h1 h2 h3 h4, Bool.false_and, Bool.false_and]; exact Ev.now _
theorem spec_NameOk_ev (s : ByteArray) (hs : s.size ≤ 140737488355328) : Ev (fun k => spec_NameOk.f k s) (nameOk s.data.toList) := by
  unfold spec_NameOk.f nameOk
  rw [size_list]
  exact spec_NameOk_l0 s hs s.size 0 (by omega)
/-! ### What a step says -/
def noStep : ByteArray × ByteArray × Int × Bool := (⟨#[]⟩, ⟨#[]⟩, 0, false)
noncomputable def stepFin (s n r : ByteArray) : ByteArray × ByteArray × Int × Bool := if bt s 0 = 62 then (n, r, 0, nameOk r.data.toList && (n.toList != r.toList)) else (n, ⟨#[]⟩, (readDec r).1, (readDec r).2 && nameOk n.data.toList)
noncomputable def stepOut (s : ByteArray) (i : Nat) : Option (List UInt8 × List UInt8) → ByteArray × ByteArray × Int × Bool
  | none => noStep
  | some p => stepFin s (s.extract 1 (i + p.1.length)) (s.extract (i + p.1.length + 1) s.size)
noncomputable def l06step (s : ByteArray) : ByteArray × ByteArray × Int × Bool := if s.size < 2 then noStep else if bt s 0 = 45 then (s.extract 1 s.size, ⟨#[]⟩, 0, true) else if bt s 0 = 43 ∨ bt s 0 = 62 then stepOut s 1 (cutAt 58 (s.data.toList.drop 1)) else noStep
theorem ext_size (s : ByteArray) (a b : Nat) : (s.extract a b).size ≤ s.size := by rw [ByteArray.size_extract]; omega
theorem l06Step_l0 (s : ByteArray) (hs : s.size ≤ 1048576) (n : Nat) : ∀ i : Nat, i + n = s.size → 1 ≤ i → Ev (fun k => spec_l06Step.l0 k s (i : Int)) (stepOut s i (cutAt 58 (s.data.toList.drop i))) := by
  induction n with
  | zero =>
    intro i hi h1
    rw [List.drop_eq_nil_of_le (by rw [size_list]; omega)]
    refine Ev.step (fun k => by rw [spec_l06Step.l0]) ?_
    exact Ev.neg (by omega) (Ev.now _)
  | succ n ih =>
    intro i hi h1
    have hlt : i < s.size := by omega
    have ih := ih (i + 1) (by omega) (by omega)
    refine Ev.step (fun k => by rw [spec_l06Step.l0]) ?_
    refine Ev.pos (by omega) (Ev.pos (by omega) ?_)
    have hb := bt_list s i (by rw [size_list]; exact hlt)
    rw [drop_cons s i hlt, cutAt]
    have e1 : ((i : Int)).toNat = i := Int.toNat_natCast i
    have e2 : wrap64 ((i : Int) + 1) = ((i + 1 : Nat) : Int) := by rw [wrap64_id (by omega) (by omega)]; omega
    have e3 : ((i + 1 : Nat) : Int).toNat = i + 1 := Int.toNat_natCast _
    by_cases hc : s.data.toList[i]'(by rw [size_list]; exact hlt) = 58
    · rw [if_pos hc]
      rw [hc] at hb
      replace hb : bt s (i : Int) = 58 := hb
      show Ev _ (stepFin s (s.extract 1 (i + 0)) (s.extract (i + 0 + 1) s.size))
      rw [Nat.add_zero]
      have hn := spec_NameOk_ev (s.extract 1 i) (by have := ext_size s 1 i; omega)
      have hr := spec_NameOk_ev (s.extract (i + 1) s.size) (by have := ext_size s (i + 1) s.size; omega)
      have hd := spec_ReadDecimal_ev (s.extract (i + 1) s.size) (by have := ext_size s (i + 1) s.size; omega)
      refine Ev.pos hb (Ev.pos (by omega) ?_)
      unfold stepFin
      refine Ev.step (fun k => by rw [spec_l06Step.j2]) ?_
      rw [e2, e1, e3]
      by_cases h62 : bt s 0 = 62
      · refine Ev.of_eq ?_ (if_pos h62).symm
        refine Ev.pos (beq_iff_eq.mpr h62) (Ev.pos (by omega) (Ev.pos (by omega) (Ev.pos (by omega) (Ev.pos (by omega) (Ev.bind hr ?_)))))
        cases nameOk (s.extract (i + 1) s.size).data.toList with
        | true => exact Ev.pos rfl (Ev.now _)
        | false => exact Ev.neg (by decide) (Ev.now _)
      · refine Ev.of_eq ?_ (if_neg h62).symm
        refine Ev.neg (by rw [beq_eq_false_iff_ne.mpr h62]; decide) (Ev.pos (by omega) (Ev.pos (by omega) (Ev.pos hb (Ev.pos (by omega) (Ev.pos (by omega) (Ev.bind hd (Ev.pos (by omega) (Ev.pos (by omega) ?_))))))))
        cases hq : (readDec (s.extract (i + 1) s.size)).2 with
        | true => exact Ev.pos rfl (Ev.bind hn (Ev.now _))
        | false => exact Ev.neg (by decide) (Ev.now _)
    · rw [if_neg hc]
      have hb2 : ¬ bt s (i : Int) = 58 := by
        rw [hb]
        intro e
        exact hc (UInt8.toNat_inj.mp (Int.ofNat_inj.mp e))
      refine Ev.neg hb2 (Ev.step (fun k => by rw [spec_l06Step.j2]) ?_)
      refine Ev.neg (by decide) (Ev.pos (by omega) (Ev.pos (by omega) (Ev.neg hb2 ?_)))
      rw [e2]
      refine Ev.of_eq ih ?_
      cases cutAt 58 (s.data.toList.drop (i + 1)) with
      | none => rfl
      | some p =>
        show stepFin s (s.extract 1 (i + 1 + p.1.length)) (s.extract (i + 1 + p.1.length + 1) s.size) = stepFin s (s.extract 1 (i + (p.1.length + 1))) (s.extract (i + (p.1.length + 1) + 1) s.size)
        rw [show i + 1 + p.1.length = i + (p.1.length + 1) by omega]
theorem l06Step_ev (s : ByteArray) (hs : s.size ≤ 1048576) : Ev (fun k => spec_l06Step.f k s) (l06step s) := by
  unfold spec_l06Step.f l06step
  by_cases h2 : s.size < 2
  · refine Ev.of_eq ?_ (if_pos h2).symm
    refine Ev.pos (by omega) (Ev.step (fun k => by rw [spec_l06Step.j0]) ?_)
    exact Ev.pos rfl (Ev.now _)
  refine Ev.of_eq ?_ (if_neg h2).symm
  have hl := l06Step_l0 s hs (s.size - 1) 1 (by omega) (by omega)
  refine Ev.neg (by omega) (Ev.pos (by omega) ?_)
  by_cases h43 : bt s 0 = 43
  · refine Ev.of_eq ?_ (if_neg (by omega)).symm
    refine Ev.of_eq ?_ (if_pos (.inl h43)).symm
    refine Ev.pos h43 (Ev.step (fun k => by rw [spec_l06Step.j0]) ?_)
    exact Ev.neg (by decide) (Ev.pos (by omega) (Ev.neg (by omega) hl))
  refine Ev.neg h43 ?_
  by_cases h45 : bt s 0 = 45
  · refine Ev.of_eq ?_ (if_pos h45).symm
    refine Ev.pos h45 (Ev.step (fun k => by rw [spec_l06Step.j0]) ?_)
    exact Ev.neg (by decide) (Ev.pos (by omega) (Ev.pos h45 (Ev.pos (by omega) (Ev.now _))))
  refine Ev.neg h45 (Ev.of_eq ?_ (if_neg h45).symm)
  by_cases h62 : bt s 0 = 62
  · refine Ev.of_eq ?_ (if_pos (.inr h62)).symm
    refine Ev.step (fun k => by rw [spec_l06Step.j0]) ?_
    exact Ev.neg (by rw [h62]; decide) (Ev.pos (by omega) (Ev.neg h45 hl))
  · refine Ev.of_eq ?_ (if_neg (by omega)).symm
    refine Ev.step (fun k => by rw [spec_l06Step.j0]) ?_
    exact Ev.pos (bne_iff_ne.mpr h62) (Ev.now _)
theorem l06step_byte (s : ByteArray) (h : (l06step s).2.2.2 = true) : 2 ≤ s.size ∧ (bt s 0 = 43 ∨ bt s 0 = 45 ∨ bt s 0 = 62) := by
  unfold l06step at h
  by_cases h2 : s.size < 2
  · rw [if_pos h2] at h; cases h
  rw [if_neg h2] at h
  refine ⟨by omega, ?_⟩
  by_cases h45 : bt s 0 = 45
  · exact .inr (.inl h45)
  rw [if_neg h45] at h
  by_cases h4 : bt s 0 = 43 ∨ bt s 0 = 62
  · rcases h4 with h4 | h4
    · exact .inl h4
    · exact .inr (.inr h4)
  · rw [if_neg h4] at h; cases h
theorem l06step_size (s : ByteArray) : (l06step s).1.size ≤ s.size ∧ (l06step s).2.1.size ≤ s.size := by
  have hf : ∀ n r : ByteArray, n.size ≤ s.size → r.size ≤ s.size → (stepFin s n r).1.size ≤ s.size ∧ (stepFin s n r).2.1.size ≤ s.size := fun n r h1 h2 => by
    unfold stepFin
    split
    · exact ⟨h1, h2⟩
    · exact ⟨h1, Nat.zero_le _⟩
  have ho : ∀ i o, (stepOut s i o).1.size ≤ s.size ∧ (stepOut s i o).2.1.size ≤ s.size := fun i o => by
    cases o with
    | none => exact ⟨Nat.zero_le _, Nat.zero_le _⟩
    | some p => exact hf _ _ (ext_size ..) (ext_size ..)
  unfold l06step
  split
  · exact ⟨Nat.zero_le _, Nat.zero_le _⟩
  split
  · exact ⟨ext_size .., Nat.zero_le _⟩
  split
  · exact ho _ _
  · exact ⟨Nat.zero_le _, Nat.zero_le _⟩
/-! ### A node's place, and a name's node -/
def idIs (n : Int) : S57 → Bool := fun x => x.f0 == n
def nodeIx (a : List S57) (n : Int) : Int := idxOf (idIs n) a 0
theorem spec_l05Node_l0 (a : List S57) (b c : List S59) (d : List ByteArray) (e f : Int) (v : Int) (hl : a.length ≤ 1048576) (n : Nat) : ∀ i : Nat, i + n = a.length → Ev (fun k => spec_l05Node.l0 k v (i : Int) a b c d e f) (idxOf (idIs v) (a.drop i) i) := by
  induction n with
  | zero =>
    intro i hi
    rw [List.drop_eq_nil_of_le (by omega)]
    refine Ev.step (fun k => by rw [spec_l05Node.l0]) ?_
    exact Ev.neg (by omega) (Ev.now _)
  | succ n ih =>
    intro i hi
    have hi2 : i < a.length := by omega
    refine Ev.step (fun k => by rw [spec_l05Node.l0]) (Ev.pos (by omega) (Ev.pos (by omega) ?_))
    rw [rd_INode a i hi2, List.drop_eq_getElem_cons hi2]
    by_cases h : a[i].f0 = v
    · rw [idxOf_hit (idIs v) _ _ i (beq_iff_eq.mpr h)]
      exact Ev.pos h (Ev.now _)
    · rw [idxOf_miss (idIs v) _ _ i (beq_eq_false_iff_ne.mpr h)]
      refine Ev.neg h ?_
      rw [wrap64_id (by omega) (by omega)]
      exact ih (i + 1) (by omega)
theorem spec_l05Node_ev (a : List S57) (b c : List S59) (d : List ByteArray) (e f : Int) (v : Int) (hl : a.length ≤ 1048576) : Ev (fun k => spec_l05Node.f k a b c d e f v) (nodeIx a v) := by
  unfold spec_l05Node.f
  exact spec_l05Node_l0 a b c d e f v hl a.length 0 (by omega)
theorem spec_l06Has_l0 (l : List S59) (a : ByteArray) (hl : l.length ≤ 1048576) (n : Nat) : ∀ i : Nat, i + n = l.length → Ev (fun k => spec_l06Has.l0 k l a (i : Int)) (decide (0 ≤ idxOf (named a) (l.drop i) i)) := by
  induction n with
  | zero =>
    intro i hi
    rw [List.drop_eq_nil_of_le (by omega)]
    refine Ev.step (fun k => by rw [spec_l06Has.l0]) ?_
    exact Ev.neg (by omega) (Ev.now _)
  | succ n ih =>
    intro i hi
    have hi2 : i < l.length := by omega
    refine Ev.step (fun k => by rw [spec_l06Has.l0]) (Ev.pos (by omega) (Ev.pos (by omega) ?_))
    rw [rd_IEntry l i hi2, List.drop_eq_getElem_cons hi2]
    by_cases h : l[i].f0.toList = a.toList
    · rw [idxOf_hit (named a) _ _ i (beq_iff_eq.mpr h), decide_eq_true (by omega)]
      exact Ev.pos h (Ev.now _)
    · rw [idxOf_miss (named a) _ _ i (beq_eq_false_iff_ne.mpr h)]
      refine Ev.neg h ?_
      rw [wrap64_id (by omega) (by omega)]
      exact ih (i + 1) (by omega)
theorem spec_l06Has_ev (l : List S59) (a : ByteArray) (hl : l.length ≤ 1048576) : Ev (fun k => spec_l06Has.f k l a) (decide (0 ≤ placeE l a)) := by
  unfold spec_l06Has.f
  exact spec_l06Has_l0 l a hl l.length 0 (by omega)
theorem nodeIx_range (a : List S57) (v : Int) : -1 ≤ nodeIx a v ∧ nodeIx a v < (a.length : Int) := idxOf_range _ a
def brought (n least most : Int) : Int := if most < least then least else if n < least then least else if n > most then most else n
theorem spec_Brought_ev (n a b : Int) : Ev (fun k => spec_Brought.f k n a b) (brought n a b) := by
  unfold spec_Brought.f
  by_cases h : b < a
  · refine Ev.of_eq (r := a) ?_ (if_pos h).symm
    refine Ev.pos h (Ev.step (fun k => by rw [spec_Brought.j0]) ?_)
    exact Ev.pos rfl (Ev.now _)
  · refine Ev.neg h (Ev.step (fun k => by rw [spec_Brought.j0]) ?_)
    by_cases h1 : n < a
    · refine Ev.of_eq (r := a) ?_ ((if_neg h).trans (if_pos h1)).symm
      exact Ev.pos (by simpa using h1) (Ev.now _)
    · refine Ev.neg (by simpa using h1) ?_
      by_cases h2 : n > b
      · refine Ev.of_eq (r := b) ?_ ((if_neg h).trans ((if_neg h1).trans (if_pos h2))).symm
        exact Ev.pos h2 (Ev.now _)
      · refine Ev.of_eq (r := n) ?_ ((if_neg h).trans ((if_neg h1).trans (if_neg h2))).symm
        exact Ev.neg h2 (Ev.now _)
/-! ### Steps one by one -/
noncomputable def stepS (l : List S59) (s : ByteArray) : Option (List S59) :=
  if (l06step s).2.2.2 = true ∧ nameOk (l06step s).1.data.toList = true ∧ (bt s 0 = 43 ∨ 0 ≤ placeE l (l06step s).1) then
    some (if bt s 0 = 43 then putW (l06step s).1 (l06step s).2.2.1 l false else if bt s 0 = 45 then dropS l (l06step s).1 else putW (l06step s).2.1 (entAt l (l06step s).1) (dropS l (l06step s).1) false)
  else none
noncomputable def doneS : List S59 → List ByteArray → Option (List S59)
  | l, [] => some l
  | l, s :: r => match stepS l s with | none => none | some l' => doneS l' r
def doneRes : Option (List S59) → List S59 × Bool
  | none => ([], false)
  | some l => (l, true)
theorem stepS_length {l l' : List S59} {s : ByteArray} (h : stepS l s = some l') : l'.length ≤ l.length + 1 := by
  unfold stepS at h
  split at h
  · obtain rfl := Option.some.inj h
    have hd : (dropS l (l06step s).1).length ≤ l.length := List.length_filter_le ..
    split
    · exact putW_length ..
    split
    · omega
    · exact Nat.le_trans (putW_length ..) (by simpa using hd)
  · cases h
theorem stepS_small {l l' : List S59} {s : ByteArray} (h : stepS l s = some l') (hl : ∀ x ∈ l, x.f0.size ≤ 1048576) (hs : s.size ≤ 1048576) : ∀ x ∈ l', x.f0.size ≤ 1048576 := by
  have hz := l06step_size s
  unfold stepS at h
  split at h
  · obtain rfl := Option.some.inj h
    intro x hx
    have hd : ∀ y ∈ dropS l (l06step s).1, y.f0.size ≤ 1048576 := fun y hy => hl y (List.mem_filter.mp hy).1
    split at hx
    · rcases mem_putW _ _ _ _ _ hx with rfl | hx
      · exact Nat.le_trans hz.1 hs
      · exact hl x hx
    split at hx
    · exact hd x hx
    · rcases mem_putW _ _ _ _ _ hx with rfl | hx
      · exact Nat.le_trans hz.2 hs
      · exact hd x hx
  · cases h
theorem doneS_snoc : ∀ (r : List ByteArray) (l : List S59) (s : ByteArray), doneS l (r ++ [s]) = match doneS l r with | none => none | some l' => stepS l' s
  | [], l, s => by
    show (match stepS l s with | none => none | some l' => some l') = stepS l s
    cases stepS l s <;> rfl
  | x :: r, l, s => by
    rw [List.cons_append, doneS, doneS]
    cases stepS l x with
    | none => rfl
    | some l2 => exact doneS_snoc r l2 s
theorem l06Put_l0 (n : ByteArray) (id : Int) (l : List S59) (hl : l.length ≤ 1048576) (m : Nat) : ∀ (i : Nat) (acc : List S59) (d : Bool), i + m = l.length → acc.length ≤ 2 * i + 1 →
    Ev (fun k => spec_l06Put.l0 k l acc d (i : Int) n id) (acc ++ putW n id (l.drop i) d) := by
  induction m with
  | zero =>
    intro i acc d hi ha
    rw [List.drop_eq_nil_of_le (by omega), putW]
    refine Ev.step (fun k => by rw [spec_l06Put.l0]) ?_
    refine Ev.neg (by omega) ?_
    cases d with
    | true => exact Ev.pos rfl (Ev.const (by rw [if_pos rfl, List.append_nil]))
    | false => exact Ev.neg (by decide) (Ev.pos (by omega) (Ev.now _))
  | succ m ih =>
    intro i acc d hi ha
    have hi2 : i < l.length := by omega
    have hw : wrap64 ((i : Int) + 1) = ((i + 1 : Nat) : Int) := by rw [wrap64_id (by omega) (by omega)]; omega
    have hr := rd_IEntry l i hi2
    rw [List.drop_eq_getElem_cons hi2, putW]
    refine Ev.step (fun k => by rw [spec_l06Put.l0]) ?_
    refine Ev.pos (by omega) ?_
    have hput : ∀ (acc2 : List S59) (d2 : Bool), acc2.length ≤ 2 * i + 2 → Ev (fun k => if ((rd_T59 l (i : Int)).f0).toList = n.toList then (spec_l06Put.l0 k l acc2 d2 (wrap64 ((i : Int) + 1)) n id) else (if acc2.length < 5864062014805 then (spec_l06Put.l0 k l (acc2 ++ [(⟨(rd_T59 l (i : Int)).f0, (rd_T59 l (i : Int)).f1⟩ : S59)]) d2 (wrap64 ((i : Int) + 1)) n id) else none)) (acc2 ++ ((if (l[i].f0.toList == n.toList) = true then [] else [l[i]]) ++ putW n id (l.drop (i + 1)) d2)) := by
      intro acc2 d2 h2
      rw [hr, hw]
      by_cases he : l[i].f0.toList = n.toList
      · refine Ev.pos he ?_
        rw [if_pos (beq_iff_eq.mpr he), List.nil_append]
        exact ih (i + 1) acc2 d2 (by omega) (by omega)
      · refine Ev.neg he (Ev.pos (by omega) ?_)
        rw [if_neg (by rw [beq_eq_false_iff_ne.mpr he]; decide), ← List.append_assoc]
        exact ih (i + 1) (acc2 ++ [l[i]]) d2 (by omega) (by rw [List.length_append, List.length_singleton]; omega)
    cases d with
    | true =>
      refine Ev.pos rfl (Ev.step (fun k => by rw [spec_l06Put.j1]) ?_)
      refine Ev.neg (by decide) (Ev.pos (by omega) (Ev.pos (by omega) ?_))
      exact hput acc true (by omega)
    | false =>
      refine Ev.neg (by decide) (Ev.pos (by omega) (Ev.step (fun k => by rw [spec_l06Put.j1]) ?_))
      cases hb : Op.bytesLess l[i].f0.toList n.toList with
      | true =>
        refine Ev.neg (by rw [hr, hb]; decide) (Ev.pos (by omega) (Ev.pos (by omega) ?_))
        exact hput acc false (by omega)
      | false =>
        refine Ev.pos (by rw [hr, hb]; rfl) (Ev.pos (by omega) (Ev.bind (Ev.const rfl) (Ev.pos (by omega) (Ev.pos (by omega) ?_))))
        refine Ev.of_eq (hput (acc ++ [⟨n, id⟩]) true (by rw [List.length_append, List.length_singleton]; omega)) ?_
        rw [List.append_assoc]; rfl
theorem l06Put_ev (n : ByteArray) (id : Int) (l : List S59) (hl : l.length ≤ 1048576) : Ev (fun k => spec_l06Put.f k l n id) (putW n id l false) := by
  unfold spec_l06Put.f
  exact l06Put_l0 n id l hl l.length 0 [] false (by omega) (by simp)
theorem l06Drop_l0 (n : ByteArray) (l : List S59) (hl : l.length ≤ 1048576) (m : Nat) : ∀ (i : Nat) (acc : List S59), i + m = l.length → acc.length ≤ i →
    Ev (fun k => spec_l06Drop.l0 k l n acc (i : Int)) (acc ++ dropS (l.drop i) n) := by
  induction m with
  | zero =>
    intro i acc hi ha
    rw [List.drop_eq_nil_of_le (by omega)]
    refine Ev.step (fun k => by rw [spec_l06Drop.l0]) ?_
    exact Ev.neg (by omega) (Ev.const (by rw [show dropS [] n = [] from rfl, List.append_nil]))
  | succ m ih =>
    intro i acc hi ha
    have hi2 : i < l.length := by omega
    have hw : wrap64 ((i : Int) + 1) = ((i + 1 : Nat) : Int) := by rw [wrap64_id (by omega) (by omega)]; omega
    rw [List.drop_eq_getElem_cons hi2]
    refine Ev.step (fun k => by rw [spec_l06Drop.l0]) ?_
    refine Ev.pos (by omega) (Ev.pos (by omega) ?_)
    rw [rd_IEntry l i hi2, hw]
    by_cases he : l[i].f0.toList = n.toList
    · refine Ev.pos he ?_
      rw [show dropS (l[i] :: l.drop (i + 1)) n = dropS (l.drop (i + 1)) n from List.filter_cons_of_neg (by rw [beq_iff_eq.mpr he]; decide)]
      exact ih (i + 1) acc (by omega) (by omega)
    · refine Ev.neg he (Ev.pos (by omega) ?_)
      rw [show dropS (l[i] :: l.drop (i + 1)) n = l[i] :: dropS (l.drop (i + 1)) n from List.filter_cons_of_pos (by rw [beq_eq_false_iff_ne.mpr he]; decide)]
      have := ih (i + 1) (acc ++ [l[i]]) (by omega) (by rw [List.length_append, List.length_singleton]; omega)
      rw [List.append_assoc] at this
      exact this
theorem l06Drop_ev (n : ByteArray) (l : List S59) (hl : l.length ≤ 1048576) : Ev (fun k => spec_l06Drop.f k l n) (dropS l n) := by
  unfold spec_l06Drop.f
  exact l06Drop_l0 n l hl l.length 0 [] (by omega) (by simp)
theorem StepsDone_l0 (steps : List ByteArray) (hn : steps.length ≤ 1048576) (hs : ∀ s ∈ steps, s.size ≤ 1048576) (m : Nat) (hm : m ≤ steps.length) (n : Nat) : ∀ (i : Nat) (l : List S59), i + n = m → l.length + n ≤ 1048576 →
    Ev (fun k => spec_StepsDone.l0 k steps (m : Int) l (i : Int)) (doneRes (doneS l ((steps.take m).drop i))) := by
  induction n with
  | zero =>
    intro i l hi hl
    rw [List.drop_eq_nil_of_le (by rw [List.length_take]; omega)]
    refine Ev.step (fun k => by rw [spec_StepsDone.l0]) ?_
    exact Ev.neg (by omega) (Ev.now _)
  | succ n ih =>
    intro i l hi hl
    have hi2 : i < steps.length := by omega
    have hw : wrap64 ((i : Int) + 1) = ((i + 1 : Nat) : Int) := by rw [wrap64_id (by omega) (by omega)]; omega
    have hr := rd_S steps i hi2
    have hd : (steps.take m).drop i = steps[i] :: (steps.take m).drop (i + 1) := by
      rw [List.drop_eq_getElem_cons (by rw [List.length_take]; omega), List.getElem_take]
    have hz := hs steps[i] (List.getElem_mem hi2)
    rw [hd, doneS]
    refine Ev.step (fun k => by rw [spec_StepsDone.l0]) ?_
    refine Ev.pos (by omega) (Ev.pos (by omega) (Ev.pos (by omega) ?_))
    rw [hr]
    generalize steps[i] = s at hr hz
    have hsz := l06step_size s
    have hby := l06step_byte s
    refine Ev.bind (l06Step_ev s hz) ?_
    unfold stepS
    generalize l06step s = q at hsz hby
    obtain ⟨nm, tn, id, ok⟩ := q
    have nostep : Ev (fun k => spec_StepsDone.j1 k steps (m : Int) l (i : Int) nm tn id true) (doneRes none) := by
      refine Ev.step (fun k => by rw [spec_StepsDone.j1]) ?_
      exact Ev.pos rfl (Ev.now _)
    simp only at hsz hby ⊢
    cases ok with
    | false => exact Ev.neg (by decide) (Ev.of_eq nostep (by rw [if_neg (fun h => by cases h.1)]))
    | true =>
      obtain ⟨h2, hby⟩ := hby rfl
      refine Ev.pos rfl (Ev.bind (spec_NameOk_ev nm (by omega)) ?_)
      cases hno : nameOk nm.data.toList with
      | false => exact Ev.neg (by decide) (Ev.of_eq nostep (by rw [if_neg (fun h => by cases h.2.1)]))
      | true =>
        refine Ev.pos rfl (Ev.pos (by omega) ?_)
        have next : ∀ id2 : Int, (∀ l2, (if bt s 0 = 43 then putW nm id2 l false else if bt s 0 = 45 then dropS l nm else putW tn id2 (dropS l nm) false) = l2 → l2.length ≤ l.length + 1) → Ev (fun k => spec_StepsDone.j2 k steps (m : Int) l (i : Int) nm tn id2) (doneRes (doneS (if bt s 0 = 43 then putW nm id2 l false else if bt s 0 = 45 then dropS l nm else putW tn id2 (dropS l nm) false) ((steps.take m).drop (i + 1)))) := fun id2 hlen => by
          refine Ev.step (fun k => by rw [spec_StepsDone.j2]) ?_
          refine Ev.pos (by omega) (Ev.pos (by omega) ?_)
          rw [hr, hw]
          obtain ⟨l2, hl2⟩ : ∃ l2, (if bt s 0 = 43 then putW nm id2 l false else if bt s 0 = 45 then dropS l nm else putW tn id2 (dropS l nm) false) = l2 := ⟨_, rfl⟩
          have ih2 := ih (i + 1) l2 (by omega) (by have := hlen l2 hl2; omega)
          rw [hl2]
          refine Ev.pos (by omega) ?_
          by_cases h43 : bt s 0 = 43
          · rw [if_pos h43] at hl2
            subst hl2
            exact Ev.pos h43 (Ev.neg (by omega) (Ev.bind (l06Put_ev nm id2 l (by omega)) ih2))
          rw [if_neg h43] at hl2
          refine Ev.neg h43 (Ev.bind (l06Drop_ev nm l (by omega)) ?_)
          by_cases h45 : bt s 0 = 45
          · rw [if_pos h45] at hl2
            subst hl2
            exact Ev.pos h45 ih2
          · rw [if_neg h45] at hl2
            subst hl2
            have hdl : (dropS l nm).length ≤ l.length := List.length_filter_le ..
            exact Ev.neg h45 (Ev.bind (l06Put_ev tn id2 (dropS l nm) (by omega)) ih2)
        have go : ∀ P : Prop, ∀ dec : Decidable P, P → Ev (fun k => spec_StepsDone.j1 k steps (m : Int) l (i : Int) nm tn id false) (doneRes (match (if P then some (if bt s 0 = 43 then putW nm id l false else if bt s 0 = 45 then dropS l nm else putW tn (entAt l nm) (dropS l nm) false) else none) with | none => none | some l' => doneS l' ((steps.take m).drop (i + 1)))) := fun P dec hP => by
          rw [if_pos hP]
          refine Ev.step (fun k => by rw [spec_StepsDone.j1]) ?_
          refine Ev.neg (by decide) (Ev.pos (by omega) (Ev.pos (by omega) ?_))
          rw [hr]
          have hlen : ∀ id2 : Int, ∀ l2, (if bt s 0 = 43 then putW nm id2 l false else if bt s 0 = 45 then dropS l nm else putW tn id2 (dropS l nm) false) = l2 → l2.length ≤ l.length + 1 := fun id2 l2 h => by
            subst h
            have hdl : (dropS l nm).length ≤ l.length := List.length_filter_le ..
            split
            · exact putW_length ..
            split
            · omega
            · exact Nat.le_trans (putW_length ..) (by simpa using hdl)
          refine Ev.pos (by omega) ?_
          by_cases h62 : bt s 0 = 62
          · refine Ev.pos h62 (Ev.bind (spec_EntryAt_ev l nm (by omega)) ?_)
            refine Ev.of_eq (next (entAt l nm) (hlen _)) ?_
            simp only [if_neg (by omega : ¬ bt s 0 = 43), if_neg (by omega : ¬ bt s 0 = 45)]
          · refine Ev.neg h62 (Ev.of_eq (next id (hlen _)) ?_)
            rcases hby with h | h | h
            · simp only [if_pos h]
            · simp only [if_neg (by omega : ¬ bt s 0 = 43), if_pos h]
            · exact absurd h h62
        by_cases h43 : bt s 0 = 43
        · exact Ev.pos h43 (go _ _ ⟨rfl, rfl, .inl h43⟩)
        · refine Ev.neg h43 (Ev.bind (spec_l06Has_ev l nm (by omega)) ?_)
          by_cases hp : 0 ≤ placeE l nm
          · rw [decide_eq_true hp]
            exact go _ _ ⟨rfl, rfl, .inr hp⟩
          · rw [decide_eq_false hp]
            exact Ev.of_eq nostep (by rw [if_neg (fun h => h.2.2.elim h43 hp)])
theorem StepsDone_ev (old : List S59) (steps : List ByteArray) (hn : old.length + steps.length ≤ 1048576) (hs : ∀ s ∈ steps, s.size ≤ 1048576) (m : Nat) (hm : m ≤ steps.length) :
    Ev (fun k => spec_StepsDone.f k old steps (m : Int)) (doneRes (doneS old (steps.take m))) := by
  unfold spec_StepsDone.f
  refine Ev.bind (Ev.const rfl) (Ev.pos (by simp; omega) (Ev.bind (spec_Brought_ev _ _ _) ?_))
  have hb : brought (m : Int) 0 (steps.length : Int) = (m : Int) := by
    unfold brought
    rw [if_neg (by omega), if_neg (by omega), if_neg (by omega)]
  rw [hb, List.nil_append]
  exact StepsDone_l0 steps (by omega) hs m hm m 0 old (by omega) (by omega)
theorem impl_Decimal_f (n : Int) (hn : -9223372036854775808 ≤ n ∧ n ≤ 9223372036854775807) : impl_Decimal.f n = some (mkT (Go.Lib.itoa n)) := by
  unfold impl_Decimal.f
  rw [if_pos hn]; rfl
theorem within_f (a b c : Int) : impl_within.f a b c = some (decide (b ≤ a ∧ a ≤ c)) := by
  unfold impl_within.f
  by_cases h : a ≥ b
  · rw [if_pos h]; congr 1; rw [decide_eq_decide]; omega
  · rw [if_neg h]; congr 1; symm; rw [decide_eq_false_iff_not]; omega
theorem isNumber_f (a : Int) : impl_isNumber.f a = some (decide (0 ≤ a ∧ a ≤ 1000000000)) := by
  unfold impl_isNumber.f
  rw [within_f]; rfl
theorem parseUint10_dig : ∀ (l : List UInt8) (acc : Nat), (∀ c ∈ l, isDig c) → dval acc l ≤ 1000000000 → Go.Lib.parseUint10 acc l = .ok (dval acc l) := by
  intro l
  induction l with
  | nil => intro acc _ _; rfl
  | cons c l ih =>
    intro acc h hv
    have hc := h c (List.mem_cons_self ..)
    unfold isDig at hc
    rw [dval_cons] at hv
    have h1 := dval_le l (10 * acc + (c.toNat - 48))
    have := ih (10 * acc + (c.toNat - 48)) (fun d hd => h d (List.mem_cons_of_mem _ hd)) hv
    rw [Go.Lib.parseUint10, if_pos hc, if_neg (by omega), if_neg (by omega), dval_cons, Nat.mul_comm acc 10]
    exact this
theorem atoiAll_dec {l : List UInt8} {v : Int} (h : IsDec l v) : Go.Lib.atoiAll l = .ok v := by
  obtain ⟨hd, hv, hne, _⟩ := isDec_val h
  obtain ⟨h0, h1, _⟩ := h
  cases l with
  | nil => exact absurd rfl hne
  | cons c l =>
    have hc := hd c (List.mem_cons_self ..)
    unfold isDig at hc
    have hp := parseUint10_dig (c :: l) 0 hd (by omega)
    unfold Go.Lib.atoiAll
    simp only
    rw [if_neg (by omega)]
    unfold Go.Lib.parseMag
    rw [if_neg (by simp), hp]
    simp only
    rw [if_neg (by omega), if_neg (by omega), if_neg (by omega), hv]
theorem impl_ReadDecimal_f (s : ByteArray) (hs : s.size ≤ 281474976710656) : impl_ReadDecimal.f s = some (readDec s) := by
  unfold impl_ReadDecimal.f
  rw [if_pos hs]
  by_cases hx : ∃ v, IsDec s.data.toList v
  · obtain ⟨v, hv⟩ := hx
    rw [readDec_of hv, atoiAll_dec hv]
    obtain ⟨v0, v1, v2⟩ := hv
    simp only
    rw [isNumber_f, impl_Decimal_f v (by omega)]
    simp only [Option.bind_some]
    rw [if_pos (decide_eq_true ⟨v0, v1⟩), if_pos]
    rw [ByteArray.toList_eq, ByteArray.toList_eq, mkT_list, v2]
  · rw [readDec_no hx]
    cases hv : Go.Lib.atoiAll s.data.toList with
    | ok v =>
      simp only
      rw [isNumber_f]
      simp only [Option.bind_some]
      by_cases c : 0 ≤ v ∧ v ≤ 1000000000
      · rw [if_pos (decide_eq_true c), impl_Decimal_f v (by omega)]
        simp only [Option.bind_some]
        rw [if_neg]
        intro e
        rw [ByteArray.toList_eq, ByteArray.toList_eq, mkT_list] at e
        exact hx ⟨v, c.1, c.2, e⟩
      · rw [if_neg (by rw [decide_eq_false c]; decide)]
    | _ => rfl
/-! ### The program's step on entries in order -/
theorem bt_get (s : ByteArray) (h : 0 < s.size) : bt s 0 = ((s.get! 0).toNat : Int) := by
  have h1 := bt_list s 0 (by rw [size_list]; exact h)
  have h2 : s.get! 0 = s.data.toList[0]'(by rw [size_list]; exact h) := by
    show s.data[0]! = _
    rw [getElem!_pos s.data 0 h, Array.getElem_toList]
  rw [h2]
  exact h1
theorem get_iff (s : ByteArray) (h : 0 < s.size) (c : UInt8) : s.get! 0 = c ↔ bt s 0 = (c.toNat : Int) := by
  rw [bt_get s h]
  exact ⟨fun e => by rw [e], fun e => UInt8.toNat_inj.mp (Int.ofNat_inj.mp e)⟩
theorem ext_list (s : ByteArray) (a b : Nat) : (s.extract a b).data.toList = (s.data.toList.drop a).take (b - a) := by
  rw [ByteArray.data_extract, Array.toList_extract]
  first | done | rfl
theorem ba_of {l : List UInt8} {t : ByteArray} (h : t.data.toList = l) : (⟨l.toArray⟩ : ByteArray) = t := by
  apply ByteArray.ext; apply Array.ext'
  exact h.symm
theorem cutR_eq (s : ByteArray) : cutR (s.extract 1 s.size) = match cutAt 58 (s.data.toList.drop 1) with | none => (s.extract 1 s.size, ⟨#[]⟩, false) | some p => (s.extract 1 (1 + p.1.length), s.extract (1 + p.1.length + 1) s.size, true) := by
  have hu : (s.extract 1 s.size).data.toList = s.data.toList.drop 1 := by
    rw [ext_list, List.take_of_length_le (by rw [List.length_drop, size_list]; exact Nat.le_refl _)]
  unfold cutR
  rw [hu]
  rcases cutAt_index 58 (s.data.toList.drop 1) with ⟨h, _⟩ | ⟨i, hi, _, h⟩
  · rw [h]
  · rw [h]
    have hl : ((s.data.toList.drop 1).take i).length = i := by rw [List.length_take]; omega
    refine Prod.ext (ba_of ?_) (Prod.ext (ba_of ?_) rfl)
    · rw [ext_list, hl]
      congr 1
      omega
    · rw [ext_list, hl, List.drop_drop, List.take_of_length_le (by rw [List.length_drop, size_list]; exact Nat.le_refl _), show 1 + (i + 1) = 1 + i + 1 by omega]
theorem nameOk_nil : nameOk [] = false := rfl
theorem dropR_eq {l : List S59} (ho : inOrder l) (n : ByteArray) : dropR l n = if 0 ≤ placeE l n ∧ nameOk n.data.toList = true then (dropS l n, true) else ([], false) := by
  unfold dropR
  rw [nmOk_nameOk]
  by_cases h : 0 ≤ placeE l n ∧ nameOk n.data.toList = true
  · rw [if_pos h]
    refine (if_pos h).trans ?_
    rw [erase_dropS n l ho h.1]
  · rw [if_neg h]
    exact if_neg h
theorem stepR_eq {l : List S59} (ho : inOrder l) (s : ByteArray) (rd : ByteArray → Int × Bool) (hrd : s.get! 0 = 43 → rd (cutR (s.extract 1 s.size)).2.1 = readDec (cutR (s.extract 1 s.size)).2.1) : stepR rd l s = doneRes (stepS l s) := by
  have no : (l06step s).2.2.2 = false → doneRes (stepS l s) = ([], false) := fun h => by
    unfold stepS
    rw [if_neg (fun q => by rw [h] at q; cases q.1)]; rfl
  unfold stepR
  rw [nmOk_nameOk]
  by_cases h0 : s.size = 0
  · rw [if_pos h0, no]
    unfold l06step
    rw [if_pos (by omega : s.size < 2)]
    rfl
  rw [if_neg h0]
  have hpos : 0 < s.size := by omega
  have g43 := get_iff s hpos 43
  have g45 := get_iff s hpos 45
  have g62 := get_iff s hpos 62
  replace g43 : s.get! 0 = 43 ↔ bt s 0 = 43 := g43
  replace g45 : s.get! 0 = 45 ↔ bt s 0 = 45 := g45
  replace g62 : s.get! 0 = 62 ↔ bt s 0 = 62 := g62
  by_cases h43 : s.get! 0 = 43
  · rw [if_pos h43, hrd h43]
    have b43 := g43.mp h43
    rw [cutR_eq]
    have hs : l06step s = if s.size < 2 then noStep else stepOut s 1 (cutAt 58 (s.data.toList.drop 1)) := by
      unfold l06step
      rw [if_neg (by omega : ¬ bt s 0 = 45), if_pos (Or.inl b43 : bt s 0 = 43 ∨ bt s 0 = 62)]
    cases hc : cutAt 58 (s.data.toList.drop 1) with
    | none =>
      rw [no (by rw [hs, hc]; split <;> rfl)]
      exact if_neg fun h => by cases h.1
    | some p =>
      have h2 : ¬ s.size < 2 := fun h => by
        rw [List.drop_eq_nil_of_le (by rw [size_list]; omega)] at hc
        cases hc
      rw [hc, if_neg h2] at hs
      have hf : l06step s = (s.extract 1 (1 + p.1.length), ⟨#[]⟩, (readDec (s.extract (1 + p.1.length + 1) s.size)).1, (readDec (s.extract (1 + p.1.length + 1) s.size)).2 && nameOk (s.extract 1 (1 + p.1.length)).data.toList) := by
        rw [hs]
        exact if_neg (by omega)
      simp only
      unfold stepS
      rw [hf]
      generalize s.extract (1 + p.1.length + 1) s.size = r
      generalize s.extract 1 (1 + p.1.length) = n
      simp only
      rw [if_pos b43, putI_putR _ _ l ho, ← putW_putR _ _ l ho]
      cases (readDec r).2 <;> cases nameOk n.data.toList <;> simp [b43, doneRes]
  rw [if_neg h43]
  by_cases h45 : s.get! 0 = 45
  · rw [if_pos h45, dropR_eq ho]
    have b45 := g45.mp h45
    by_cases h2 : s.size < 2
    · have hs : l06step s = noStep := by unfold l06step; rw [if_pos h2]
      rw [no (by rw [hs]; rfl), if_neg]
      rw [ext_list, List.drop_eq_nil_of_le (by rw [size_list]; omega), List.take_nil, nameOk_nil]
      intro h; cases h.2
    · have hs : l06step s = (s.extract 1 s.size, ⟨#[]⟩, 0, true) := by unfold l06step; rw [if_neg h2, if_pos b45]
      unfold stepS
      rw [hs]
      simp only
      rw [if_neg (by omega : ¬ bt s 0 = 43), if_pos b45]
      by_cases hp : 0 ≤ placeE l (s.extract 1 s.size) ∧ nameOk (s.extract 1 s.size).data.toList = true
      · rw [if_pos hp, if_pos ⟨trivial, hp.2, .inr hp.1⟩]; rfl
      · rw [if_neg hp, if_neg (fun h => hp ⟨h.2.2.resolve_left (by omega), h.2.1⟩)]; rfl
  rw [if_neg h45]
  by_cases h62 : s.get! 0 = 62
  · rw [if_pos h62]
    have b62 := g62.mp h62
    rw [cutR_eq]
    have hs : l06step s = if s.size < 2 then noStep else stepOut s 1 (cutAt 58 (s.data.toList.drop 1)) := by
      unfold l06step
      rw [if_neg (by omega : ¬ bt s 0 = 45), if_pos (Or.inr b62 : bt s 0 = 43 ∨ bt s 0 = 62)]
    cases hc : cutAt 58 (s.data.toList.drop 1) with
    | none =>
      rw [no (by rw [hs, hc]; split <;> rfl)]
      exact if_neg fun h => by cases h.1
    | some p =>
      have h2 : ¬ s.size < 2 := fun h => by
        rw [List.drop_eq_nil_of_le (by rw [size_list]; omega)] at hc
        cases hc
      rw [hc, if_neg h2] at hs
      have hf : l06step s = (s.extract 1 (1 + p.1.length), s.extract (1 + p.1.length + 1) s.size, 0, nameOk (s.extract (1 + p.1.length + 1) s.size).data.toList && ((s.extract 1 (1 + p.1.length)).toList != (s.extract (1 + p.1.length + 1) s.size).toList)) := by
        rw [hs]
        exact if_pos b62
      simp only
      unfold stepS
      rw [hf]
      generalize s.extract (1 + p.1.length + 1) s.size = r
      generalize s.extract 1 (1 + p.1.length) = n
      simp only
      rw [if_neg (by omega : ¬ bt s 0 = 43), if_neg (by omega : ¬ bt s 0 = 45), dropR_eq ho]
      have hent : entryAt l n = entAt l n := rfl
      rw [hent]
      by_cases hp : 0 ≤ placeE l n ∧ nameOk n.data.toList = true
      · rw [if_pos hp, putI_putR _ _ _ (dropS_inOrder n ho), ← putW_putR _ _ _ (dropS_inOrder n ho)]
        rw [hp.2]
        cases nameOk r.data.toList <;> cases hq : (n.toList == r.toList) <;> simp [bne, hq, hp.1, doneRes]
      · rw [if_neg hp, if_neg (fun h => by cases h.2.1), if_neg (fun h => hp ⟨h.2.2.resolve_left (by omega), h.2.1⟩)]; rfl
  · rw [if_neg h62, no]
    unfold l06step
    have n45 : ¬ bt s 0 = 45 := fun e => h45 (g45.mpr e)
    have n46 : ¬ (bt s 0 = 43 ∨ bt s 0 = 62) := fun e => e.elim (fun e => h43 (g43.mpr e)) fun e => h62 (g62.mpr e)
    rw [if_neg n45, if_neg n46]
    split <;> rfl
theorem impl_stepDone_f {l : List S59} (ho : inOrder l) (hl : l.length ≤ 1048576) (s : ByteArray) (hs : s.size ≤ 1048576) : impl_stepDone.f l s = some (doneRes (stepS l s)) := by
  unfold impl_stepDone.f
  rw [if_pos ⟨by omega, by omega⟩]
  have hc := (cutR_size (s.extract 1 s.size)).2
  have he := ext_size s 1 s.size
  by_cases h : s.get! 0 = 43
  · rw [if_pos h, impl_ReadDecimal_f _ (by omega)]
    exact congrArg some (stepR_eq ho s _ fun _ => rfl)
  · rw [if_neg h, stepR_eq ho s _ fun e => absurd e h]
theorem impl_UsedOn_l0 (a : List S57) (hl : a.length ≤ 1048576) (hu : usedOn a ≤ 1048576) (n : Nat) : ∀ (i x : Nat), i + n = a.length → x + usedOn (a.drop i) = usedOn a →
    Ev (fun k => impl_UsedOn.l0 k (x : Int) a (a.length : Int) (i : Int)) ((usedOn a : Nat) : Int) := by
  induction n with
  | zero =>
    intro i x hi hx
    refine Ev.step (fun k => by rw [impl_UsedOn.l0]) (Ev.neg (by omega) (Ev.const ?_))
    rw [List.drop_eq_nil_of_le (by omega), usedOn] at hx
    rw [show x = usedOn a by omega]
  | succ n ih =>
    intro i x hi hx
    have hi2 : i < a.length := by omega
    rw [List.drop_eq_getElem_cons hi2, usedOn] at hx
    refine Ev.step (fun k => by rw [impl_UsedOn.l0]) (Ev.pos (by omega) (Ev.pos (by omega) (Ev.pos (by omega) ?_)))
    rw [rd_INode a i hi2, wrap64_id (x := (i : Int) + 1) (by omega) (by omega), wrap64_id (by omega) (by omega)]
    exact ih (i + 1) (x + a[i].f1.size) (by omega) (by omega)
theorem impl_UsedOn_ev (a : List S57) (b c : List S59) (d : List ByteArray) (e f : Int) (hl : a.length ≤ 1048576) (hu : usedOn a ≤ 1048576) :
    Ev (fun k => impl_UsedOn.f k a b c d e f) ((usedOn a : Nat) : Int) := by
  unfold impl_UsedOn.f
  exact impl_UsedOn_l0 a hl hu a.length 0 0 (by omega) (by rw [List.drop_zero]; omega)
def eqW {α : Type} (p : α → α → Bool) : List α → List α → Bool
  | [], [] => true
  | x :: xs, y :: ys => p x y && eqW p xs ys
  | _, _ => false
theorem eqW_len {α : Type} (p : α → α → Bool) : ∀ (xs ys : List α), xs.length ≠ ys.length → eqW p xs ys = false
  | [], [], h => absurd rfl h
  | [], _ :: _, _ => rfl
  | _ :: _, [], _ => rfl
  | x :: xs, y :: ys, h => by
    unfold eqW
    rw [eqW_len p xs ys (by intro e; apply h; rw [List.length_cons, List.length_cons, e]), Bool.and_false]
theorem eqW_drop {α : Type} (p : α → α → Bool) (xs ys : List α) (i : Nat) (hx : i < xs.length) (hy : i < ys.length) : eqW p (xs.drop i) (ys.drop i) = (p xs[i] ys[i] && eqW p (xs.drop (i + 1)) (ys.drop (i + 1))) := by
  rw [List.drop_eq_getElem_cons hx, List.drop_eq_getElem_cons hy]; rfl
theorem eqW_end {α : Type} (p : α → α → Bool) (xs ys : List α) (i : Nat) (hx : xs.length ≤ i) (hy : ys.length ≤ i) : eqW p (xs.drop i) (ys.drop i) = true := by
  rw [List.drop_eq_nil_of_le hx, List.drop_eq_nil_of_le hy]; rfl
theorem eqW_iff {α : Type} (p : α → α → Bool) (hp : ∀ x y, p x y = true ↔ x = y) : ∀ (xs ys : List α), eqW p xs ys = true ↔ xs = ys
  | [], [] => by simp [eqW]
  | [], _ :: _ => by simp [eqW]
  | _ :: _, [] => by simp [eqW]
  | x :: xs, y :: ys => by simp [eqW, hp, eqW_iff p hp xs ys]
theorem ba_eq_of_toList {x y : ByteArray} : x.toList = y.toList ↔ x = y := by
  rw [ByteArray.toList_eq, ByteArray.toList_eq]
  constructor
  · intro h; cases x; cases y; simp only at h; rw [Array.toList_inj.1 h]
  · intro h; rw [h]
def eqB (x y : ByteArray) : Bool := x.toList == y.toList
def eqE (x y : S59) : Bool := (x.f0.toList == y.f0.toList) && (x.f1 == y.f1)
theorem eqE_iff (x y : S59) : eqE x y = true ↔ x = y := by
  unfold eqE
  rw [Bool.and_eq_true, beq_iff_eq, beq_iff_eq, ba_eq_of_toList]
  cases x; cases y; simp
theorem eqE_not (x y : S59) : (!(x.f0.toList == y.f0.toList) || !(x.f1 == y.f1)) = !eqE x y := by unfold eqE; rw [Bool.not_and]
theorem l06Same_l0 (xs ys : List S59) (hl : xs.length = ys.length) (hx : xs.length ≤ 140737488355328) (n : Nat) : ∀ (i : Nat), i + n = xs.length →
    Ev (fun k => spec_l06Same.l0 k xs ys (i : Int)) (eqW eqE (xs.drop i) (ys.drop i)) := by
  induction n with
  | zero =>
    intro i hi
    rw [eqW_end _ _ _ _ (by omega) (by omega)]
    refine Ev.step (fun k => by rw [spec_l06Same.l0]) ?_
    exact Ev.neg (by omega) (Ev.now _)
  | succ n ih =>
    intro i hi
    rw [eqW_drop _ _ _ _ (by omega) (by omega)]
    refine Ev.step (fun k => by rw [spec_l06Same.l0]) (Ev.pos (by omega) (Ev.pos (by omega) (Ev.pos (by omega) ?_)))
    rw [rd_IEntry xs i (by omega), rd_IEntry ys i (by omega), eqE_not]
    by_cases h : eqE (xs[i]'(by omega)) (ys[i]'(by omega)) = true
    · rw [h, Bool.true_and]
      refine Ev.neg (by decide) ?_
      rw [wrap64_id (by omega) (by omega)]
      exact ih (i + 1) (by omega)
    · rw [Bool.eq_false_iff.2 h, Bool.false_and]
      exact Ev.pos (by decide) (Ev.now _)
theorem l06Same_ev (xs ys : List S59) (hx : xs.length ≤ 140737488355328) : Ev (fun k => spec_l06Same.f k xs ys) (eqW eqE xs ys) := by
  unfold spec_l06Same.f
  by_cases h : xs.length = ys.length
  · exact Ev.pos (by omega) (l06Same_l0 xs ys h hx xs.length 0 (by omega))
  · rw [eqW_len _ _ _ h]
    exact Ev.neg (by omega) (Ev.now _)
theorem slicesEqualEntry_l0 (xs ys : List S59) (hl : xs.length = ys.length) (hx : xs.length ≤ 140737488355328) (n : Nat) : ∀ (i : Nat), i + n = xs.length →
    Ev (fun k => impl_Entry_73.l0 k xs ys (xs.length : Int) (i : Int)) (eqW eqE (xs.drop i) (ys.drop i)) := by
  induction n with
  | zero =>
    intro i hi
    rw [eqW_end _ _ _ _ (by omega) (by omega)]
    refine Ev.step (fun k => by rw [impl_Entry_73.l0]) ?_
    exact Ev.neg (by omega) (Ev.now _)
  | succ n ih =>
    intro i hi
    rw [eqW_drop _ _ _ _ (by omega) (by omega)]
    refine Ev.step (fun k => by rw [impl_Entry_73.l0]) (Ev.pos (by omega) (Ev.pos (by omega) (Ev.pos (by omega) (Ev.pos (by omega) ?_))))
    rw [rd_IEntry xs i (by omega), rd_IEntry ys i (by omega)]
    rw [eqE_not]
    by_cases h : eqE (xs[i]'(by omega)) (ys[i]'(by omega)) = true
    · rw [h, Bool.true_and]
      refine Ev.neg (by decide) ?_
      rw [wrap64_id (by omega) (by omega)]
      exact ih (i + 1) (by omega)
    · rw [Bool.eq_false_iff.2 h, Bool.false_and]
      exact Ev.pos (by decide) (Ev.now _)
theorem slicesEqualEntry_ev (xs ys : List S59) (hx : xs.length ≤ 140737488355328) : Ev (fun k => impl_Entry_73.f k xs ys) (eqW eqE xs ys) := by
  unfold impl_Entry_73.f
  by_cases h : xs.length = ys.length
  · exact Ev.pos (by omega) (slicesEqualEntry_l0 xs ys h hx xs.length 0 (by omega))
  · rw [eqW_len _ _ _ h]
    exact Ev.neg (by omega) (Ev.now _)
/-! ### A right disk -/
def fine (a : List S57) (l : List S59) : Bool := entriesFine a none l && decide ((l.length : Int) ≤ 16)
theorem entriesFine_order (a : List S57) : ∀ (l : List S59) (p : Option ByteArray), entriesFine a p l = true → (∀ q, p = some q → ∀ x ∈ l, Op.bytesLess q.toList x.f0.toList = true) ∧ inOrder l
  | [], _, _ => ⟨fun _ _ _ h => absurd h List.not_mem_nil, List.Pairwise.nil⟩
  | x :: l, p, h => by
    rw [entriesFine, Bool.and_eq_true] at h
    obtain ⟨h1, h2⟩ := h
    obtain ⟨i1, i2⟩ := entriesFine_order a l (some x.f0) h2
    refine ⟨fun q hq y hy => ?_, List.pairwise_cons.mpr ⟨i1 x.f0 rfl, i2⟩⟩
    subst hq
    have hqx : Op.bytesLess q.toList x.f0.toList = true := by
      unfold entryFine at h1
      rw [Bool.and_eq_true] at h1
      have h3 := h1.1
      replace h3 : (!nameLe x.f0 q) = true := h3
      unfold nameLe at h3
      rw [← bl_not, Bool.not_not] at h3
      exact h3
    rcases List.mem_cons.mp hy with rfl | hy
    · exact hqx
    · exact bl_trans _ _ _ hqx (i1 x.f0 rfl y hy)
theorem fine_order {a : List S57} {l : List S59} (h : fine a l = true) : inOrder l := by
  unfold fine at h
  rw [Bool.and_eq_true] at h
  exact (entriesFine_order a l none h.1).2
section
variable (a : List S57) (b c : List S59) (d : List ByteArray) (e f : Int)
theorem entS_ev (ha : a.length ≤ 1048576) : ∀ (l : List S59) (p : Option ByteArray), (∀ x ∈ l, x.f0.size ≤ 1048576) → Ev (fun k => entS k a b c d e f p l) (entriesFine a p l)
  | [], p, _ => by
    refine Ev.congr (fun k => by rw [entS]) ?_
    exact Ev.now _
  | x :: l, p, h => by
    have ih := entS_ev ha l (some x.f0) fun y hy => h y (List.mem_cons_of_mem _ hy)
    have hx := h x (List.mem_cons_self ..)
    rw [entriesFine]
    unfold entryFine
    rw [nmOk_nameOk]
    refine Ev.congr (g := fun k => (spec_NameOk.f k x.f0).bind fun t => if t = true then ((spec_l05Node.f k a b c d e f x.f1).bind fun t => if t < 0 then some false else if (match p with | none => false | some q => !Op.bytesLess q.toList x.f0.toList) = true then some false else entS k a b c d e f (some x.f0) l) else some false) (fun k => rfl) ?_
    refine Ev.bind (spec_NameOk_ev x.f0 (by omega)) ?_
    cases nameOk x.f0.data.toList with
    | false => exact Ev.of_eq (Ev.neg (by decide) (Ev.now false)) (by simp)
    | true =>
      refine Ev.pos rfl (Ev.bind (spec_l05Node_ev a b c d e f x.f1 ha) ?_)
      have hi : idxOf (fun n : S57 => n.f0 == x.f1) a 0 = nodeIx a x.f1 := rfl
      rw [hi]
      by_cases hn : nodeIx a x.f1 < 0
      · exact Ev.of_eq (Ev.pos hn (Ev.now false)) (by rw [decide_eq_false (by omega)]; simp)
      · refine Ev.neg hn ?_
        rw [decide_eq_true (by omega)]
        cases p with
        | none => exact Ev.of_eq (Ev.neg (fun h => by cases h) ih) (by simp)
        | some q =>
          simp only [nameLe]
          rw [← bl_not, Bool.not_not]
          by_cases hb : Op.bytesLess q.toList x.f0.toList = true
          · exact Ev.of_eq (Ev.neg (by rw [hb]; decide) ih) (by rw [hb]; simp)
          · have hb := Bool.eq_false_iff.mpr hb
            exact Ev.of_eq (Ev.pos (by rw [hb]; rfl) (Ev.now false)) (by rw [hb]; simp)
theorem l05Entries_ev (ha : a.length ≤ 1048576) (l : List S59) (hl : ∀ x ∈ l, x.f0.size ≤ 1048576) : Ev (fun k => spec_l05Entries.f k a b c d e f l) (fine a l) := by
  unfold spec_l05Entries.f fine
  refine Ev.bind (entS_ev a b c d e f ha l none hl) ?_
  cases entriesFine a none l with
  | false => exact Ev.neg (by decide) (Ev.now _)
  | true => exact Ev.pos rfl (Ev.now _)
theorem areEntries_f (l : List S59) (hl : ∀ x ∈ l, x.f0.size ≤ 1048576) : impl_Disk_areEntries.f a b c d e f l = some (fine a l) := by
  unfold impl_Disk_areEntries.f fine
  rw [if_pos (fun x hx => Nat.le_trans (hl x hx) (by decide))]
noncomputable def okFrom : List S59 → List ByteArray → Bool
  | now, [] => fine a now && eqW eqE now b
  | now, s :: r => fine a now && (match stepS now s with | none => false | some l => okFrom l r)
theorem impl_DiskOk_l0 (hd : d.length ≤ 1048576) (hs : ∀ s ∈ d, s.size ≤ 1048576) (n : Nat) : ∀ (i : Nat) (now : List S59), i + n = d.length → (∀ x ∈ now, x.f0.size ≤ 1048576) → now.length + n ≤ 1048576 →
    Ev (fun k => impl_DiskOk.l0 k now (i : Int) a b c d e f) (okFrom a b now (d.drop i)) := by
  induction n with
  | zero =>
    intro i now hi hx hl
    rw [List.drop_eq_nil_of_le (by omega), okFrom]
    refine Ev.step (fun k => by rw [impl_DiskOk.l0]) ?_
    refine Ev.bind (Ev.const (areEntries_f a b c d e f now hx)) ?_
    cases fine a now with
    | false => exact Ev.neg (by decide) (Ev.now _)
    | true => exact Ev.pos rfl (Ev.pos (by omega) (Ev.bind (slicesEqualEntry_ev now b (by omega)) (Ev.now _)))
  | succ n ih =>
    intro i now hi hx hl
    have hi2 : i < d.length := by omega
    rw [List.drop_eq_getElem_cons hi2, okFrom]
    refine Ev.step (fun k => by rw [impl_DiskOk.l0]) ?_
    refine Ev.bind (Ev.const (areEntries_f a b c d e f now hx)) ?_
    cases hf : fine a now with
    | false => exact Ev.neg (by decide) (Ev.now _)
    | true =>
      have hz := hs d[i] (List.getElem_mem hi2)
      refine Ev.pos rfl (Ev.neg (by omega) (Ev.pos (by omega) (Ev.pos (by omega) ?_)))
      rw [rd_S d i hi2]
      refine Ev.bind (Ev.const (impl_stepDone_f (fine_order hf) (by omega) d[i] hz)) ?_
      cases hst : stepS now d[i] with
      | none => exact Ev.neg (by decide) (Ev.now _)
      | some l =>
        have := stepS_length hst
        refine Ev.pos rfl ?_
        rw [show wrap64 ((i : Int) + 1) = ((i + 1 : Nat) : Int) by rw [wrap64_id (by omega) (by omega)]; omega]
        exact ih (i + 1) l (by omega) (stepS_small hst hx hz) (by omega)
theorem doneS_small : ∀ (r : List ByteArray) (l l' : List S59), (∀ s ∈ r, s.size ≤ 1048576) → (∀ x ∈ l, x.f0.size ≤ 1048576) → doneS l r = some l' → l'.length ≤ l.length + r.length ∧ ∀ x ∈ l', x.f0.size ≤ 1048576
  | [], l, l', _, hl, h => by
    obtain rfl : l = l' := Option.some.inj h
    exact ⟨Nat.le_refl _, hl⟩
  | s :: r, l, l', hs, hl, h => by
    rw [doneS] at h
    cases hst : stepS l s with
    | none => rw [hst] at h; cases h
    | some l2 =>
      rw [hst] at h
      have h1 := stepS_length hst
      have h2 := doneS_small r l2 l' (fun s hs' => hs s (List.mem_cons_of_mem _ hs')) (stepS_small hst hl (hs s (List.mem_cons_self ..))) h
      exact ⟨by rw [List.length_cons]; omega, h2.2⟩
def okRest (o : Option (List S59)) (g : List S59 → Bool) : Bool := match o with | none => false | some now => g now
theorem spec_DiskOk_l1 (ha : a.length ≤ 1048576) (hcd : c.length + d.length ≤ 1048576) (hs : ∀ s ∈ d, s.size ≤ 1048576) (hc : ∀ x ∈ c, x.f0.size ≤ 1048576) (n : Nat) : ∀ (i : Nat), i + n = d.length →
    Ev (fun k => spec_DiskOk.l1 k (i : Int) a b c d e f) (okRest (doneS c (d.take i)) fun now => okFrom a b now (d.drop i)) := by
  induction n with
  | zero =>
    intro i hi
    have hst : ∀ s ∈ d.take i, s.size ≤ 1048576 := fun s h => hs s (List.mem_of_mem_take h)
    refine Ev.step (fun k => by rw [spec_DiskOk.l1]) ?_
    refine Ev.pos (by omega) (Ev.bind (StepsDone_ev c d hcd hs i (by omega)) ?_)
    rw [List.drop_eq_nil_of_le (by omega)]
    cases ho : doneS c (d.take i) with
    | none => exact Ev.neg (by decide) (Ev.now _)
    | some now =>
      obtain ⟨h1, h2⟩ := doneS_small (d.take i) c now hst hc ho
      rw [List.length_take] at h1
      refine Ev.pos rfl (Ev.bind (l05Entries_ev a b c d e f ha now h2) ?_)
      show Ev _ (okFrom a b now [])
      rw [okFrom]
      cases fine a now with
      | false => exact Ev.neg (by decide) (Ev.now _)
      | true =>
        refine Ev.pos rfl (Ev.pos (by omega) (Ev.bind (l06Same_ev now b (by omega)) ?_))
        cases eqW eqE now b with
        | false => exact Ev.neg (by decide) (Ev.now _)
        | true =>
          refine Ev.pos rfl ?_
          rw [show wrap64 ((i : Int) + 1) = ((i + 1 : Nat) : Int) by rw [wrap64_id (by omega) (by omega)]; omega]
          refine Ev.step (fun k => by rw [spec_DiskOk.l1]) ?_
          exact Ev.neg (by omega) (Ev.now _)
  | succ n ih =>
    intro i hi
    have hi2 : i < d.length := by omega
    have ih := ih (i + 1) (by omega)
    have hst : ∀ s ∈ d.take i, s.size ≤ 1048576 := fun s h => hs s (List.mem_of_mem_take h)
    refine Ev.step (fun k => by rw [spec_DiskOk.l1]) ?_
    refine Ev.pos (by omega) (Ev.bind (StepsDone_ev c d hcd hs i (by omega)) ?_)
    rw [List.take_succ_eq_append_getElem hi2, doneS_snoc] at ih
    rw [List.drop_eq_getElem_cons hi2]
    cases ho : doneS c (d.take i) with
    | none => exact Ev.neg (by decide) (Ev.now _)
    | some now =>
      rw [ho] at ih
      obtain ⟨h1, h2⟩ := doneS_small (d.take i) c now hst hc ho
      refine Ev.pos rfl (Ev.bind (l05Entries_ev a b c d e f ha now h2) ?_)
      show Ev _ (okFrom a b now (d[i] :: d.drop (i + 1)))
      rw [okFrom]
      cases fine a now with
      | false => exact Ev.neg (by decide) (Ev.now _)
      | true =>
        refine Ev.pos rfl (Ev.neg (by omega) ?_)
        rw [show wrap64 ((i : Int) + 1) = ((i + 1 : Nat) : Int) by rw [wrap64_id (by omega) (by omega)]; omega]
        refine Ev.of_eq ih ?_
        show okRest (stepS now d[i]) _ = _
        cases stepS now d[i] <;> rfl
theorem inR_eq (n low high : Int) : inR n low high = decide (low ≤ n ∧ n ≤ high) := by
  unfold inR
  by_cases h1 : low ≤ n <;> by_cases h2 : n ≤ high <;> simp [h1, h2]
theorem spec_DiskOk_l0 (R : Bool) (ha : a.length ≤ 1048576) (hR : Ev (fun k => spec_DiskOk.l1 k 0 a b c d e f) R) (n : Nat) : ∀ (i : Nat), i + n = a.length →
    Ev (fun k => spec_DiskOk.l0 k (i : Int) a b c d e f) (nodesFine f (prevN a i) (a.drop i) && R) := by
  induction n with
  | zero =>
    intro i hi
    rw [List.drop_eq_nil_of_le (by omega), nodesFine, Bool.true_and]
    refine Ev.step (fun k => by rw [spec_DiskOk.l0]) ?_
    exact Ev.neg (by omega) hR
  | succ n ih =>
    intro i hi
    have hi2 : i < a.length := by omega
    have ih := ih (i + 1) (by omega)
    have hp : prevN a (i + 1) = some a[i].f0 := by show some (rd_T57 a (i : Int)).f0 = _; rw [rd_INode a i hi2]
    rw [hp] at ih
    rw [List.drop_eq_getElem_cons hi2, nodesFine]
    unfold nodeFine
    rw [inR_eq, inR_eq]
    refine Ev.step (fun k => by rw [spec_DiskOk.l0]) ?_
    refine Ev.pos (by omega) (Ev.pos (by omega) ?_)
    rw [rd_INode a i hi2]
    refine Ev.bind (Ev.const (l01In_f _ _ _)) ?_
    have hw : wrap64 ((i : Int) + 1) = ((i + 1 : Nat) : Int) := by rw [wrap64_id (by omega) (by omega)]; omega
    cases decide (1 ≤ a[i].f0 ∧ a[i].f0 ≤ wrap64 (f - 1)) with
    | false => exact Ev.of_eq (Ev.neg (by decide) (Ev.now false)) (by simp)
    | true =>
      refine Ev.pos rfl ?_
      have rest : ∀ t : Bool, t = true → Ev (fun k => (spec_l01In.f a[i].f2 0 (a[i].f1.size : Int)).bind fun t => if t = true then (spec_DiskOk.l0 k (wrap64 ((i : Int) + 1)) a b c d e f) else (some false)) ((t && (true && decide (0 ≤ a[i].f2 ∧ a[i].f2 ≤ (a[i].f1.size : Int)))) && nodesFine f (some a[i].f0) (a.drop (i + 1)) && R) := fun t ht => by
        subst ht
        refine Ev.bind (Ev.const (l01In_f _ _ _)) ?_
        rw [hw]
        cases decide (0 ≤ a[i].f2 ∧ a[i].f2 ≤ (a[i].f1.size : Int)) with
        | false => exact Ev.neg (by decide) (Ev.now _)
        | true => exact Ev.pos rfl ih
      cases i with
      | zero => exact Ev.neg (by decide) (rest true rfl)
      | succ j =>
        have hq : prevN a (j + 1) = some (a[j]'(by omega)).f0 := by show some (rd_T57 a (j : Int)).f0 = _; rw [rd_INode a j (by omega)]
        rw [hq]
        have hwj : wrap64 (((j + 1 : Nat) : Int) - 1) = (j : Int) := by rw [wrap64_id (by omega) (by omega)]; omega
        refine Ev.pos (by omega) ?_
        rw [hwj, rd_INode a j (by omega)]
        refine Ev.pos (by omega) (Ev.pos (by omega) ?_)
        by_cases hge : (a[j]'(by omega)).f0 ≥ a[j + 1].f0
        · refine Ev.of_eq (Ev.pos hge (Ev.now false)) ?_
          have hge2 : a[j + 1].f0 ≤ (a[j]'(by omega)).f0 := hge
          simp only [decide_eq_true hge2]
          simp
        · have hge2 : ¬ a[j + 1].f0 ≤ (a[j]'(by omega)).f0 := hge
          refine Ev.neg hge (Ev.of_eq (rest true rfl) ?_)
          simp only [decide_eq_false hge2]
          simp
noncomputable def diskOk : Bool := decide (a.length ≤ 64) && (decide (0 ≤ e ∧ e ≤ 1000000000) && (decide (1 ≤ f ∧ f ≤ 1000000000) && (decide ((usedOn a : Int) ≤ e) && (nodesFine f none a && okFrom a b c d))))
theorem spec_DiskOk_ev (ha : a.length ≤ 1048576) (hu : usedOn a ≤ 1048576) (hcd : c.length + d.length ≤ 1048576) (hs : ∀ s ∈ d, s.size ≤ 1048576) (hc : ∀ x ∈ c, x.f0.size ≤ 1048576) : Ev (fun k => spec_DiskOk.f k a b c d e f) (diskOk a b c d e f) := by
  have no : Ev (fun k => spec_DiskOk.j0 k true a b c d e f) false := by
    refine Ev.step (fun k => by rw [spec_DiskOk.j0]) ?_
    exact Ev.pos rfl (Ev.now _)
  have h1 := spec_DiskOk_l1 a b c d e f ha hcd hs hc d.length 0 (by omega)
  replace h1 : Ev (fun k => spec_DiskOk.l1 k 0 a b c d e f) (okFrom a b c d) := h1
  have h0 := spec_DiskOk_l0 a b c d e f (okFrom a b c d) ha h1 a.length 0 (by omega)
  replace h0 : Ev (fun k => spec_DiskOk.l0 k 0 a b c d e f) (nodesFine f none a && okFrom a b c d) := h0
  unfold spec_DiskOk.f diskOk
  by_cases g1 : a.length ≤ 64
  case neg => exact Ev.of_eq (Ev.pos (by omega) no) (by rw [decide_eq_false g1]; rfl)
  rw [decide_eq_true g1, Bool.true_and]
  refine Ev.neg (by omega) (Ev.bind (Ev.const (l01In_f _ _ _)) ?_)
  cases decide (0 ≤ e ∧ e ≤ 1000000000) with
  | false => exact Ev.neg (by decide) no
  | true =>
    refine Ev.pos rfl (Ev.bind (Ev.const (l01In_f _ _ _)) ?_)
    cases decide (1 ≤ f ∧ f ≤ 1000000000) with
    | false => exact Ev.neg (by decide) no
    | true =>
      refine Ev.pos rfl (Ev.bind (spec_UsedOn_ev a b c d e f ha hu) ?_)
      by_cases g2 : (usedOn a : Int) ≤ e
      · rw [decide_eq_true g2, decide_eq_false (by omega : ¬ (usedOn a : Int) > e)]
        refine Ev.step (fun k => by rw [spec_DiskOk.j0]) ?_
        exact Ev.neg (by decide) h0
      · rw [decide_eq_false g2, decide_eq_true (by omega : (usedOn a : Int) > e)]
        exact no
theorem impl_DiskOk_ev (ha : a.length ≤ 1048576) (hu : usedOn a ≤ 1048576) (hcd : c.length + d.length ≤ 1048576) (hs : ∀ s ∈ d, s.size ≤ 1048576) (hc : ∀ x ∈ c, x.f0.size ≤ 1048576) : Ev (fun k => impl_DiskOk.f k a b c d e f) (diskOk a b c d e f) := by
  have no : Ev (fun k => impl_DiskOk.j0 k true a b c d e f) false := by
    refine Ev.step (fun k => by rw [impl_DiskOk.j0]) ?_
    exact Ev.pos rfl (Ev.now _)
  have h0 := impl_DiskOk_l0 a b c d e f (by omega) hs d.length 0 c (by omega) hc (by omega)
  replace h0 : Ev (fun k => impl_DiskOk.l0 k c 0 a b c d e f) (okFrom a b c d) := h0
  have hcl : impl_Entry_71.f c = some c := by
    unfold impl_Entry_71.f
    exact if_pos (by omega)
  have hn : impl_Disk_areNodes.f a b c d e f = some (nodesFine f none a && decide (a.length ≤ 64)) := by
    unfold impl_Disk_areNodes.f
    congr 2
    rw [decide_eq_decide]; omega
  unfold impl_DiskOk.f diskOk
  refine Ev.bind (Ev.const (isNumber_f _)) ?_
  cases decide (0 ≤ e ∧ e ≤ 1000000000) with
  | false => exact Ev.of_eq (Ev.neg (by decide) no) (by simp)
  | true =>
    refine Ev.pos rfl (Ev.bind (Ev.const (within_f _ _ _)) ?_)
    cases decide (1 ≤ f ∧ f ≤ 1000000000) with
    | false => exact Ev.of_eq (Ev.neg (by decide) no) (by simp)
    | true =>
      refine Ev.pos rfl (Ev.bind (Ev.const hn) ?_)
      cases nodesFine f none a with
      | false => exact Ev.of_eq (Ev.neg (by simp) no) (by simp)
      | true =>
        cases decide (a.length ≤ 64) with
        | false => exact Ev.of_eq (Ev.neg (by decide) no) (by simp)
        | true =>
          refine Ev.pos rfl (Ev.bind (impl_UsedOn_ev a b c d e f ha hu) ?_)
          by_cases g2 : (usedOn a : Int) ≤ e
          · rw [decide_eq_true g2, decide_eq_false (by omega : ¬ (usedOn a : Int) > e)]
            refine Ev.step (fun k => by rw [impl_DiskOk.j0]) ?_
            refine Ev.neg (by decide) (Ev.bind (Ev.const hcl) (Ev.of_eq h0 ?_))
            simp
          · rw [decide_eq_false g2, decide_eq_true (by omega : (usedOn a : Int) > e)]
            exact Ev.of_eq no (by simp)
end
/-! ### A disk copied; the entries of a right disk -/
section
variable (a : List S57) (b c : List S59) (d : List ByteArray) (e f : Int)
theorem l05Copy_f (ha : a.length ≤ 1048576) (hb : b.length ≤ 1048576) (hc : c.length ≤ 1048576) (hd : d.length ≤ 1048576) : spec_l05Copy.f a b c d e f = some (a, b, c, d, e, f) := by
  unfold spec_l05Copy.f
  simp only [Option.bind_some, List.length_nil, List.nil_append]
  rw [if_pos (by omega), if_pos (by omega), if_pos (by omega), if_pos (by omega)]
end
/-! ### The nodes that something stands for -/
def anyId (l : List S59) (id : Int) : Bool := l.any fun x => x.f1 == id
noncomputable def stAt (c : List S59) (d : List ByteArray) (k : Nat) : List S59 := (doneRes (doneS c (d.take k))).1
noncomputable def usedFrom (c : List S59) (d : List ByteArray) (id : Int) : Nat → Nat → Bool
  | 0, _ => false
  | n + 1, k => anyId (stAt c d k) id || usedFrom c d id n (k + 1)
noncomputable def cleanS (a : List S57) (c : List S59) (d : List ByteArray) : List S57 := a.filter fun x => usedFrom c d x.f0 (d.length + 1) 0
section
variable (a : List S57) (b c : List S59) (d : List ByteArray) (e f : Int)
theorem clean_l2 (acc : List S57) (i q : Nat) (hi : i < a.length) (ha : a.length ≤ 1048576) (lst : List S59) (hl : lst.length ≤ 2097152) (hq : q ≤ 1048576) (R : List S57 × List S59 × List S59 × List ByteArray × Int × Int) (n : Nat) : ∀ (j : Nat) (fl : Bool), j + n = lst.length →
    Ev (fun k => spec_l06Clean.l1 k acc (i : Int) (fl || anyId (lst.drop j) (a[i]).f0) ((q + 1 : Nat) : Int) a b c d e f) R → Ev (fun k => spec_l06Clean.l2 k acc (i : Int) fl (q : Int) lst (j : Int) a b c d e f) R := by
  induction n with
  | zero =>
    intro j fl hj hK
    rw [List.drop_of_length_le (by omega)] at hK
    have hK : Ev (fun k => spec_l06Clean.l1 k acc (i : Int) fl ((q + 1 : Nat) : Int) a b c d e f) R := by simpa [anyId] using hK
    refine Ev.step (fun k => by rw [spec_l06Clean.l2]) ?_
    refine Ev.neg (by omega) ?_
    rw [show wrap64 ((q : Int) + 1) = ((q + 1 : Nat) : Int) by rw [wrap64_id (by omega) (by omega)]; omega]
    exact hK
  | succ n ih =>
    intro j fl hj hK
    have hjl : j < lst.length := by omega
    rw [List.drop_eq_getElem_cons hjl] at hK
    refine Ev.step (fun k => by rw [spec_l06Clean.l2]) ?_
    have hw : wrap64 ((j : Int) + 1) = ((j + 1 : Nat) : Int) := by rw [wrap64_id (by omega) (by omega)]; omega
    refine Ev.pos (by omega) ?_
    rw [hw]
    cases fl with
    | true =>
      refine Ev.pos rfl (ih (j + 1) true (by omega) ?_)
      simpa using hK
    | false =>
      refine Ev.neg (by decide) (Ev.pos (by omega) (Ev.pos (by omega) (Ev.pos (by omega) ?_)))
      rw [rd_IEntry lst j hjl, rd_INode a i hi]
      refine ih (j + 1) _ (by omega) ?_
      rw [show (false || anyId (lst[j] :: lst.drop (j + 1)) (a[i]).f0) = ((lst[j].f1 == (a[i]).f0) || anyId (lst.drop (j + 1)) (a[i]).f0) from by simp only [anyId, List.any_cons, Bool.false_or]] at hK
      exact hK
theorem clean_l1 (hcd : c.length + d.length ≤ 1048576) (hs : ∀ s ∈ d, s.size ≤ 1048576) (hc : ∀ x ∈ c, x.f0.size ≤ 1048576) (acc : List S57) (hacc : acc.length ≤ 1048576) (i : Nat) (hi : i < a.length) (ha : a.length ≤ 1048576) (R : List S57 × List S59 × List S59 × List ByteArray × Int × Int) (n : Nat) : ∀ (q : Nat) (fl : Bool), q + n = d.length + 1 →
    Ev (fun k => spec_l06Clean.l0 k (if (fl || usedFrom c d (a[i]).f0 n q) = true then acc ++ [a[i]] else acc) ((i + 1 : Nat) : Int) a b c d e f) R → Ev (fun k => spec_l06Clean.l1 k acc (i : Int) fl (q : Int) a b c d e f) R := by
  have hw : wrap64 ((i : Int) + 1) = ((i + 1 : Nat) : Int) := by rw [wrap64_id (by omega) (by omega)]; omega
  have yes : ∀ q : Int, Ev (fun k => spec_l06Clean.l0 k (acc ++ [a[i]]) ((i + 1 : Nat) : Int) a b c d e f) R → Ev (fun k => spec_l06Clean.j2 k acc (i : Int) true q false a b c d e f) R := fun q hK => by
    refine Ev.step (fun k => by rw [spec_l06Clean.j2]) ?_
    refine Ev.neg (by decide) (Ev.pos rfl (Ev.pos (by omega) (Ev.pos (by omega) (Ev.pos (by omega) ?_))))
    rw [rd_INode a i hi, hw]
    exact hK
  induction n with
  | zero =>
    intro q fl hq hK
    refine Ev.step (fun k => by rw [spec_l06Clean.l1]) ?_
    refine Ev.neg (by omega) ?_
    cases fl with
    | true => exact yes _ (by simpa [usedFrom] using hK)
    | false =>
      refine Ev.step (fun k => by rw [spec_l06Clean.j2]) ?_
      refine Ev.neg (by decide) (Ev.neg (by decide) ?_)
      rw [hw]
      simpa [usedFrom] using hK
  | succ n ih =>
    intro q fl hq hK
    refine Ev.step (fun k => by rw [spec_l06Clean.l1]) ?_
    refine Ev.pos (by omega) ?_
    cases fl with
    | true => exact yes _ (by simpa using hK)
    | false =>
      refine Ev.step (fun k => by rw [spec_l06Clean.j2]) ?_
      refine Ev.pos rfl (Ev.bind (StepsDone_ev c d hcd hs q (by omega)) ?_)
      have hlen : (stAt c d q).length ≤ 2097152 := by
        unfold stAt
        cases ho : doneS c (d.take q) with
        | none => exact Nat.zero_le _
        | some l =>
          have := (doneS_small (d.take q) c l (fun s h => hs s (List.mem_of_mem_take h)) hc ho).1
          rw [List.length_take] at this
          show l.length ≤ _
          omega
      refine clean_l2 a b c d e f acc i q hi ha (stAt c d q) hlen (by omega) R _ 0 false (Nat.zero_add _) ?_
      rw [List.drop_zero]
      refine ih (q + 1) _ (by omega) ?_
      rw [usedFrom] at hK
      simpa [Bool.or_assoc] using hK
theorem clean_l0 (hcd : c.length + d.length ≤ 1048576) (hs : ∀ s ∈ d, s.size ≤ 1048576) (hc : ∀ x ∈ c, x.f0.size ≤ 1048576) (ha : a.length ≤ 1048576) (n : Nat) : ∀ (i : Nat) (acc : List S57), i + n = a.length → acc.length ≤ i →
    Ev (fun k => spec_l06Clean.l0 k acc (i : Int) a b c d e f) (acc ++ (a.drop i).filter (fun x => usedFrom c d x.f0 (d.length + 1) 0), b, c, d, e, f) := by
  induction n with
  | zero =>
    intro i acc hi hl
    rw [List.drop_of_length_le (by omega), List.filter_nil, List.append_nil]
    refine Ev.step (fun k => by rw [spec_l06Clean.l0]) ?_
    exact Ev.neg (by omega) (Ev.now _)
  | succ n ih =>
    intro i acc hi hl
    have hil : i < a.length := by omega
    refine Ev.step (fun k => by rw [spec_l06Clean.l0]) ?_
    refine Ev.pos (by omega) (clean_l1 a b c d e f hcd hs hc acc (by omega) i hil ha _ (d.length + 1) 0 false (Nat.zero_add _) ?_)
    rw [List.drop_eq_getElem_cons hil, List.filter_cons, Bool.false_or]
    cases hu : usedFrom c d (a[i]).f0 (d.length + 1) 0 with
    | true =>
      have := ih (i + 1) (acc ++ [a[i]]) (by omega) (by rw [List.length_append]; simp; omega)
      rw [List.append_assoc] at this
      simpa using this
    | false =>
      have := ih (i + 1) acc (by omega) (by omega)
      simpa using this
theorem spec_l06Clean_ev (ha : a.length ≤ 1048576) (hcd : c.length + d.length ≤ 1048576) (hs : ∀ s ∈ d, s.size ≤ 1048576) (hc : ∀ x ∈ c, x.f0.size ≤ 1048576) : Ev (fun k => spec_l06Clean.f k a b c d e f) (cleanS a c d, b, c, d, e, f) :=
  clean_l0 a b c d e f hcd hs hc ha a.length 0 [] (Nat.zero_add _) (Nat.le_refl _)
end
/-! ### Steps that are all right -/
noncomputable def chainOk : List S59 → List ByteArray → Prop
  | _, [] => True
  | now, s :: r => inOrder now ∧ ∃ l, stepS now s = some l ∧ chainOk l r
theorem okFrom_chain (a : List S57) (b : List S59) : ∀ (d : List ByteArray) (now : List S59), okFrom a b now d = true → chainOk now d ∧ doneS now d = some b ∧ fine a now = true
  | [], now, h => by
    rw [okFrom, Bool.and_eq_true] at h
    exact ⟨trivial, by rw [doneS, (eqW_iff eqE eqE_iff now b).mp h.2], h.1⟩
  | s :: r, now, h => by
    rw [okFrom, Bool.and_eq_true] at h
    have h2 := h.2
    cases hs : stepS now s with
    | none => rw [hs] at h2; cases h2
    | some l =>
      rw [hs] at h2
      obtain ⟨i1, i2, _⟩ := okFrom_chain a b r l h2
      exact ⟨⟨fine_order h.1, l, hs, i1⟩, by rw [doneS, hs]; exact i2, h.1⟩
/-! ### What is known of a right disk; the steps that the deeds lay behind -/
section
variable (a : List S57) (b c : List S59) (d : List ByteArray) (e f : Int)
theorem diskOk_all (h : diskOk a b c d e f = true) : a.length ≤ 64 ∧ (0 ≤ e ∧ e ≤ 1000000000) ∧ (1 ≤ f ∧ f ≤ 1000000000) ∧ (usedOn a : Int) ≤ e ∧ nodesFine f none a = true ∧ okFrom a b c d = true := by
  unfold diskOk at h
  simp only [Bool.and_eq_true, decide_eq_true_eq] at h
  exact ⟨h.1, h.2.1, h.2.2.1, h.2.2.2.1, h.2.2.2.2.1, h.2.2.2.2.2⟩
theorem fine_len {l : List S59} (h : fine a l = true) : l.length ≤ 16 := by
  unfold fine at h
  rw [Bool.and_eq_true, decide_eq_true_eq] at h
  omega
end
theorem nodesFine_sure (f : Int) : ∀ (l : List S57) (p : Option Int), nodesFine f p l = true → ∀ x ∈ l, 0 ≤ x.f2 ∧ x.f2 ≤ (x.f1.size : Int)
  | [], _, _, x, hx => absurd hx List.not_mem_nil
  | y :: l, p, h, x, hx => by
    rw [nodesFine, Bool.and_eq_true] at h
    rcases List.mem_cons.mp hx with rfl | hx
    · have h1 := h.1
      unfold nodeFine at h1
      rw [Bool.and_eq_true, Bool.and_eq_true, inR_eq, inR_eq] at h1
      exact of_decide_eq_true h1.2.2
    · exact nodesFine_sure f l _ h.2 x hx
theorem diskOk_sure {a : List S57} {b c : List S59} {d : List ByteArray} {e f : Int} (h : diskOk a b c d e f = true) : ∀ x ∈ a, 0 ≤ x.f2 ∧ x.f2 ≤ (x.f1.size : Int) := by
  unfold diskOk at h
  simp only [Bool.and_eq_true] at h
  exact nodesFine_sure f a none h.2.2.2.2.1
theorem impl_Brought_f (n a b : Int) : impl_Brought.f n a b = some (brought n a b) := by
  unfold impl_Brought.f brought
  by_cases h : b < a
  · rw [if_pos h, if_pos h]
  · rw [if_neg h, if_neg h]
    refine congrArg some ?_
    unfold mn mx
    by_cases h1 : n < a
    · rw [if_pos h1, if_pos h1]
      by_cases h2 : b < a
      · exact absurd h2 h
      · rw [if_neg h2]
    · rw [if_neg h1, if_neg h1]
/-! ### What is left behind a fall -/
theorem nodesFine_ids (f : Int) : ∀ (l : List S57) (p : Option Int), nodesFine f p l = true → ∀ x ∈ l, 1 ≤ x.f0
  | [], _, _, x, hx => absurd hx List.not_mem_nil
  | y :: l, p, h, x, hx => by
    rw [nodesFine, Bool.and_eq_true] at h
    rcases List.mem_cons.mp hx with rfl | hx
    · have h1 := h.1
      unfold nodeFine at h1
      rw [Bool.and_eq_true, Bool.and_eq_true, inR_eq, inR_eq] at h1
      exact (of_decide_eq_true h1.2.1).1
    · exact nodesFine_ids f l _ h.2 x hx
theorem diskOk_ids {a : List S57} {b c : List S59} {d : List ByteArray} {e f : Int} (h : diskOk a b c d e f = true) : ∀ x ∈ a, 1 ≤ x.f0 := fun x hx => nodesFine_ids f a none (diskOk_all a b c d e f h).2.2.2.2.1 x hx
theorem usedOn_mem : ∀ (a : List S57) (x : S57), x ∈ a → x.f1.size ≤ usedOn a
  | y :: l, x, h => by
    show x.f1.size ≤ y.f1.size + usedOn l
    rcases List.mem_cons.mp h with rfl | h
    · omega
    · have := usedOn_mem l x h
      omega
theorem brought_nat (n : Int) (l : Nat) : ∃ m : Nat, brought n 0 (l : Int) = (m : Int) ∧ m ≤ l := by
  unfold brought
  by_cases h1 : n < 0
  · exact ⟨0, by rw [if_neg (by omega), if_pos h1]; rfl, by omega⟩
  · by_cases h2 : n > (l : Int)
    · exact ⟨l, by rw [if_neg (by omega), if_neg h1, if_pos h2], by omega⟩
    · exact ⟨n.toNat, by rw [if_neg (by omega), if_neg h1, if_neg h2]; omega, by omega⟩
theorem StepsDone_any (old : List S59) (steps : List ByteArray) (hn : old.length + steps.length ≤ 1048576) (hs : ∀ s ∈ steps, s.size ≤ 1048576) (n : Int) (m : Nat) (hm : brought n 0 (steps.length : Int) = (m : Int)) (hml : m ≤ steps.length) :
    Ev (fun k => spec_StepsDone.f k old steps n) (doneRes (doneS old (steps.take m))) := by
  unfold spec_StepsDone.f
  refine Ev.bind (Ev.const rfl) (Ev.pos (by simp; omega) (Ev.bind (spec_Brought_ev _ _ _) ?_))
  rw [hm, List.nil_append]
  exact StepsDone_l0 steps (by omega) hs m hml m 0 old (by omega) (by omega)
theorem stepsD_chain : ∀ (d : List ByteArray) (c : List S59), chainOk c d → c.length + d.length ≤ 1048576 → (∀ s ∈ d, s.size ≤ 1048576) → ∃ l, doneS c d = some l ∧ stepsD c d = some (l, true)
  | [], c, _, _, _ => ⟨c, rfl, rfl⟩
  | s :: d, c, hc, hl, hs => by
    obtain ⟨h1, l, h2, h3⟩ := hc
    have hln := stepS_length h2
    rw [List.length_cons] at hl
    obtain ⟨l', i1, i2⟩ := stepsD_chain d l h3 (by omega) fun s hs' => hs s (List.mem_cons_of_mem _ hs')
    refine ⟨l', by rw [doneS, h2]; exact i1, ?_⟩
    rw [stepsD, impl_stepDone_f h1 (by omega) s (hs s (List.mem_cons_self ..)), h2]
    exact i2
theorem okFrom_at (a : List S57) (b : List S59) : ∀ (d : List ByteArray) (now : List S59) (m : Nat), m ≤ d.length → okFrom a b now d = true → ∃ l, doneS now (d.take m) = some l ∧ fine a l = true ∧ chainOk now (d.take m)
  | d, now, 0, _, h => ⟨now, rfl, (okFrom_chain a b d now h).2.2, trivial⟩
  | [], now, m + 1, hm, h => absurd hm (Nat.not_succ_le_zero _)
  | s :: r, now, m + 1, hm, h => by
    rw [okFrom, Bool.and_eq_true] at h
    have h2 := h.2
    cases hs : stepS now s with
    | none => rw [hs] at h2; cases h2
    | some l =>
      rw [hs] at h2
      obtain ⟨l', i1, i2, i3⟩ := okFrom_at a b r l m (Nat.le_of_succ_le_succ hm) h2
      rw [List.take_succ_cons]
      exact ⟨l', by rw [doneS, hs]; exact i1, i2, fine_order h.1, l, hs, i3⟩
/-- A node cut to as many bytes as m tells, all of them sure. -/
def cutK (m : S57 → Int) (x : S57) : S57 := ⟨x.f0, x.f1.extract 0 (m x).toNat, m x⟩
theorem cutNodes_eq (K : S57 → Option Int) (m : S57 → Int) (ids : Int → Bool) : ∀ (a : List S57), (∀ x ∈ a, K x = some (m x) ∧ 0 ≤ m x ∧ m x ≤ (x.f1.size : Int)) → cutNodes K ids a = some ((a.filter fun x => ids x.f0).map (cutK m))
  | [], _ => rfl
  | x :: l, h => by
    obtain ⟨h1, h2, h3⟩ := h x (List.mem_cons_self ..)
    have ih := cutNodes_eq K m ids l fun y hy => h y (List.mem_cons_of_mem _ hy)
    rw [cutNodes, List.filter_cons, ih]
    by_cases hi : ids x.f0 = true
    · have hz : ((x.f1.extract 0 (m x).toNat).size : Int) = m x := by rw [ByteArray.size_extract]; omega
      rw [if_pos hi, if_pos hi, h1]
      show (if 0 ≤ m x ∧ m x ≤ (x.f1.size : Int) then _ else none) = _
      rw [if_pos ⟨h2, h3⟩, hz]
      rfl
    · rw [if_neg hi, if_neg hi]
def keepS (ks : List Int) (x : S57) : Int := if ks.length = 0 then x.f2 else x.f2 + brought (rd ks (Int.tmod x.f0 (ks.length : Int))) 0 ((x.f1.size : Int) - x.f2)
theorem brought_in (n a b : Int) (h : a ≤ b) : a ≤ brought n a b ∧ brought n a b ≤ b := by
  unfold brought
  rw [if_neg (by omega)]
  split
  · omega
  · split <;> omega
theorem keepS_in (ks : List Int) (x : S57) (h0 : 0 ≤ x.f2) (h1 : x.f2 ≤ (x.f1.size : Int)) : x.f2 ≤ keepS ks x ∧ keepS ks x ≤ (x.f1.size : Int) := by
  unfold keepS
  split
  · omega
  · have := brought_in (rd ks (Int.tmod x.f0 (ks.length : Int))) 0 ((x.f1.size : Int) - x.f2) (by omega)
    omega
theorem keepK_ev (ks : List Int) (x : S57) (hi : 1 ≤ x.f0) (h0 : 0 ≤ x.f2) (h1 : x.f2 ≤ (x.f1.size : Int)) (hz : x.f1.size ≤ 1048576) : Ev (fun k => keepK k ks x) (keepS ks x) := by
  have hk := keepS_in ks x h0 h1
  unfold keepK
  by_cases h : ks.length = 0
  · rw [show keepS ks x = x.f2 from if_pos h]
    exact Ev.pos h (Ev.now _)
  · have e : keepS ks x = x.f2 + brought (rd ks (Int.tmod x.f0 (ks.length : Int))) 0 ((x.f1.size : Int) - x.f2) := if_neg h
    rw [e] at hk ⊢
    refine Ev.neg h (Ev.pos (Int.tmod_nonneg _ (by omega)) (Ev.bind (spec_Brought_ev _ _ _) ?_))
    rw [wrap64_id (x := (x.f1.size : Int) - x.f2) (by omega) (by omega), wrap64_id (x := x.f2 + _) (by omega) (by omega)]
    exact Ev.now _
theorem cutSpec_ev (ks : List Int) : ∀ (a : List S57), (∀ x ∈ a, 1 ≤ x.f0) → (∀ x ∈ a, 0 ≤ x.f2 ∧ x.f2 ≤ (x.f1.size : Int)) → (∀ x ∈ a, x.f1.size ≤ 1048576) → Ev (fun k => cutSpec k ks a) (a.map (cutK (keepS ks)))
  | [], _, _, _ => Ev.now _
  | x :: r, hi, hs, hz => by
    have h2 := hs x (List.mem_cons_self ..)
    have hk := keepS_in ks x h2.1 h2.2
    have ih := cutSpec_ev ks r (fun y hy => hi y (List.mem_cons_of_mem _ hy)) (fun y hy => hs y (List.mem_cons_of_mem _ hy)) (fun y hy => hz y (List.mem_cons_of_mem _ hy))
    exact Ev.bind (keepK_ev ks x (hi x (List.mem_cons_self ..)) h2.1 h2.2 (hz x (List.mem_cons_self ..))) (Ev.pos ⟨by omega, hk.2⟩ (Ev.bind ih (Ev.now _)))
section
variable (a : List S57) (b c : List S59) (d : List ByteArray) (e f : Int)
/-- A right disk behind a fall: which entries stand, how many bytes of each node. -/
noncomputable def fellTo (m : S57 → Int) (l : List S59) : List S57 × List S59 × List S59 × List ByteArray × Int × Int := ((a.filter fun x => anyId l x.f0).map (cutK m), l, l, [], e, f)
noncomputable def fallOut (n : Int) (ks : List Int) : List S57 × List S59 × List S59 × List ByteArray × Int × Int :=
  if diskOk a b c d e f = true then fellTo a e f (keepS ks) (stAt c d (brought n 0 (d.length : Int)).toNat) else (a, b, c, d, e, f)
theorem spec_Fallen_ev (n : Int) (ks : List Int) (hk : ks.length ≤ 1048576) (ha : a.length ≤ 1048576) (hb : b.length ≤ 1048576) (hu : usedOn a ≤ 1048576) (hcd : c.length + d.length ≤ 1048576) (hs : ∀ s ∈ d, s.size ≤ 1048576) (hc : ∀ x ∈ c, x.f0.size ≤ 1048576) : Ev (fun k => spec_Fallen.f k a b c d e f n ks) (fallOut a b c d e f n ks) := by
  unfold spec_Fallen.f
  rw [l05Copy_f a b c d e f ha hb (by omega) (by omega)]
  refine Ev.bind (Ev.const rfl) (Ev.bind (spec_DiskOk_ev a b c d e f ha hu hcd hs hc) ?_)
  by_cases h : diskOk a b c d e f = true
  · rw [show fallOut a b c d e f n ks = _ from if_pos h]
    refine Ev.pos h ?_
    obtain ⟨m, hm, hml⟩ := brought_nat n d.length
    obtain ⟨l, hl, hf, hch⟩ := okFrom_at a b d c m hml (diskOk_all a b c d e f h).2.2.2.2.2
    have hst : stAt c d (brought n 0 (d.length : Int)).toNat = l := by unfold stAt; rw [hm, Int.toNat_natCast, hl]; rfl
    rw [hst]
    have hsd := StepsDone_any c d (by omega) hs n m hm hml
    rw [hl] at hsd
    have hl16 := fine_len a hf
    have hsm := (doneS_small _ _ _ (fun s hs' => hs s (List.mem_of_mem_take hs')) hc hl).2
    refine Ev.bind hsd (Ev.pos (by show l.length * 24 ≤ _; omega) (Ev.bind (cutSpec_ev ks a (diskOk_ids h) (diskOk_sure h) fun x hx => Nat.le_trans (usedOn_mem a x hx) hu) ?_))
    have hR := spec_l06Clean_ev (a.map (cutK (keepS ks))) l l [] e f (by rw [List.length_map]; exact ha) (by rw [List.length_nil]; omega) (fun s hs' => absurd hs' List.not_mem_nil) hsm
    have hcl : cleanS (a.map (cutK (keepS ks))) l [] = (a.filter fun x => anyId l x.f0).map (cutK (keepS ks)) := by
      unfold cleanS
      rw [List.filter_map]
      congr 1
      refine List.filter_congr fun x _ => ?_
      simp [usedFrom, stAt, doneS, doneRes, cutK, Function.comp]
    rw [hcl] at hR
    exact hR
  · rw [show fallOut a b c d e f n ks = _ from if_neg h]
    exact Ev.neg h (Ev.now _)
theorem impl_StepsDone_f (n : Int) (hcd : c.length + d.length ≤ 1048576) (hs : ∀ s ∈ d, s.size ≤ 1048576) (m : Nat) (hm : brought n 0 (d.length : Int) = (m : Int)) (hml : m ≤ d.length) (hch : chainOk c (d.take m)) : ∃ l, doneS c (d.take m) = some l ∧ impl_StepsDone.f c d n = some (l, true) := by
  obtain ⟨l, h1, h2⟩ := stepsD_chain (d.take m) c hch (by rw [List.length_take]; omega) fun s hs' => hs s (List.mem_of_mem_take hs')
  refine ⟨l, h1, ?_⟩
  unfold impl_StepsDone.f
  rw [if_pos (by omega), impl_Brought_f, hm]
  show (if 0 ≤ (m : Int) ∧ (m : Int) ≤ (d.length : Int) then _ else none) = _
  rw [if_pos ⟨by omega, by omega⟩, Int.toNat_natCast]
  exact h2
end
def eqN (x y : S57) : Bool := (x.f0 == y.f0) && ((x.f1.toList == y.f1.toList) && (x.f2 == y.f2))
theorem eqN_not (x y : S57) : (!(x.f0 == y.f0) || (!(x.f1.toList == y.f1.toList) || !(x.f2 == y.f2))) = !eqN x y := by unfold eqN; rw [Bool.not_and, Bool.not_and]
def sameDisk (a : List S57) (b c : List S59) (d : List ByteArray) (e f : Int) (a' : List S57) (b' c' : List S59) (d' : List ByteArray) (e' f' : Int) : Bool := eqW eqN a a' && (eqW eqE b b' && (eqW eqE c c' && (eqW eqB d d' && ((e == e') && (f == f')))))
theorem rowsEq_eqW {α : Type} (p : α → α → Bool) : ∀ xs ys : List α, rowsEq p xs ys = eqW p xs ys
  | [], [] => rfl
  | x :: xs, y :: ys => by rw [rowsEq, eqW, rowsEq_eqW p xs ys]
  | [], _ :: _ => rfl
  | _ :: _, [] => rfl
theorem spec_SameDisk_ev (a : List S57) (b c : List S59) (d : List ByteArray) (e f : Int) (a' : List S57) (b' c' : List S59) (d' : List ByteArray) (e' f' : Int) (hb : b.length ≤ 140737488355328) (hc : c.length ≤ 140737488355328) :
    Ev (fun k => spec_SameDisk.f k a b c d e f a' b' c' d' e' f') (sameDisk a b c d e f a' b' c' d' e' f') := by
  unfold spec_SameDisk.f
  have no (z : sameDisk a b c d e f a' b' c' d' e' f' = false) : Ev (fun _ : Nat => some false) (sameDisk a b c d e f a' b' c' d' e' f') := by
    rw [z]; exact Ev.now _
  by_cases h1 : a.length = a'.length
  · refine Ev.pos h1 (Ev.bind (l06Same_ev b b' hb) ?_)
    by_cases h2 : eqW eqE b b' = true
    · refine Ev.pos h2 (Ev.bind (l06Same_ev c c' hc) ?_)
      by_cases h3 : eqW eqE c c' = true
      · refine Ev.pos h3 ?_
        by_cases h4 : d.length = d'.length
        · refine Ev.pos h4 ?_
          by_cases h5 : e = e'
          · refine Ev.pos h5 ?_
            by_cases h6 : f = f'
            · refine Ev.pos h6 (Ev.const ?_)
              unfold sameDisk
              rw [h2, h3, h5, h6, beq_self_eq_true, beq_self_eq_true, rowsEq_eqW, rowsEq_eqW, show rowN = eqN from rfl, show rowB = eqB from rfl]
              simp
            · exact Ev.neg h6 (no (by unfold sameDisk; rw [beq_eq_false_iff_ne.2 h6]; simp))
          · exact Ev.neg h5 (no (by unfold sameDisk; rw [beq_eq_false_iff_ne.2 h5]; simp))
        · exact Ev.neg h4 (no (by unfold sameDisk; rw [eqW_len _ _ _ h4]; simp))
      · exact Ev.neg h3 (no (by unfold sameDisk; rw [Bool.eq_false_iff.2 h3]; simp))
    · exact Ev.neg h2 (no (by unfold sameDisk; rw [Bool.eq_false_iff.2 h2]; simp))
  · exact Ev.neg h1 (no (by unfold sameDisk; rw [eqW_len _ _ _ h1]; simp))
theorem slicesEqualNode_l0 (xs ys : List S57) (hl : xs.length = ys.length) (hx : xs.length ≤ 140737488355328) (n : Nat) : ∀ (i : Nat), i + n = xs.length →
    Ev (fun k => impl_Node.l0 k xs ys (xs.length : Int) (i : Int)) (eqW eqN (xs.drop i) (ys.drop i)) := by
  induction n with
  | zero =>
    intro i hi
    rw [eqW_end _ _ _ _ (by omega) (by omega)]
    refine Ev.step (fun k => by rw [impl_Node.l0]) ?_
    exact Ev.neg (by omega) (Ev.now _)
  | succ n ih =>
    intro i hi
    rw [eqW_drop _ _ _ _ (by omega) (by omega)]
    refine Ev.step (fun k => by rw [impl_Node.l0]) (Ev.pos (by omega) (Ev.pos (by omega) (Ev.pos (by omega) (Ev.pos (by omega) ?_))))
    rw [rd_INode xs i (by omega), rd_INode ys i (by omega)]
    rw [eqN_not]
    by_cases h : eqN (xs[i]'(by omega)) (ys[i]'(by omega)) = true
    · rw [h, Bool.true_and]
      refine Ev.neg (by decide) ?_
      rw [wrap64_id (by omega) (by omega)]
      exact ih (i + 1) (by omega)
    · rw [Bool.eq_false_iff.2 h, Bool.false_and]
      exact Ev.pos (by decide) (Ev.now _)
theorem slicesEqualNode_ev (xs ys : List S57) (hx : xs.length ≤ 140737488355328) : Ev (fun k => impl_Node.f k xs ys) (eqW eqN xs ys) := by
  unfold impl_Node.f
  by_cases h : xs.length = ys.length
  · exact Ev.pos (by omega) (slicesEqualNode_l0 xs ys h hx xs.length 0 (by omega))
  · rw [eqW_len _ _ _ h]
    exact Ev.neg (by omega) (Ev.now _)
theorem slicesEqualString_l0 (xs ys : List ByteArray) (hl : xs.length = ys.length) (hx : xs.length ≤ 140737488355328) (n : Nat) : ∀ (i : Nat), i + n = xs.length →
    Ev (fun k => slices_Equal_string_string.l0 k xs ys (xs.length : Int) (i : Int)) (eqW eqB (xs.drop i) (ys.drop i)) := by
  induction n with
  | zero =>
    intro i hi
    rw [eqW_end _ _ _ _ (by omega) (by omega)]
    refine Ev.step (fun k => by rw [slices_Equal_string_string.l0]) ?_
    exact Ev.neg (by omega) (Ev.now _)
  | succ n ih =>
    intro i hi
    rw [eqW_drop _ _ _ _ (by omega) (by omega)]
    refine Ev.step (fun k => by rw [slices_Equal_string_string.l0]) (Ev.pos (by omega) (Ev.pos (by omega) (Ev.pos (by omega) (Ev.pos (by omega) ?_))))
    rw [rd_S xs i (by omega), rd_S ys i (by omega)]
    by_cases h : eqB (xs[i]'(by omega)) (ys[i]'(by omega)) = true
    · rw [h, Bool.true_and]
      refine Ev.pos (beq_iff_eq.1 h) ?_
      rw [wrap64_id (by omega) (by omega)]
      exact ih (i + 1) (by omega)
    · rw [Bool.eq_false_iff.2 h, Bool.false_and]
      exact Ev.neg (fun e => h (beq_iff_eq.2 e)) (Ev.now _)
theorem slicesEqualString_ev (xs ys : List ByteArray) (hx : xs.length ≤ 140737488355328) : Ev (fun k => slices_Equal_string_string.f k xs ys) (eqW eqB xs ys) := by
  unfold slices_Equal_string_string.f
  by_cases h : xs.length = ys.length
  · exact Ev.pos (by omega) (slicesEqualString_l0 xs ys h hx xs.length 0 (by omega))
  · rw [eqW_len _ _ _ h]
    exact Ev.neg (by omega) (Ev.now _)
theorem impl_SameDisk_ev (a : List S57) (b c : List S59) (d : List ByteArray) (e f : Int) (a' : List S57) (b' c' : List S59) (d' : List ByteArray) (e' f' : Int) (ha : a.length ≤ 140737488355328) (hb : b.length ≤ 140737488355328) (hc : c.length ≤ 140737488355328) (hd : d.length ≤ 140737488355328) :
    Ev (fun k => impl_SameDisk.f k a b c d e f a' b' c' d' e' f') (sameDisk a b c d e f a' b' c' d' e' f') := by
  unfold impl_SameDisk.f
  refine Ev.bind (slicesEqualNode_ev a a' ha) ?_
  by_cases h1 : eqW eqN a a' = true
  · refine Ev.pos h1 (Ev.bind (slicesEqualEntry_ev b b' hb) ?_)
    by_cases h2 : eqW eqE b b' = true
    · refine Ev.pos h2 (Ev.bind (slicesEqualEntry_ev c c' hc) ?_)
      by_cases h3 : eqW eqE c c' = true
      · refine Ev.pos h3 (Ev.bind (slicesEqualString_ev d d' hd) ?_)
        by_cases h4 : eqW eqB d d' = true
        · refine Ev.pos h4 ?_
          by_cases h5 : e = e'
          · refine Ev.pos h5 (Ev.const ?_)
            unfold sameDisk
            rw [h1, h2, h3, h4, h5, beq_self_eq_true]; simp
          · refine Ev.of_eq (r := false) (Ev.neg h5 (Ev.now _)) (by unfold sameDisk; rw [beq_eq_false_iff_ne.2 h5]; simp)
        · refine Ev.of_eq (r := false) (Ev.neg h4 (Ev.now _)) (by unfold sameDisk; rw [Bool.eq_false_iff.2 h4]; simp)
      · refine Ev.of_eq (r := false) (Ev.neg h3 (Ev.now _)) (by unfold sameDisk; rw [Bool.eq_false_iff.2 h3]; simp)
    · refine Ev.of_eq (r := false) (Ev.neg h2 (Ev.now _)) (by unfold sameDisk; rw [Bool.eq_false_iff.2 h2]; simp)
  · refine Ev.of_eq (r := false) (Ev.neg h1 (Ev.now _)) (by unfold sameDisk; rw [Bool.eq_false_iff.2 h1]; simp)
theorem rd_Z (xs : List Int) (i : Nat) (h : i < xs.length) : rd xs (i : Int) = xs[i] := by
  unfold rd
  rw [Int.toNat_natCast, List.getD_eq_getElem?_getD, List.getElem?_eq_getElem h]; rfl
/-! ### What could be left -/
def anyFrom (g : Nat → Bool) : Nat → Nat → Bool
  | 0, _ => false
  | n + 1, i => g i || anyFrom g n (i + 1)
theorem couldL_ev (F : Nat → Int → Option Bool) (g : Nat → Bool) : ∀ n i : Nat, (∀ j : Nat, i ≤ j → j < i + n → Ev (fun k => F k (j : Int)) (g j)) → Ev (fun k => couldL (F k) n i) (anyFrom g n i)
  | 0, i, _ => Ev.now _
  | n + 1, i, h => by
    have ih := couldL_ev F g n (i + 1) fun j h1 h2 => h j (by omega) (by omega)
    show Ev (fun k => (F k (i : Int)).bind fun t => if t = true then some true else couldL (F k) n (i + 1)) _
    refine Ev.bind (h i (Nat.le_refl _) (by omega)) ?_
    rw [anyFrom]
    cases g i with
    | true => exact Ev.pos rfl (Ev.now _)
    | false => exact Ev.neg (by decide) ih
theorem nodesFine_pair (f : Int) : ∀ (l : List S57) (p : Option Int), nodesFine f p l = true → l.Pairwise (fun x y => x.f0 < y.f0) ∧ ∀ q, p = some q → ∀ x ∈ l, q < x.f0
  | [], _, _ => ⟨List.Pairwise.nil, fun _ _ _ hx => absurd hx List.not_mem_nil⟩
  | y :: l, p, h => by
    rw [nodesFine, Bool.and_eq_true] at h
    obtain ⟨h1, h2⟩ := h
    obtain ⟨i1, i2⟩ := nodesFine_pair f l (some y.f0) h2
    refine ⟨List.Pairwise.cons (fun x hx => i2 _ rfl x hx) i1, fun q hq x hx => ?_⟩
    subst hq
    unfold nodeFine at h1
    rw [Bool.and_eq_true] at h1
    have h3 : ¬ y.f0 ≤ q := by simpa using h1.1
    rcases List.mem_cons.mp hx with rfl | hx
    · omega
    · have := i2 _ rfl x hx
      omega
theorem idx_unique (l : List S57) (i : Nat) (x : S57) (hp : l.Pairwise (fun x y => x.f0 < y.f0)) (hx : x ∈ l) : ∃ j, ∃ h : j < l.length, idxOf (idIs x.f0) l i = ((i + j : Nat) : Int) ∧ l[j] = x := by
  rcases idxOf_span (idIs x.f0) l i with ⟨_, h⟩ | ⟨j, hj, h1, h2⟩
  · have := h x hx
    simp [idIs] at this
  · refine ⟨j, hj, h1, ?_⟩
    obtain ⟨m, hm, rfl⟩ := List.getElem_of_mem hx
    have h3 : l[j].f0 = l[m].f0 := by simpa [idIs] using h2
    rw [List.pairwise_iff_getElem] at hp
    rcases Nat.lt_trichotomy j m with h | h | h
    · have := hp j m hj hm h
      omega
    · subst h; rfl
    · have := hp m j hm hj h
      omega
def couldS (a' : List S57) (x : S57) : Int := if nodeIx a' x.f0 < 0 then x.f2 else brought ((rd_T57 a' (nodeIx a' x.f0)).f1.size : Int) x.f2 (x.f1.size : Int)
theorem couldS_in (a' : List S57) (x : S57) (h1 : x.f2 ≤ (x.f1.size : Int)) : x.f2 ≤ couldS a' x ∧ couldS a' x ≤ (x.f1.size : Int) := by
  unfold couldS
  split
  · omega
  · exact brought_in _ _ _ h1
theorem couldKeep_eq (a' : List S57) (x : S57) : couldKeep a' x = some (couldS a' x) := by
  unfold couldKeep couldS
  rw [show (idxOf (fun y : S57 => y.f0 == x.f0) a' 0) = nodeIx a' x.f0 from rfl]
  have hr := nodeIx_range a' x.f0
  by_cases h : nodeIx a' x.f0 < 0
  · rw [if_pos h, if_pos h]
  · rw [if_neg h, if_neg h, if_pos ⟨by omega, hr.2⟩, impl_Brought_f]
theorem rd_mem (a : List S57) (i : Int) (h0 : 0 ≤ i) (h1 : i < (a.length : Int)) : rd_T57 a i ∈ a := by
  obtain ⟨j, rfl⟩ : ∃ j : Nat, i = (j : Int) := ⟨i.toNat, by omega⟩
  rw [rd_INode a j (by omega)]
  exact List.getElem_mem _
theorem brought_shift (z f s : Int) (h0 : 0 ≤ f) (h1 : f ≤ s) : f + brought (z - f) 0 (s - f) = brought z f s := by
  unfold brought
  rw [if_neg (show ¬ s - f < 0 by omega), if_neg (show ¬ s < f by omega)]
  by_cases h2 : z < f
  · rw [if_pos (show z - f < 0 by omega), if_pos h2]; omega
  · rw [if_neg (show ¬ z - f < 0 by omega), if_neg h2]
    by_cases h3 : z > s
    · rw [if_pos (show z - f > s - f by omega), if_pos h3]; omega
    · rw [if_neg (show ¬ z - f > s - f by omega), if_neg h3]; omega
def keepV (a a' : List S57) (id : Int) : Int := if 0 ≤ nodeIx a id ∧ 0 ≤ nodeIx a' id then ((rd_T57 a' (nodeIx a' id)).f1.size : Int) - (rd_T57 a (nodeIx a id)).f2 else 0
def keepList (g : Int → Int) : Nat → Nat → List Int
  | 0, _ => []
  | n + 1, i => g (i : Int) :: keepList g n (i + 1)
theorem keepList_length (g : Int → Int) : ∀ n i, (keepList g n i).length = n
  | 0, _ => rfl
  | n + 1, i => by rw [keepList, List.length_cons, keepList_length g n]
theorem keepList_get (g : Int → Int) : ∀ n i j : Nat, j < n → (keepList g n i)[j]? = some (g ((i + j : Nat) : Int))
  | 0, _, _, h => absurd h (Nat.not_lt_zero _)
  | n + 1, i, 0, _ => by rw [keepList]; rfl
  | n + 1, i, j + 1, h => by
    rw [keepList, List.getElem?_cons_succ, keepList_get g n (i + 1) j (by omega), show i + 1 + j = i + (j + 1) by omega]
theorem keepsF_ev (G : Nat → Int → Option Int) (g : Int → Int) (h : ∀ j : Nat, Ev (fun k => G k (j : Int)) (g (j : Int))) : ∀ (n i : Nat) (acc : List Int), Ev (fun k => keepsF (G k) n i acc) (acc ++ keepList g n i)
  | 0, i, acc => by rw [keepList, List.append_nil]; exact Ev.now _
  | n + 1, i, acc => by
    have ih := keepsF_ev G g h n (i + 1) (acc ++ [g (i : Int)])
    rw [List.append_assoc] at ih
    exact Ev.bind (h i) ih
theorem mostId_le : ∀ (l : List S57) (m B : Int), mostId l m ≤ B ↔ (m ≤ B ∧ ∀ x ∈ l, x.f0 ≤ B)
  | [], m, B => by simp [mostId]
  | x :: r, m, B => by
    rw [mostId, mostId_le r _ B]
    by_cases h : m < x.f0
    · rw [if_pos h]
      exact ⟨fun ⟨h1, h2⟩ => ⟨by omega, fun y hy => (List.mem_cons.mp hy).elim (fun e => e ▸ h1) (h2 y)⟩, fun ⟨_, h2⟩ => ⟨h2 x (List.mem_cons_self ..), fun y hy => h2 y (List.mem_cons_of_mem _ hy)⟩⟩
    · rw [if_neg h]
      exact ⟨fun ⟨h1, h2⟩ => ⟨h1, fun y hy => (List.mem_cons.mp hy).elim (fun e => e ▸ (by omega)) (h2 y)⟩, fun ⟨h1, h2⟩ => ⟨h1, fun y hy => h2 y (List.mem_cons_of_mem _ hy)⟩⟩
theorem any_big (a : List S57) : (a.any fun x => decide (100000 < x.f0)) = decide (100000 < mostId a 0) := by
  have h := mostId_le a 0 100000
  by_cases hb : mostId a 0 ≤ 100000
  · rw [decide_eq_false (by omega), Bool.eq_false_iff]
    intro hh
    obtain ⟨x, hx, hq⟩ := List.any_eq_true.mp hh
    have := (h.mp hb).2 x hx
    have := of_decide_eq_true hq
    omega
  · rw [decide_eq_true (by omega)]
    rw [List.any_eq_true]
    refine Classical.byContradiction fun hn => hb (h.mpr ⟨by decide, fun x hx => ?_⟩)
    refine Classical.byContradiction fun hx2 => hn ⟨x, hx, decide_eq_true (by omega)⟩
section
variable (a : List S57) (b c : List S59) (d : List ByteArray) (e f : Int) (a' : List S57) (b' c' : List S59) (d' : List ByteArray) (e' f' : Int)
theorem keepAtF_ev (ha : a.length ≤ 1048576) (ha' : a'.length ≤ 1048576) (hu' : usedOn a' ≤ 1048576) (hsr : ∀ x ∈ a, 0 ≤ x.f2 ∧ x.f2 ≤ (x.f1.size : Int)) (hu : usedOn a ≤ 1048576) (id : Int) : Ev (fun k => keepAtF k a b c d e f a' b' c' d' e' f' id) (keepV a a' id) := by
  have hr := nodeIx_range a id
  have hr' := nodeIx_range a' id
  unfold keepAtF
  refine Ev.bind (spec_l05Node_ev a b c d e f id ha) (Ev.bind (spec_l05Node_ev a' b' c' d' e' f' id ha') ?_)
  by_cases h : 0 ≤ nodeIx a id ∧ 0 ≤ nodeIx a' id
  · rw [show keepV a a' id = _ from if_pos h]
    have m1 := rd_mem a _ h.1 hr.2
    have m2 := rd_mem a' _ h.2 hr'.2
    have s1 := hsr _ m1
    have s2 := usedOn_mem a' _ m2
    have s3 := usedOn_mem a _ m1
    refine Ev.pos h (Ev.pos ⟨hr.2, hr'.2⟩ ?_)
    rw [wrap64_id (by omega) (by omega)]
    exact Ev.now _
  · rw [show keepV a a' id = _ from if_neg h]
    exact Ev.neg h (Ev.now _)
theorem keepS_could (hp : a.Pairwise (fun x y => x.f0 < y.f0)) (hid : ∀ x ∈ a, 1 ≤ x.f0) (hsr : ∀ x ∈ a, 0 ≤ x.f2 ∧ x.f2 ≤ (x.f1.size : Int)) (x : S57) (hx : x ∈ a) :
    keepS (keepList (keepV a a') ((mostId a 0).toNat + 1) 0) x = couldS a' x := by
  have hM := ((mostId_le a 0 (mostId a 0)).mp (Int.le_refl _))
  have h1 := hid x hx
  have h2 := hM.2 x hx
  have h3 := hsr x hx
  have hl := keepList_length (keepV a a') ((mostId a 0).toNat + 1) 0
  obtain ⟨n, hn⟩ : ∃ n : Nat, x.f0 = (n : Int) := ⟨x.f0.toNat, by omega⟩
  have hnl : n < (mostId a 0).toNat + 1 := by omega
  have hg := keepList_get (keepV a a') ((mostId a 0).toNat + 1) 0 n hnl
  rw [Nat.zero_add] at hg
  generalize keepList (keepV a a') ((mostId a 0).toNat + 1) 0 = ks at hl hg ⊢
  have hrd : rd ks (Int.tmod x.f0 (ks.length : Int)) = keepV a a' x.f0 := by
    rw [Int.tmod_eq_of_lt (by omega) (by omega), hn, rd_Z ks n (by omega)]
    exact Option.some.inj ((List.getElem?_eq_getElem (by omega)).symm.trans hg)
  obtain ⟨j, hj, hj1, hj2⟩ := idx_unique a 0 x hp hx
  have hix : nodeIx a x.f0 = (j : Int) := by rw [show nodeIx a x.f0 = idxOf (idIs x.f0) a 0 from rfl, hj1, Nat.zero_add]
  unfold keepS
  rw [if_neg (by omega), hrd]
  unfold keepV couldS
  rw [hix, rd_INode a j hj, hj2]
  have hr' := nodeIx_range a' x.f0
  generalize nodeIx a' x.f0 = q at hr' ⊢
  by_cases hq : q < 0
  · rw [if_neg (by omega), if_pos hq]
    unfold brought
    rw [if_neg (by omega), if_neg (by omega), if_neg (by omega)]
    omega
  · rw [if_pos ⟨by omega, by omega⟩, if_neg hq]
    generalize ((rd_T57 a' q).f1.size : Int) = z
    exact brought_shift z _ _ h3.1 h3.2
noncomputable def couldAt (i : Nat) : Bool := sameDisk ((a.filter fun x => anyId (stAt c d i) x.f0).map (cutK (couldS a'))) (stAt c d i) (stAt c d i) [] e f a' b' c' d' e' f'
noncomputable def couldOut : Bool := diskOk a b c d e f && (diskOk a' b' c' d' e' f' && (!decide (100000 < mostId a 0) && anyFrom (couldAt a c d e f a' b' c' d' e' f') (d.length + 1) 0))
theorem brought_id (j l : Nat) (h : j ≤ l) : brought (j : Int) 0 (l : Int) = (j : Int) := by
  unfold brought
  rw [if_neg (by omega), if_neg (by omega), if_neg (by omega)]
theorem impl_CouldFall_ev (ha : a.length ≤ 1048576) (hu : usedOn a ≤ 1048576) (hcd : c.length + d.length ≤ 1048576) (hs : ∀ s ∈ d, s.size ≤ 1048576) (hc : ∀ x ∈ c, x.f0.size ≤ 1048576)
    (ha' : a'.length ≤ 1048576) (hu' : usedOn a' ≤ 1048576) (hcd' : c'.length + d'.length ≤ 1048576) (hs' : ∀ s ∈ d', s.size ≤ 1048576) (hc' : ∀ x ∈ c', x.f0.size ≤ 1048576) : Ev (fun k => impl_CouldFall.f k a b c d e f a' b' c' d' e' f') (couldOut a b c d e f a' b' c' d' e' f') := by
  unfold impl_CouldFall.f couldOut
  refine Ev.bind (impl_DiskOk_ev a b c d e f ha hu hcd hs hc) ?_
  by_cases h : diskOk a b c d e f = true
  case neg => rw [Bool.eq_false_iff.mpr h]; exact Ev.neg (by decide) (Ev.now _)
  rw [h, Bool.true_and]
  refine Ev.pos rfl (Ev.bind (impl_DiskOk_ev a' b' c' d' e' f' ha' hu' hcd' hs' hc') ?_)
  by_cases h' : diskOk a' b' c' d' e' f' = true
  case neg => rw [Bool.eq_false_iff.mpr h']; exact Ev.neg (by decide) (Ev.now _)
  rw [h', Bool.true_and, any_big a]
  refine Ev.pos rfl ?_
  by_cases hb : 100000 < mostId a 0
  · rw [decide_eq_true hb]; exact Ev.pos rfl (Ev.now _)
  rw [decide_eq_false hb]
  refine Ev.neg (by decide) (Ev.pos ⟨by omega, by omega⟩ ?_)
  rw [Bool.not_false, Bool.true_and]
  refine couldL_ev (fun k => couldOne k a b c d e f a' b' c' d' e' f') (couldAt a c d e f a' b' c' d' e' f') _ 0 fun j _ hj => ?_
  have hjl : j ≤ d.length := by omega
  obtain ⟨l, hl, hf, hch⟩ := okFrom_at a b d c j hjl (diskOk_all a b c d e f h).2.2.2.2.2
  have hst : stAt c d j = l := by unfold stAt; rw [hl]; rfl
  unfold couldAt couldOne
  rw [hst]
  obtain ⟨l', hl', hsd⟩ := impl_StepsDone_f c d (j : Int) hcd hs j (brought_id j d.length hjl) hjl hch
  obtain rfl : l = l' := Option.some.inj (hl.symm.trans hl')
  have hl16 := fine_len a hf
  have hsr := diskOk_sure h
  refine Ev.bind (Ev.const hsd) (Ev.pos (by show l.length * 24 ≤ _; omega) (Ev.bind (Ev.const (cutNodes_eq (couldKeep a') (couldS a') (anyId l) a fun x hx => ?_)) (impl_SameDisk_ev _ l l [] e f a' b' c' d' e' f' ?_ (by omega) (by omega) (Nat.zero_le _))))
  · have h2 := hsr x hx
    have h4 := couldS_in a' x h2.2
    exact ⟨couldKeep_eq a' x, by omega, h4.2⟩
  · rw [List.length_map]
    exact Nat.le_trans (List.length_filter_le ..) (by omega)
theorem spec_CouldFall_ev (ha : a.length ≤ 1048576) (hb : b.length ≤ 1048576) (hu : usedOn a ≤ 1048576) (hcd : c.length + d.length ≤ 1048576) (hs : ∀ s ∈ d, s.size ≤ 1048576) (hc : ∀ x ∈ c, x.f0.size ≤ 1048576)
    (ha' : a'.length ≤ 1048576) (hu' : usedOn a' ≤ 1048576) (hcd' : c'.length + d'.length ≤ 1048576) (hs' : ∀ s ∈ d', s.size ≤ 1048576) (hc' : ∀ x ∈ c', x.f0.size ≤ 1048576) : Ev (fun k => spec_CouldFall.f k a b c d e f a' b' c' d' e' f') (couldOut a b c d e f a' b' c' d' e' f') := by
  unfold spec_CouldFall.f couldOut
  refine Ev.bind (spec_DiskOk_ev a b c d e f ha hu hcd hs hc) ?_
  by_cases h : diskOk a b c d e f = true
  case neg => rw [Bool.eq_false_iff.mpr h]; exact Ev.neg (by decide) (Ev.now _)
  rw [h, Bool.true_and]
  refine Ev.pos rfl (Ev.bind (spec_DiskOk_ev a' b' c' d' e' f' ha' hu' hcd' hs' hc') ?_)
  by_cases h' : diskOk a' b' c' d' e' f' = true
  case neg => rw [Bool.eq_false_iff.mpr h']; exact Ev.neg (by decide) (Ev.now _)
  rw [h', Bool.true_and]
  refine Ev.pos rfl ?_
  by_cases hbg : 100000 < mostId a 0
  · rw [decide_eq_true hbg]; exact Ev.pos hbg (Ev.now _)
  rw [decide_eq_false hbg]
  have hsr := diskOk_sure h
  have hks := keepsF_ev (fun k => keepAtF k a b c d e f a' b' c' d' e' f') (keepV a a') (fun j => keepAtF_ev a b c d e f a' b' c' d' e' f' ha ha' hu' hsr hu (j : Int)) ((mostId a 0).toNat + 1) 0 []
  rw [List.nil_append] at hks
  refine Ev.neg hbg (Ev.bind hks (Ev.pos (by omega) ?_))
  rw [Bool.not_false, Bool.true_and]
  have hkl := keepList_length (keepV a a') ((mostId a 0).toNat + 1) 0
  have hkc := fun x hx => keepS_could a a' (nodesFine_pair f a none (diskOk_all a b c d e f h).2.2.2.2.1).1 (diskOk_ids h) hsr x hx
  generalize keepList (keepV a a') ((mostId a 0).toNat + 1) 0 = ks at hkl hkc ⊢
  refine couldL_ev (fun k => specOne k a b c d e f a' b' c' d' e' f' ks) (couldAt a c d e f a' b' c' d' e' f') _ 0 fun j _ hj => ?_
  have hjl : j ≤ d.length := by omega
  obtain ⟨l, hl, hf, hch⟩ := okFrom_at a b d c j hjl (diskOk_all a b c d e f h).2.2.2.2.2
  have hst : stAt c d j = l := by unfold stAt; rw [hl]; rfl
  have hl16 := fine_len a hf
  have hfl := spec_Fallen_ev a b c d e f (j : Int) ks (by omega) ha hb hu hcd hs hc
  rw [show fallOut a b c d e f (j : Int) ks = _ from if_pos h, brought_id j d.length hjl, Int.toNat_natCast, hst] at hfl
  unfold couldAt specOne
  rw [hst]
  have hm : (a.filter fun x => anyId l x.f0).map (cutK (couldS a')) = (a.filter fun x => anyId l x.f0).map (cutK (keepS ks)) := List.map_congr_left fun x hx => by
    unfold cutK
    rw [hkc x (List.mem_filter.mp hx).1]
  rw [hm]
  refine Ev.bind hfl ?_
  exact spec_SameDisk_ev _ l l [] e f a' b' c' d' e' f' (by omega) (by omega)
end
theorem FnExactCouldFall : laws_FnExactCouldFall.Pure := by
  intro a b c d e f a' b' c' d' e' f' ha hb hc hd he hf ha' hb' hc' hd' he' hf'
  refine Ev.rounds (g := fun k => laws_FnExactCouldFall.f k a b c d e f a' b' c' d' e' f') ?_
  unfold laws_FnExactCouldFall.f
  obtain ⟨r, hr, h⟩ := szDisk_ev a b c d e f ⟨ha, hb, hc, hd, he, hf⟩ 1048576 (by decide) (by decide)
  refine Ev.bind hr ?_
  rcases h with h | ⟨h0, h⟩
  · exact Ev.pos h (Ev.now _)
  refine Ev.neg (by omega) ?_
  obtain ⟨r', hr', h'⟩ := szDisk_ev a' b' c' d' e' f' ⟨ha', hb', hc', hd', he', hf'⟩ r h0 (by omega)
  refine Ev.bind hr' ?_
  rcases h' with h' | ⟨h0', h'⟩
  · exact Ev.pos h' (Ev.now _)
  refine Ev.neg (by omega) ?_
  have hfit : DiskFits a b c d := by unfold DiskFits; omega
  have hfit' : DiskFits a' b' c' d' := by unfold DiskFits; omega
  have hd2 := toDisk_ev a b c d e f hfit
  have hd2' := toDisk_ev a' b' c' d' e' f' hfit'
  obtain ⟨s1, s2, s3, s4, s5⟩ := disk_small a b c d hfit
  obtain ⟨u1, u2, u3, u4, u5⟩ := disk_small a' b' c' d' hfit'
  have hl := toNodeS_length a
  have h2 := toEntryS_length b
  have h3 := toEntryS_length c
  have h4 := toStringS_length d
  have hl' := toNodeS_length a'
  have h2' := toEntryS_length b'
  have h3' := toEntryS_length c'
  have h4' := toStringS_length d'
  unfold DiskFits at hfit hfit'
  refine Ev.bind hd2 (Ev.bind hd2' (Ev.bind (spec_CouldFall_ev (toNodeS a) (toEntryS b) (toEntryS c) (toStringS d) e f (toNodeS a') (toEntryS b') (toEntryS c') (toStringS d') e' f' s1 (by omega) s2 s3 s4 s5 u1 u2 u3 u4 u5) (Ev.bind (impl_CouldFall_ev (toNodeS a) (toEntryS b) (toEntryS c) (toStringS d) e f (toNodeS a') (toEntryS b') (toEntryS c') (toStringS d') e' f' s1 s2 s3 s4 s5 u1 u2 u3 u4 u5) ?_)))
  refine Ev.bind (eqDisk_refl (toNodeS a) (toEntryS b) (toEntryS c) (toStringS d) e f (by omega) (by omega) (by omega) (by omega)) (Ev.bind (eqDisk_refl (toNodeS a') (toEntryS b') (toEntryS c') (toStringS d') e' f' (by omega) (by omega) (by omega) (by omega)) ?_)
  exact Ev.pos ⟨by trivial, by trivial, by trivial⟩ (Ev.now _)
end Go.Proofs.YtbcidclclckgfaaGreatDoor.Pure
