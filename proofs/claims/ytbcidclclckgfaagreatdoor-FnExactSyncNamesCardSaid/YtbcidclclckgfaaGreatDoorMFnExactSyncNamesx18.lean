/- Each theorem here says that a call of one Go function answers what the Lean function beside it answers; its conditions stand in it. Written by a program of this session. -/
import Derived.Test.YtbcidclclckgfaaGreatDoorMFnExactSyncNamesx0
import Derived.Test.YtbcidclclckgfaaGreatDoorMFnExactSyncNamesx13
import Derived.Test.YtbcidclclckgfaaGreatDoorMFnExactSyncNamesx14
import Derived.Test.YtbcidclclckgfaaGreatDoorMFnExactSyncNamesx15
import Derived.Test.YtbcidclclckgfaaGreatDoorMFnExactSyncNamesx16
import Derived.Test.YtbcidclclckgfaaGreatDoorMFnExactSyncNamesx17
namespace Go.Proofs.YtbcidclclckgfaaGreatDoor.MFnExactSyncNames
open Go.RowKit Go.Proofs.YtbcidclclckgfaaGreatDoorW.PrintWords Go.Proofs.YtbcidclclckgfaaGreatDoorW.PrintLast Go.Proofs.YtbcidclclckgfaaGreatDoorW.PrintMore
attribute [local go_sem] max2_int min2_int max_two min_two max_three min_three max_four min_four   -- for this text's walks alone
set_option linter.unusedVariables false
set_option linter.unusedSimpArgs false

/-! ### impl_SyncNames: function 44 -/
/-! ### A set of numbers: a map[int]bool that the call makes -/
def UsedMap (w : World) (B : Nat) (S : Int → Bool) : Prop := ∃ es clock, w.heap[B]? = some (.map es clock) ∧ (∀ x ∈ es.toList, ∃ a : Int, x.key = .int .i64 a ∧ x.val = .bool true) ∧ ∀ a : Int, S a = true ↔ ∃ x ∈ es.toList, x.key = .int .i64 a
theorem used_new (w : World) : UsedMap (w.alloc (.map #[] 0)) w.heap.size (fun _ => false) :=
  ⟨#[], 0, (Go.MapKept.heap_alloc w _).1, (fun x hx => by simp at hx), fun a => ⟨(fun h => by cases h), fun ⟨x, hx, _⟩ => by simp at hx⟩⟩
theorem used_kept {w w1 : World} {B : Nat} {S : Int → Bool} (h : UsedMap w B S) (hb : w1.heap[B]? = w.heap[B]?) : UsedMap w1 B S := by
  obtain ⟨es, c, h1, h2⟩ := h
  exact ⟨es, c, hb.trans h1, h2⟩
theorem used_lt {w : World} {B : Nat} {S : Int → Bool} (h : UsedMap w B S) : B < w.heap.size := by
  obtain ⟨es, c, h1, _⟩ := h
  exact blk_lt h1
theorem used_below {w w1 : World} {B : Nat} {S : Int → Bool} (h : UsedMap w B S) (hb : Below w.heap.size w w1) : UsedMap w1 B S := used_kept h (hb.block B (used_lt h))
theorem used_nocells {w : World} {B g : Nat} {S : Int → Bool} {cs : Array Value} {t : TypeId} {z : Nat × Nat} (h : UsedMap w B S) (hg : w.heap[g]? = some (.cells cs t z)) : B ≠ g := fun e => by
  obtain ⟨es, c, h1, _⟩ := h
  rw [e, hg] at h1
  cases h1
theorem used_look {w : World} {B : Nat} {S : Int → Bool} (h : UsedMap w B S) (a : Int) : (Instr.lookup 129 (.map (some B)) (.int .i64 a) false).run Tryz.prog w = .ok (.bool (S a)) w := by
  obtain ⟨es, c, hb, hk, hS⟩ := h
  have hd := Tryz.underlying3
  have hik : Go.MapKept.IsKey (.int .i64) (Value.int .i64 a) := by simp [Go.MapKept.IsKey]
  have hks : ∀ x ∈ es.toList, Go.MapKept.IsKey (.int .i64) x.key := fun x hx => by
    obtain ⟨b, e, _⟩ := hk x hx
    rw [e]
    simp [Go.MapKept.IsKey]
  have hz : (zeroValue 4).run Tryz.prog w = .ok (.bool false) w := by kernel_rfl
  rcases Go.MapKept.findNow_spec hik es.toList 0 hks with ⟨h1, h2⟩ | ⟨j, e, h1, h2, h3⟩
  · have hf : S a = false := by
      cases hs : S a with
      | false => rfl
      | true =>
        obtain ⟨x, hx, e⟩ := (hS a).mp hs
        exact absurd e (h2 x hx)
    simp [Instr.lookup, run_underlying Tryz.underlying129, Go.MapKept.run_getObj_map hb, Go.MapKept.run_checkKey hd hik, Go.MapKept.run_findKey hd h1, hz, Result.andThen, hf]
  · have hm : e ∈ es.toList := List.mem_of_getElem? h2
    have ht : S a = true := (hS a).mpr ⟨e, hm, h3⟩
    obtain ⟨b, _, hv⟩ := hk e hm
    simp [Instr.lookup, run_underlying Tryz.underlying129, Go.MapKept.run_getObj_map hb, Go.MapKept.run_checkKey hd hik, Go.MapKept.run_findKey hd h1, Result.andThen, ht, hv]
theorem used_store {w : World} {B : Nat} {S : Int → Bool} (h : UsedMap w B S) (a : Int) : ∃ w', (Instr.mapUpdate 129 (.map (some B)) (.int .i64 a) (.bool true)).run Tryz.prog w = .ok () w' ∧ UsedMap w' B (fun x => S x || x == a) ∧ w'.os = w.os ∧ w'.tape = w.tape ∧ w'.output = w.output ∧ w'.heap.size = w.heap.size ∧ ∀ i, i ≠ B → w'.heap[i]? = w.heap[i]? := by
  obtain ⟨es, c, hb, hk, hS⟩ := h
  have hd := Tryz.underlying3
  have hik : Go.MapKept.IsKey (.int .i64) (Value.int .i64 a) := by simp [Go.MapKept.IsKey]
  have hks : ∀ x ∈ es.toList, Go.MapKept.IsKey (.int .i64) x.key := fun x hx => by
    obtain ⟨b, e, _⟩ := hk x hx
    rw [e]
    simp [Go.MapKept.IsKey]
  have fin : ∀ (es' : Array MapEntry) (c' : Nat), (∀ x ∈ es'.toList, ∃ a : Int, x.key = .int .i64 a ∧ x.val = .bool true) → (∀ b : Int, (S b || b == a) = true ↔ ∃ x ∈ es'.toList, x.key = .int .i64 b) → UsedMap { w with heap := w.heap.setIfInBounds B (.map es' c') } B (fun x => S x || x == a) ∧ ({ w with heap := w.heap.setIfInBounds B (.map es' c') } : World).heap.size = w.heap.size ∧ ∀ i, i ≠ B → ({ w with heap := w.heap.setIfInBounds B (.map es' c') } : World).heap[i]? = w.heap[i]? := fun es' c' h1 h2 => ⟨⟨es', c', (Go.MapKept.heap_set hb).1, h1, h2⟩, by simp, fun i hi => (Go.MapKept.heap_set hb).2 i hi⟩
  rcases Go.MapKept.findNow_spec hik es.toList 0 hks with ⟨h1, h2⟩ | ⟨j, e, h1, h2, h3⟩
  · obtain ⟨f1, f2, f3⟩ := fin (es.push ⟨.int .i64 a, .bool true, c⟩) (c + 1) (fun x hx => by
      simp only [Array.toList_push, List.mem_append, List.mem_singleton] at hx
      rcases hx with hx | rfl
      · exact hk x hx
      · exact ⟨a, rfl, rfl⟩) (fun b => by
      simp only [Array.toList_push, List.mem_append, List.mem_singleton, Bool.or_eq_true, beq_iff_eq]
      constructor
      · rintro (h | rfl)
        · obtain ⟨x, hx, e⟩ := (hS b).mp h
          exact ⟨x, .inl hx, e⟩
        · exact ⟨_, .inr rfl, rfl⟩
      · rintro ⟨x, hx | rfl, e⟩
        · exact .inl ((hS b).mpr ⟨x, hx, e⟩)
        · injection e with _ e
          exact .inr e.symm)
    exact ⟨_, by simp [Instr.mapUpdate, run_underlying Tryz.underlying129, Go.MapKept.run_getObj_map hb, Go.MapKept.run_checkKey hd hik, Go.MapKept.run_findKey hd h1, Go.MapKept.run_setObj_map _ hb, Result.andThen], f1, rfl, rfl, rfl, f2, f3⟩
  · have hj : es[j]? = some e := by simpa using h2
    have hm : e ∈ es.toList := List.mem_of_getElem? h2
    have hmod : ∀ x ∈ (es.modify j fun e => { e with key := .int .i64 a, val := .bool true }).toList, x ∈ es.toList ∨ (x.key = .int .i64 a ∧ x.val = .bool true) := fun x hx => by
      rw [Array.toList_modify] at hx
      obtain ⟨i, hi, rfl⟩ := List.mem_iff_getElem.mp hx
      rw [List.getElem_modify]
      split
      · exact .inr ⟨rfl, rfl⟩
      · exact .inl (List.getElem_mem _)
    have hback : ∀ x ∈ es.toList, ∃ y ∈ (es.modify j fun e => { e with key := .int .i64 a, val := .bool true }).toList, y.key = x.key := fun x hx => by
      obtain ⟨i, hi, rfl⟩ := List.mem_iff_getElem.mp hx
      rw [Array.toList_modify]
      refine ⟨_, List.getElem_mem (by rw [List.length_modify]; exact hi : i < (es.toList.modify j fun e => { e with key := .int .i64 a, val := .bool true }).length), ?_⟩
      rw [List.getElem_modify]
      split
      · rename_i hji
        subst hji
        have : es.toList[j] = e := by
          have := List.getElem?_eq_getElem hi
          rw [h2] at this
          exact (Option.some.inj this).symm
        rw [this, h3]
      · rfl
    obtain ⟨f1, f2, f3⟩ := fin (es.modify j fun e => { e with key := .int .i64 a, val := .bool true }) c (fun x hx => by
      rcases hmod x hx with h | ⟨h, h'⟩
      · exact hk x h
      · exact ⟨a, h, h'⟩) (fun b => by
      simp only [Bool.or_eq_true, beq_iff_eq]
      constructor
      · rintro (h | rfl)
        · obtain ⟨x, hx, e⟩ := (hS b).mp h
          obtain ⟨y, hy, ey⟩ := hback x hx
          exact ⟨y, hy, ey.trans e⟩
        · obtain ⟨y, hy, ey⟩ := hback e hm
          exact ⟨y, hy, ey.trans h3⟩
      · rintro ⟨x, hx, e1⟩
        rcases hmod x hx with h | ⟨h, _⟩
        · exact .inl ((hS b).mpr ⟨x, h, e1⟩)
        · rw [h] at e1
          injection e1 with _ e1
          exact .inr e1.symm)
    exact ⟨_, by simp [Instr.mapUpdate, run_underlying Tryz.underlying129, Go.MapKept.run_getObj_map hb, Go.MapKept.run_checkKey hd hik, Go.MapKept.run_findKey hd h1, hj, h3, Go.MapKept.run_keyThatStays hik, Go.MapKept.run_setObj_map _ hb, Result.andThen], f1, rfl, rfl, rfl, f2, f3⟩
/-- `m[k] = true` at the operation. -/
theorem wpList_used {w : World} {ops : Array Oper} {rest : List Oper} {o : Oper} {a : Act} {Q : Exit → Act → World → Prop} (hg : o.guard = none) (m x v : Operand) (hop : o.op = Op.mapUpdate 129 m x v) (B : Nat) (S : Int → Bool) (hm : a.eval m = .map (some B)) (h : UsedMap w B S) (k : Int) (hx : a.eval x = .int .i64 k) (hv : a.eval v = .bool true)
    (hK : ∀ w', UsedMap w' B (fun y => S y || y == k) → (∀ {b : Nat} {w0 : World}, Below b w0 w → b ≤ B → Below b w0 w') → (∀ i, i ≠ B → w'.heap[i]? = w.heap[i]?) → wpList Tryz.prog ops Q rest (a.put o.dst undef) w') : wpList Tryz.prog ops Q (o :: rest) a w := by
  refine wpList_plain hg fun K' hK' => ?_
  obtain ⟨w', hrun, r1, r2, r3, r4, r5, r6⟩ := used_store h k
  unfold Oper.wp
  simp [execOp, hop, hm, hx, hv, hrun, Result.andThen]
  exact hK' _ _ (hK w' r1 (fun hb hB => ⟨r2.trans hb.os, r3.trans hb.tape, r4.trans hb.output, by rw [r5]; exact hb.size, fun i hi => (r6 i (by omega)).trans (hb.block i hi)⟩) r6)
def cellsN : List S57 → List Value
  | [] => []
  | x :: l => .int .i64 x.f0 :: .string x.f1 :: .int .i64 x.f2 :: cellsN l
theorem cellsN_length : ∀ l, (cellsN l).length = l.length * 3
  | [] => rfl
  | x :: l => by rw [cellsN, List.length_cons, List.length_cons, List.length_cons, cellsN_length l, List.length_cons]; omega
theorem cellsN_at : ∀ (l : List S57) (j : Nat) (x : S57), l[j]? = some x → ((cellsN l).drop (j * 3)).take 3 = [.int .i64 x.f0, .string x.f1, .int .i64 x.f2]
  | [], _, _, h => by cases h
  | y :: l, 0, x, h => by
    obtain rfl : y = x := Option.some.inj h
    rfl
  | y :: l, j + 1, x, h => by
    rw [cellsN, show (j + 1) * 3 = j * 3 + 1 + 1 + 1 by omega, List.drop_succ_cons, List.drop_succ_cons, List.drop_succ_cons]
    exact cellsN_at l j x h
theorem ownN {w : World} {base : Nat} {ok : Nat → Prop} {v : Value} {l : List S57} (h : Kd.R k57 57 w base ok v l) : w.ownsRow base 57 3 v l.length (cellsN l) := by
  obtain ⟨_, inner, ho, hl, hr⟩ := h
  have : inner = cellsN l := by
    have key : ∀ (l : List S57) (inner : List Value), inner.length = l.length * 3 → (∀ j p, l[j]? = some p → (inner.drop (j * 3)).take 3 = [.int .i64 p.f0, .string p.f1, .int .i64 p.f2]) → inner = cellsN l := by
      intro l
      induction l with
      | nil => intro inner h _; exact List.eq_nil_of_length_eq_zero (by simpa using h)
      | cons x l ih =>
        intro inner h hp
        match inner, h with
        | [], h => simp at h
        | [_], h => simp at h; omega
        | [_, _], h => simp at h; omega
        | a :: b :: c :: r, h =>
          have h0 := hp 0 x rfl
          rw [Nat.zero_mul, List.drop_zero, List.take_succ_cons, List.take_succ_cons, List.take_succ_cons, List.take_zero] at h0
          obtain ⟨rfl, h1⟩ := List.cons.inj h0
          obtain ⟨rfl, h2⟩ := List.cons.inj h1
          obtain ⟨rfl, _⟩ := List.cons.inj h2
          rw [cellsN, ih r (by simp only [List.length_cons] at h; omega) (fun j p hj => by
            have := hp (j + 1) p hj
            rwa [show (j + 1) * 3 = j * 3 + 1 + 1 + 1 by omega, List.drop_succ_cons, List.drop_succ_cons, List.drop_succ_cons] at this)]
    exact key l inner hl (fun j p hj => k57_openM (hr j p hj))
  rw [this] at ho
  exact ho
theorem R_ofN {w : World} {base : Nat} {v : Value} {l : List S57} (h : w.ownsRow base 57 3 v l.length (cellsN l)) : Kd.R k57 57 w base (fun _ => True) v l :=
  ⟨fun _ _ => trivial, cellsN l, h, cellsN_length l, fun j p hj => by
    show k57.M w base _ p (((cellsN l).drop (j * 3)).take 3)
    rw [cellsN_at l j p hj]; exact k57_mkM _ _ _ p⟩
/-! ### What a call may turn -/
structure Turned (w w' : World) (S : Nat → Prop) : Prop where
  os : w'.os = w.os
  tape : w'.tape = w.tape
  output : w'.output = w.output
  size : w.heap.size ≤ w'.heap.size
  block : ∀ k, k < w.heap.size → ¬ S k → w'.heap[k]? = w.heap[k]?
theorem Turned.refl (w : World) (S : Nat → Prop) : Turned w w S := ⟨rfl, rfl, rfl, Nat.le_refl _, fun _ _ _ => rfl⟩
theorem Turned.of {w w' : World} (h : Below w.heap.size w w') (S : Nat → Prop) : Turned w w' S := ⟨h.os, h.tape, h.output, h.size, fun k hk _ => h.block k hk⟩
theorem Turned.trans {a b c : World} {S : Nat → Prop} (h : Turned a b S) (k : Turned b c S) : Turned a c S :=
  ⟨k.os.trans h.os, k.tape.trans h.tape, k.output.trans h.output, Nat.le_trans h.size k.size, fun i hi hs => (k.block i (Nat.lt_of_lt_of_le hi h.size) hs).trans (h.block i hi hs)⟩
theorem Turned.mono {a b : World} {S S' : Nat → Prop} (h : Turned a b S) (hs : ∀ k, k < a.heap.size → S k → S' k) : Turned a b S' :=
  ⟨h.os, h.tape, h.output, h.size, fun i hi hn => h.block i hi fun hS => hn (hs i hi hS)⟩
/-- Two turnings, the second of which may turn what the first one has made. -/
theorem Turned.then {a b c : World} {S S' : Nat → Prop} (h : Turned a b S) (k : Turned b c S') (hs : ∀ i, S' i → S i ∨ a.heap.size ≤ i) : Turned a c S :=
  ⟨k.os.trans h.os, k.tape.trans h.tape, k.output.trans h.output, Nat.le_trans h.size k.size, fun i hi hn => (k.block i (Nat.lt_of_lt_of_le hi h.size) fun h' => (hs i h').elim hn (by omega)).trans (h.block i hi hn)⟩
theorem Turned.set {a b : World} {S : Nat → Prop} (h : Turned a b S) {p : Addr} (hp : S p.block ∨ a.heap.size ≤ p.block) (u : Value) : Turned a (b.setCell p u) S :=
  have hb := (Below.refl p.block b).setCell (Nat.le_refl _) (p := p) u
  ⟨hb.os.trans h.os, hb.tape.trans h.tape, hb.output.trans h.output, Nat.le_trans h.size hb.size, fun i hi hn => (Below.heap_setCell b p u i (fun e => hp.elim (fun hs => hn (e ▸ hs)) (fun hs => by omega))).trans (h.block i hi hn)⟩
theorem Turned.row {a b : World} {S : Nat → Prop} (h : Turned a b S) {g : Nat} (hg : S g ∨ a.heap.size ≤ g) (cs : Array Value) : Turned a (b.setRow g cs) S :=
  ⟨h.os, h.tape, h.output, Nat.le_trans h.size (by simp [World.setRow]), fun i hi hn => by
    have hi2 : i ≠ g := fun e => hg.elim (fun hs => hn (e ▸ hs)) (fun hs => by omega)
    rw [setRow_other b g i cs hi2]
    exact h.block i hi hn⟩
theorem Turned.below {w w' w0 : World} {S : Nat → Prop} {b : Nat} (h : Turned w w' S) (hb : Below b w0 w) (hs : ∀ k, S k → b ≤ k) (hw : b ≤ w.heap.size) : Below b w0 w' :=
  ⟨h.os.trans hb.os, h.tape.trans hb.tape, h.output.trans hb.output, Nat.le_trans hb.size h.size, fun k hk => (h.block k (by omega) fun hS => by have := hs k hS; omega).trans (hb.block k hk)⟩
theorem idxOf_split {α : Type} (p : α → Bool) : ∀ (l : List α) (k : Nat), (idxOf p l k = -1 ∧ l.filter (fun x => !p x) = l) ∨ ∃ i, i < l.length ∧ idxOf p l k = ((k + i : Nat) : Int) ∧ (l.take (i + 1)).filter (fun x => !p x) = l.take i
  | [], _ => .inl ⟨rfl, rfl⟩
  | x :: l, k => by
    rw [idxOf]
    cases hp : p x with
    | true => exact .inr ⟨0, by simp, by simp, by simp [hp]⟩
    | false =>
      rw [if_neg (by decide)]
      rcases idxOf_split p l (k + 1) with ⟨h1, h2⟩ | ⟨i, h1, h2, h3⟩
      · exact .inl ⟨h1, by rw [List.filter_cons, hp]; simpa using h2⟩
      · refine .inr ⟨i + 1, by simpa using h1, by rw [h2]; congr 1; omega, ?_⟩
        rw [List.take_succ_cons, List.filter_cons, hp, h3, List.take_succ_cons]
        rfl
theorem cellsN_set : ∀ (l : List S57) (i : Nat) (y : S57), i < l.length → (((cellsN l).set (i * 3) (.int .i64 y.f0)).set (i * 3 + 1) (.string y.f1)).set (i * 3 + 2) (.int .i64 y.f2) = cellsN (l.set i y)
  | x :: l, 0, y, _ => rfl
  | x :: l, i + 1, y, h => by
    rw [cellsN, show (i + 1) * 3 = i * 3 + 1 + 1 + 1 by omega, show i * 3 + 1 + 1 + 1 + 1 = (i * 3 + 1) + 1 + 1 + 1 by omega, show i * 3 + 1 + 1 + 1 + 2 = (i * 3 + 2) + 1 + 1 + 1 by omega]
    simp only [List.set_cons_succ]
    rw [cellsN_set l i y (by simpa using h), cellsN]
theorem cellsN_take : ∀ (l : List S57) (i : Nat), (cellsN l).take (i * 3) = cellsN (l.take i)
  | [], i => by simp [cellsN]
  | x :: l, 0 => by simp [cellsN]
  | x :: l, i + 1 => by
    rw [cellsN, show (i + 1) * 3 = i * 3 + 1 + 1 + 1 by omega]
    simp only [List.take_succ_cons]
    rw [cellsN_take l i, cellsN]
/-- A row of nodes as a block: its cells, and what it is with one laid anew. -/
theorem rowN {w : World} {base g n cap : Nat} {ok : Nat → Prop} {m : List S57} (h : Kd.R k57 57 w base ok (.slice (some ⟨g, 0, none⟩) n cap) m) (i : Nat) (hi : i < m.length) :
    w.cell? ⟨g, i * 3, none⟩ = some (.int .i64 (m[i]).f0) ∧ w.cell? ⟨g, i * 3 + 1, none⟩ = some (.string (m[i]).f1) ∧ w.cell? ⟨g, i * 3 + 2, none⟩ = some (.int .i64 (m[i]).f2) ∧ (∀ j, w.frozen? ⟨g, j, none⟩ = false) ∧
      ∀ y : S57, Kd.R k57 57 (((w.setCell ⟨g, i * 3, none⟩ (.int .i64 y.f0)).setCell ⟨g, i * 3 + 1, none⟩ (.string y.f1)).setCell ⟨g, i * 3 + 2, none⟩ (.int .i64 y.f2)) base (fun _ => True) (.slice (some ⟨g, 0, none⟩) n cap) (m.set i y) := by
  obtain ⟨_, ⟨hv, hl0⟩ | ⟨g2, cp, cur, hv, hbg, hg, hlc, hm, hsz, htk⟩⟩ := ownN h
  · omega
  injection hv with h1 h2 h3
  injection h1 with h1
  injection h1 with h1
  subst h1 h2 h3
  have hat : ∀ j v, (cellsN m)[j]? = some v → w.cell? ⟨g, j, none⟩ = some v := fun j v hj => by
    rw [← htk, List.getElem?_take] at hj
    split at hj
    · rw [cell_of_row w g j cur _ _ hg]
      rw [Array.getElem?_toList] at hj
      exact hj
    · cases hj
  have hc := cellsN_at m i m[i] (List.getElem?_eq_getElem hi)
  have hget : ∀ q, q < 3 → (cellsN m)[i * 3 + q]? = ([.int .i64 (m[i]).f0, .string (m[i]).f1, .int .i64 (m[i]).f2] : List Value)[q]? := fun q hq => by
    rw [← hc, List.getElem?_take, if_pos hq, List.getElem?_drop]
  refine ⟨hat _ _ (hget 0 (by omega)), hat _ _ (hget 1 (by omega)), hat _ _ (hget 2 (by omega)), fun j => by simp [World.frozen?, hg], fun y => ?_⟩
  have hl : (m.set i y).length = m.length := List.length_set ..
  rw [setCell_eq_setRow w g _ cur _ (0, 0) _ hg, setCell_eq_setRow _ g _ _ _ (0, 0) _ (setRow_heap w g cur _ _ _ hg), setRow_setRow, setCell_eq_setRow _ g _ _ _ (0, 0) _ (setRow_heap w g cur _ _ _ hg), setRow_setRow, ← hl]
  refine R_ofN ⟨cellsN_length _, .inr ⟨g, cap, _, rfl, hbg, setRow_heap w g cur _ _ _ hg, by rw [hl]; exact hlc, hm, by simp only [Array.size_setIfInBounds]; exact hsz, ?_⟩⟩
  rw [hl, Array.toList_setIfInBounds, Array.toList_setIfInBounds, Array.toList_setIfInBounds, List.take_set, List.take_set, List.take_set, htk, cellsN_set m i y hi]
theorem fill3_calls {w : World} {g : Nat} {t : TypeId} {x0 x1 x2 a b c : Value} {P : Program} {F : FuncId} {args : Array Value} {Q : Ending → World → Prop} (h : w.heap[g]? = some (.cells #[x0, x1, x2] t (0, 0)))
    (k : ∀ W, W.heap[g]? = some (.cells #[a, b, c] t (0, 0)) → W.heap.size = w.heap.size → (∀ {w0 : World} {S : Nat → Prop}, Turned w0 w S → (S g ∨ w0.heap.size ≤ g) → Turned w0 W S) → (∀ j, j ≠ g → W.heap[j]? = w.heap[j]?) → Calls P F args W Q) : Calls P F args (((w.setCell ⟨g, 0, none⟩ a).setCell ⟨g, 1, none⟩ b).setCell ⟨g, 2, none⟩ c) Q :=
  k _ (blk_put (cs := #[a, b, x2]) (blk_put (cs := #[a, x1, x2]) (blk_put (cs := #[x0, x1, x2]) h 0 _ rfl) 1 _ rfl) 2 _ rfl) (by simp) (fun hT hg => ((hT.set (p := ⟨g, 0, none⟩) hg _).set (p := ⟨g, 1, none⟩) hg _).set (p := ⟨g, 2, none⟩) hg _) (fun j hj => by
    rw [Below.heap_setCell _ ⟨g, 2, none⟩ _ j hj, Below.heap_setCell _ ⟨g, 1, none⟩ _ j hj, Below.heap_setCell _ ⟨g, 0, none⟩ _ j hj])
theorem run_clear3 {P : Program} (w : World) (t e ty : TypeId) (z1 z2 z3 : Value) (ht : P.underlying t = some (.slice e)) (hv : ∀ w, (zeroValue e).run P w = .ok (.agg #[z1, z2, z3]) w) (hz : (Value.agg #[z1, z2, z3]).cells = #[z1, z2, z3]) (h1 : z1.oneCell' = true) (h2 : z2.oneCell' = true) (h3 : z3.oneCell' = true) (g o c n : Nat) (hn : 0 < n) (cur : Array Value) (te : TypeId)
    (hg : w.heap[g]? = some (.cells cur te (0, 0))) (hfit : o + n * 3 ≤ cur.size) :
    (Builtin.clear_ #[t] ty #[.slice (some ⟨g, o, none⟩) n c]).run P w = .ok (.tuple #[]) (w.setRow g (cur.toList.take o ++ (Builtin.zeroCells #[z1, z2, z3] n).toList ++ cur.toList.drop (o + n * 3)).toArray) := by
  obtain ⟨n, rfl⟩ : ∃ k, n = k + 1 := ⟨n - 1, by omega⟩
  have hl : (Builtin.zeroCells #[z1, z2, z3] (n + 1)).toList.length = (n + 1) * 3 := by rw [Array.length_toList]; simp [Builtin.zeroCells]
  have ho : ∀ u ∈ (Builtin.zeroCells #[z1, z2, z3] (n + 1)).toList, u.oneCell' = true := fun u hu => by
    simp only [Builtin.zeroCells, Array.toList_map, List.mem_map] at hu
    obtain ⟨i, _, rfl⟩ := hu
    have hi : i % 3 < 3 := Nat.mod_lt _ (by decide)
    show (#[z1, z2, z3][i % 3]!).oneCell' = true
    rcases (by omega : i % 3 = 0 ∨ i % 3 = 1 ∨ i % 3 = 2) with h | h | h <;> rw [h] <;> assumption
  have hst := run_storeCells_at (P := P) g o te (Builtin.zeroCells #[z1, z2, z3] (n + 1)).toList 0 cur w hg (by rw [hl]; omega) ho
  rw [hl] at hst
  simp [Builtin.clear_, run_underlying ht, hv, hz, hst]
set_option maxHeartbeats 2000000 in
set_option maxRecDepth 100000 in
theorem deleteFN (gf : Nat) (lb : Array Value) (p : S57 → Bool) (eg : ∀ args w, (callFunc gf args).run Tryz.prog w = .ok (.enter gf args) w) (A : Option Addr) (cap base : Nat) (l : List S57) (w : World)
    (hR : Kd.R k57 57 w base (fun _ => True) (.slice A l.length cap) l)
    (hp : ∀ (W : World) (x : S57), Turned w W (fun k => some k = (Value.slice A l.length cap).ownBlock) → Calls Tryz.prog gf (#[.agg #[.int .i64 x.f0, .string x.f1, .int .i64 x.f2]] ++ lb) W fun e w' => e = .returned (.bool (p x)) ∧ Below W.heap.size W w') :
    Calls Tryz.prog 147 #[.slice A l.length cap, .func (.func gf) #[] lb] w fun e w' => e = .returned (.slice A (l.filter fun x => !p x).length cap) ∧ Kd.R k57 57 w' base (fun _ => True) (.slice A (l.filter fun x => !p x).length cap) (l.filter fun x => !p x) ∧ Turned w w' (fun k => some k = (Value.slice A l.length cap).ownBlock) := by
  have hC := (Kd.R_reads' hR).2.2
  have hnc := (Kd.R_reads' hR).2.1
  have CI := idxNode gf lb p eg A cap l w hC (fun W x hbW => (hp W x (Turned.of hbW _)).mono (by rintro e w' ⟨rfl, hb'⟩; exact ⟨rfl, hbW.trans (hb'.mono hbW.size)⟩))
  rcases idxOf_split p l 0 with ⟨hi, hf⟩ | ⟨i0, hi0, hi, hf⟩
  · rw [hi] at CI
    rw [hf]
    have CIa := Aside0.mk CI
    have HR := Aside0.mk hR
    clear CI hR hp hC hi hf
    go_enter Tryz.func147, Tryz.ntmps147
    go_wp2_with (go_at_call 139; refine CIa.out.mono ?_; rintro e w' ⟨rfl, hb'⟩)
    go_ret
    exact ⟨rfl, Kd.R_below HR.out hb', Turned.of hb' _⟩
  obtain ⟨_, ⟨hv, hl0⟩ | ⟨g, cp, cur, hv, hbg, hg, hlc, hm, hsz, htk⟩⟩ := ownN hR
  · omega
  injection hv with h1 _ h3
  subst h1 h3
  rw [hi, Nat.zero_add] at CI
  have CIa := Aside0.mk CI
  have HR := Aside0.mk hR
  have HP := Aside0.mk hp
  have HF := Aside0.mk hf
  have HG := Aside0.mk (blk_lt hg)
  have HB := Aside0.mk hbg
  have hmx : cap ≤ 9223372036854775807 := hm
  clear CI hR hp hC hi hf hg hlc hsz htk hbg hm
  go_enter Tryz.func147, Tryz.ntmps147
  go_wp2_with (go_at_call 139; refine CIa.out.mono ?_; rintro e w1 ⟨rfl, hb1⟩)
  have hneg : ¬ (i0 : Int) = -1 := by omega
  go_wp2
  have h0 : Kd.R k57 57 w1 base (fun _ => True) (.slice (some ⟨g, 0, none⟩) l.length cap) l := Kd.R_below HR.out hb1
  have HT := Aside0.mk (Turned.of hb1 (fun k => some k = (Value.slice (some ⟨g, 0, none⟩) l.length cap).ownBlock))
  have H0 := Aside0.mk h0
  clear h0 hb1 CIa HR
  go_loopg [5, 6] l.length (fun gg s5 s6 wr => ∃ (i j : Nat) (m : List S57), i < j ∧ j ≤ l.length ∧ l.length - j ≤ gg ∧ s5 = .int .i64 i ∧ s6 = .int .i64 j ∧ m.length = l.length ∧ Aside0 (m.take i = (l.take j).filter fun x => !p x) ∧ Aside0 (m.drop j = l.drop j) ∧ Aside0 (Kd.R k57 57 wr base (fun _ => True) (.slice (some ⟨g, 0, none⟩) l.length cap) m) ∧ Aside0 (Turned w wr (fun k => some k = (Value.slice (some ⟨g, 0, none⟩) l.length cap).ownBlock)))
  case atStart => exact ⟨i0, i0 + 1, l, by omega, by omega, by omega, by go_num, by go_num, rfl, ⟨HF.out.symm⟩, ⟨rfl⟩, H0, HT⟩
  case round =>
    obtain ⟨i, j, m, hij, hjl, hgg, rfl, rfl, hml, MT, MD, MR, TW⟩ := hrel
    clear H0 HT
    by_cases hlt : j < l.length
    · have hltz : (j : Int) < (l.length : Int) := by omega
      have hj0 : (0 : Int) ≤ (j : Int) := by omega
      have hi0 : (0 : Int) ≤ (i : Int) := by omega
      have hilz : (i : Int) < (l.length : Int) := by omega
      obtain ⟨hx0, hx1, hx2, _, _⟩ := rowN MR.out j (by omega)
      have hy : m[j] = l[j] := by
        have := congrArg (fun z : List S57 => z[0]?) MD.out
        simp only [List.getElem?_drop, Nat.add_zero] at this
        rw [List.getElem?_eq_getElem hlt, List.getElem?_eq_getElem (by omega)] at this
        exact Option.some.inj this
      rw [hy] at hx0 hx1 hx2
      have MDT : Aside0 (l.take (j + 1) = l.take j ++ [l[j]]) := ⟨by rw [List.take_succ_eq_append_getElem hlt]⟩
      have MDD : Aside0 (m.drop (j + 1) = l.drop (j + 1)) := ⟨by rw [← List.drop_drop, ← List.drop_drop, MD.out]⟩
      clear hy
      generalize l[j] = y at hx0 hx1 hx2 MDT
      have PY := Aside0.mk (fun (W : World) hT => HP.out W y hT)
      generalize hq : p y = q at PY
      have HQ := Aside0.mk hq
      clear hq
      cases q with
      | true =>
        go_wp2_with (first | ((with_reducible refine gate_dst (N := 7) rfl ?_); refine box_event ?hg (N := 7) ?hd (cs := #[.int .i64 0, .string (⟨#[]⟩ : ByteArray), .int .i64 0]) (t := 57) ?hr ?_; (case hd => rfl); (case hg => rfl); (case hr => first | (go_simp; done) | (go_simp; rfl)); intro g6 hg6 w2 hbox b6; have N2 := Aside0.mk hbox; have S2 := Aside0.mk b6; have G6 := Aside0.mk hg6; have n0 : w2.cell? ⟨g6, 0, none⟩ = some (.int .i64 0) := (blk_cell N2.out 0).trans rfl; have n1 : w2.cell? ⟨g6, 1, none⟩ = some (.string (⟨#[]⟩ : ByteArray)) := (blk_cell N2.out 1).trans rfl; have n2 : w2.cell? ⟨g6, 2, none⟩ = some (.int .i64 0) := (blk_cell N2.out 2).trans rfl; have z0 := blk_frozen N2.out 0; have z1 := blk_frozen N2.out 1; have z2 := blk_frozen N2.out 2; clear hg6 hbox b6 hx0 hx1 hx2) | (go_at_fn gf; refine fill3_calls N2.out (fun W hN hz hT hs => ?_); have TW2 := Aside0.mk (hT (TW.out.trans (Turned.of S2.out _)) (.inr (by rw [G6.out]; exact TW.out.size))); refine (PY.out W TW2.out).mono ?_; rintro e w3 ⟨rfl, hb3⟩; have hlg := Nat.lt_of_lt_of_le HG.out TW.out.size; have hgn : g ≠ g6 := (by rw [G6.out]; exact Nat.ne_of_lt hlg); have R3 := Aside0.mk (Kd.R_below (Kd.R_tight rfl (Kd.R_below MR.out S2.out) |> fun h => Kd.R_step h (fun k hk _ => hs k (fun e => hgn (by rw [← e]; exact (Option.some.inj hk).symm)))) hb3); have TW3 := Aside0.mk (TW2.out.trans (Turned.of hb3 _)); have hN3 := (hb3.block g6 (blk_lt hN)).trans hN; have m0 : w3.cell? ⟨g6, 0, none⟩ = some (.int .i64 y.f0) := (blk_cell hN3 0).trans rfl; have m1 : w3.cell? ⟨g6, 1, none⟩ = some (.string y.f1) := (blk_cell hN3 1).trans rfl; have m2 : w3.cell? ⟨g6, 2, none⟩ = some (.int .i64 y.f2) := (blk_cell hN3 2).trans rfl; obtain ⟨r0, r1, r2, hfz, hset⟩ := rowN R3.out i (by omega); have f0 := hfz (i * 3); have f1 := hfz (i * 3 + 1); have f2 := hfz (i * 3 + 2); have HS := Aside0.mk (hset y); clear hfz hset hN hz hT hs TW2 hb3 hlg hN3 n0 n1 n2 z0 z1 z2))
        go_roundg (l.length - (j + 1))
        case measure => omega
        case rel => exact ⟨i, j + 1, m, by omega, by omega, by omega, rfl, by go_num, hml, ⟨by rw [MDT.out, List.filter_append, MT.out]; simp [HQ.out]⟩, MDD, ⟨Kd.R_mono R3.out fun _ _ => trivial⟩, TW3⟩
      | false =>
        go_wp2_with (first | ((with_reducible refine gate_dst (N := 7) rfl ?_); refine box_event ?hg (N := 7) ?hd (cs := #[.int .i64 0, .string (⟨#[]⟩ : ByteArray), .int .i64 0]) (t := 57) ?hr ?_; (case hd => rfl); (case hg => rfl); (case hr => first | (go_simp; done) | (go_simp; rfl)); intro g6 hg6 w2 hbox b6; have N2 := Aside0.mk hbox; have S2 := Aside0.mk b6; have G6 := Aside0.mk hg6; have n0 : w2.cell? ⟨g6, 0, none⟩ = some (.int .i64 0) := (blk_cell N2.out 0).trans rfl; have n1 : w2.cell? ⟨g6, 1, none⟩ = some (.string (⟨#[]⟩ : ByteArray)) := (blk_cell N2.out 1).trans rfl; have n2 : w2.cell? ⟨g6, 2, none⟩ = some (.int .i64 0) := (blk_cell N2.out 2).trans rfl; have z0 := blk_frozen N2.out 0; have z1 := blk_frozen N2.out 1; have z2 := blk_frozen N2.out 2; clear hg6 hbox b6 hx0 hx1 hx2) | (go_at_fn gf; refine fill3_calls N2.out (fun W hN hz hT hs => ?_); have TW2 := Aside0.mk (hT (TW.out.trans (Turned.of S2.out _)) (.inr (by rw [G6.out]; exact TW.out.size))); refine (PY.out W TW2.out).mono ?_; rintro e w3 ⟨rfl, hb3⟩; have hlg := Nat.lt_of_lt_of_le HG.out TW.out.size; have hgn : g ≠ g6 := (by rw [G6.out]; exact Nat.ne_of_lt hlg); have R3 := Aside0.mk (Kd.R_below (Kd.R_tight rfl (Kd.R_below MR.out S2.out) |> fun h => Kd.R_step h (fun k hk _ => hs k (fun e => hgn (by rw [← e]; exact (Option.some.inj hk).symm)))) hb3); have TW3 := Aside0.mk (TW2.out.trans (Turned.of hb3 _)); have hN3 := (hb3.block g6 (blk_lt hN)).trans hN; have m0 : w3.cell? ⟨g6, 0, none⟩ = some (.int .i64 y.f0) := (blk_cell hN3 0).trans rfl; have m1 : w3.cell? ⟨g6, 1, none⟩ = some (.string y.f1) := (blk_cell hN3 1).trans rfl; have m2 : w3.cell? ⟨g6, 2, none⟩ = some (.int .i64 y.f2) := (blk_cell hN3 2).trans rfl; obtain ⟨r0, r1, r2, hfz, hset⟩ := rowN R3.out i (by omega); have f0 := hfz (i * 3); have f1 := hfz (i * 3 + 1); have f2 := hfz (i * 3 + 2); have HS := Aside0.mk (hset y); clear hfz hset hN hz hT hs TW2 hb3 hlg hN3 n0 n1 n2 z0 z1 z2))
        go_roundg (l.length - (j + 1))
        case measure => omega
        case rel =>
          refine ⟨i + 1, j + 1, m.set i y, by omega, by omega, by omega, by go_num, by go_num, by rw [List.length_set]; exact hml, ⟨?_⟩, ⟨?_⟩, HS, ⟨((TW3.out.set (p := ⟨g, i * 3, none⟩) (.inl rfl) _).set (p := ⟨g, i * 3 + 1, none⟩) (.inl rfl) _).set (p := ⟨g, i * 3 + 2, none⟩) (.inl rfl) _⟩⟩
          · rw [MDT.out, List.filter_append, ← MT.out, List.take_succ_eq_append_getElem (by rw [List.length_set]; omega), List.take_set_of_le (Nat.le_refl _), List.getElem_set_self]
            simp [HQ.out]
          · rw [List.drop_set_of_lt (by omega), MDD.out]
    · have hltz : ¬ (j : Int) < (l.length : Int) := by omega
      have hMT := MT.out
      rw [List.take_of_length_le (l := l) (by omega)] at hMT
      have hil : i = (l.filter fun x => !p x).length := by rw [← hMT, List.length_take]; omega
      obtain ⟨_, ⟨hv, hl0⟩ | ⟨g2, cp, cur2, hv, hbg, hg, hlc, hm, hsz, htk⟩⟩ := ownN MR.out
      · omega
      injection hv with h1 h2 h3
      injection h1 with h1
      injection h1 with h1 h4 h5
      subst h1 h3
      clear h2 h4 h5
      have hcl : ∀ ty, (Builtin.clear_ #[29] ty #[.slice (some ⟨g, i * 3, none⟩) (l.length - i) (cap - i)]).run Tryz.prog wr = .ok (.tuple #[]) (wr.setRow g (cur2.toList.take (i * 3) ++ (Builtin.zeroCells #[.int .i64 0, .string ⟨#[]⟩, .int .i64 0] (l.length - i)).toList ++ cur2.toList.drop (i * 3 + (l.length - i) * 3)).toArray) := fun ty =>
        run_clear3 wr _ 57 ty (.int .i64 0) (.string ⟨#[]⟩) (.int .i64 0) Tryz.underlying29 (fun w => Tryz.zeroValue57 w) rfl rfl rfl rfl g (i * 3) _ _ (by omega) cur2 _ hg (by rw [hsz]; omega)
      have hci : ¬ cap = i := by omega
      have hic : i ≤ cap := by omega
      have hil2 : i ≤ l.length := by omega
      have X1 := Aside0.mk hg
      have X2 := Aside0.mk hsz
      have X3 := Aside0.mk htk
      have X4 := Aside0.mk hbg
      have X5 := Aside0.mk hml
      have X6 := Aside0.mk hil
      have X7 := Aside0.mk hMT
      clear hg hsz htk hbg MT hMT hil hlc hm HF MD MR
      go_wp2
      go_ret
      rw [← X6.out, ← X7.out]
      refine ⟨rfl, ?_, TW.out.row (.inl rfl) _⟩
      have hsz := X2.out
      have htk := X3.out
      have hml := X5.out
      have hLc : cur2.toList.length = cap * 3 := by rw [Array.length_toList]; exact hsz
      have hmi : (m.take i).length = i := by rw [List.length_take]; omega
      generalize hZ : (Builtin.zeroCells #[.int .i64 0, .string ⟨#[]⟩, .int .i64 0] (l.length - i)).toList = Z
      have hzl : Z.length = (l.length - i) * 3 := by rw [← hZ, Array.length_toList]; simp [Builtin.zeroCells]
      have h1 : (cur2.toList.take (i * 3)) = cellsN (m.take i) := by rw [← cellsN_take, ← htk, List.take_take, Nat.min_eq_left (by omega)]
      have hR : Kd.R k57 57 (wr.setRow g (cur2.toList.take (i * 3) ++ Z ++ cur2.toList.drop (i * 3 + (l.length - i) * 3)).toArray) base (fun _ => True) (.slice (some ⟨g, 0, none⟩) (m.take i).length cap) (m.take i) := by
        refine R_ofN ⟨cellsN_length _, .inr ⟨g, cap, _, rfl, X4.out, setRow_heap wr g cur2 _ _ _ X1.out, by rw [hmi]; omega, hmx, ?_, ?_⟩⟩
        · rw [List.size_toArray, List.length_append, List.length_append, List.length_take, List.length_drop, hLc, hzl]
          omega
        · rw [List.toList_toArray, hmi, List.append_assoc, List.take_left' (by rw [List.length_take, hLc]; omega)]
          exact h1
      rw [hmi, List.append_assoc] at hR
      exact hR
/-! ### Disks in memory that a law holds -/
theorem blk6 {w : World} {g : Nat} {t : TypeId} {a b c d e f : Value} (h : w.heap[g]? = some (.cells #[a, b, c, d, e, f] t (0, 0))) :
    w.cell? ⟨g, 0, none⟩ = some a ∧ w.cell? ⟨g, 1, none⟩ = some b ∧ w.cell? ⟨g, 2, none⟩ = some c ∧ w.cell? ⟨g, 3, none⟩ = some d ∧ w.cell? ⟨g, 4, none⟩ = some e ∧ w.cell? ⟨g, 5, none⟩ = some f :=
  ⟨(blk_cell h 0).trans rfl, (blk_cell h 1).trans rfl, (blk_cell h 2).trans rfl, (blk_cell h 3).trans rfl, (blk_cell h 4).trans rfl, (blk_cell h 5).trans rfl⟩
def ownD (v0 v1 v2 v3 : Value) (k : Nat) : Prop := some k = v0.ownBlock ∨ some k = v1.ownBlock ∨ some k = v2.ownBlock ∨ some k = v3.ownBlock
structure HasD (W : World) (base : Nat) (v0 v1 v2 v3 : Value) (a : List S57) (b c : List S59) (d : List ByteArray) : Prop where
  r0 : Kd.R k57 57 W base (fun k => some k = v0.ownBlock) v0 a
  r1 : Kd.R k59 59 W base (fun k => some k = v1.ownBlock) v1 b
  r2 : Kd.R k59 59 W base (fun k => some k = v2.ownBlock) v2 c
  r3 : Kd.R Kd.string 9 W base (fun k => some k = v3.ownBlock) v3 d
  ne : ∀ k, some k = v1.ownBlock → ¬ some k = v2.ownBlock
theorem HasD.of {W : World} {base : Nat} {v0 v1 v2 v3 : Value} {a : List S57} {b c : List S59} {d : List ByteArray} {p0 p2 p3 : Nat → Prop}
    (h0 : Kd.R k57 57 W base p0 v0 a) (h1 : Kd.R k59 59 W base (fun k_ => some k_ ≠ v2.ownBlock) v1 b) (h2 : Kd.R k59 59 W base p2 v2 c) (h3 : Kd.R Kd.string 9 W base p3 v3 d) : HasD W base v0 v1 v2 v3 a b c d :=
  ⟨Kd.R_tight rfl h0, Kd.R_tight rfl h1, Kd.R_tight rfl h2, Kd.R_tight rfl h3, fun k hk => h1.1 k hk.symm⟩
section
variable {W W' : World} {base : Nat} {v0 v1 v2 v3 : Value} {a : List S57} {b c : List S59} {d : List ByteArray}
theorem HasD.step (h : HasD W base v0 v1 v2 v3 a b c d) (hm : ∀ k, ownD v0 v1 v2 v3 k → k < W.heap.size → W'.heap[k]? = W.heap[k]?) : HasD W' base v0 v1 v2 v3 a b c d :=
  ⟨Kd.R_step h.r0 fun k hk hl => hm k (.inl hk) hl, Kd.R_step h.r1 fun k hk hl => hm k (.inr (.inl hk)) hl, Kd.R_step h.r2 fun k hk hl => hm k (.inr (.inr (.inl hk))) hl, Kd.R_step h.r3 fun k hk hl => hm k (.inr (.inr (.inr hk))) hl, h.ne⟩
theorem HasD.on (h : HasD W base v0 v1 v2 v3 a b c d) (hb : Below W.heap.size W W') : HasD W' base v0 v1 v2 v3 a b c d := h.step fun k _ hl => hb.block k hl
theorem HasD.kept (h : HasD W base v0 v1 v2 v3 a b c d) {S : Nat → Prop} (hk : Kept W W' S) (hne : ∀ k, ownD v0 v1 v2 v3 k → ¬ S k) : HasD W' base v0 v1 v2 v3 a b c d := h.step fun k ho hl => hk.2 k hl (hne k ho)
theorem HasD.lt (h : HasD W base v0 v1 v2 v3 a b c d) : ∀ k, ownD v0 v1 v2 v3 k → k < W.heap.size := fun k hk => by
  rcases hk with hk | hk | hk | hk
  · exact Kd.R_lt h.r0 k hk.symm
  · exact Kd.R_lt h.r1 k hk.symm
  · exact Kd.R_lt h.r2 k hk.symm
  · exact Kd.R_lt h.r3 k hk.symm
theorem HasD.ge (h : HasD W base v0 v1 v2 v3 a b c d) : ∀ k, ownD v0 v1 v2 v3 k → base ≤ k := fun k hk => by
  rcases hk with hk | hk | hk | hk
  · exact Kd.R_base h.r0 k hk.symm
  · exact Kd.R_base h.r1 k hk.symm
  · exact Kd.R_base h.r2 k hk.symm
  · exact Kd.R_base h.r3 k hk.symm
theorem HasD.lower (h : HasD W base v0 v1 v2 v3 a b c d) {base' : Nat} (hb : base' ≤ base) : HasD W base' v0 v1 v2 v3 a b c d := ⟨Kd.R_lower h.r0 hb, Kd.R_lower h.r1 hb, Kd.R_lower h.r2 hb, Kd.R_lower h.r3 hb, h.ne⟩
end
theorem HasD.nobox {W : World} {base : Nat} {v0 v1 v2 v3 : Value} {a : List S57} {b c : List S59} {d : List ByteArray} (h : HasD W base v0 v1 v2 v3 a b c d) {g t : Nat} {cs : Array Value} (hb : W.heap[g]? = some (.cells cs t (0, 0))) (hN : 57 ≠ t) (hE : 59 ≠ t) (hS : 9 ≠ t) : ¬ ownD v0 v1 v2 v3 g := fun hk => by
  rcases hk with hk | hk | hk | hk
  · exact Kd.R_ne h.r0 hb hN hk
  · exact Kd.R_ne h.r1 hb hE hk
  · exact Kd.R_ne h.r2 hb hE hk
  · exact Kd.R_ne h.r3 hb hS hk
theorem at_str {w : World} {A : Option Addr} {n : Nat} {xs : List ByteArray} (h : Kd.C Kd.string w A n xs) (i : Nat) (hi : i < xs.length) : ∃ ad, A = some ad ∧ w.cell? (ad.add i) = some (.string xs[i]) := by
  have hl : xs.length = n := h.1
  obtain ⟨ad, c, e, _, hK, hc⟩ := Kd.C_get h ByteArray.empty (i : Int) (by omega) (by omega)
  have hK' : c = [Value.string (xs.getD ((i : Int)).toNat ByteArray.empty)] := hK
  subst hK'
  refine ⟨ad, e, ?_⟩
  have := hc 0 _ rfl
  rw [Int.toNat_natCast, List.getD_eq_getElem?_getD, List.getElem?_eq_getElem hi] at this
  simpa [Kd.string, Kd.scalar] using this
def usedIds : List S59 → List ByteArray → Option (List Int)
  | now, [] => some (now.map fun x => x.f1)
  | now, s :: r => (impl_stepDone.f now s).bind fun q => (usedIds q.1 r).map fun t => (now.map fun x => x.f1) ++ t
theorem cleanLit (B2 B : Nat) (S : Int → Bool) (W : World) (x : S57) (hcell : W.cell? ⟨B2, 0, none⟩ = some (.map (some B))) (hu : UsedMap W B S) :
    Calls Tryz.prog 148 (#[.agg #[.int .i64 x.f0, .string x.f1, .int .i64 x.f2]] ++ #[.pointer (some ⟨B2, 0, none⟩)]) W fun e w' => e = .returned (.bool (!S x.f0)) ∧ Below W.heap.size W w' := by
  have hl := used_look (used_below hu (below_alloc (Below.refl _ _) (.cells #[.int .i64 x.f0, .string x.f1, .int .i64 x.f2] 57 (0, 0)))) x.f0
  have hlt : B2 < W.heap.size := World.block_lt_of_cell? W _ hcell
  have hne : B2 ≠ W.heap.size := by omega
  generalize S x.f0 = b at hl ⊢
  clear hu
  show Calls Tryz.prog 148 #[.agg #[.int .i64 x.f0, .string x.f1, .int .i64 x.f2], .pointer (some ⟨B2, 0, none⟩)] W _
  go_enter Tryz.func148, Tryz.ntmps148
  go_wp2
  go_ret
  exact ⟨rfl, below_alloc (Below.refl _ _) _⟩
theorem C_map_kept {w w' : World} {A : Option Addr} {n B : Nat} {xs : List S59} {S : Int → Bool} (h : Kd.C k59 w A n xs) (hu : UsedMap w B S) (hs : w.heap.size ≤ w'.heap.size) (hk : ∀ i, i ≠ B → w'.heap[i]? = w.heap[i]?) : Kd.C k59 w' A n xs :=
  Kd.C_foot_ne (g := B) (fun {W W' x cs} h => by obtain rfl := k59_open h; exact k59_mk W' x) h (fun ad ha hn e => by
    obtain ⟨ad', c, ha', hcl, hK, hc⟩ := Kd.C_get h ⟨⟨#[]⟩, 0⟩ 0 (by omega) (by omega)
    rw [ha] at ha'
    obtain rfl := Option.some.inj ha'
    obtain rfl := k59_open hK
    have h0 := hc 0 _ rfl
    obtain ⟨es, c0, hb, _⟩ := hu
    have hbl : (ad.add 0).block = ad.block := by unfold Addr.add; split <;> rfl
    have hb' : w.heap[(ad.add 0).block]? = some (.map es c0) := by rw [hbl, e]; exact hb
    simp [World.cell?, hb'] at h0) w' ⟨hs, fun i _ hi _ => hk i hi⟩
set_option maxHeartbeats 4000000 in
set_option maxRecDepth 100000 in
theorem cleanD (g base : Nat) (A0 A1 A2 A3 : Option Addr) (c0 c1 c2 c3 : Nat) (a : List S57) (b c : List S59) (d : List ByteArray) (e f : Int) (w : World) (hg : w.heap[g]? = some (.cells #[.slice A0 a.length c0, .slice A1 b.length c1, .slice A2 c.length c2, .slice A3 d.length c3, .int .i64 e, .int .i64 f] 32 (0, 0)))
    (hD : HasD w base (.slice A0 a.length c0) (.slice A1 b.length c1) (.slice A2 c.length c2) (.slice A3 d.length c3) a b c d) (hTE : TabsE w) (hTP : TabsP w) (ids : List Int) (F : List S57) (h : usedIds c d = some ids) (hF : (a.filter fun x => ids.contains x.f0) = F) :
    Calls Tryz.prog 107 #[.pointer (some ⟨g, 0, none⟩)] w fun e_ w' => e_ = .returned (.tuple #[]) ∧ w'.heap[g]? = some (.cells #[.slice A0 F.length c0, .slice A1 b.length c1, .slice A2 c.length c2, .slice A3 d.length c3, .int .i64 e, .int .i64 f] 32 (0, 0)) ∧
      HasD w' base (.slice A0 F.length c0) (.slice A1 b.length c1) (.slice A2 c.length c2) (.slice A3 d.length c3) F b c d ∧ Turned w w' (fun k => k = g ∨ some k = (Value.slice A0 a.length c0).ownBlock) := by
  have hmm := @run_makeMap Tryz.prog
  have HG := Aside0.mk hg
  have HD := Aside0.mk hD
  have HU := Aside0.mk h
  have HFF := Aside0.mk hF
  have HE := Aside0.mk hTE
  have HP := Aside0.mk hTP
  have hmx3 := (Kd.R_reads' hD.r3).2.2.2.1
  have hmx2 := (Kd.R_reads' hD.r2).2.2.2.1
  have hc2 := (Kd.R_reads' hD.r2).2.1
  have glt := blk_lt hg
  have p2 : w.cell? ⟨g, 2, none⟩ = some (.slice A2 c.length c2) := (blk_cell hg 2).trans rfl
  clear hg hD h hTE hTP hF
  go_enter Tryz.func107, Tryz.ntmps107
  go_wp2_with fail
  go_loopg [3, 4] d.length (fun gg s3 s4 wr => ∃ (An : Option Addr) (cn : Nat) (now : List S59) (i : Nat) (pre : List Int), i ≤ d.length ∧ d.length - i ≤ gg ∧ s3 = .slice An now.length cn ∧ s4 = .int .i64 i ∧ now.length ≤ cn ∧ Aside0 (Kd.C k59 wr An now.length now) ∧ Aside0 (∃ rest, usedIds now (d.drop i) = some rest ∧ ids = pre ++ rest) ∧ Aside0 (UsedMap wr w.heap.size (fun x => pre.contains x)) ∧ Aside0 (Below w.heap.size w wr) ∧ Aside0 (wr.heap[w.heap.size + 1]? = some (.cells #[.map (some w.heap.size)] 129 (0, 0))))
  case atStart =>
    have hb := below_alloc (below_alloc (Below.refl w.heap.size w) (.map #[] 0)) (.cells #[.map (some w.heap.size)] 129 (0, 0))
    refine ⟨A2, c2, c, 0, [], by omega, by omega, rfl, rfl, hc2, ⟨Kd.C_below (Kd.R_reads' HD.out.r2).2.2 hb⟩, ⟨ids, HU.out, rfl⟩, ⟨?_⟩, ⟨hb⟩, ⟨by have := (Go.MapKept.heap_alloc (w.alloc (.map #[] 0)) (.cells #[.map (some w.heap.size)] 129 (0, 0))).1; rwa [show (w.alloc (.map #[] 0)).heap.size = w.heap.size + 1 from by simp] at this⟩⟩
    exact used_kept (used_new w) (Below.heap_alloc _ _ _ (by simp))
  case round =>
    obtain ⟨An, cn, now, i, pre, hid, hgg, rfl, rfl, hcn, HC, HI, HS, BW, HB2⟩ := hrel
    have hmxn := HC.out.2.1
    go_wp2
    go_loopg [16] now.length (fun g2 s16 wr2 => ∃ kk : Nat, kk ≤ now.length ∧ now.length - kk ≤ g2 ∧ s16 = .int .i64 kk ∧ Aside0 (UsedMap wr2 w.heap.size (fun x => (pre ++ (now.take kk).map fun z => z.f1).contains x)) ∧ Aside0 (Below w.heap.size w wr2) ∧ Aside0 (wr2.heap[w.heap.size + 1]? = some (.cells #[.map (some w.heap.size)] 129 (0, 0))) ∧ Aside0 (Kd.C k59 wr2 An now.length now))
    case atStart => exact ⟨0, by omega, by omega, rfl, ⟨by simpa using HS.out⟩, BW, HB2, HC⟩
    case round =>
      obtain ⟨kk, hkk, hg2, rfl, HS2, BW2, HB3, HC2⟩ := hrel
      clear HS BW HB2 HC
      have hlt1 := blk_lt HB3.out
      have e0 : wr.cell? ⟨w.heap.size + 1, 0, none⟩ = some (.map (some w.heap.size)) := (blk_cell HB3.out 0).trans rfl
      by_cases hlt : kk < now.length
      · have hltz : (kk : Int) < (now.length : Int) := by omega
        obtain ⟨ad, rfl, hx0, hx1⟩ := at_T59 HC2.out (kk : Int) (by omega) hltz
        rw [Int.toNat_natCast] at hx0 hx1
        have hy : rd_T59 now (kk : Int) = now[kk] := by
          unfold rd_T59
          rw [Int.toNat_natCast, List.getD_eq_getElem?_getD, List.getElem?_eq_getElem hlt]; rfl
        rw [hy] at hx0 hx1
        have MT : Aside0 (now.take (kk + 1) = now.take kk ++ [now[kk]]) := ⟨by rw [List.take_succ_eq_append_getElem hlt]⟩
        clear hy
        generalize now[kk] = y at hx0 hx1 MT
        go_wp2_with (first | (at_mapUpdate; refine wpList_used rfl _ _ _ rfl w.heap.size _ rfl (used_below HS2.out (below_alloc (Below.refl _ _) _)) _ rfl rfl ?_; intro w3 hu3 hB3 hK3))
        go_roundg (now.length - (kk + 1))
        case measure => omega
        case rel =>
          have hba := below_alloc (Below.refl wr.heap.size wr) (.cells #[.string y.f0, .int .i64 y.f1] 59 (0, 0))
          refine ⟨kk + 1, by omega, by omega, by go_num, ⟨?_⟩, ⟨hB3 (BW2.out.trans (hba.mono BW2.out.size)) (Nat.le_refl _)⟩, ⟨(hK3 _ (by omega)).trans ((hba.block _ hlt1).trans HB3.out)⟩, ⟨C_map_kept (Kd.C_below HC2.out hba) (used_below HS2.out hba) (hB3 (Below.refl 0 _) (Nat.zero_le _)).size hK3⟩⟩
          have e1 : (fun z => (pre ++ List.map (fun z => z.f1) (List.take kk now)).contains z || z == y.f1) = fun x => (pre ++ List.map (fun z => z.f1) (List.take (kk + 1) now)).contains x := by
            funext z
            rw [MT.out, Bool.eq_iff_iff]
            simp [or_assoc]
          rw [← e1]
          exact hu3
      · have hltz : ¬ (kk : Int) < (now.length : Int) := by omega
        have hgr := (BW2.out.block g glt).trans HG.out
        have HGR := Aside0.mk hgr
        have p3 : wr.cell? ⟨g, 3, none⟩ = some (.slice A3 d.length c3) := (blk_cell hgr 3).trans rfl
        have p0 : wr.cell? ⟨g, 0, none⟩ = some (.slice A0 a.length c0) := (blk_cell hgr 0).trans rfl
        have hK : now.take kk = now := List.take_of_length_le (by omega)
        rw [hK] at HS2
        clear hK hgr
        obtain ⟨rest, hrest, hids⟩ := HI.out
        by_cases hlast : i < d.length
        · have hil : ((i : Int) == (d.length : Int)) = false := by simp; omega
          have hilz : (i : Int) < (d.length : Int) := by omega
          have hne : ¬ (i : Int) = (d.length : Int) := by omega
          have hdr : d.drop i = d[i] :: d.drop (i + 1) := List.drop_eq_getElem_cons hlast
          rw [hdr, usedIds] at hrest
          obtain ⟨q, hq, hrest⟩ := Option.bind_eq_some_iff.mp hrest
          obtain ⟨t, ht, rfl⟩ := Option.map_eq_some_iff.mp hrest
          obtain ⟨sd, rfl, hsd⟩ := at_str (Kd.C_below (Kd.R_reads' HD.out.r3).2.2 BW2.out) i hlast
          have CS := Aside0.mk (impl_stepDone.calls An cn now d[i] q.1 q.2 wr HC2.out hcn (HE.out.below BW2.out) (HP.out.below BW2.out) hq)
          have HT := Aside0.mk ht
          have HID := Aside0.mk hids
          clear hq ht hids hrest hdr HI
          generalize d[i] = s at hsd CS
          go_wp2_with (go_at_call 74; refine CS.out.mono ?_; rintro e_ w4 ⟨v4, rfl, hR4, hb4⟩; obtain ⟨A4, c4, rfl⟩ := Kd.R_slice hR4)
          go_roundg (d.length - (i + 1))
          case measure => omega
          case rel =>
            exact ⟨A4, c4, q.1, i + 1, pre ++ now.map fun z => z.f1, by omega, by omega, rfl, by go_num, (Kd.R_reads' hR4).2.1, ⟨(Kd.R_reads' hR4).2.2⟩, ⟨t, HT.out, by rw [HID.out, List.append_assoc]⟩, ⟨used_below HS2.out hb4⟩, ⟨BW2.out.trans (hb4.mono BW2.out.size)⟩, ⟨(hb4.block _ hlt1).trans HB3.out⟩⟩
        · have hil : ((i : Int) == (d.length : Int)) = true := by simp; omega
          have hne : (i : Int) = (d.length : Int) := by omega
          rw [List.drop_of_length_le (by omega), usedIds] at hrest
          have hids2 : ids = pre ++ now.map fun x => x.f1 := by rw [hids, ← Option.some.inj hrest]
          rw [← hids2] at HS2
          clear hids hids2 hrest HI
          have HDw := HD.out.on BW2.out
          have hB2n : ¬ some (w.heap.size + 1) = (Value.slice A0 a.length c0).ownBlock := Kd.R_ne HDw.r0 HB3.out (by decide)
          have hBn : ¬ some w.heap.size = (Value.slice A0 a.length c0).ownBlock := fun e => by
            obtain ⟨cs, hcs⟩ := Kd.R_typed HDw.r0 _ e.symm
            exact used_nocells HS2.out hcs rfl
          have eg : ∀ args w, (callFunc 148 args).run Tryz.prog w = .ok (.enter 148 args) w := enters_of Tryz.func148 (by kernel_rfl) rfl
          have CD0 := (deleteFN 148 #[.pointer (some ⟨w.heap.size + 1, 0, none⟩)] (fun x => !ids.contains x.f0) eg A0 c0 base a wr (Kd.R_mono HDw.r0 fun _ _ => trivial)
            (fun W x hT => cleanLit (w.heap.size + 1) w.heap.size (fun z => ids.contains z) W x ((blk_cell ((hT.block _ hlt1 hB2n).trans HB3.out) 0).trans rfl) (used_kept HS2.out (hT.block _ (by omega) hBn))))
          simp only [Bool.not_not] at CD0
          rw [HFF.out] at CD0
          have CDl := Aside0.mk CD0
          have hgn : ¬ some g = (Value.slice A0 a.length c0).ownBlock := fun e => HDw.nobox HGR.out (by decide) (by decide) (by decide) (.inl e)
          have HDW := Aside0.mk HDw
          clear HDw eg CD0
          go_wp2_with (go_at_call 147; refine CDl.out.mono ?_; rintro e_ w5 ⟨rfl, hR5, hT5⟩; have hg5 := (hT5.block g (blk_lt HGR.out) hgn).trans HGR.out; have s5 : w5.cell? ⟨g, 0, none⟩ = some (.slice A0 a.length c0) := (blk_cell hg5 0).trans rfl; have z5 := blk_frozen hg5 0; have HG5 := Aside0.mk hg5; clear hg5)
          go_end0
          have hD5 : ∀ k, k ≠ g → (w5.setCell ⟨g, 0, none⟩ (.slice A0 F.length c0)).heap[k]? = w5.heap[k]? := fun k hk => Below.heap_setCell w5 ⟨g, 0, none⟩ _ k hk
          have hTT := ((Turned.of BW2.out (fun k => k = g ∨ some k = (Value.slice A0 a.length c0).ownBlock)).trans (hT5.mono fun k _ h => .inr h)).set (p := ⟨g, 0, none⟩) (.inl (.inl rfl)) (.slice A0 F.length c0)
          have hown : (Value.slice A0 F.length c0).ownBlock = (Value.slice A0 a.length c0).ownBlock := by cases A0 <;> rfl
          have hnb := HDW.out.nobox HGR.out (by decide) (by decide) (by decide)
          have hty := Kd.R_typed HDW.out.r0
          refine ⟨rfl, blk_put (cs := #[.slice A0 a.length c0, .slice A1 b.length c1, .slice A2 c.length c2, .slice A3 d.length c3, .int .i64 e, .int .i64 f]) HG5.out 0 _ rfl, ⟨?_, ?_, ?_, ?_, HDW.out.ne⟩, hTT⟩
          · exact Kd.R_step (Kd.R_tight rfl hR5) fun k hk _ => hD5 k fun e => hgn (by rw [← e, ← hown]; exact hk)
          · exact Kd.R_step HDW.out.r1 fun k hk hl => (hD5 k fun e => hnb (.inr (.inl (by rw [← e]; exact hk)))).trans (hT5.block k hl fun e => by
              obtain ⟨cs, hcs⟩ := hty k e.symm
              exact Kd.R_ne HDW.out.r1 hcs (by decide) hk)
          · exact Kd.R_step HDW.out.r2 fun k hk hl => (hD5 k fun e => hnb (.inr (.inr (.inl (by rw [← e]; exact hk))))).trans (hT5.block k hl fun e => by
              obtain ⟨cs, hcs⟩ := hty k e.symm
              exact Kd.R_ne HDW.out.r2 hcs (by decide) hk)
          · exact Kd.R_step HDW.out.r3 fun k hk hl => (hD5 k fun e => hnb (.inr (.inr (.inr (by rw [← e]; exact hk))))).trans (hT5.block k hl fun e => by
              obtain ⟨cs, hcs⟩ := hty k e.symm
              exact Kd.R_ne HDW.out.r3 hcs (by decide) hk)
theorem Turned.of_grown {w w' : World} {row : Option Nat} (h : w.grownBy w' row) : Turned w w' (fun k => some k = row) := ⟨h.os, h.tape, h.output, h.size, fun k hk hn => h.block k hk hn⟩
theorem HasD.slices {W : World} {base : Nat} {v0 v1 v2 v3 : Value} {a : List S57} {b c : List S59} {d : List ByteArray} (h : HasD W base v0 v1 v2 v3 a b c d) : ∃ A0 c0 A1 c1 A2 c2 A3 c3, v0 = .slice A0 a.length c0 ∧ v1 = .slice A1 b.length c1 ∧ v2 = .slice A2 c.length c2 ∧ v3 = .slice A3 d.length c3 := by
  obtain ⟨A0, c0, h0⟩ := Kd.R_slice h.r0
  obtain ⟨A1, c1, h1⟩ := Kd.R_slice h.r1
  obtain ⟨A2, c2, h2⟩ := Kd.R_slice h.r2
  obtain ⟨A3, c3, h3⟩ := Kd.R_slice h.r3
  exact ⟨A0, c0, A1, c1, A2, c2, A3, c3, h0, h1, h2, h3⟩
/-! ### A disk's six cells laid one by one -/
section
variable {w : World} {g : Nat} {t : TypeId} {x0 x1 x2 x3 x4 x5 a b c d e f : Value}
theorem fill6_at (h : w.heap[g]? = some (.cells #[x0, x1, x2, x3, x4, x5] t (0, 0))) : ((((((w.setCell ⟨g, 0, none⟩ a).setCell ⟨g, 1, none⟩ b).setCell ⟨g, 2, none⟩ c).setCell ⟨g, 3, none⟩ d).setCell ⟨g, 4, none⟩ e).setCell ⟨g, 5, none⟩ f).heap[g]? = some (.cells #[a, b, c, d, e, f] t (0, 0)) :=
  blk_put (cs := #[a, b, c, d, e, x5]) (blk_put (cs := #[a, b, c, d, x4, x5]) (blk_put (cs := #[a, b, c, x3, x4, x5]) (blk_put (cs := #[a, b, x2, x3, x4, x5]) (blk_put (cs := #[a, x1, x2, x3, x4, x5]) (blk_put (cs := #[x0, x1, x2, x3, x4, x5]) h 0 _ rfl) 1 _ rfl) 2 _ rfl) 3 _ rfl) 4 _ rfl) 5 _ rfl
theorem fill6_far {j : Nat} (hj : j ≠ g) : ((((((w.setCell ⟨g, 0, none⟩ a).setCell ⟨g, 1, none⟩ b).setCell ⟨g, 2, none⟩ c).setCell ⟨g, 3, none⟩ d).setCell ⟨g, 4, none⟩ e).setCell ⟨g, 5, none⟩ f).heap[j]? = w.heap[j]? := by
  rw [Below.heap_setCell _ ⟨g, 5, none⟩ _ j hj, Below.heap_setCell _ ⟨g, 4, none⟩ _ j hj, Below.heap_setCell _ ⟨g, 3, none⟩ _ j hj, Below.heap_setCell _ ⟨g, 2, none⟩ _ j hj, Below.heap_setCell _ ⟨g, 1, none⟩ _ j hj, Below.heap_setCell _ ⟨g, 0, none⟩ _ j hj]
theorem fill6_below {w0 : World} (hb : Below w0.heap.size w0 w) (hg : w0.heap.size ≤ g) : Below w0.heap.size w0 ((((((w.setCell ⟨g, 0, none⟩ a).setCell ⟨g, 1, none⟩ b).setCell ⟨g, 2, none⟩ c).setCell ⟨g, 3, none⟩ d).setCell ⟨g, 4, none⟩ e).setCell ⟨g, 5, none⟩ f) :=
  below_set (below_set (below_set (below_set (below_set (below_set hb hg) hg) hg) hg) hg) hg
end
theorem HasD.told {W : World} {base : Nat} {v0 v1 v2 v3 : Value} {a : List S57} {b c : List S59} {d : List ByteArray} (h : HasD W base v0 v1 v2 v3 a b c d) :
    Kd.R k57 57 W base (fun _ => True) v0 a ∧ Kd.R k59 59 W base (fun k_ => some k_ ≠ v2.ownBlock) v1 b ∧ Kd.R k59 59 W base (fun k_ => some k_ ≠ v1.ownBlock) v2 c ∧ Kd.R Kd.string 9 W base (fun _ => True) v3 d :=
  ⟨Kd.R_mono h.r0 fun _ _ => trivial, Kd.R_mono h.r1 fun k hk => h.ne k hk, Kd.R_mono h.r2 fun k hk hj => h.ne k hj hk, Kd.R_mono h.r3 fun _ _ => trivial⟩
theorem HasD.fill {w : World} {g : Nat} {base : Nat} {v0 v1 v2 v3 : Value} {a : List S57} {b c : List S59} {d : List ByteArray} {cs : Array Value} {W : World} (h : HasD w base v0 v1 v2 v3 a b c d) (hb : w.heap[g]? = some (.cells cs 32 (0, 0))) (hf : ∀ j, j ≠ g → W.heap[j]? = w.heap[j]?) : HasD W base v0 v1 v2 v3 a b c d :=
  h.step fun k hk _ => hf k fun e => h.nobox hb (by decide) (by decide) (by decide) (e ▸ hk)
/-- The nodes' row as a block, and a node's cells. -/
theorem HasD.row {W : World} {base : Nat} {A : Option Addr} {m c0 : Nat} {v1 v2 v3 : Value} {a : List S57} {b c : List S59} {d : List ByteArray} (h : HasD W base (.slice A m c0) v1 v2 v3 a b c d) (i : Nat) (hi : i < a.length) :
    ∃ g cur, A = some ⟨g, 0, none⟩ ∧ m = a.length ∧ base ≤ g ∧ W.heap[g]? = some (.cells cur 57 (0, 0)) ∧ W.cell? ⟨g, i * 3, none⟩ = some (.int .i64 (a[i]).f0) ∧ W.cell? ⟨g, i * 3 + 1, none⟩ = some (.string (a[i]).f1) ∧ W.cell? ⟨g, i * 3 + 2, none⟩ = some (.int .i64 (a[i]).f2) ∧ (∀ j, W.frozen? ⟨g, j, none⟩ = false) ∧
      (∀ (j : Nat) (u : Value) (a' : List S57), j < a.length * 3 → a'.length = a.length → (cellsN a).set j u = cellsN a' → HasD (W.setCell ⟨g, j, none⟩ u) base (.slice A m c0) v1 v2 v3 a' b c d) := by
  obtain ⟨_, ⟨_, hl0⟩ | ⟨g, cp, cur, hv, hbg, hg, hlc, hm, hsz, htk⟩⟩ := ownN h.r0
  · omega
  injection hv with h1 h2 h3
  subst h1 h2 h3
  have hat : ∀ j v, (cellsN a)[j]? = some v → W.cell? ⟨g, j, none⟩ = some v := fun j v hj => by
    rw [← htk, List.getElem?_take] at hj
    split at hj
    · rw [cell_of_row W g j cur _ _ hg]
      rw [Array.getElem?_toList] at hj
      exact hj
    · cases hj
  have hc := cellsN_at a i a[i] (List.getElem?_eq_getElem hi)
  have hget : ∀ q, q < 3 → (cellsN a)[i * 3 + q]? = ([.int .i64 (a[i]).f0, .string (a[i]).f1, .int .i64 (a[i]).f2] : List Value)[q]? := fun q hq => by
    rw [← hc, List.getElem?_take, if_pos hq, List.getElem?_drop]
  refine ⟨g, cur, rfl, rfl, hbg, hg, hat _ _ (hget 0 (by omega)), hat _ _ (hget 1 (by omega)), hat _ _ (hget 2 (by omega)), fun j => by simp [World.frozen?, hg], fun j u a' hj hla hcs => ?_⟩
  have hls : (cellsN a).length = a.length * 3 := cellsN_length a
  have hne1 : ∀ k, some k = v1.ownBlock → k ≠ g := fun k hk e => Kd.R_ne h.r1 hg (by decide) (by rw [← e]; exact hk)
  have hne2 : ∀ k, some k = v2.ownBlock → k ≠ g := fun k hk e => Kd.R_ne h.r2 hg (by decide) (by rw [← e]; exact hk)
  have hne3 : ∀ k, some k = v3.ownBlock → k ≠ g := fun k hk e => Kd.R_ne h.r3 hg (by decide) (by rw [← e]; exact hk)
  refine ⟨?_, Kd.R_step h.r1 fun k hk _ => Below.heap_setCell W ⟨g, j, none⟩ u k (hne1 k hk), Kd.R_step h.r2 fun k hk _ => Below.heap_setCell W ⟨g, j, none⟩ u k (hne2 k hk), Kd.R_step h.r3 fun k hk _ => Below.heap_setCell W ⟨g, j, none⟩ u k (hne3 k hk), h.ne⟩
  rw [setCell_eq_setRow W g j cur _ (0, 0) _ hg, ← hla]
  refine Kd.R_tight rfl (R_ofN ⟨cellsN_length _, .inr ⟨g, c0, _, rfl, hbg, setRow_heap W g cur _ _ _ hg, by rw [hla]; exact hlc, hm, by rw [Array.size_setIfInBounds]; exact hsz, ?_⟩⟩)
  rw [hla, Array.toList_setIfInBounds, List.take_set, htk, hcs]
theorem filled_told {w1 : World} {g base : Nat} {v0 v1 v2 v3 : Value} (x4 x5 : Value) {a : List S57} {b c : List S59} {d : List ByteArray} {cs : Array Value} (h : HasD w1 base v0 v1 v2 v3 a b c d) (hb : w1.heap[g]? = some (.cells cs 32 (0, 0))) :
    Kd.R k57 57 ((((((w1.setCell ⟨g, 0, none⟩ v0).setCell ⟨g, 1, none⟩ v1).setCell ⟨g, 2, none⟩ v2).setCell ⟨g, 3, none⟩ v3).setCell ⟨g, 4, none⟩ x4).setCell ⟨g, 5, none⟩ x5) base (fun _ => True) v0 a ∧ Kd.R k59 59 ((((((w1.setCell ⟨g, 0, none⟩ v0).setCell ⟨g, 1, none⟩ v1).setCell ⟨g, 2, none⟩ v2).setCell ⟨g, 3, none⟩ v3).setCell ⟨g, 4, none⟩ x4).setCell ⟨g, 5, none⟩ x5) base (fun k_ => some k_ ≠ v2.ownBlock) v1 b ∧ Kd.R k59 59 ((((((w1.setCell ⟨g, 0, none⟩ v0).setCell ⟨g, 1, none⟩ v1).setCell ⟨g, 2, none⟩ v2).setCell ⟨g, 3, none⟩ v3).setCell ⟨g, 4, none⟩ x4).setCell ⟨g, 5, none⟩ x5) base (fun k_ => some k_ ≠ v1.ownBlock) v2 c ∧ Kd.R Kd.string 9 ((((((w1.setCell ⟨g, 0, none⟩ v0).setCell ⟨g, 1, none⟩ v1).setCell ⟨g, 2, none⟩ v2).setCell ⟨g, 3, none⟩ v3).setCell ⟨g, 4, none⟩ x4).setCell ⟨g, 5, none⟩ x5) base (fun _ => True) v3 d :=
  HasD.told (HasD.fill h hb (fun j hj => fill6_far hj))
theorem set2_calls {w : World} {g i j : Nat} {cs : Array Value} {t : TypeId} {u v : Value} {P : Program} {F : FuncId} {args : Array Value} {Q : Ending → World → Prop} (h : w.heap[g]? = some (.cells cs t (0, 0)))
    (k : ∀ W, W.heap[g]? = some (.cells ((cs.setIfInBounds i u).setIfInBounds j v) t (0, 0)) → (∀ {w0 : World} {S : Nat → Prop}, Turned w0 w S → (S g ∨ w0.heap.size ≤ g) → Turned w0 W S) → (∀ j, j ≠ g → W.heap[j]? = w.heap[j]?) → W.heap.size = w.heap.size → Calls P F args W Q) : Calls P F args ((w.setCell ⟨g, i, none⟩ u).setCell ⟨g, j, none⟩ v) Q :=
  k _ (blk_set (blk_set h i u) j v) (fun hT hg => (hT.set (p := ⟨g, i, none⟩) hg u).set (p := ⟨g, j, none⟩) hg v) (fun q hq => (Below.heap_setCell _ ⟨g, j, none⟩ v q hq).trans (Below.heap_setCell w ⟨g, i, none⟩ u q hq)) (by simp)
theorem sync_has {w0 w W : World} {g base : Nat} {v0 v1 v2 v3 v2' : Value} {a : List S57} {b c c' : List S59} {d : List ByteArray} {cs : Array Value} {p : Nat → Prop} (h0 : HasD w0 base v0 v1 v2 v3 a b c d) (h : HasD w base v0 v1 v2 v3 a b c d) (hb : base ≤ w0.heap.size) (hR : Kd.R k59 59 w w0.heap.size p v2' c')
    (hg : w.heap[g]? = some (.cells cs 32 (0, 0))) (hs : ∀ j, j ≠ g → W.heap[j]? = w.heap[j]?) : HasD W base v0 v1 v2' (.slice none 0 0) a b c' [] := by
  have nb := h.nobox hg (by decide) (by decide) (by decide)
  refine ⟨Kd.R_step h.r0 fun k hk _ => hs k fun e => nb (.inl (e ▸ hk)), Kd.R_step h.r1 fun k hk _ => hs k fun e => nb (.inr (.inl (e ▸ hk))), Kd.R_step (Kd.R_tight rfl (Kd.R_lower hR hb)) fun k hk _ => hs k fun e => Kd.R_ne hR hg (by decide) (e ▸ hk), Kd.R_nil _ _ _ _ _, fun k hk hk2 => ?_⟩
  have := Kd.R_base hR k hk2.symm
  have := Kd.R_lt h0.r1 k hk.symm
  omega
def impl_SyncNames.f (k : Nat) (l0_0 : List S57) (l0_1 : List S59) (l0_2 : List S59) (l0_3 : List ByteArray) (a0_4 : Int) (a0_5 : Int) : Option (List (S57) × List (S59) × List (S59) × List ByteArray × Int × Int) := (impl_copyDisk.f l0_0 l0_1 l0_2 l0_3 a0_4 a0_5).bind fun o => (impl_DiskOk.f k l0_0 l0_1 l0_2 l0_3 a0_4 a0_5).bind fun b => if b = true then (if l0_1.length * 24 ≤ 140737488355328 then some (o.1.filter fun x => (l0_1.map fun z => z.f1).contains x.f0, o.2.1, l0_1, [], o.2.2.2.2.1, o.2.2.2.2.2) else none) else some (o.1, o.2.1, o.2.2.1, o.2.2.2.1, o.2.2.2.2.1, o.2.2.2.2.2)
theorem impl_SyncNames.mono : ∀ l0_0 l0_1 l0_2 l0_3 a0_4 a0_5 k, LeO (impl_SyncNames.f k l0_0 l0_1 l0_2 l0_3 a0_4 a0_5) (impl_SyncNames.f (k + 1) l0_0 l0_1 l0_2 l0_3 a0_4 a0_5) := by
  intro l0_0 l0_1 l0_2 l0_3 a0_4 a0_5 k
  unfold impl_SyncNames.f
  repeat' first | (with_reducible exact LeO.refl _) | (with_reducible exact impl_DiskOk.mono _ _ _ _ _ _ _) | (with_reducible refine LeO.ite ?_ ?_) | (with_reducible refine LeO.bind ?_ (fun _ => ?_))
set_option maxHeartbeats 4000000 in
set_option maxRecDepth 100000 in
theorem impl_SyncNames.calls (k : Nat) (A0_0 : Option Addr) (c0_0 : Nat) (l0_0 : List (S57)) (A0_1 : Option Addr) (c0_1 : Nat) (l0_1 : List (S59)) (A0_2 : Option Addr) (c0_2 : Nat) (l0_2 : List (S59)) (A0_3 : Option Addr) (c0_3 : Nat) (l0_3 : List ByteArray) (a0_4 : Int) (a0_5 : Int)  (r1 : List S57) (r2 : List S59) (r3 : List S59) (r4 : List ByteArray) (r5 : Int) (r6 : Int) (w : World) (hr0_0 : Kd.C k57 w A0_0 l0_0.length l0_0) (hc0_0 : l0_0.length ≤ c0_0) (hr0_1 : Kd.C k59 w A0_1 l0_1.length l0_1) (hc0_1 : l0_1.length ≤ c0_1) (hr0_2 : Kd.C k59 w A0_2 l0_2.length l0_2) (hc0_2 : l0_2.length ≤ c0_2) (hr0_3 : Kd.C Kd.string w A0_3 l0_3.length l0_3) (hc0_3 : l0_3.length ≤ c0_3) (hTE : TabsE w) (hTP : TabsP w) (h : impl_SyncNames.f k l0_0 l0_1 l0_2 l0_3 a0_4 a0_5 = some (r1, r2, r3, r4, r5, r6)) :
    Calls Tryz.prog 44 #[.agg #[.slice A0_0 l0_0.length c0_0, .slice A0_1 l0_1.length c0_1, .slice A0_2 l0_2.length c0_2, .slice A0_3 l0_3.length c0_3, .int .i64 a0_4, .int .i64 a0_5]] w fun e w' => ∃ v0_ v1_ v2_ v3_ : Value, e = .returned (.agg #[v0_, v1_, v2_, v3_, .int .i64 r5, .int .i64 r6]) ∧ Kd.R k57 57 w' w.heap.size (fun _ => True) v0_ r1 ∧ Kd.R k59 59 w' w.heap.size (fun k_ => some k_ ≠ (v2_ : Value).ownBlock) v1_ r2 ∧ Kd.R k59 59 w' w.heap.size (fun k_ => some k_ ≠ (v1_ : Value).ownBlock) v2_ r3 ∧ Kd.R Kd.string 9 w' w.heap.size (fun _ => True) v3_ r4 ∧ Below w.heap.size w w' := by
  unfold impl_SyncNames.f at h
  replace h := Option.bind_eq_some_iff.mp h
  obtain ⟨⟨o1, o2, o3, o4, o5, o6⟩, ho, h⟩ := h
  replace h := Option.bind_eq_some_iff.mp h
  obtain ⟨b, hbk, h⟩ := h
  dsimp only at h
  have CC := Aside0.mk (fun (w1 : World) (hb : Below w.heap.size w w1) => impl_copyDisk.calls A0_0 c0_0 l0_0 A0_1 c0_1 l0_1 A0_2 c0_2 l0_2 A0_3 c0_3 l0_3 a0_4 a0_5 o1 o2 o3 o4 o5 o6 w1 (Kd.C_below hr0_0 hb) hc0_0 (Kd.C_below hr0_1 hb) hc0_1 (Kd.C_below hr0_2 hb) hc0_2 (Kd.C_below hr0_3 hb) hc0_3 ho)
  have CD := Aside0.mk (fun (w1 : World) (hb : Below w.heap.size w w1) => impl_DiskOk.calls k A0_0 c0_0 l0_0 A0_1 c0_1 l0_1 A0_2 c0_2 l0_2 A0_3 c0_3 l0_3 a0_4 a0_5 b w1 (Kd.C_below hr0_0 hb) hc0_0 (Kd.C_below hr0_1 hb) hc0_1 (Kd.C_below hr0_2 hb) hc0_2 (Kd.C_below hr0_3 hb) hc0_3 (hTE.below hb) (hTP.below hb) hbk)
  have HE := Aside0.mk hTE
  have HP := Aside0.mk hTP
  cases b with
  | false =>
    rw [if_neg (by decide)] at h
    simp only [Option.some.injEq, Prod.mk.injEq] at h
    obtain ⟨rfl, rfl, rfl, rfl, rfl, rfl⟩ := h
    clear ho hbk hr0_0 hc0_0 hr0_1 hc0_1 hr0_2 hc0_2 hr0_3 hc0_3 hTE hTP
    go_enter Tryz.func44, Tryz.ntmps44
    go_wp2_with (first | ((with_reducible refine gate_dst (N := 1) rfl ?_); refine box_event ?hg (N := 1) ?hd (cs := #[.slice A0_0 l0_0.length c0_0, .slice A0_1 l0_1.length c0_1, .slice A0_2 l0_2.length c0_2, .slice A0_3 l0_3.length c0_3, .int .i64 a0_4, .int .i64 a0_5]) (t := 32) ?hr ?_; (case hd => rfl); (case hg => rfl); (case hr => first | (go_simp; done) | (go_simp; rfl)); intro gD hg w1 hbox hb; have BL := Aside0.mk hb; have BD := Aside0.mk hbox; clear hb; (try clear iD0 iD1 iD2 iD3 iD4 iD5); obtain ⟨iD0, iD1, iD2, iD3, iD4, iD5⟩ := blk6 BD.out; clear hg hbox) | ((with_reducible refine gate_dst (N := 2) rfl ?_); refine box_event ?hg (N := 2) ?hd (cs := #[.slice none 0 0, .slice none 0 0, .slice none 0 0, .slice none 0 0, .int .i64 0, .int .i64 0]) (t := 32) ?hr ?_; (case hd => rfl); (case hg => rfl); (case hr => first | (go_simp; done) | (go_simp; rfl)); intro gR hg w1 hbox hb; have GR := Aside0.mk (show w.heap.size ≤ gR by rw [hg]; exact BL.out.size); replace BL := Aside0.mk (BL.out.trans (hb.mono BL.out.size)); (try replace BD := Aside0.mk ((hb.block gD (blk_lt BD.out)).trans BD.out)); (try replace BR := Aside0.mk ((hb.block gR (blk_lt BR.out)).trans BR.out)); (try replace BO := Aside0.mk ((hb.block gO (blk_lt BO.out)).trans BO.out)); (try replace Do := Aside0.mk (Do.out.on hb)); have BR := Aside0.mk hbox; clear hb; (try clear iD0 iD1 iD2 iD3 iD4 iD5); obtain ⟨iD0, iD1, iD2, iD3, iD4, iD5⟩ := blk6 BD.out; clear hg hbox) | (go_at_call 82; have hbs := BL.out.size; (with_reducible refine (CC.out _ BL.out).mono ?_); rintro e w1 ⟨v0, v1, v2, v3, rfl, p0, p1, p2, p3, hb⟩; have hD := HasD.of p0 p1 p2 p3; replace BL := Aside0.mk (BL.out.trans (hb.mono BL.out.size)); (try replace BD := Aside0.mk ((hb.block gD (blk_lt BD.out)).trans BD.out)); (try replace BR := Aside0.mk ((hb.block gR (blk_lt BR.out)).trans BR.out)); (try replace BO := Aside0.mk ((hb.block gO (blk_lt BO.out)).trans BO.out)); (try replace Do := Aside0.mk (Do.out.on hb)); have Do := Aside0.mk (hD.lower hbs); obtain ⟨A0, c0, rfl⟩ := Kd.R_slice p0; obtain ⟨A1, c1, rfl⟩ := Kd.R_slice p1; obtain ⟨A2, c2, rfl⟩ := Kd.R_slice p2; obtain ⟨A3, c3, rfl⟩ := Kd.R_slice p3; clear hD hb hbs p0 p1 p2 p3; (try clear iD0 iD1 iD2 iD3 iD4 iD5); obtain ⟨iD0, iD1, iD2, iD3, iD4, iD5⟩ := blk6 BD.out) | ((with_reducible refine gate_store (t := 32) (p := 3) rfl ?_); refine store_event (t := 32) (p := 3) (v := ?voO) (w1 := w1.alloc (.cells #[.slice A0 o1.length c0, .slice A1 o2.length c1, .slice A2 o3.length c2, .slice A3 o4.length c3, .int .i64 o5, .int .i64 o6] 32 (0, 0))) ?hg ?ho ?hn ?hr ?_; (case ho => rfl); (case hg => rfl); (case hn => rfl); (case hr => first | (go_simp; done) | (go_simp; rfl)); intro wz hw; have hb : Below w1.heap.size w1 wz := (by rw [hw]; exact below_alloc (Below.refl _ _) _); have hbox := (by rw [hw]; exact blk_new w1 _ : wz.heap[w1.heap.size]? = some (.cells #[.slice A0 o1.length c0, .slice A1 o2.length c1, .slice A2 o3.length c2, .slice A3 o4.length c3, .int .i64 o5, .int .i64 o6] 32 (0, 0))); clear hw; obtain ⟨gO, hg⟩ : ∃ g, g = w1.heap.size := ⟨_, rfl⟩; rw [← hg] at hbox ⊢; have GO := Aside0.mk (show w.heap.size ≤ gO by rw [hg]; exact BL.out.size); have DO := Aside0.mk (show gD ≠ gO by rw [hg]; exact Nat.ne_of_lt (blk_lt BD.out)); have RO := Aside0.mk (show gR ≠ gO by rw [hg]; exact Nat.ne_of_lt (blk_lt BR.out)); clear hg; replace BL := Aside0.mk (BL.out.trans (hb.mono BL.out.size)); (try replace BD := Aside0.mk ((hb.block gD (blk_lt BD.out)).trans BD.out)); (try replace BR := Aside0.mk ((hb.block gR (blk_lt BR.out)).trans BR.out)); (try replace BO := Aside0.mk ((hb.block gO (blk_lt BO.out)).trans BO.out)); (try replace Do := Aside0.mk (Do.out.on hb)); have BO := Aside0.mk hbox; clear hb hbox; (try clear iD0 iD1 iD2 iD3 iD4 iD5); obtain ⟨iD0, iD1, iD2, iD3, iD4, iD5⟩ := blk6 BD.out; (try clear iO0 iO1 iO2 iO3 iO4 iO5); obtain ⟨iO0, iO1, iO2, iO3, iO4, iO5⟩ := blk6 BO.out; (try clear iR0 iR1 iR2 iR3 iR4 iR5); obtain ⟨iR0, iR1, iR2, iR3, iR4, iR5⟩ := blk6 BR.out; (try clear zO0 zO1 zO2 zO3 zO4 zO5); have zO0 := blk_frozen BO.out 0; have zO1 := blk_frozen BO.out 1; have zO2 := blk_frozen BO.out 2; have zO3 := blk_frozen BO.out 3; have zO4 := blk_frozen BO.out 4; have zO5 := blk_frozen BO.out 5; (try clear zR0 zR1 zR2 zR3 zR4 zR5); have zR0 := blk_frozen BR.out 0; have zR1 := blk_frozen BR.out 1; have zR2 := blk_frozen BR.out 2; have zR3 := blk_frozen BR.out 3; have zR4 := blk_frozen BR.out 4; have zR5 := blk_frozen BR.out 5) | (go_at_call 18; (with_reducible refine (CD.out _ BL.out).mono ?_); rintro e w1 ⟨rfl, hb⟩; replace BL := Aside0.mk (BL.out.trans (hb.mono BL.out.size)); (try replace BD := Aside0.mk ((hb.block gD (blk_lt BD.out)).trans BD.out)); (try replace BR := Aside0.mk ((hb.block gR (blk_lt BR.out)).trans BR.out)); (try replace BO := Aside0.mk ((hb.block gO (blk_lt BO.out)).trans BO.out)); (try replace Do := Aside0.mk (Do.out.on hb)); clear hb; (try clear iD0 iD1 iD2 iD3 iD4 iD5); obtain ⟨iD0, iD1, iD2, iD3, iD4, iD5⟩ := blk6 BD.out; (try clear iO0 iO1 iO2 iO3 iO4 iO5); obtain ⟨iO0, iO1, iO2, iO3, iO4, iO5⟩ := blk6 BO.out; (try clear iR0 iR1 iR2 iR3 iR4 iR5); obtain ⟨iR0, iR1, iR2, iR3, iR4, iR5⟩ := blk6 BR.out; (try clear zO0 zO1 zO2 zO3 zO4 zO5); have zO0 := blk_frozen BO.out 0; have zO1 := blk_frozen BO.out 1; have zO2 := blk_frozen BO.out 2; have zO3 := blk_frozen BO.out 3; have zO4 := blk_frozen BO.out 4; have zO5 := blk_frozen BO.out 5; (try clear zR0 zR1 zR2 zR3 zR4 zR5); have zR0 := blk_frozen BR.out 0; have zR1 := blk_frozen BR.out 1; have zR2 := blk_frozen BR.out 2; have zR3 := blk_frozen BR.out 3; have zR4 := blk_frozen BR.out 4; have zR5 := blk_frozen BR.out 5) | (go_at_call 71; have hb0 := BL.out; (with_reducible refine (CL.out _ BL.out).mono ?_); rintro e wq ⟨vC, rfl, hC, hb⟩; obtain ⟨AC, cC, rfl⟩ := Kd.R_slice hC; replace BL := Aside0.mk (BL.out.trans (hb.mono BL.out.size)); (try replace BD := Aside0.mk ((hb.block gD (blk_lt BD.out)).trans BD.out)); (try replace BR := Aside0.mk ((hb.block gR (blk_lt BR.out)).trans BR.out)); (try replace BO := Aside0.mk ((hb.block gO (blk_lt BO.out)).trans BO.out)); have DP := Do; replace Do := Aside0.mk (Do.out.on hb); have RC := Aside0.mk hC; have LC := Aside0.mk (hb0.size); clear hC hb hb0; (try clear iD0 iD1 iD2 iD3 iD4 iD5); obtain ⟨iD0, iD1, iD2, iD3, iD4, iD5⟩ := blk6 BD.out; (try clear iO0 iO1 iO2 iO3 iO4 iO5); obtain ⟨iO0, iO1, iO2, iO3, iO4, iO5⟩ := blk6 BO.out; (try clear iR0 iR1 iR2 iR3 iR4 iR5); obtain ⟨iR0, iR1, iR2, iR3, iR4, iR5⟩ := blk6 BR.out; (try clear zO0 zO1 zO2 zO3 zO4 zO5); have zO0 := blk_frozen BO.out 0; have zO1 := blk_frozen BO.out 1; have zO2 := blk_frozen BO.out 2; have zO3 := blk_frozen BO.out 3; have zO4 := blk_frozen BO.out 4; have zO5 := blk_frozen BO.out 5; (try clear zR0 zR1 zR2 zR3 zR4 zR5); have zR0 := blk_frozen BR.out 0; have zR1 := blk_frozen BR.out 1; have zR2 := blk_frozen BR.out 2; have zR3 := blk_frozen BR.out 3; have zR4 := blk_frozen BR.out 4; have zR5 := blk_frozen BR.out 5) | (go_at_call 107; refine set2_calls BO.out (fun W hG hT hs hz => ?_); have DW := sync_has DP.out Do.out LC.out RC.out BO.out hs; have TW := Aside0.mk (hT (Turned.refl _ (fun k => k = gO)) (.inl rfl)); have BLW := TW.out.below BL.out (fun k hk => by rw [hk]; exact GO.out) BL.out.size; refine (cleanD gO w.heap.size A0 A1 AC none c0 c1 cC 0 o1 o2 l0_1 [] o5 o6 W hG DW (HE.out.below BLW) (HP.out.below BLW) (l0_1.map fun x => x.f1) F rfl HF.out).mono ?_; rintro e w2 ⟨rfl, hG2, hD2, hT2⟩; have nbR := DW.nobox (show W.heap[gR]? = _ from (TW.out.block gR (blk_lt BR.out) RO.out).trans BR.out) (by decide) (by decide) (by decide); have BR2 := Aside0.mk ((hT2.block gR (by rw [hz]; exact blk_lt BR.out) (by rintro (h | h); exact RO.out h; exact nbR (.inl h))).trans ((TW.out.block gR (blk_lt BR.out) RO.out).trans BR.out)); have BL2 := Aside0.mk (hT2.below BLW (fun k hk => by rcases hk with rfl | hk; exact GO.out; exact DW.ge k (.inl hk)) BLW.size); clear BR BL BD BO Do DP BLW; have BR := BR2; have BL := BL2; have BO := Aside0.mk hG2; have Do := Aside0.mk hD2; clear BR2 BL2 hG2 hD2 hT2 nbR hG hT hs hz DW TW; clear iD0 iD1 iD2 iD3 iD4 iD5; (try clear iO0 iO1 iO2 iO3 iO4 iO5); obtain ⟨iO0, iO1, iO2, iO3, iO4, iO5⟩ := blk6 BO.out; (try clear iR0 iR1 iR2 iR3 iR4 iR5); obtain ⟨iR0, iR1, iR2, iR3, iR4, iR5⟩ := blk6 BR.out; (try clear zR0 zR1 zR2 zR3 zR4 zR5); have zR0 := blk_frozen BR.out 0; have zR1 := blk_frozen BR.out 1; have zR2 := blk_frozen BR.out 2; have zR3 := blk_frozen BR.out 3; have zR4 := blk_frozen BR.out 4; have zR5 := blk_frozen BR.out 5))
    refine bodyPost_ret (results_cell_row rfl _ _ gR 32 #[.slice A0 o1.length c0, .slice A1 o2.length c1, .slice A2 o3.length c2, .slice A3 o4.length c3, .int .i64 o5, .int .i64 o6] (0, 0) _ rfl (fill6_at BR.out) Tryz.underlying32 rfl (by kernel_rfl)) rfl ?_
    have hT := filled_told (.int .i64 o5) (.int .i64 o6) Do.out BR.out
    exact ⟨_, _, _, _, rfl, hT.1, hT.2.1, hT.2.2.1, hT.2.2.2, fill6_below BL.out GR.out⟩
  | true =>
    rw [if_pos rfl] at h
    split at h
    case isFalse => cases h
    rename_i hl
    have CL := Aside0.mk (fun (w1 : World) (hb : Below w.heap.size w w1) => cloneE A0_1 c0_1 l0_1 w1 (Kd.C_below hr0_1 hb) hl)
    clear ho hbk hr0_0 hc0_0 hr0_1 hc0_1 hr0_2 hc0_2 hr0_3 hc0_3 hTE hTP
    simp only [Option.some.injEq, Prod.mk.injEq] at h
    obtain ⟨rfl, rfl, rfl, rfl, rfl, rfl⟩ := h
    generalize hF : (List.filter (fun x => (List.map (fun z => z.f1) l0_1).contains x.f0) o1) = F
    have HF := Aside0.mk hF
    clear hF
    go_enter Tryz.func44, Tryz.ntmps44
    go_wp2_with (first | ((with_reducible refine gate_dst (N := 1) rfl ?_); refine box_event ?hg (N := 1) ?hd (cs := #[.slice A0_0 l0_0.length c0_0, .slice A0_1 l0_1.length c0_1, .slice A0_2 l0_2.length c0_2, .slice A0_3 l0_3.length c0_3, .int .i64 a0_4, .int .i64 a0_5]) (t := 32) ?hr ?_; (case hd => rfl); (case hg => rfl); (case hr => first | (go_simp; done) | (go_simp; rfl)); intro gD hg w1 hbox hb; have BL := Aside0.mk hb; have BD := Aside0.mk hbox; clear hb; (try clear iD0 iD1 iD2 iD3 iD4 iD5); obtain ⟨iD0, iD1, iD2, iD3, iD4, iD5⟩ := blk6 BD.out; clear hg hbox) | ((with_reducible refine gate_dst (N := 2) rfl ?_); refine box_event ?hg (N := 2) ?hd (cs := #[.slice none 0 0, .slice none 0 0, .slice none 0 0, .slice none 0 0, .int .i64 0, .int .i64 0]) (t := 32) ?hr ?_; (case hd => rfl); (case hg => rfl); (case hr => first | (go_simp; done) | (go_simp; rfl)); intro gR hg w1 hbox hb; have GR := Aside0.mk (show w.heap.size ≤ gR by rw [hg]; exact BL.out.size); replace BL := Aside0.mk (BL.out.trans (hb.mono BL.out.size)); (try replace BD := Aside0.mk ((hb.block gD (blk_lt BD.out)).trans BD.out)); (try replace BR := Aside0.mk ((hb.block gR (blk_lt BR.out)).trans BR.out)); (try replace BO := Aside0.mk ((hb.block gO (blk_lt BO.out)).trans BO.out)); (try replace Do := Aside0.mk (Do.out.on hb)); have BR := Aside0.mk hbox; clear hb; (try clear iD0 iD1 iD2 iD3 iD4 iD5); obtain ⟨iD0, iD1, iD2, iD3, iD4, iD5⟩ := blk6 BD.out; clear hg hbox) | (go_at_call 82; have hbs := BL.out.size; (with_reducible refine (CC.out _ BL.out).mono ?_); rintro e w1 ⟨v0, v1, v2, v3, rfl, p0, p1, p2, p3, hb⟩; have hD := HasD.of p0 p1 p2 p3; replace BL := Aside0.mk (BL.out.trans (hb.mono BL.out.size)); (try replace BD := Aside0.mk ((hb.block gD (blk_lt BD.out)).trans BD.out)); (try replace BR := Aside0.mk ((hb.block gR (blk_lt BR.out)).trans BR.out)); (try replace BO := Aside0.mk ((hb.block gO (blk_lt BO.out)).trans BO.out)); (try replace Do := Aside0.mk (Do.out.on hb)); have Do := Aside0.mk (hD.lower hbs); obtain ⟨A0, c0, rfl⟩ := Kd.R_slice p0; obtain ⟨A1, c1, rfl⟩ := Kd.R_slice p1; obtain ⟨A2, c2, rfl⟩ := Kd.R_slice p2; obtain ⟨A3, c3, rfl⟩ := Kd.R_slice p3; clear hD hb hbs p0 p1 p2 p3; (try clear iD0 iD1 iD2 iD3 iD4 iD5); obtain ⟨iD0, iD1, iD2, iD3, iD4, iD5⟩ := blk6 BD.out) | ((with_reducible refine gate_store (t := 32) (p := 3) rfl ?_); refine store_event (t := 32) (p := 3) (v := ?voO) (w1 := w1.alloc (.cells #[.slice A0 o1.length c0, .slice A1 o2.length c1, .slice A2 o3.length c2, .slice A3 o4.length c3, .int .i64 o5, .int .i64 o6] 32 (0, 0))) ?hg ?ho ?hn ?hr ?_; (case ho => rfl); (case hg => rfl); (case hn => rfl); (case hr => first | (go_simp; done) | (go_simp; rfl)); intro wz hw; have hb : Below w1.heap.size w1 wz := (by rw [hw]; exact below_alloc (Below.refl _ _) _); have hbox := (by rw [hw]; exact blk_new w1 _ : wz.heap[w1.heap.size]? = some (.cells #[.slice A0 o1.length c0, .slice A1 o2.length c1, .slice A2 o3.length c2, .slice A3 o4.length c3, .int .i64 o5, .int .i64 o6] 32 (0, 0))); clear hw; obtain ⟨gO, hg⟩ : ∃ g, g = w1.heap.size := ⟨_, rfl⟩; rw [← hg] at hbox ⊢; have GO := Aside0.mk (show w.heap.size ≤ gO by rw [hg]; exact BL.out.size); have DO := Aside0.mk (show gD ≠ gO by rw [hg]; exact Nat.ne_of_lt (blk_lt BD.out)); have RO := Aside0.mk (show gR ≠ gO by rw [hg]; exact Nat.ne_of_lt (blk_lt BR.out)); clear hg; replace BL := Aside0.mk (BL.out.trans (hb.mono BL.out.size)); (try replace BD := Aside0.mk ((hb.block gD (blk_lt BD.out)).trans BD.out)); (try replace BR := Aside0.mk ((hb.block gR (blk_lt BR.out)).trans BR.out)); (try replace BO := Aside0.mk ((hb.block gO (blk_lt BO.out)).trans BO.out)); (try replace Do := Aside0.mk (Do.out.on hb)); have BO := Aside0.mk hbox; clear hb hbox; (try clear iD0 iD1 iD2 iD3 iD4 iD5); obtain ⟨iD0, iD1, iD2, iD3, iD4, iD5⟩ := blk6 BD.out; (try clear iO0 iO1 iO2 iO3 iO4 iO5); obtain ⟨iO0, iO1, iO2, iO3, iO4, iO5⟩ := blk6 BO.out; (try clear iR0 iR1 iR2 iR3 iR4 iR5); obtain ⟨iR0, iR1, iR2, iR3, iR4, iR5⟩ := blk6 BR.out; (try clear zO0 zO1 zO2 zO3 zO4 zO5); have zO0 := blk_frozen BO.out 0; have zO1 := blk_frozen BO.out 1; have zO2 := blk_frozen BO.out 2; have zO3 := blk_frozen BO.out 3; have zO4 := blk_frozen BO.out 4; have zO5 := blk_frozen BO.out 5; (try clear zR0 zR1 zR2 zR3 zR4 zR5); have zR0 := blk_frozen BR.out 0; have zR1 := blk_frozen BR.out 1; have zR2 := blk_frozen BR.out 2; have zR3 := blk_frozen BR.out 3; have zR4 := blk_frozen BR.out 4; have zR5 := blk_frozen BR.out 5) | (go_at_call 18; (with_reducible refine (CD.out _ BL.out).mono ?_); rintro e w1 ⟨rfl, hb⟩; replace BL := Aside0.mk (BL.out.trans (hb.mono BL.out.size)); (try replace BD := Aside0.mk ((hb.block gD (blk_lt BD.out)).trans BD.out)); (try replace BR := Aside0.mk ((hb.block gR (blk_lt BR.out)).trans BR.out)); (try replace BO := Aside0.mk ((hb.block gO (blk_lt BO.out)).trans BO.out)); (try replace Do := Aside0.mk (Do.out.on hb)); clear hb; (try clear iD0 iD1 iD2 iD3 iD4 iD5); obtain ⟨iD0, iD1, iD2, iD3, iD4, iD5⟩ := blk6 BD.out; (try clear iO0 iO1 iO2 iO3 iO4 iO5); obtain ⟨iO0, iO1, iO2, iO3, iO4, iO5⟩ := blk6 BO.out; (try clear iR0 iR1 iR2 iR3 iR4 iR5); obtain ⟨iR0, iR1, iR2, iR3, iR4, iR5⟩ := blk6 BR.out; (try clear zO0 zO1 zO2 zO3 zO4 zO5); have zO0 := blk_frozen BO.out 0; have zO1 := blk_frozen BO.out 1; have zO2 := blk_frozen BO.out 2; have zO3 := blk_frozen BO.out 3; have zO4 := blk_frozen BO.out 4; have zO5 := blk_frozen BO.out 5; (try clear zR0 zR1 zR2 zR3 zR4 zR5); have zR0 := blk_frozen BR.out 0; have zR1 := blk_frozen BR.out 1; have zR2 := blk_frozen BR.out 2; have zR3 := blk_frozen BR.out 3; have zR4 := blk_frozen BR.out 4; have zR5 := blk_frozen BR.out 5) | (go_at_call 71; have hb0 := BL.out; (with_reducible refine (CL.out _ BL.out).mono ?_); rintro e wq ⟨vC, rfl, hC, hb⟩; obtain ⟨AC, cC, rfl⟩ := Kd.R_slice hC; replace BL := Aside0.mk (BL.out.trans (hb.mono BL.out.size)); (try replace BD := Aside0.mk ((hb.block gD (blk_lt BD.out)).trans BD.out)); (try replace BR := Aside0.mk ((hb.block gR (blk_lt BR.out)).trans BR.out)); (try replace BO := Aside0.mk ((hb.block gO (blk_lt BO.out)).trans BO.out)); have DP := Do; replace Do := Aside0.mk (Do.out.on hb); have RC := Aside0.mk hC; have LC := Aside0.mk (hb0.size); clear hC hb hb0; (try clear iD0 iD1 iD2 iD3 iD4 iD5); obtain ⟨iD0, iD1, iD2, iD3, iD4, iD5⟩ := blk6 BD.out; (try clear iO0 iO1 iO2 iO3 iO4 iO5); obtain ⟨iO0, iO1, iO2, iO3, iO4, iO5⟩ := blk6 BO.out; (try clear iR0 iR1 iR2 iR3 iR4 iR5); obtain ⟨iR0, iR1, iR2, iR3, iR4, iR5⟩ := blk6 BR.out; (try clear zO0 zO1 zO2 zO3 zO4 zO5); have zO0 := blk_frozen BO.out 0; have zO1 := blk_frozen BO.out 1; have zO2 := blk_frozen BO.out 2; have zO3 := blk_frozen BO.out 3; have zO4 := blk_frozen BO.out 4; have zO5 := blk_frozen BO.out 5; (try clear zR0 zR1 zR2 zR3 zR4 zR5); have zR0 := blk_frozen BR.out 0; have zR1 := blk_frozen BR.out 1; have zR2 := blk_frozen BR.out 2; have zR3 := blk_frozen BR.out 3; have zR4 := blk_frozen BR.out 4; have zR5 := blk_frozen BR.out 5) | (go_at_call 107; refine set2_calls BO.out (fun W hG hT hs hz => ?_); have DW := sync_has DP.out Do.out LC.out RC.out BO.out hs; have TW := Aside0.mk (hT (Turned.refl _ (fun k => k = gO)) (.inl rfl)); have BLW := TW.out.below BL.out (fun k hk => by rw [hk]; exact GO.out) BL.out.size; refine (cleanD gO w.heap.size A0 A1 AC none c0 c1 cC 0 o1 o2 l0_1 [] o5 o6 W hG DW (HE.out.below BLW) (HP.out.below BLW) (l0_1.map fun x => x.f1) F rfl HF.out).mono ?_; rintro e w2 ⟨rfl, hG2, hD2, hT2⟩; have nbR := DW.nobox (show W.heap[gR]? = _ from (TW.out.block gR (blk_lt BR.out) RO.out).trans BR.out) (by decide) (by decide) (by decide); have BR2 := Aside0.mk ((hT2.block gR (by rw [hz]; exact blk_lt BR.out) (by rintro (h | h); exact RO.out h; exact nbR (.inl h))).trans ((TW.out.block gR (blk_lt BR.out) RO.out).trans BR.out)); have BL2 := Aside0.mk (hT2.below BLW (fun k hk => by rcases hk with rfl | hk; exact GO.out; exact DW.ge k (.inl hk)) BLW.size); clear BR BL BD BO Do DP BLW; have BR := BR2; have BL := BL2; have BO := Aside0.mk hG2; have Do := Aside0.mk hD2; clear BR2 BL2 hG2 hD2 hT2 nbR hG hT hs hz DW TW; clear iD0 iD1 iD2 iD3 iD4 iD5; (try clear iO0 iO1 iO2 iO3 iO4 iO5); obtain ⟨iO0, iO1, iO2, iO3, iO4, iO5⟩ := blk6 BO.out; (try clear iR0 iR1 iR2 iR3 iR4 iR5); obtain ⟨iR0, iR1, iR2, iR3, iR4, iR5⟩ := blk6 BR.out; (try clear zR0 zR1 zR2 zR3 zR4 zR5); have zR0 := blk_frozen BR.out 0; have zR1 := blk_frozen BR.out 1; have zR2 := blk_frozen BR.out 2; have zR3 := blk_frozen BR.out 3; have zR4 := blk_frozen BR.out 4; have zR5 := blk_frozen BR.out 5))
    refine bodyPost_ret (results_cell_row rfl _ _ gR 32 #[.slice A0 F.length c0, .slice A1 o2.length c1, .slice AC l0_1.length cC, .slice none 0 0, .int .i64 o5, .int .i64 o6] (0, 0) _ rfl (fill6_at BR.out) Tryz.underlying32 rfl (by kernel_rfl)) rfl ?_
    have hT := filled_told (.int .i64 o5) (.int .i64 o6) Do.out BR.out
    exact ⟨_, _, _, _, rfl, hT.1, hT.2.1, hT.2.2.1, hT.2.2.2, fill6_below BL.out GR.out⟩

end Go.Proofs.YtbcidclclckgfaaGreatDoor.MFnExactSyncNames
