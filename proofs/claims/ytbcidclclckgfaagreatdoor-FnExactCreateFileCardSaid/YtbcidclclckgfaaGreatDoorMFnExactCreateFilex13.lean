/- Each theorem here says that a call of one Go function answers what the Lean function beside it answers; its conditions stand in it. Written by a program of this session. -/
import Derived.Test.YtbcidclclckgfaaGreatDoorMFnExactCreateFilex0
import Derived.Test.YtbcidclclckgfaaGreatDoorMFnExactCreateFilex7
import Derived.Test.YtbcidclclckgfaaGreatDoorMFnExactCreateFilex8
import Derived.Test.YtbcidclclckgfaaGreatDoorMFnExactCreateFilex11
import Derived.Test.YtbcidclclckgfaaGreatDoorMFnExactCreateFilex12
namespace Go.Proofs.YtbcidclclckgfaaGreatDoor.MFnExactCreateFile
open Go.RowKit Go.Proofs.YtbcidclclckgfaaGreatDoorW.PrintWords Go.Proofs.YtbcidclclckgfaaGreatDoorW.PrintLast Go.Proofs.YtbcidclclckgfaaGreatDoorW.PrintMore
attribute [local go_sem] max2_int min2_int max_two min_two max_three min_three max_four min_four   -- for this text's walks alone
set_option linter.unusedVariables false
set_option linter.unusedSimpArgs false

/-! ### spec_CreateFile: function 37 -/
/-! ### Disks in memory that a law holds -/
theorem blk6 {w : World} {g : Nat} {t : TypeId} {a b c d e f : Value} (h : w.heap[g]? = some (.cells #[a, b, c, d, e, f] t (0, 0))) :
    w.cell? ⟨g, 0, none⟩ = some a ∧ w.cell? ⟨g, 1, none⟩ = some b ∧ w.cell? ⟨g, 2, none⟩ = some c ∧ w.cell? ⟨g, 3, none⟩ = some d ∧ w.cell? ⟨g, 4, none⟩ = some e ∧ w.cell? ⟨g, 5, none⟩ = some f :=
  ⟨(blk_cell h 0).trans rfl, (blk_cell h 1).trans rfl, (blk_cell h 2).trans rfl, (blk_cell h 3).trans rfl, (blk_cell h 4).trans rfl, (blk_cell h 5).trans rfl⟩
def ownD (v0 v1 v2 v3 : Value) (k : Nat) : Prop := some k = v0.ownBlock ∨ some k = v1.ownBlock ∨ some k = v2.ownBlock ∨ some k = v3.ownBlock
structure HasD (W : World) (base : Nat) (v0 v1 v2 v3 : Value) (a : List S57) (b c : List S59) (d : List ByteArray) : Prop where
  r0 : Kd.R k57 57 W base (fun k => some k = v0.ownBlock) v0 a
  r1 : Kd.R k59 59 W base (fun k => some k = v1.ownBlock) v1 b
  r2 : Kd.R k59 59 W base (fun k => some k = v2.ownBlock) v2 c
  r3 : Kd.R Kd.string 9 W base (fun k => some k = v3.ownBlock) v3 d
  ne : ∀ k, some k = v1.ownBlock → ¬ some k = v2.ownBlock
theorem HasD.of {W : World} {base : Nat} {v0 v1 v2 v3 : Value} {a : List S57} {b c : List S59} {d : List ByteArray} {p0 p2 p3 : Nat → Prop}
    (h0 : Kd.R k57 57 W base p0 v0 a) (h1 : Kd.R k59 59 W base (fun k_ => some k_ ≠ v2.ownBlock) v1 b) (h2 : Kd.R k59 59 W base p2 v2 c) (h3 : Kd.R Kd.string 9 W base p3 v3 d) : HasD W base v0 v1 v2 v3 a b c d :=
  ⟨Kd.R_tight rfl h0, Kd.R_tight rfl h1, Kd.R_tight rfl h2, Kd.R_tight rfl h3, fun k hk => h1.1 k hk.symm⟩
section
variable {W W' : World} {base : Nat} {v0 v1 v2 v3 : Value} {a : List S57} {b c : List S59} {d : List ByteArray}
theorem HasD.step (h : HasD W base v0 v1 v2 v3 a b c d) (hm : ∀ k, ownD v0 v1 v2 v3 k → k < W.heap.size → W'.heap[k]? = W.heap[k]?) : HasD W' base v0 v1 v2 v3 a b c d :=
  ⟨Kd.R_step h.r0 fun k hk hl => hm k (.inl hk) hl, Kd.R_step h.r1 fun k hk hl => hm k (.inr (.inl hk)) hl, Kd.R_step h.r2 fun k hk hl => hm k (.inr (.inr (.inl hk))) hl, Kd.R_step h.r3 fun k hk hl => hm k (.inr (.inr (.inr hk))) hl, h.ne⟩
theorem HasD.on (h : HasD W base v0 v1 v2 v3 a b c d) (hb : Below W.heap.size W W') : HasD W' base v0 v1 v2 v3 a b c d := h.step fun k _ hl => hb.block k hl
theorem HasD.kept (h : HasD W base v0 v1 v2 v3 a b c d) {S : Nat → Prop} (hk : Kept W W' S) (hne : ∀ k, ownD v0 v1 v2 v3 k → ¬ S k) : HasD W' base v0 v1 v2 v3 a b c d := h.step fun k ho hl => hk.2 k hl (hne k ho)
theorem HasD.lt (h : HasD W base v0 v1 v2 v3 a b c d) : ∀ k, ownD v0 v1 v2 v3 k → k < W.heap.size := fun k hk => by
  rcases hk with hk | hk | hk | hk
  · exact Kd.R_lt h.r0 k hk.symm
  · exact Kd.R_lt h.r1 k hk.symm
  · exact Kd.R_lt h.r2 k hk.symm
  · exact Kd.R_lt h.r3 k hk.symm
theorem HasD.ge (h : HasD W base v0 v1 v2 v3 a b c d) : ∀ k, ownD v0 v1 v2 v3 k → base ≤ k := fun k hk => by
  rcases hk with hk | hk | hk | hk
  · exact Kd.R_base h.r0 k hk.symm
  · exact Kd.R_base h.r1 k hk.symm
  · exact Kd.R_base h.r2 k hk.symm
  · exact Kd.R_base h.r3 k hk.symm
theorem HasD.lower (h : HasD W base v0 v1 v2 v3 a b c d) {base' : Nat} (hb : base' ≤ base) : HasD W base' v0 v1 v2 v3 a b c d := ⟨Kd.R_lower h.r0 hb, Kd.R_lower h.r1 hb, Kd.R_lower h.r2 hb, Kd.R_lower h.r3 hb, h.ne⟩
end
theorem HasD.nobox {W : World} {base : Nat} {v0 v1 v2 v3 : Value} {a : List S57} {b c : List S59} {d : List ByteArray} (h : HasD W base v0 v1 v2 v3 a b c d) {g t : Nat} {cs : Array Value} (hb : W.heap[g]? = some (.cells cs t (0, 0))) (hN : 57 ≠ t) (hE : 59 ≠ t) (hS : 9 ≠ t) : ¬ ownD v0 v1 v2 v3 g := fun hk => by
  rcases hk with hk | hk | hk | hk
  · exact Kd.R_ne h.r0 hb hN hk
  · exact Kd.R_ne h.r1 hb hE hk
  · exact Kd.R_ne h.r2 hb hE hk
  · exact Kd.R_ne h.r3 hb hS hk
/-! ### A disk's six cells laid one by one -/
section
variable {w : World} {g : Nat} {t : TypeId} {x0 x1 x2 x3 x4 x5 a b c d e f : Value}
theorem fill6_at (h : w.heap[g]? = some (.cells #[x0, x1, x2, x3, x4, x5] t (0, 0))) : ((((((w.setCell ⟨g, 0, none⟩ a).setCell ⟨g, 1, none⟩ b).setCell ⟨g, 2, none⟩ c).setCell ⟨g, 3, none⟩ d).setCell ⟨g, 4, none⟩ e).setCell ⟨g, 5, none⟩ f).heap[g]? = some (.cells #[a, b, c, d, e, f] t (0, 0)) :=
  blk_put (cs := #[a, b, c, d, e, x5]) (blk_put (cs := #[a, b, c, d, x4, x5]) (blk_put (cs := #[a, b, c, x3, x4, x5]) (blk_put (cs := #[a, b, x2, x3, x4, x5]) (blk_put (cs := #[a, x1, x2, x3, x4, x5]) (blk_put (cs := #[x0, x1, x2, x3, x4, x5]) h 0 _ rfl) 1 _ rfl) 2 _ rfl) 3 _ rfl) 4 _ rfl) 5 _ rfl
theorem fill6_far {j : Nat} (hj : j ≠ g) : ((((((w.setCell ⟨g, 0, none⟩ a).setCell ⟨g, 1, none⟩ b).setCell ⟨g, 2, none⟩ c).setCell ⟨g, 3, none⟩ d).setCell ⟨g, 4, none⟩ e).setCell ⟨g, 5, none⟩ f).heap[j]? = w.heap[j]? := by
  rw [Below.heap_setCell _ ⟨g, 5, none⟩ _ j hj, Below.heap_setCell _ ⟨g, 4, none⟩ _ j hj, Below.heap_setCell _ ⟨g, 3, none⟩ _ j hj, Below.heap_setCell _ ⟨g, 2, none⟩ _ j hj, Below.heap_setCell _ ⟨g, 1, none⟩ _ j hj, Below.heap_setCell _ ⟨g, 0, none⟩ _ j hj]
theorem fill6_below {w0 : World} (hb : Below w0.heap.size w0 w) (hg : w0.heap.size ≤ g) : Below w0.heap.size w0 ((((((w.setCell ⟨g, 0, none⟩ a).setCell ⟨g, 1, none⟩ b).setCell ⟨g, 2, none⟩ c).setCell ⟨g, 3, none⟩ d).setCell ⟨g, 4, none⟩ e).setCell ⟨g, 5, none⟩ f) :=
  below_set (below_set (below_set (below_set (below_set (below_set hb hg) hg) hg) hg) hg) hg
/-- A call behind such a laying: its world a letter. -/
theorem fill6_calls {P : Program} {F : FuncId} {args : Array Value} {Q : Ending → World → Prop} (h : w.heap[g]? = some (.cells #[x0, x1, x2, x3, x4, x5] t (0, 0)))
    (k : ∀ W, W.heap[g]? = some (.cells #[a, b, c, d, e, f] t (0, 0)) → (∀ {w0 : World}, Below w0.heap.size w0 w → w0.heap.size ≤ g → Below w0.heap.size w0 W) → (∀ j, j ≠ g → W.heap[j]? = w.heap[j]?) → Calls P F args W Q) : Calls P F args ((((((w.setCell ⟨g, 0, none⟩ a).setCell ⟨g, 1, none⟩ b).setCell ⟨g, 2, none⟩ c).setCell ⟨g, 3, none⟩ d).setCell ⟨g, 4, none⟩ e).setCell ⟨g, 5, none⟩ f) Q :=
  k _ (fill6_at h) (fun hb hg => fill6_below hb hg) (fun j hj => fill6_far hj)
end
def cellsN : List S57 → List Value
  | [] => []
  | x :: l => .int .i64 x.f0 :: .string x.f1 :: .int .i64 x.f2 :: cellsN l
theorem cellsN_length : ∀ l, (cellsN l).length = l.length * 3
  | [] => rfl
  | x :: l => by rw [cellsN, List.length_cons, List.length_cons, List.length_cons, cellsN_length l, List.length_cons]; omega
theorem cellsN_at : ∀ (l : List S57) (j : Nat) (x : S57), l[j]? = some x → ((cellsN l).drop (j * 3)).take 3 = [.int .i64 x.f0, .string x.f1, .int .i64 x.f2]
  | [], _, _, h => by cases h
  | y :: l, 0, x, h => by
    obtain rfl : y = x := Option.some.inj h
    rfl
  | y :: l, j + 1, x, h => by
    rw [cellsN, show (j + 1) * 3 = j * 3 + 1 + 1 + 1 by omega, List.drop_succ_cons, List.drop_succ_cons, List.drop_succ_cons]
    exact cellsN_at l j x h
theorem ownN {w : World} {base : Nat} {ok : Nat → Prop} {v : Value} {l : List S57} (h : Kd.R k57 57 w base ok v l) : w.ownsRow base 57 3 v l.length (cellsN l) := by
  obtain ⟨_, inner, ho, hl, hr⟩ := h
  have : inner = cellsN l := by
    have key : ∀ (l : List S57) (inner : List Value), inner.length = l.length * 3 → (∀ j p, l[j]? = some p → (inner.drop (j * 3)).take 3 = [.int .i64 p.f0, .string p.f1, .int .i64 p.f2]) → inner = cellsN l := by
      intro l
      induction l with
      | nil => intro inner h _; exact List.eq_nil_of_length_eq_zero (by simpa using h)
      | cons x l ih =>
        intro inner h hp
        match inner, h with
        | [], h => simp at h
        | [_], h => simp at h; omega
        | [_, _], h => simp at h; omega
        | a :: b :: c :: r, h =>
          have h0 := hp 0 x rfl
          rw [Nat.zero_mul, List.drop_zero, List.take_succ_cons, List.take_succ_cons, List.take_succ_cons, List.take_zero] at h0
          obtain ⟨rfl, h1⟩ := List.cons.inj h0
          obtain ⟨rfl, h2⟩ := List.cons.inj h1
          obtain ⟨rfl, _⟩ := List.cons.inj h2
          rw [cellsN, ih r (by simp only [List.length_cons] at h; omega) (fun j p hj => by
            have := hp (j + 1) p hj
            rwa [show (j + 1) * 3 = j * 3 + 1 + 1 + 1 by omega, List.drop_succ_cons, List.drop_succ_cons, List.drop_succ_cons] at this)]
    exact key l inner hl (fun j p hj => k57_openM (hr j p hj))
  rw [this] at ho
  exact ho
theorem R_ofN {w : World} {base : Nat} {v : Value} {l : List S57} (h : w.ownsRow base 57 3 v l.length (cellsN l)) : Kd.R k57 57 w base (fun _ => True) v l :=
  ⟨fun _ _ => trivial, cellsN l, h, cellsN_length l, fun j p hj => by
    show k57.M w base _ p (((cellsN l).drop (j * 3)).take 3)
    rw [cellsN_at l j p hj]; exact k57_mkM _ _ _ p⟩
theorem HasD.told {W : World} {base : Nat} {v0 v1 v2 v3 : Value} {a : List S57} {b c : List S59} {d : List ByteArray} (h : HasD W base v0 v1 v2 v3 a b c d) :
    Kd.R k57 57 W base (fun _ => True) v0 a ∧ Kd.R k59 59 W base (fun k_ => some k_ ≠ v2.ownBlock) v1 b ∧ Kd.R k59 59 W base (fun k_ => some k_ ≠ v1.ownBlock) v2 c ∧ Kd.R Kd.string 9 W base (fun _ => True) v3 d :=
  ⟨Kd.R_mono h.r0 fun _ _ => trivial, Kd.R_mono h.r1 fun k hk => h.ne k hk, Kd.R_mono h.r2 fun k hk hj => h.ne k hj hk, Kd.R_mono h.r3 fun _ _ => trivial⟩
theorem HasD.fill {w : World} {g : Nat} {base : Nat} {v0 v1 v2 v3 : Value} {a : List S57} {b c : List S59} {d : List ByteArray} {cs : Array Value} {W : World} (h : HasD w base v0 v1 v2 v3 a b c d) (hb : w.heap[g]? = some (.cells cs 32 (0, 0))) (hf : ∀ j, j ≠ g → W.heap[j]? = w.heap[j]?) : HasD W base v0 v1 v2 v3 a b c d :=
  h.step fun k hk _ => hf k fun e => h.nobox hb (by decide) (by decide) (by decide) (e ▸ hk)
/-- The nodes' row as a block, and a node's cells. -/
theorem HasD.row {W : World} {base : Nat} {A : Option Addr} {m c0 : Nat} {v1 v2 v3 : Value} {a : List S57} {b c : List S59} {d : List ByteArray} (h : HasD W base (.slice A m c0) v1 v2 v3 a b c d) (i : Nat) (hi : i < a.length) :
    ∃ g cur, A = some ⟨g, 0, none⟩ ∧ m = a.length ∧ base ≤ g ∧ W.heap[g]? = some (.cells cur 57 (0, 0)) ∧ W.cell? ⟨g, i * 3, none⟩ = some (.int .i64 (a[i]).f0) ∧ W.cell? ⟨g, i * 3 + 1, none⟩ = some (.string (a[i]).f1) ∧ W.cell? ⟨g, i * 3 + 2, none⟩ = some (.int .i64 (a[i]).f2) ∧ (∀ j, W.frozen? ⟨g, j, none⟩ = false) ∧
      (∀ (j : Nat) (u : Value) (a' : List S57), j < a.length * 3 → a'.length = a.length → (cellsN a).set j u = cellsN a' → HasD (W.setCell ⟨g, j, none⟩ u) base (.slice A m c0) v1 v2 v3 a' b c d) := by
  obtain ⟨_, ⟨_, hl0⟩ | ⟨g, cp, cur, hv, hbg, hg, hlc, hm, hsz, htk⟩⟩ := ownN h.r0
  · omega
  injection hv with h1 h2 h3
  subst h1 h2 h3
  have hat : ∀ j v, (cellsN a)[j]? = some v → W.cell? ⟨g, j, none⟩ = some v := fun j v hj => by
    rw [← htk, List.getElem?_take] at hj
    split at hj
    · rw [cell_of_row W g j cur _ _ hg]
      rw [Array.getElem?_toList] at hj
      exact hj
    · cases hj
  have hc := cellsN_at a i a[i] (List.getElem?_eq_getElem hi)
  have hget : ∀ q, q < 3 → (cellsN a)[i * 3 + q]? = ([.int .i64 (a[i]).f0, .string (a[i]).f1, .int .i64 (a[i]).f2] : List Value)[q]? := fun q hq => by
    rw [← hc, List.getElem?_take, if_pos hq, List.getElem?_drop]
  refine ⟨g, cur, rfl, rfl, hbg, hg, hat _ _ (hget 0 (by omega)), hat _ _ (hget 1 (by omega)), hat _ _ (hget 2 (by omega)), fun j => by simp [World.frozen?, hg], fun j u a' hj hla hcs => ?_⟩
  have hls : (cellsN a).length = a.length * 3 := cellsN_length a
  have hne1 : ∀ k, some k = v1.ownBlock → k ≠ g := fun k hk e => Kd.R_ne h.r1 hg (by decide) (by rw [← e]; exact hk)
  have hne2 : ∀ k, some k = v2.ownBlock → k ≠ g := fun k hk e => Kd.R_ne h.r2 hg (by decide) (by rw [← e]; exact hk)
  have hne3 : ∀ k, some k = v3.ownBlock → k ≠ g := fun k hk e => Kd.R_ne h.r3 hg (by decide) (by rw [← e]; exact hk)
  refine ⟨?_, Kd.R_step h.r1 fun k hk _ => Below.heap_setCell W ⟨g, j, none⟩ u k (hne1 k hk), Kd.R_step h.r2 fun k hk _ => Below.heap_setCell W ⟨g, j, none⟩ u k (hne2 k hk), Kd.R_step h.r3 fun k hk _ => Below.heap_setCell W ⟨g, j, none⟩ u k (hne3 k hk), h.ne⟩
  rw [setCell_eq_setRow W g j cur _ (0, 0) _ hg, ← hla]
  refine Kd.R_tight rfl (R_ofN ⟨cellsN_length _, .inr ⟨g, c0, _, rfl, hbg, setRow_heap W g cur _ _ _ hg, by rw [hla]; exact hlc, hm, by rw [Array.size_setIfInBounds]; exact hsz, ?_⟩⟩)
  rw [hla, Array.toList_setIfInBounds, List.take_set, htk, hcs]
/-! ### What a call may turn -/
structure Turned (w w' : World) (S : Nat → Prop) : Prop where
  os : w'.os = w.os
  tape : w'.tape = w.tape
  output : w'.output = w.output
  size : w.heap.size ≤ w'.heap.size
  block : ∀ k, k < w.heap.size → ¬ S k → w'.heap[k]? = w.heap[k]?
theorem Turned.refl (w : World) (S : Nat → Prop) : Turned w w S := ⟨rfl, rfl, rfl, Nat.le_refl _, fun _ _ _ => rfl⟩
theorem Turned.of {w w' : World} (h : Below w.heap.size w w') (S : Nat → Prop) : Turned w w' S := ⟨h.os, h.tape, h.output, h.size, fun k hk _ => h.block k hk⟩
theorem Turned.trans {a b c : World} {S : Nat → Prop} (h : Turned a b S) (k : Turned b c S) : Turned a c S :=
  ⟨k.os.trans h.os, k.tape.trans h.tape, k.output.trans h.output, Nat.le_trans h.size k.size, fun i hi hs => (k.block i (Nat.lt_of_lt_of_le hi h.size) hs).trans (h.block i hi hs)⟩
theorem Turned.mono {a b : World} {S S' : Nat → Prop} (h : Turned a b S) (hs : ∀ k, k < a.heap.size → S k → S' k) : Turned a b S' :=
  ⟨h.os, h.tape, h.output, h.size, fun i hi hn => h.block i hi fun hS => hn (hs i hi hS)⟩
/-- Two turnings, the second of which may turn what the first one has made. -/
theorem Turned.then {a b c : World} {S S' : Nat → Prop} (h : Turned a b S) (k : Turned b c S') (hs : ∀ i, S' i → S i ∨ a.heap.size ≤ i) : Turned a c S :=
  ⟨k.os.trans h.os, k.tape.trans h.tape, k.output.trans h.output, Nat.le_trans h.size k.size, fun i hi hn => (k.block i (Nat.lt_of_lt_of_le hi h.size) fun h' => (hs i h').elim hn (by omega)).trans (h.block i hi hn)⟩
theorem Turned.set {a b : World} {S : Nat → Prop} (h : Turned a b S) {p : Addr} (hp : S p.block ∨ a.heap.size ≤ p.block) (u : Value) : Turned a (b.setCell p u) S :=
  have hb := (Below.refl p.block b).setCell (Nat.le_refl _) (p := p) u
  ⟨hb.os.trans h.os, hb.tape.trans h.tape, hb.output.trans h.output, Nat.le_trans h.size hb.size, fun i hi hn => (Below.heap_setCell b p u i (fun e => hp.elim (fun hs => hn (e ▸ hs)) (fun hs => by omega))).trans (h.block i hi hn)⟩
theorem Turned.row {a b : World} {S : Nat → Prop} (h : Turned a b S) {g : Nat} (hg : S g ∨ a.heap.size ≤ g) (cs : Array Value) : Turned a (b.setRow g cs) S :=
  ⟨h.os, h.tape, h.output, Nat.le_trans h.size (by simp [World.setRow]), fun i hi hn => by
    have hi2 : i ≠ g := fun e => hg.elim (fun hs => hn (e ▸ hs)) (fun hs => by omega)
    rw [setRow_other b g i cs hi2]
    exact h.block i hi hn⟩
theorem Turned.below {w w' w0 : World} {S : Nat → Prop} {b : Nat} (h : Turned w w' S) (hb : Below b w0 w) (hs : ∀ k, S k → b ≤ k) (hw : b ≤ w.heap.size) : Below b w0 w' :=
  ⟨h.os.trans hb.os, h.tape.trans hb.tape, h.output.trans hb.output, Nat.le_trans hb.size h.size, fun k hk => (h.block k (by omega) fun hS => by have := hs k hS; omega).trans (hb.block k hk)⟩
section
variable {w w1 W : World} {base : Nat} {v0 v1 v2 v3 v0' v1' v2' v3' : Value} {a a' : List S57} {b c b' c' : List S59} {d d' : List ByteArray} {p : Nat → Prop}
theorem has_r3 (h : HasD w base v0 v1 v2 v3 a b c d) (hT : Turned w w1 (fun k => some k = v3.ownBlock)) (hR : Kd.R Kd.string 9 w1 base p v3' d') : HasD w1 base v0 v1 v2 v3' a b c d' := by
  have ty := Kd.R_typed h.r3
  refine ⟨Kd.R_step h.r0 fun k hk hl => hT.block k hl fun e => ?_, Kd.R_step h.r1 fun k hk hl => hT.block k hl fun e => ?_, Kd.R_step h.r2 fun k hk hl => hT.block k hl fun e => ?_, Kd.R_tight rfl hR, h.ne⟩
  · obtain ⟨z, hz⟩ := ty k e.symm
    exact Kd.R_ne h.r0 hz (by decide) hk
  · obtain ⟨z, hz⟩ := ty k e.symm
    exact Kd.R_ne h.r1 hz (by decide) hk
  · obtain ⟨z, hz⟩ := ty k e.symm
    exact Kd.R_ne h.r2 hz (by decide) hk
theorem has_r0 (h : HasD w base v0 v1 v2 v3 a b c d) (hT : Turned w w1 (fun k => some k = v0.ownBlock)) (hR : Kd.R k57 57 w1 base p v0' a') : HasD w1 base v0' v1 v2 v3 a' b c d := by
  have ty := Kd.R_typed h.r0
  refine ⟨Kd.R_tight rfl hR, Kd.R_step h.r1 fun k hk hl => hT.block k hl fun e => ?_, Kd.R_step h.r2 fun k hk hl => hT.block k hl fun e => ?_, Kd.R_step h.r3 fun k hk hl => hT.block k hl fun e => ?_, h.ne⟩
  · obtain ⟨z, hz⟩ := ty k e.symm
    exact Kd.R_ne h.r1 hz (by decide) hk
  · obtain ⟨z, hz⟩ := ty k e.symm
    exact Kd.R_ne h.r2 hz (by decide) hk
  · obtain ⟨z, hz⟩ := ty k e.symm
    exact Kd.R_ne h.r3 hz (by decide) hk
theorem has_r1 (h : HasD w base v0 v1 v2 v3 a b c d) (hb : Below w.heap.size w w1) (hw : base ≤ w.heap.size) (hR : Kd.R k59 59 w1 w.heap.size p v1' b') : HasD w1 base v0 v1' v2 v3 a b' c d := by
  have h2 := h.on hb
  refine ⟨h2.r0, Kd.R_tight rfl (Kd.R_lower hR hw), h2.r2, h2.r3, fun k hk hk2 => ?_⟩
  have := Kd.R_base hR k hk.symm
  have := Kd.R_lt h.r2 k hk2.symm
  omega
theorem has_slices (h : HasD w base v0 v1 v2 v3 a b c d) : ∃ A0 c0 A1 c1 A2 c2 A3 c3, v0 = .slice A0 a.length c0 ∧ v1 = .slice A1 b.length c1 ∧ v2 = .slice A2 c.length c2 ∧ v3 = .slice A3 d.length c3 := by
  obtain ⟨A0, c0, h0⟩ := Kd.R_slice h.r0
  obtain ⟨A1, c1, h1⟩ := Kd.R_slice h.r1
  obtain ⟨A2, c2, h2⟩ := Kd.R_slice h.r2
  obtain ⟨A3, c3, h3⟩ := Kd.R_slice h.r3
  exact ⟨A0, c0, A1, c1, A2, c2, A3, c3, h0, h1, h2, h3⟩
end
theorem cleanS_calls (k : Nat) {A0 : Option Addr} {c0 : Nat} {v1 v2 v3 : Value} {a : List S57} {b c : List S59} {d : List ByteArray} {e f : Int} {z1 : List S57} {z2 z3 : List S59} {z4 : List ByteArray} {z5 z6 : Int} (w0 w : World) (hB : Below w0.heap.size w0 w) (h : HasD w w0.heap.size (.slice A0 a.length c0) v1 v2 v3 a b c d)
    (hz : spec_l06Clean.f k a b c d e f = some (z1, z2, z3, z4, z5, z6)) : Calls Tryz.prog 97 #[.agg #[.slice A0 a.length c0, v1, v2, v3, .int .i64 e, .int .i64 f]] w fun e_ w' => ∃ u0 u1 u2 u3 : Value, e_ = .returned (.agg #[u0, u1, u2, u3, .int .i64 z5, .int .i64 z6]) ∧ HasD w' w0.heap.size u0 u1 u2 u3 z1 z2 z3 z4 ∧ Below w0.heap.size w0 w' ∧ Kept w w' (ownD (.slice A0 a.length c0) v1 v2 v3) := by
  have ty := Kd.R_typed h.r0
  refine (spec_l06Clean.calls k A0 c0 a (fun k => some k = v1.ownBlock) v1 b (fun k => some k = v2.ownBlock) v2 c (fun k => some k = v3.ownBlock) v3 d e f z1 z2 z3 z4 z5 z6 w0 w hB (Kd.C_kept_own h.r0 fun k hk hs => ?_) (Kd.R_reads' h.r0).2.1 h.r1 h.ne h.r2 (fun k h2 h1 => h.ne k h1 h2) h.r3 hz).mono ?_
  · obtain ⟨z, hzz⟩ := ty k hk.symm
    rcases hs with hs | hs | hs
    · exact Kd.R_ne h.r1 hzz (by decide) hs
    · exact Kd.R_ne h.r2 hzz (by decide) hs
    · exact Kd.R_ne h.r3 hzz (by decide) hs
  · rintro e_ w' ⟨u0, u1, u2, u3, rfl, p0, p1, p2, p3, hb, hk⟩
    exact ⟨u0, u1, u2, u3, rfl, HasD.of p0 (Kd.R_mono p1 fun _ hh => hh.2) p2 p3, hb, ⟨hk.1, fun i hi hn => hk.2 i hi fun hs => hn (.inr hs)⟩⟩
theorem set1_calls {w : World} {g i : Nat} {cs : Array Value} {t : TypeId} {u : Value} {P : Program} {F : FuncId} {args : Array Value} {Q : Ending → World → Prop} (h : w.heap[g]? = some (.cells cs t (0, 0)))
    (k : ∀ W, W.heap[g]? = some (.cells (cs.setIfInBounds i u) t (0, 0)) → (∀ {w0 : World} {S : Nat → Prop}, Turned w0 w S → (S g ∨ w0.heap.size ≤ g) → Turned w0 W S) → (∀ j, j ≠ g → W.heap[j]? = w.heap[j]?) → W.heap.size = w.heap.size → Calls P F args W Q) : Calls P F args (w.setCell ⟨g, i, none⟩ u) Q :=
  k _ (blk_set h i u) (fun hT hg => hT.set (p := ⟨g, i, none⟩) hg u) (fun j hj => Below.heap_setCell w ⟨g, i, none⟩ u j hj) (by simp)
theorem filled_told {w1 : World} {g base : Nat} {v0 v1 v2 v3 : Value} (x4 x5 : Value) {a : List S57} {b c : List S59} {d : List ByteArray} {cs : Array Value} (h : HasD w1 base v0 v1 v2 v3 a b c d) (hb : w1.heap[g]? = some (.cells cs 32 (0, 0))) :
    Kd.R k57 57 ((((((w1.setCell ⟨g, 0, none⟩ v0).setCell ⟨g, 1, none⟩ v1).setCell ⟨g, 2, none⟩ v2).setCell ⟨g, 3, none⟩ v3).setCell ⟨g, 4, none⟩ x4).setCell ⟨g, 5, none⟩ x5) base (fun _ => True) v0 a ∧ Kd.R k59 59 ((((((w1.setCell ⟨g, 0, none⟩ v0).setCell ⟨g, 1, none⟩ v1).setCell ⟨g, 2, none⟩ v2).setCell ⟨g, 3, none⟩ v3).setCell ⟨g, 4, none⟩ x4).setCell ⟨g, 5, none⟩ x5) base (fun k_ => some k_ ≠ v2.ownBlock) v1 b ∧ Kd.R k59 59 ((((((w1.setCell ⟨g, 0, none⟩ v0).setCell ⟨g, 1, none⟩ v1).setCell ⟨g, 2, none⟩ v2).setCell ⟨g, 3, none⟩ v3).setCell ⟨g, 4, none⟩ x4).setCell ⟨g, 5, none⟩ x5) base (fun k_ => some k_ ≠ v1.ownBlock) v2 c ∧ Kd.R Kd.string 9 ((((((w1.setCell ⟨g, 0, none⟩ v0).setCell ⟨g, 1, none⟩ v1).setCell ⟨g, 2, none⟩ v2).setCell ⟨g, 3, none⟩ v3).setCell ⟨g, 4, none⟩ x4).setCell ⟨g, 5, none⟩ x5) base (fun _ => True) v3 d :=
  HasD.told (HasD.fill h hb (fun j hj => fill6_far hj))
def spec_CreateFile.f (k : Nat) (l0_0 : List S57) (l0_1 : List S59) (l0_2 : List S59) (l0_3 : List ByteArray) (a0_4 : Int) (a0_5 : Int) (a1 : ByteArray) : Option (List (S57) × List (S59) × List (S59) × List ByteArray × Int × Int × Int) := (spec_l05Copy.f l0_0 l0_1 l0_2 l0_3 a0_4 a0_5).bind fun o => (spec_DiskOk.f k o.1 o.2.1 o.2.2.1 o.2.2.2.1 o.2.2.2.2.1 o.2.2.2.2.2).bind fun b => if b = true then (spec_NameOk.f k a1).bind fun n => if n = true then (spec_l06Has.f k o.2.1 a1).bind fun hh => if hh = true then some (o.1, o.2.1, o.2.2.1, o.2.2.2.1, o.2.2.2.2.1, o.2.2.2.2.2, 2) else if 16 ≤ o.2.1.length then some (o.1, o.2.1, o.2.2.1, o.2.2.2.1, o.2.2.2.2.1, o.2.2.2.2.2, 4) else if 64 ≤ o.1.length then some (o.1, o.2.1, o.2.2.1, o.2.2.2.1, o.2.2.2.2.1, o.2.2.2.2.2, 4) else if 1000000000 ≤ o.2.2.2.2.2 then some (o.1, o.2.1, o.2.2.1, o.2.2.2.1, o.2.2.2.2.1, o.2.2.2.2.2, 4) else (spec_l06Put.f k o.2.1 a1 o.2.2.2.2.2).bind fun u => (spec_Decimal.f k o.2.2.2.2.2).bind fun t => if (a1.size ≤ 70368744177664 ∧ t.size ≤ 70368744177664) ∧ (o.2.2.2.1.length + 1) * 16 ≤ 140737488355328 ∧ (o.1.length + 1) * 32 ≤ 140737488355328 then (spec_l06Clean.f k (o.1 ++ [⟨o.2.2.2.2.2, ⟨#[]⟩, 0⟩]) u o.2.2.1 (o.2.2.2.1 ++ [(((⟨#[43]⟩ : ByteArray) ++ a1 ++ ⟨#[58]⟩) ++ t)]) o.2.2.2.2.1 (wrap64 (o.2.2.2.2.2 + 1))).bind fun z => some (z.1, z.2.1, z.2.2.1, z.2.2.2.1, z.2.2.2.2.1, z.2.2.2.2.2, 0) else none else some (o.1, o.2.1, o.2.2.1, o.2.2.2.1, o.2.2.2.2.1, o.2.2.2.2.2, 1) else some (o.1, o.2.1, o.2.2.1, o.2.2.2.1, o.2.2.2.2.1, o.2.2.2.2.2, 3)
theorem spec_CreateFile.mono : ∀ l0_0 l0_1 l0_2 l0_3 a0_4 a0_5 a1 k, LeO (spec_CreateFile.f k l0_0 l0_1 l0_2 l0_3 a0_4 a0_5 a1) (spec_CreateFile.f (k + 1) l0_0 l0_1 l0_2 l0_3 a0_4 a0_5 a1) := by
  intro l0_0 l0_1 l0_2 l0_3 a0_4 a0_5 a1 k
  unfold spec_CreateFile.f
  repeat' first | (with_reducible exact LeO.refl _) | (with_reducible exact spec_NameOk.mono _ _) | (with_reducible exact spec_l06Has.mono _ _ _) | (with_reducible exact spec_l06Put.mono _ _ _ _) | (with_reducible exact spec_Decimal.mono _ _) | (with_reducible exact spec_l06Clean.mono _ _ _ _ _ _ _) | (with_reducible exact spec_DiskOk.mono _ _ _ _ _ _ _) | (with_reducible refine LeO.ite ?_ ?_) | (with_reducible refine LeO.bind ?_ (fun _ => ?_))
set_option maxHeartbeats 4000000 in
set_option maxRecDepth 100000 in
theorem spec_CreateFile.calls (k : Nat) (A0_0 : Option Addr) (c0_0 : Nat) (l0_0 : List (S57)) (A0_1 : Option Addr) (c0_1 : Nat) (l0_1 : List (S59)) (A0_2 : Option Addr) (c0_2 : Nat) (l0_2 : List (S59)) (A0_3 : Option Addr) (c0_3 : Nat) (l0_3 : List ByteArray) (a0_4 : Int) (a0_5 : Int) (a1 : ByteArray) (r1 : List S57) (r2 : List S59) (r3 : List S59) (r4 : List ByteArray) (r5 : Int) (r6 : Int) (r7 : Int) (w : World) (hr0_0 : Kd.C k57 w A0_0 l0_0.length l0_0) (hc0_0 : l0_0.length ≤ c0_0) (hr0_1 : Kd.C k59 w A0_1 l0_1.length l0_1) (hc0_1 : l0_1.length ≤ c0_1) (hr0_2 : Kd.C k59 w A0_2 l0_2.length l0_2) (hc0_2 : l0_2.length ≤ c0_2) (hr0_3 : Kd.C Kd.string w A0_3 l0_3.length l0_3) (hc0_3 : l0_3.length ≤ c0_3) (h : spec_CreateFile.f k l0_0 l0_1 l0_2 l0_3 a0_4 a0_5 a1 = some (r1, r2, r3, r4, r5, r6, r7)) :
    Calls Tryz.prog 37 #[.agg #[.slice A0_0 l0_0.length c0_0, .slice A0_1 l0_1.length c0_1, .slice A0_2 l0_2.length c0_2, .slice A0_3 l0_3.length c0_3, .int .i64 a0_4, .int .i64 a0_5], .string a1] w fun e w' => ∃ v0_ v1_ v2_ v3_ : Value, e = .returned (.tuple #[.agg #[v0_, v1_, v2_, v3_, .int .i64 r5, .int .i64 r6], .int .i64 r7]) ∧ Kd.R k57 57 w' w.heap.size (fun _ => True) v0_ r1 ∧ Kd.R k59 59 w' w.heap.size (fun k_ => some k_ ≠ (v2_ : Value).ownBlock) v1_ r2 ∧ Kd.R k59 59 w' w.heap.size (fun k_ => some k_ ≠ (v1_ : Value).ownBlock) v2_ r3 ∧ Kd.R Kd.string 9 w' w.heap.size (fun _ => True) v3_ r4 ∧ Below w.heap.size w w' := by
  unfold spec_CreateFile.f at h
  replace h := Option.bind_eq_some_iff.mp h
  obtain ⟨⟨o1, o2, o3, o4, o5, o6⟩, ho, h⟩ := h
  replace h := Option.bind_eq_some_iff.mp h
  obtain ⟨b, hbk, h⟩ := h
  dsimp only at h
  have CC := Aside0.mk (fun (w1 : World) (hb : Below w.heap.size w w1) => spec_l05Copy.calls A0_0 c0_0 l0_0 A0_1 c0_1 l0_1 A0_2 c0_2 l0_2 A0_3 c0_3 l0_3 a0_4 a0_5 o1 o2 o3 o4 o5 o6 w1 (Kd.C_below hr0_0 hb) hc0_0 (Kd.C_below hr0_1 hb) hc0_1 (Kd.C_below hr0_2 hb) hc0_2 (Kd.C_below hr0_3 hb) hc0_3 ho)
  have CD := Aside0.mk (fun (w1 : World) (A0 : Option Addr) (c0 : Nat) (A1 : Option Addr) (c1 : Nat) (A2 : Option Addr) (c2 : Nat) (A3 : Option Addr) (c3 : Nat) (h : HasD w1 w.heap.size (.slice A0 o1.length c0) (.slice A1 o2.length c1) (.slice A2 o3.length c2) (.slice A3 o4.length c3) o1 o2 o3 o4) => spec_DiskOk.calls k A0 c0 o1 A1 c1 o2 A2 c2 o3 A3 c3 o4 o5 o6 b w1 (Kd.R_reads' h.r0).2.2 (Kd.R_reads' h.r0).2.1 (Kd.R_reads' h.r1).2.2 (Kd.R_reads' h.r1).2.1 (Kd.R_reads' h.r2).2.2 (Kd.R_reads' h.r2).2.1 (Kd.R_reads' h.r3).2.2 (Kd.R_reads' h.r3).2.1 hbk)
  cases b
  (rw [if_neg (by decide)] at h; simp only [Option.some.injEq, Prod.mk.injEq] at h; obtain ⟨rfl, rfl, rfl, rfl, rfl, rfl, rfl⟩ := h; clear ho hbk hr0_0 hc0_0 hr0_1 hc0_1 hr0_2 hc0_2 hr0_3 hc0_3)
  (rotate_left 1; (rw [if_pos rfl] at h; replace h := Option.bind_eq_some_iff.mp h; obtain ⟨n, hn, h⟩ := h; have CN := Aside0.mk (fun (w1 : World) => spec_NameOk.calls k a1 n w1 hn); cases n); rotate_right 1)
  (rotate_left 1; (rw [if_neg (by decide)] at h; simp only [Option.some.injEq, Prod.mk.injEq] at h; obtain ⟨rfl, rfl, rfl, rfl, rfl, rfl, rfl⟩ := h; clear ho hbk hn hr0_0 hc0_0 hr0_1 hc0_1 hr0_2 hc0_2 hr0_3 hc0_3); rotate_right 1)
  (rotate_left 2; (rw [if_pos rfl] at h; replace h := Option.bind_eq_some_iff.mp h; obtain ⟨hh, hhh, h⟩ := h; have CH := Aside0.mk (fun (w1 : World) (A0 : Option Addr) (c0 : Nat) (A1 : Option Addr) (c1 : Nat) (A2 : Option Addr) (c2 : Nat) (A3 : Option Addr) (c3 : Nat) (h : HasD w1 w.heap.size (.slice A0 o1.length c0) (.slice A1 o2.length c1) (.slice A2 o3.length c2) (.slice A3 o4.length c3) o1 o2 o3 o4) => spec_l06Has.calls k A1 c1 o2 a1 hh w1 (Kd.R_reads' h.r1).2.2 (Kd.R_reads' h.r1).2.1 hhh); cases hh); rotate_right 2)
  (rotate_left 3; (rw [if_pos rfl] at h; simp only [Option.some.injEq, Prod.mk.injEq] at h; obtain ⟨rfl, rfl, rfl, rfl, rfl, rfl, rfl⟩ := h; clear ho hbk hn hhh hr0_0 hc0_0 hr0_1 hc0_1 hr0_2 hc0_2 hr0_3 hc0_3); rotate_right 3)
  (rotate_left 2; (rw [if_neg (by decide)] at h; by_cases ta : 16 ≤ o2.length); rotate_right 2)
  (rotate_left 2; (rw [if_pos ta] at h; have ta1 : decide (16 ≤ o2.length) = true := decide_eq_true ta; have ta2 : decide ((16 : Int) ≤ (o2.length : Int)) = true := decide_eq_true (by omega); simp only [Option.some.injEq, Prod.mk.injEq] at h; obtain ⟨rfl, rfl, rfl, rfl, rfl, rfl, rfl⟩ := h; clear ho hbk hn hhh hr0_0 hc0_0 hr0_1 hc0_1 hr0_2 hc0_2 hr0_3 hc0_3); rotate_right 2)
  (rotate_left 3; (rw [if_neg ta] at h; have ta1 : decide (16 ≤ o2.length) = false := decide_eq_false ta; have ta2 : decide ((16 : Int) ≤ (o2.length : Int)) = false := decide_eq_false (by omega); by_cases tb : 64 ≤ o1.length); rotate_right 3)
  (rotate_left 3; (rw [if_pos tb] at h; have tb1 : decide (64 ≤ o1.length) = true := decide_eq_true tb; have tb2 : decide ((64 : Int) ≤ (o1.length : Int)) = true := decide_eq_true (by omega); simp only [Option.some.injEq, Prod.mk.injEq] at h; obtain ⟨rfl, rfl, rfl, rfl, rfl, rfl, rfl⟩ := h; clear ho hbk hn hhh hr0_0 hc0_0 hr0_1 hc0_1 hr0_2 hc0_2 hr0_3 hc0_3); rotate_right 3)
  (rotate_left 4; (rw [if_neg tb] at h; have tb1 : decide (64 ≤ o1.length) = false := decide_eq_false tb; have tb2 : decide ((64 : Int) ≤ (o1.length : Int)) = false := decide_eq_false (by omega); by_cases tc : 1000000000 ≤ o6); rotate_right 4)
  (rotate_left 4; (rw [if_pos tc] at h; have tc1 : decide (1000000000 ≤ o6) = true := decide_eq_true tc; simp only [Option.some.injEq, Prod.mk.injEq] at h; obtain ⟨rfl, rfl, rfl, rfl, rfl, rfl, rfl⟩ := h; clear ho hbk hn hhh hr0_0 hc0_0 hr0_1 hc0_1 hr0_2 hc0_2 hr0_3 hc0_3); rotate_right 4)
  (rotate_left 5; (rw [if_neg tc] at h; have tc1 : decide (1000000000 ≤ o6) = false := decide_eq_false tc; replace h := Option.bind_eq_some_iff.mp h; obtain ⟨u, hu, h⟩ := h; replace h := Option.bind_eq_some_iff.mp h; obtain ⟨t, ht, h⟩ := h; have CU := Aside0.mk (fun (w1 : World) (B : Nat) (p : Nat → Prop) (A4 : Option Addr) (c4 : Nat) (h : Kd.R k59 59 w1 B p (.slice A4 o2.length c4) o2) => spec_l06Put.calls k A4 c4 o2 a1 o6 u w1 (Kd.R_reads' h).2.2 (Kd.R_reads' h).2.1 hu); have CDec := Aside0.mk (fun (w1 : World) => spec_Decimal.calls k o6 t w1 ht); by_cases hl : (a1.size ≤ 70368744177664 ∧ t.size ≤ 70368744177664) ∧ (o4.length + 1) * 16 ≤ 140737488355328 ∧ (o1.length + 1) * 32 ≤ 140737488355328); rotate_right 5)
  (rotate_left 6; (rw [if_neg hl] at h; cases h); rotate_right 6)
  (rotate_left 5; (rw [if_pos hl] at h; obtain ⟨⟨hz1, hz2⟩, hl, hnz⟩ := hl; have HL := Aside0.mk hl; have HNZ := Aside0.mk hnz; generalize hnl : (o1 ++ [(⟨o6, ⟨#[]⟩, 0⟩ : S57)]) = nl at h; have HNL := Aside0.mk hnl; obtain ⟨f6, hf6⟩ : ∃ x, wrap64 (o6 + 1) = x := ⟨_, rfl⟩; rw [hf6] at h; have hw6 : IntKind.i64.wrap (o6 + 1) = f6 := ((i64_w _).trans hf6); clear ho hbk hn hhh hu ht hl hnz hnl hr0_0 hc0_0 hr0_1 hc0_1 hr0_2 hc0_2 hr0_3 hc0_3; generalize hdl : (o4 ++ [(((⟨#[43]⟩ : ByteArray) ++ a1 ++ ⟨#[58]⟩) ++ t)]) = dl at h; have HDK := Aside0.mk hdl; clear hdl; have hcat1 : (9223372036854775807 < 1 + a1.size) = False := eq_false (by omega); have hcat2 : (9223372036854775807 < 1 + a1.size + 1) = False := eq_false (by omega); have hcat3 : (9223372036854775807 < 1 + a1.size + 1 + t.size) = False := eq_false (by omega); replace h := Option.bind_eq_some_iff.mp h; obtain ⟨⟨z1, z2, z3, z4, z5, z6⟩, hz, h⟩ := h; dsimp only at h; have HZ := Aside0.mk hz; clear hz; simp only [Option.some.injEq, Prod.mk.injEq] at h; obtain ⟨rfl, rfl, rfl, rfl, rfl, rfl, rfl⟩ := h); rotate_right 5)
  all_goals (go_enter Tryz.func37, Tryz.ntmps37; go_wp2_with (first | ((with_reducible refine gate_dst (N := 2) rfl ?_); refine box_event ?hg (N := 2) ?hd (cs := #[.slice A0_0 l0_0.length c0_0, .slice A0_1 l0_1.length c0_1, .slice A0_2 l0_2.length c0_2, .slice A0_3 l0_3.length c0_3, .int .i64 a0_4, .int .i64 a0_5]) (t := 32) ?hr ?_; (case hd => rfl); (case hg => rfl); (case hr => first | (go_simp; done) | (go_simp; rfl)); intro gD hg w1 hbox hb; have GD := Aside0.mk (Nat.le_of_eq hg.symm); have BL := Aside0.mk hb; have BD := Aside0.mk hbox; clear hb; (try clear iD0 iD1 iD2 iD3 iD4 iD5); obtain ⟨iD0, iD1, iD2, iD3, iD4, iD5⟩ := blk6 BD.out; (try clear zD0 zD1 zD2 zD3 zD4 zD5); have zD0 := blk_frozen BD.out 0; have zD1 := blk_frozen BD.out 1; have zD2 := blk_frozen BD.out 2; have zD3 := blk_frozen BD.out 3; have zD4 := blk_frozen BD.out 4; have zD5 := blk_frozen BD.out 5; clear hg hbox) | ((with_reducible refine gate_dst (N := 4) rfl ?_); refine box_event ?hg (N := 4) ?hd (cs := #[.slice none 0 0, .slice none 0 0, .slice none 0 0, .slice none 0 0, .int .i64 0, .int .i64 0]) (t := 32) ?hr ?_; (case hd => rfl); (case hg => rfl); (case hr => first | (go_simp; done) | (go_simp; rfl)); intro gR hg w1 hbox hb; have GR := Aside0.mk (show w.heap.size ≤ gR by rw [hg]; exact BL.out.size); have RD := Aside0.mk (show gR ≠ gD by rw [hg]; exact Nat.ne_of_gt (blk_lt BD.out)); replace BL := Aside0.mk (BL.out.trans (hb.mono BL.out.size)); (try replace BD := Aside0.mk ((hb.block gD (blk_lt BD.out)).trans BD.out)); (try replace BR := Aside0.mk ((hb.block gR (blk_lt BR.out)).trans BR.out)); (try replace Do := Aside0.mk (Do.out.on hb)); have BR := Aside0.mk hbox; clear hb; (try clear iD0 iD1 iD2 iD3 iD4 iD5); obtain ⟨iD0, iD1, iD2, iD3, iD4, iD5⟩ := blk6 BD.out; (try clear iR0 iR1 iR2 iR3 iR4 iR5); obtain ⟨iR0, iR1, iR2, iR3, iR4, iR5⟩ := blk6 BR.out; (try clear zD0 zD1 zD2 zD3 zD4 zD5); have zD0 := blk_frozen BD.out 0; have zD1 := blk_frozen BD.out 1; have zD2 := blk_frozen BD.out 2; have zD3 := blk_frozen BD.out 3; have zD4 := blk_frozen BD.out 4; have zD5 := blk_frozen BD.out 5; (try clear zR0 zR1 zR2 zR3 zR4 zR5); have zR0 := blk_frozen BR.out 0; have zR1 := blk_frozen BR.out 1; have zR2 := blk_frozen BR.out 2; have zR3 := blk_frozen BR.out 3; have zR4 := blk_frozen BR.out 4; have zR5 := blk_frozen BR.out 5; clear hg hbox) | (go_at_call 78; have hbs := BL.out.size; (with_reducible refine (CC.out _ BL.out).mono ?_); rintro e w1 ⟨v0, v1, v2, v3, rfl, p0, p1, p2, p3, hb⟩; have hD := HasD.of p0 p1 p2 p3; replace BL := Aside0.mk (BL.out.trans (hb.mono BL.out.size)); (try replace BD := Aside0.mk ((hb.block gD (blk_lt BD.out)).trans BD.out)); (try replace BR := Aside0.mk ((hb.block gR (blk_lt BR.out)).trans BR.out)); (try replace Do := Aside0.mk (Do.out.on hb)); have Do := Aside0.mk (hD.lower hbs); obtain ⟨A0, c0, rfl⟩ := Kd.R_slice p0; obtain ⟨A1, c1, rfl⟩ := Kd.R_slice p1; obtain ⟨A2, c2, rfl⟩ := Kd.R_slice p2; obtain ⟨A3, c3, rfl⟩ := Kd.R_slice p3; clear hD hb hbs p0 p1 p2 p3; (try clear iD0 iD1 iD2 iD3 iD4 iD5); obtain ⟨iD0, iD1, iD2, iD3, iD4, iD5⟩ := blk6 BD.out; (try clear iR0 iR1 iR2 iR3 iR4 iR5); obtain ⟨iR0, iR1, iR2, iR3, iR4, iR5⟩ := blk6 BR.out; (try clear zD0 zD1 zD2 zD3 zD4 zD5); have zD0 := blk_frozen BD.out 0; have zD1 := blk_frozen BD.out 1; have zD2 := blk_frozen BD.out 2; have zD3 := blk_frozen BD.out 3; have zD4 := blk_frozen BD.out 4; have zD5 := blk_frozen BD.out 5; (try clear zR0 zR1 zR2 zR3 zR4 zR5); have zR0 := blk_frozen BR.out 0; have zR1 := blk_frozen BR.out 1; have zR2 := blk_frozen BR.out 2; have zR3 := blk_frozen BR.out 3; have zR4 := blk_frozen BR.out 4; have zR5 := blk_frozen BR.out 5) | (go_at_call 16; refine fill6_calls BD.out (fun W hO hk hs => ?_); replace Do := Aside0.mk (HasD.fill Do.out BD.out hs); replace BR := Aside0.mk ((hs gR RD.out).trans BR.out); replace BL := Aside0.mk (hk BL.out GD.out); replace BD := Aside0.mk hO; clear hO hk hs; (with_reducible refine (CD.out _ _ _ _ _ _ _ _ _ Do.out).mono ?_); rintro e w1 ⟨rfl, hb⟩; replace BL := Aside0.mk (BL.out.trans (hb.mono BL.out.size)); (try replace BD := Aside0.mk ((hb.block gD (blk_lt BD.out)).trans BD.out)); (try replace BR := Aside0.mk ((hb.block gR (blk_lt BR.out)).trans BR.out)); (try replace Do := Aside0.mk (Do.out.on hb)); clear hb; (try clear iD0 iD1 iD2 iD3 iD4 iD5); obtain ⟨iD0, iD1, iD2, iD3, iD4, iD5⟩ := blk6 BD.out; (try clear iR0 iR1 iR2 iR3 iR4 iR5); obtain ⟨iR0, iR1, iR2, iR3, iR4, iR5⟩ := blk6 BR.out; (try clear zD0 zD1 zD2 zD3 zD4 zD5); have zD0 := blk_frozen BD.out 0; have zD1 := blk_frozen BD.out 1; have zD2 := blk_frozen BD.out 2; have zD3 := blk_frozen BD.out 3; have zD4 := blk_frozen BD.out 4; have zD5 := blk_frozen BD.out 5; (try clear zR0 zR1 zR2 zR3 zR4 zR5); have zR0 := blk_frozen BR.out 0; have zR1 := blk_frozen BR.out 1; have zR2 := blk_frozen BR.out 2; have zR3 := blk_frozen BR.out 3; have zR4 := blk_frozen BR.out 4; have zR5 := blk_frozen BR.out 5) | (go_at_call 99; (with_reducible refine (CN.out _).mono ?_); rintro e wq ⟨rfl, hq⟩; have hb : Below w1.heap.size w1 wq := (by obtain ⟨nd, hnd⟩ := hq; rw [hnd]; exact pw_below_drewN (Below.refl _ _) nd); clear hq; replace BL := Aside0.mk (BL.out.trans (hb.mono BL.out.size)); (try replace BD := Aside0.mk ((hb.block gD (blk_lt BD.out)).trans BD.out)); (try replace BR := Aside0.mk ((hb.block gR (blk_lt BR.out)).trans BR.out)); (try replace Do := Aside0.mk (Do.out.on hb)); clear hb; obtain ⟨w1, hw1⟩ : ∃ x, x = wq := ⟨_, rfl⟩; subst hw1; (try clear iD0 iD1 iD2 iD3 iD4 iD5); obtain ⟨iD0, iD1, iD2, iD3, iD4, iD5⟩ := blk6 BD.out; (try clear iR0 iR1 iR2 iR3 iR4 iR5); obtain ⟨iR0, iR1, iR2, iR3, iR4, iR5⟩ := blk6 BR.out; (try clear zD0 zD1 zD2 zD3 zD4 zD5); have zD0 := blk_frozen BD.out 0; have zD1 := blk_frozen BD.out 1; have zD2 := blk_frozen BD.out 2; have zD3 := blk_frozen BD.out 3; have zD4 := blk_frozen BD.out 4; have zD5 := blk_frozen BD.out 5; (try clear zR0 zR1 zR2 zR3 zR4 zR5); have zR0 := blk_frozen BR.out 0; have zR1 := blk_frozen BR.out 1; have zR2 := blk_frozen BR.out 2; have zR3 := blk_frozen BR.out 3; have zR4 := blk_frozen BR.out 4; have zR5 := blk_frozen BR.out 5) | (go_at_call 79; (with_reducible refine (CH.out _ _ _ _ _ _ _ _ _ Do.out).mono ?_); rintro e wq ⟨rfl, hq⟩; have hb : Below w1.heap.size w1 wq := (by obtain ⟨nd, hnd⟩ := hq; rw [hnd]; exact pw_below_drewN (Below.refl _ _) nd); clear hq; replace BL := Aside0.mk (BL.out.trans (hb.mono BL.out.size)); (try replace BD := Aside0.mk ((hb.block gD (blk_lt BD.out)).trans BD.out)); (try replace BR := Aside0.mk ((hb.block gR (blk_lt BR.out)).trans BR.out)); (try replace Do := Aside0.mk (Do.out.on hb)); clear hb; obtain ⟨w1, hw1⟩ : ∃ x, x = wq := ⟨_, rfl⟩; subst hw1; (try clear iD0 iD1 iD2 iD3 iD4 iD5); obtain ⟨iD0, iD1, iD2, iD3, iD4, iD5⟩ := blk6 BD.out; (try clear iR0 iR1 iR2 iR3 iR4 iR5); obtain ⟨iR0, iR1, iR2, iR3, iR4, iR5⟩ := blk6 BR.out; (try clear zD0 zD1 zD2 zD3 zD4 zD5); have zD0 := blk_frozen BD.out 0; have zD1 := blk_frozen BD.out 1; have zD2 := blk_frozen BD.out 2; have zD3 := blk_frozen BD.out 3; have zD4 := blk_frozen BD.out 4; have zD5 := blk_frozen BD.out 5; (try clear zR0 zR1 zR2 zR3 zR4 zR5); have zR0 := blk_frozen BR.out 0; have zR1 := blk_frozen BR.out 1; have zR2 := blk_frozen BR.out 2; have zR3 := blk_frozen BR.out 3; have zR4 := blk_frozen BR.out 4; have zR5 := blk_frozen BR.out 5) | (at_builtin; refine Kd.R_append k57 (w0 := w) w.heap.size rfl (.tmp 38) (.tmp 42) 29 57 (.agg #[.int .i64 0, .string ⟨#[]⟩, .int .i64 0]) 32 rfl Tryz.underlying29 info57 rfl (by decide) (by decide) (.slice A0 o1.length c0) o1 ⟨o6, ⟨#[]⟩, 0⟩ [.int .i64 o6, .string ⟨#[]⟩, .int .i64 0] _ (fun _ => False) rfl rfl (k57_mkM _ _ _ _) (fun _ h => h.elim) (fun k hk => .inr hk) (Kd.R_mono (ok' := fun k => some k = (Value.slice A0 o1.length c0).ownBlock ∨ _ ≤ k) Do.out.r0 fun k hk => .inl hk) BL.out BL.out.size HNZ.out ?_; intro v1 w1 hO1 hb1 hg1 hat1; rw [HNL.out] at hO1; obtain ⟨A7, c7, rfl⟩ := Kd.R_slice hO1; have hT : Turned _ w1 _ := ⟨hg1.os, hg1.tape, hg1.output, hg1.size, fun k hk hn => hg1.block k hk hn⟩; have hD := has_r0 Do.out hT hO1; replace BD := Aside0.mk ((hT.block gD (blk_lt BD.out) (fun e => Do.out.nobox BD.out (by decide) (by decide) (by decide) (.inl e))).trans BD.out); replace BR := Aside0.mk ((hT.block gR (blk_lt BR.out) (fun e => Do.out.nobox BR.out (by decide) (by decide) (by decide) (.inl e))).trans BR.out); clear BL Do; have BL := Aside0.mk hb1; have Do := Aside0.mk hD; clear hD hO1 hb1 hg1 hat1 hT; (try clear iD0 iD1 iD2 iD3 iD4 iD5); obtain ⟨iD0, iD1, iD2, iD3, iD4, iD5⟩ := blk6 BD.out; (try clear iR0 iR1 iR2 iR3 iR4 iR5); obtain ⟨iR0, iR1, iR2, iR3, iR4, iR5⟩ := blk6 BR.out; (try clear zD0 zD1 zD2 zD3 zD4 zD5); have zD0 := blk_frozen BD.out 0; have zD1 := blk_frozen BD.out 1; have zD2 := blk_frozen BD.out 2; have zD3 := blk_frozen BD.out 3; have zD4 := blk_frozen BD.out 4; have zD5 := blk_frozen BD.out 5; (try clear zR0 zR1 zR2 zR3 zR4 zR5); have zR0 := blk_frozen BR.out 0; have zR1 := blk_frozen BR.out 1; have zR2 := blk_frozen BR.out 2; have zR3 := blk_frozen BR.out 3; have zR4 := blk_frozen BR.out 4; have zR5 := blk_frozen BR.out 5) | ((with_reducible refine gate_store (t := 29) (p := 44) rfl ?_); refine store_event (t := 29) (p := 44) (v := ?vo44) (w1 := w1.setCell ⟨gD, 0, none⟩ (.slice A7 nl.length c7)) ?hg ?ho ?hn ?hr ?_; (case ho => rfl); (case hg => rfl); (case hn => rfl); (case hr => first | (go_simp; done) | (go_simp; rfl)); intro wz hw; have hs : ∀ j, j ≠ gD → wz.heap[j]? = w1.heap[j]? := (by rw [hw]; exact fun j hj => Below.heap_setCell w1 ⟨gD, 0, none⟩ _ j hj); have hbl : Below w.heap.size w wz := (by rw [hw]; exact below_set BL.out GD.out); have hG : wz.heap[gD]? = some (.cells #[.slice A7 nl.length c7, .slice A1 o2.length c1, .slice A2 o3.length c2, .slice A3 o4.length c3, .int .i64 o5, .int .i64 o6] 32 (0, 0)) := (by rw [hw]; exact blk_put (cs := #[.slice A0 o1.length c0, .slice A1 o2.length c1, .slice A2 o3.length c2, .slice A3 o4.length c3, .int .i64 o5, .int .i64 o6]) BD.out 0 _ rfl); clear hw; replace Do := Aside0.mk (HasD.fill Do.out BD.out hs); replace BR := Aside0.mk ((hs gR RD.out).trans BR.out); clear BL BD; have BL := Aside0.mk hbl; have BD := Aside0.mk hG; clear hs hbl hG; obtain ⟨w1, hw1⟩ : ∃ x, x = wz := ⟨_, rfl⟩; subst hw1; (try clear iD0 iD1 iD2 iD3 iD4 iD5); obtain ⟨iD0, iD1, iD2, iD3, iD4, iD5⟩ := blk6 BD.out; (try clear iR0 iR1 iR2 iR3 iR4 iR5); obtain ⟨iR0, iR1, iR2, iR3, iR4, iR5⟩ := blk6 BR.out; (try clear zD0 zD1 zD2 zD3 zD4 zD5); have zD0 := blk_frozen BD.out 0; have zD1 := blk_frozen BD.out 1; have zD2 := blk_frozen BD.out 2; have zD3 := blk_frozen BD.out 3; have zD4 := blk_frozen BD.out 4; have zD5 := blk_frozen BD.out 5; (try clear zR0 zR1 zR2 zR3 zR4 zR5); have zR0 := blk_frozen BR.out 0; have zR1 := blk_frozen BR.out 1; have zR2 := blk_frozen BR.out 2; have zR3 := blk_frozen BR.out 3; have zR4 := blk_frozen BR.out 4; have zR5 := blk_frozen BR.out 5) | (go_at_call 100; have LW := BL.out.size; (with_reducible refine (CU.out _ _ _ _ _ Do.out.r1).mono ?_); rintro e w1 ⟨v4, rfl, hR4, hb⟩; obtain ⟨A6, c6, rfl⟩ := Kd.R_slice hR4; replace Do := Aside0.mk (has_r1 Do.out hb LW hR4); replace BL := Aside0.mk (BL.out.trans (hb.mono BL.out.size)); (try replace BD := Aside0.mk ((hb.block gD (blk_lt BD.out)).trans BD.out)); (try replace BR := Aside0.mk ((hb.block gR (blk_lt BR.out)).trans BR.out)); clear hR4 hb LW; (try clear iD0 iD1 iD2 iD3 iD4 iD5); obtain ⟨iD0, iD1, iD2, iD3, iD4, iD5⟩ := blk6 BD.out; (try clear iR0 iR1 iR2 iR3 iR4 iR5); obtain ⟨iR0, iR1, iR2, iR3, iR4, iR5⟩ := blk6 BR.out; (try clear zD0 zD1 zD2 zD3 zD4 zD5); have zD0 := blk_frozen BD.out 0; have zD1 := blk_frozen BD.out 1; have zD2 := blk_frozen BD.out 2; have zD3 := blk_frozen BD.out 3; have zD4 := blk_frozen BD.out 4; have zD5 := blk_frozen BD.out 5; (try clear zR0 zR1 zR2 zR3 zR4 zR5); have zR0 := blk_frozen BR.out 0; have zR1 := blk_frozen BR.out 1; have zR2 := blk_frozen BR.out 2; have zR3 := blk_frozen BR.out 3; have zR4 := blk_frozen BR.out 4; have zR5 := blk_frozen BR.out 5) | ((with_reducible refine gate_store (t := 30) (p := 52) rfl ?_); refine store_event (t := 30) (p := 52) (v := ?vo52) (w1 := w1.setCell ⟨gD, 1, none⟩ (.slice A6 u.length c6)) ?hg ?ho ?hn ?hr ?_; (case ho => rfl); (case hg => rfl); (case hn => rfl); (case hr => first | (go_simp; done) | (go_simp; rfl)); intro wz hw; have hs : ∀ j, j ≠ gD → wz.heap[j]? = w1.heap[j]? := (by rw [hw]; exact fun j hj => Below.heap_setCell w1 ⟨gD, 1, none⟩ _ j hj); have hbl : Below w.heap.size w wz := (by rw [hw]; exact below_set BL.out GD.out); have hG : wz.heap[gD]? = some (.cells #[.slice A7 nl.length c7, .slice A6 u.length c6, .slice A2 o3.length c2, .slice A3 o4.length c3, .int .i64 o5, .int .i64 o6] 32 (0, 0)) := (by rw [hw]; exact blk_put (cs := #[.slice A7 nl.length c7, .slice A1 o2.length c1, .slice A2 o3.length c2, .slice A3 o4.length c3, .int .i64 o5, .int .i64 o6]) BD.out 1 _ rfl); clear hw; replace Do := Aside0.mk (HasD.fill Do.out BD.out hs); replace BR := Aside0.mk ((hs gR RD.out).trans BR.out); clear BL BD; have BL := Aside0.mk hbl; have BD := Aside0.mk hG; clear hs hbl hG; obtain ⟨w1, hw1⟩ : ∃ x, x = wz := ⟨_, rfl⟩; subst hw1; (try clear iD0 iD1 iD2 iD3 iD4 iD5); obtain ⟨iD0, iD1, iD2, iD3, iD4, iD5⟩ := blk6 BD.out; (try clear iR0 iR1 iR2 iR3 iR4 iR5); obtain ⟨iR0, iR1, iR2, iR3, iR4, iR5⟩ := blk6 BR.out; (try clear zD0 zD1 zD2 zD3 zD4 zD5); have zD0 := blk_frozen BD.out 0; have zD1 := blk_frozen BD.out 1; have zD2 := blk_frozen BD.out 2; have zD3 := blk_frozen BD.out 3; have zD4 := blk_frozen BD.out 4; have zD5 := blk_frozen BD.out 5; (try clear zR0 zR1 zR2 zR3 zR4 zR5); have zR0 := blk_frozen BR.out 0; have zR1 := blk_frozen BR.out 1; have zR2 := blk_frozen BR.out 2; have zR3 := blk_frozen BR.out 3; have zR4 := blk_frozen BR.out 4; have zR5 := blk_frozen BR.out 5)))
  iterate 5 (refine bodyPost_ret (results_ct rfl _ _ gR 32 #[.slice A0 o1.length c0, .slice A1 o2.length c1, .slice A2 o3.length c2, .slice A3 o4.length c3, .int .i64 o5, .int .i64 o6] (0, 0) _ rfl (fill6_at BR.out) Tryz.underlying32 rfl (by kernel_rfl)) rfl ?_; have hT := filled_told (.int .i64 o5) (.int .i64 o6) Do.out BR.out; exact ⟨_, _, _, _, rfl, hT.1, hT.2.1, hT.2.2.1, hT.2.2.2, fill6_below BL.out GR.out⟩)
  (try clear iD0 iD1 iD2 iD3 iD4 iD5 iR0 iR1 iR2 iR3 iR4 iR5 zD0 zD1 zD2 zD3 zD4 zD5 zR0 zR1 zR2 zR3 zR4 zR5)
  have hb := below_drew (Below.refl w1.heap.size w1)
  replace BL := Aside0.mk (BL.out.trans (hb.mono BL.out.size)); (try replace BD := Aside0.mk ((hb.block gD (blk_lt BD.out)).trans BD.out)); (try replace BR := Aside0.mk ((hb.block gR (blk_lt BR.out)).trans BR.out)); (try replace Do := Aside0.mk (Do.out.on hb))
  clear hb
  refine start_ (n := 13) (S := fun w' => w'.cell? ⟨gD, 0, none⟩ = some (.slice A7 nl.length c7) ∧ w'.cell? ⟨gD, 1, none⟩ = some (.slice A6 u.length c6) ∧ w'.cell? ⟨gD, 2, none⟩ = some (.slice A2 o3.length c2) ∧ w'.cell? ⟨gD, 3, none⟩ = some (.slice A3 o4.length c3) ∧ w'.cell? ⟨gD, 4, none⟩ = some (.int .i64 o5) ∧ w'.cell? ⟨gD, 5, none⟩ = some (.int .i64 o6)) (ds := [12]) (marks 13 0) (by kernel_rfl) rfl rfl ⟨(blk_cell BD.out 0).trans rfl, (blk_cell BD.out 1).trans rfl, (blk_cell BD.out 2).trans rfl, (blk_cell BD.out 3).trans rfl, (blk_cell BD.out 4).trans rfl, (blk_cell BD.out 5).trans rfl⟩ (fun hHeld => ?_)
  generalize w1.drew = w2 at BL BD BR Do hHeld ⊢
  refine pure_ (i := 0) (N := some 53) (v := ?_) (a' := ?_) (marks 13 1) rfl rfl (by kernel_rfl) (fun _ _ _ h => h) (Or.inl ⟨by rfl, ?_⟩) ?_ ?_
  rotate_left
  · intro w'
    go_simp
    with_reducible rfl
  rotate_left
  · simp only [Act.put, List.setIfInBounds_toArray, List.set_cons_zero, List.set_cons_succ, i64_w, i32_w]
    rfl
  refine pure_ (i := 2) (N := some 55) (v := ?_) (a' := ?_) (marks 13 5) rfl rfl (by kernel_rfl) (fun _ _ _ h => h) (Or.inl ⟨by rfl, ?_⟩) ?_ ?_
  rotate_left
  · intro w'
    go_simp
    with_reducible rfl
  rotate_left
  · simp only [Act.put, List.setIfInBounds_toArray, List.set_cons_zero, List.set_cons_succ, i64_w, i32_w]
    rfl
  refine pure_ (i := 3) (N := some 56) (v := ?_) (a' := ?_) (marks 13 13) rfl rfl (by kernel_rfl) (fun _ _ _ h => h) (Or.inl ⟨by rfl, ?_⟩) ?_ ?_
  rotate_left
  · intro w'
    go_simp
    with_reducible rfl
  rotate_left
  · simp only [Act.put, List.setIfInBounds_toArray, List.set_cons_zero, List.set_cons_succ, i64_w, i32_w]
    rfl
  refine pure_ (i := 4) (N := some 57) (v := ?_) (a' := ?_) (marks 13 29) rfl rfl (by kernel_rfl) (fun _ _ _ h => h) (Or.inl ⟨by rfl, ?_⟩) ?_ ?_
  rotate_left
  · intro w'
    go_simp
    with_reducible rfl
  rotate_left
  · simp only [Act.put, List.setIfInBounds_toArray, List.set_cons_zero, List.set_cons_succ, i64_w, i32_w]
    rfl
  refine pure_ (i := 5) (N := some 58) (v := ?_) (a' := ?_) (marks 13 61) rfl rfl (by kernel_rfl) (fun _ _ _ h => h) (Or.inl ⟨by rfl, ?_⟩) ?_ ?_
  rotate_left
  · intro w'
    go_simp
    with_reducible rfl
  rotate_left
  · simp only [Act.put, List.setIfInBounds_toArray, List.set_cons_zero, List.set_cons_succ, i64_w, i32_w]
    rfl
  refine take_ (i := 1) (N := some 54) (v := ?_) (a' := ?_) (marks 13 63) rfl rfl (by kernel_rfl) (fun _ _ _ h => h) (Or.inl ⟨by rfl, ?_⟩) hHeld ?_ ?_
  rotate_left
  · rintro w' ⟨s0, s1, s2, s3, s4, s5⟩
    go_simp
    with_reducible rfl
  rotate_left
  · simp only [Act.put, List.setIfInBounds_toArray, List.set_cons_zero, List.set_cons_succ, i64_w, i32_w]
    rfl
  refine take_ (i := 6) (N := some 59) (v := ?_) (a' := ?_) (marks 13 127) rfl rfl (by kernel_rfl) (fun _ _ _ h => h) (Or.inl ⟨by rfl, ?_⟩) hHeld ?_ ?_
  rotate_left
  · rintro w' ⟨s0, s1, s2, s3, s4, s5⟩
    go_simp
    with_reducible rfl
  rotate_left
  · simp only [Act.put, List.setIfInBounds_toArray, List.set_cons_zero, List.set_cons_succ, i64_w, i32_w]
    rfl
  refine one_ (i := 7) (N := some 60) (marks 13 255) rfl rfl (by kernel_rfl) (by decide) (fun K hK => ?_)
  refine goes_ Tryz.func101 (by kernel_rfl) rfl #[.int .i64 o6] (by rfl) rfl rfl (by (try simp only [List.map_toArray, List.map_cons, List.map_nil]); first | done | rfl | (go_simp; done)) ?_
  with_reducible refine (CDec.out _).mono ?_
  rintro e w1 ⟨rfl, hb⟩
  refine ⟨_, rfl, ?_⟩
  replace BL := Aside0.mk (BL.out.trans (hb.mono BL.out.size)); (try replace BD := Aside0.mk ((hb.block gD (blk_lt BD.out)).trans BD.out)); (try replace BR := Aside0.mk ((hb.block gR (blk_lt BR.out)).trans BR.out)); (try replace Do := Aside0.mk (Do.out.on hb))
  clear hb
  refine hK.out _ _ ⟨(blk_cell BD.out 0).trans rfl, (blk_cell BD.out 1).trans rfl, (blk_cell BD.out 2).trans rfl, (blk_cell BD.out 3).trans rfl, (blk_cell BD.out 4).trans rfl, (blk_cell BD.out 5).trans rfl⟩ (fun hHeld => ?_)
  clear hK K
  refine norm_ (a' := ?_) ?_ ?_
  rotate_left
  · show Act.put _ (some 60) _ = _
    simp only [Act.put, List.setIfInBounds_toArray, List.set_cons_zero, List.set_cons_succ, i64_w, i32_w]
    rfl
  refine pure_ (i := 8) (N := some 61) (v := ?_) (a' := ?_) (marks 13 511) rfl rfl (by kernel_rfl) (fun _ _ _ h => h) (Or.inl ⟨by rfl, ?_⟩) ?_ ?_
  rotate_left
  · intro w'
    go_simp
    with_reducible rfl
  rotate_left
  · simp only [Act.put, List.setIfInBounds_toArray, List.set_cons_zero, List.set_cons_succ, i64_w, i32_w]
    rfl
  refine one_ (i := 9) (N := some 62) (marks 13 1023) rfl rfl (by kernel_rfl) (by decide) (fun K hK => ?_)
  refine value_ (w1 := ?_) (v := ?_) (by rfl) rfl ?_ ?_
  rotate_left 2
  · go_simp
    constructor
    · rfl
    · rfl
  refine hK.out _ _ ⟨(blk_cell (blk_alloc BD.out _) 0).trans rfl, (blk_cell (blk_alloc BD.out _) 1).trans rfl, (blk_cell (blk_alloc BD.out _) 2).trans rfl, (blk_cell (blk_alloc BD.out _) 3).trans rfl, (blk_cell (blk_alloc BD.out _) 4).trans rfl, (blk_cell (blk_alloc BD.out _) 5).trans rfl⟩ (fun hHeld => ?_)
  clear hK K
  refine norm_ (a' := ?_) ?_ ?_
  rotate_left
  · show Act.put _ (some 62) _ = _
    simp only [Act.put, List.setIfInBounds_toArray, List.set_cons_zero, List.set_cons_succ, i64_w, i32_w]
    rfl
  refine one_ (i := 10) (N := some 63) (marks 13 2047) rfl rfl (by kernel_rfl) (by decide) (fun K hK => ?_)
  refine Kd.R_append_step Kd.string (w0 := w) w.heap.size (by rfl) (.tmp 54) (.tmp 62) 24 9 (.string ⟨#[]⟩) 16 rfl Tryz.underlying24 info9 rfl (by decide) (by decide) (.slice A3 o4.length c3) o4 ((((⟨#[43]⟩ : ByteArray) ++ a1 ++ (⟨#[58]⟩ : ByteArray)) ++ t)) [.string ((((⟨#[43]⟩ : ByteArray) ++ a1 ++ (⟨#[58]⟩ : ByteArray)) ++ t))] _ (fun _ => False) rfl rfl rfl (fun _ h => h.elim) (fun k hk => .inr hk) (Kd.R_mono (ok' := fun k => some k = (Value.slice A3 o4.length c3).ownBlock ∨ _ ≤ k) Do.out.r3 fun k hk => .inl hk) BL.out BL.out.size HL.out ?_
  intro v1 w1 hO1 hb1 hg1 hat1
  rw [HDK.out] at hO1
  obtain ⟨A5, c5, rfl⟩ := Kd.R_slice hO1
  have hT : Turned _ w1 _ := ⟨hg1.os, hg1.tape, hg1.output, hg1.size, fun k hk hn => hg1.block k hk hn⟩
  have hD := has_r3 Do.out hT hO1
  replace BD := Aside0.mk ((hT.block gD (blk_lt BD.out) (fun e => Do.out.nobox BD.out (by decide) (by decide) (by decide) (.inr (.inr (.inr e))))).trans BD.out)
  replace BR := Aside0.mk ((hT.block gR (blk_lt BR.out) (fun e => Do.out.nobox BR.out (by decide) (by decide) (by decide) (.inr (.inr (.inr e))))).trans BR.out)
  clear BL Do
  have BL := Aside0.mk hb1
  have Do := Aside0.mk hD
  clear hD hO1 hb1 hg1 hat1 hT
  refine hK.out _ _ ⟨(blk_cell BD.out 0).trans rfl, (blk_cell BD.out 1).trans rfl, (blk_cell BD.out 2).trans rfl, (blk_cell BD.out 3).trans rfl, (blk_cell BD.out 4).trans rfl, (blk_cell BD.out 5).trans rfl⟩ (fun hHeld => ?_)
  clear hK K
  refine norm_ (a' := ?_) ?_ ?_
  rotate_left
  · show Act.put _ (some 63) _ = _
    simp only [Act.put, List.setIfInBounds_toArray, List.set_cons_zero, List.set_cons_succ, i64_w, i32_w]
    rfl
  refine pure_ (i := 11) (N := some 64) (v := ?_) (a' := ?_) (marks 13 4095) rfl rfl (by kernel_rfl) (fun _ _ _ h => h) (Or.inl ⟨by rfl, ?_⟩) ?_ ?_
  rotate_left
  · intro w'
    go_simp
    with_reducible rfl
  rotate_left
  · simp only [Act.put, List.setIfInBounds_toArray, List.set_cons_zero, List.set_cons_succ, i64_w, i32_w]
    rfl
  refine last_ (i := 12) (N := none) (marks 13 8191) rfl rfl (by kernel_rfl) (by decide) (fun K hK => ?_)
  have hs3 : w1.cell? ⟨gD, 3, none⟩ = some (.slice A3 o4.length c3) := (blk_cell BD.out 3).trans rfl
  have hz3 := blk_frozen BD.out 3
  refine skip_ (w1 := ?_) (by rfl) rfl ?_ ?_
  rotate_left
  · go_simp
    rfl
  refine hK.out _ _ ?_
  clear hK K hs3 hz3
  refine done_ (by kernel_rfl) ?_
  have b1 : Below w.heap.size w (w1.setCell ⟨gD, 3, none⟩ (.slice A5 dl.length c5)) := below_set BL.out GD.out
  have b2 : (w1.setCell ⟨gD, 3, none⟩ (.slice A5 dl.length c5)).heap[gD]? = some (.cells #[.slice A7 nl.length c7, .slice A6 u.length c6, .slice A2 o3.length c2, .slice A5 dl.length c5, .int .i64 o5, .int .i64 o6] 32 (0, 0)) := blk_put (cs := #[.slice A7 nl.length c7, .slice A6 u.length c6, .slice A2 o3.length c2, .slice A3 o4.length c3, .int .i64 o5, .int .i64 o6]) BD.out 3 _ rfl
  have b3 : (w1.setCell ⟨gD, 3, none⟩ (.slice A5 dl.length c5)).heap[gR]? = some (.cells #[.slice none 0 0, .slice none 0 0, .slice none 0 0, .slice none 0 0, .int .i64 0, .int .i64 0] 32 (0, 0)) := blk_far BR.out RD.out _
  have b4 : HasD (w1.setCell ⟨gD, 3, none⟩ (.slice A5 dl.length c5)) w.heap.size (.slice A7 nl.length c7) (.slice A6 u.length c6) (.slice A2 o3.length c2) (.slice A5 dl.length c5) nl u o3 dl := HasD.fill Do.out BD.out (fun j hj => Below.heap_setCell w1 ⟨gD, 3, none⟩ _ j hj)
  clear BL BD BR Do
  generalize w1.setCell ⟨gD, 3, none⟩ (.slice A5 dl.length c5) = w2 at b1 b2 b3 b4 ⊢
  have BL := Aside0.mk b1
  have BD := Aside0.mk b2
  have BR := Aside0.mk b3
  have Do := Aside0.mk b4
  clear b1 b2 b3 b4
  (try clear iD0 iD1 iD2 iD3 iD4 iD5); obtain ⟨iD0, iD1, iD2, iD3, iD4, iD5⟩ := blk6 BD.out; (try clear iR0 iR1 iR2 iR3 iR4 iR5); obtain ⟨iR0, iR1, iR2, iR3, iR4, iR5⟩ := blk6 BR.out; (try clear zD0 zD1 zD2 zD3 zD4 zD5); have zD0 := blk_frozen BD.out 0; have zD1 := blk_frozen BD.out 1; have zD2 := blk_frozen BD.out 2; have zD3 := blk_frozen BD.out 3; have zD4 := blk_frozen BD.out 4; have zD5 := blk_frozen BD.out 5; (try clear zR0 zR1 zR2 zR3 zR4 zR5); have zR0 := blk_frozen BR.out 0; have zR1 := blk_frozen BR.out 1; have zR2 := blk_frozen BR.out 2; have zR3 := blk_frozen BR.out 3; have zR4 := blk_frozen BR.out 4; have zR5 := blk_frozen BR.out 5
  go_wp2_with (first | (go_at_call 97; refine set1_calls BD.out (fun W hG hT hs hz => ?_); have BLW := (hT (Turned.refl _ (fun k => k = gD)) (.inl rfl)).below BL.out (fun k hk => by rw [hk]; exact GD.out) BL.out.size; replace Do := Aside0.mk (HasD.fill Do.out BD.out hs); replace BR := Aside0.mk ((hs gR RD.out).trans BR.out); clear hG hT hs hz; refine (cleanS_calls k w _ BLW Do.out HZ.out).mono ?_; clear BLW; rintro e w2 ⟨u0, u1, u2, u3, rfl, hD, hb, hk⟩; have BR2 := Aside0.mk ((hk.2 gR (blk_lt BR.out) (Do.out.nobox BR.out (by decide) (by decide) (by decide))).trans BR.out); obtain ⟨B0, b0, B1, b1, B2, b2, B3, b3, rfl, rfl, rfl, rfl⟩ := has_slices hD; clear BR BL BD Do; have BR := BR2; have BL := Aside0.mk hb; have Do := Aside0.mk hD; clear BR2 hD hb hk; clear iD0 iD1 iD2 iD3 iD4 iD5 zD0 zD1 zD2 zD3 zD4 zD5; (try clear iR0 iR1 iR2 iR3 iR4 iR5); obtain ⟨iR0, iR1, iR2, iR3, iR4, iR5⟩ := blk6 BR.out; (try clear zR0 zR1 zR2 zR3 zR4 zR5); have zR0 := blk_frozen BR.out 0; have zR1 := blk_frozen BR.out 1; have zR2 := blk_frozen BR.out 2; have zR3 := blk_frozen BR.out 3; have zR4 := blk_frozen BR.out 4; have zR5 := blk_frozen BR.out 5))
  refine bodyPost_ret (results_ct rfl _ _ gR 32 #[.slice B0 z1.length b0, .slice B1 z2.length b1, .slice B2 z3.length b2, .slice B3 z4.length b3, .int .i64 z5, .int .i64 z6] (0, 0) _ rfl (fill6_at BR.out) Tryz.underlying32 rfl (by kernel_rfl)) rfl ?_
  have hT := filled_told (.int .i64 z5) (.int .i64 z6) Do.out BR.out
  exact ⟨_, _, _, _, rfl, hT.1, hT.2.1, hT.2.2.1, hT.2.2.2, fill6_below BL.out GR.out⟩
  refine bodyPost_ret (results_ct rfl _ _ gR 32 #[.slice A0 o1.length c0, .slice A1 o2.length c1, .slice A2 o3.length c2, .slice A3 o4.length c3, .int .i64 o5, .int .i64 o6] (0, 0) _ rfl (fill6_at BR.out) Tryz.underlying32 rfl (by kernel_rfl)) rfl ?_
  have hT := filled_told (.int .i64 o5) (.int .i64 o6) Do.out BR.out
  exact ⟨_, _, _, _, rfl, hT.1, hT.2.1, hT.2.2.1, hT.2.2.2, fill6_below BL.out GR.out⟩

/-! ### impl_within: function 68 -/
def impl_within.f (a0 : Int) (a1 : Int) (a2 : Int) : Option (Bool) := if a0 ≥ a1 then (some (decide (a0 ≤ a2))) else (some false)
set_option maxHeartbeats 8000000 in
set_option maxRecDepth 100000 in
theorem impl_within.calls (a0 : Int) (a1 : Int) (a2 : Int) (r : Bool) (w : World) (h : impl_within.f a0 a1 a2 = some r) :
  Calls Tryz.prog 68 #[.int .i64 a0, .int .i64 a1, .int .i64 a2] w fun e w' => e = .returned (.bool r) ∧ Drawn0 w w' := by
 have H : (if a0 ≥ a1 then (some (decide (a0 ≤ a2))) else (some false)) = some r := h
 clear h
 by_cases c4 : a0 ≥ a1
 ·rw [if_pos c4] at H
  have c4b0 : decide (a1 ≤ a0) = true := decide_eq_true c4
  clear c4
  obtain rfl := Option.some.inj H
  go_enter Tryz.func68, Tryz.ntmps68
  go_wp2
  all_goals (go_ret)
  exact ⟨by first | rfl | (simp; done) | (simp [*]; done), by repeat (exact Drawn0.refl _)⟩
 ·rw [if_neg c4] at H
  have c4b0 : decide (a1 ≤ a0) = false := decide_eq_false c4
  clear c4
  obtain rfl := Option.some.inj H
  go_enter Tryz.func68, Tryz.ntmps68
  go_wp2
  all_goals (go_ret)
  exact ⟨by first | rfl | (simp; done) | (simp [*]; done), by repeat (exact Drawn0.refl _)⟩

/-! ### impl_isNumber: function 67 -/
def impl_isNumber.f (a0 : Int) : Option (Bool) := (impl_within.f a0 0 1000000000).bind fun t319 => (some t319)
set_option maxHeartbeats 8000000 in
set_option maxRecDepth 100000 in
theorem impl_isNumber.calls (a0 : Int) (r : Bool) (w : World) (h : impl_isNumber.f a0 = some r) :
  Calls Tryz.prog 67 #[.int .i64 a0] w fun e w' => e = .returned (.bool r) ∧ Drawn0 w w' := by
 have H : ((impl_within.f a0 0 1000000000).bind fun t319 => (some t319)) = some r := h
 clear h
 replace H := Option.bind_eq_some_iff.mp H
 obtain ⟨t319, A20, H⟩ := H
 replace H : (some t319) = some r := H
 have A2 := Aside0.mk A20
 clear A20
 obtain rfl := Option.some.inj H
 go_enter Tryz.func67, Tryz.ntmps67
 go_wp2_with (((with_reducible refine gate_callee (f := 68) rfl ?_); refine goesL_ (some 4) rfl rfl Tryz.func68 (by kernel_rfl) rfl #[.int .i64 a0, .int .i64 0, .int .i64 1000000000] rfl (by (try simp only [List.map_toArray, List.map_cons, List.map_nil]); rfl) ?_; (with_reducible refine (impl_within.calls a0 0 1000000000 t319 _ A2.out).mono ?_); rintro e w' ⟨rfl, ⟨nd, rfl⟩⟩; refine ⟨_, rfl, ?_⟩))
 all_goals (go_ret)
 exact ⟨by first | rfl | (simp; done) | (simp [*]; done), by repeat (first | exact Drawn0.refl _ | apply Drawn0.step)⟩

/-! ### impl_Disk_areNodes: function 69 -/
def inR (n low high : Int) : Bool := decide (low ≤ n) && decide (n ≤ high)
theorem within_any (n low high : Int) (w : World) : Calls Tryz.prog 68 #[.int .i64 n, .int .i64 low, .int .i64 high] w fun e w' => e = .returned (.bool (inR n low high)) ∧ ∃ q, w' = w.drewN q := by
  unfold inR
  by_cases h : low ≤ n
  · rw [decide_eq_true h, Bool.true_and]
    go_enter Tryz.func68, Tryz.ntmps68
    go_wp2
    go_ret
    exact ⟨rfl, 0, rfl⟩
  · rw [decide_eq_false h, Bool.false_and]
    go_enter Tryz.func68, Tryz.ntmps68
    go_wp2
    go_ret
    exact ⟨rfl, 0, rfl⟩
def nodeFine (next : Int) (prev : Option Int) (x : S57) : Bool := (match prev with | none => true | some p => !decide (x.f0 ≤ p)) && (inR x.f0 1 (wrap64 (next - 1)) && inR x.f2 0 (x.f1.size : Int))
def nodesFine (next : Int) : Option Int → List S57 → Bool
  | _, [] => true
  | p, x :: l => nodeFine next p x && nodesFine next (some x.f0) l
def prevN (l : List S57) : Nat → Option Int
  | 0 => none
  | k + 1 => some (rd_T57 l (k : Int)).f0
def impl_Disk_areNodes.f (l0_0 : List S57) (l0_1 : List S59) (l0_2 : List S59) (l0_3 : List ByteArray) (a0_4 : Int) (a0_5 : Int) : Option Bool := some (nodesFine a0_5 none l0_0 && decide ((l0_0.length : Int) ≤ 64))
set_option maxHeartbeats 2000000 in
set_option maxRecDepth 100000 in
theorem impl_Disk_areNodes.calls (A0_0 : Option Addr) (c0_0 : Nat) (l0_0 : List (S57)) (A0_1 : Option Addr) (c0_1 : Nat) (l0_1 : List (S59)) (A0_2 : Option Addr) (c0_2 : Nat) (l0_2 : List (S59)) (A0_3 : Option Addr) (c0_3 : Nat) (l0_3 : List ByteArray) (a0_4 : Int) (a0_5 : Int) (r : Bool) (w : World) (hr0_0 : Kd.C k57 w A0_0 l0_0.length l0_0) (hc0_0 : l0_0.length ≤ c0_0) (hr0_1 : Kd.C k59 w A0_1 l0_1.length l0_1) (hc0_1 : l0_1.length ≤ c0_1) (hr0_2 : Kd.C k59 w A0_2 l0_2.length l0_2) (hc0_2 : l0_2.length ≤ c0_2) (hr0_3 : Kd.C Kd.string w A0_3 l0_3.length l0_3) (hc0_3 : l0_3.length ≤ c0_3) (h : impl_Disk_areNodes.f l0_0 l0_1 l0_2 l0_3 a0_4 a0_5 = some r) :
    Calls Tryz.prog 69 #[.agg #[.slice A0_0 l0_0.length c0_0, .slice A0_1 l0_1.length c0_1, .slice A0_2 l0_2.length c0_2, .slice A0_3 l0_3.length c0_3, .int .i64 a0_4, .int .i64 a0_5]] w fun e w' => e = .returned (.bool r) ∧ Below w.heap.size w w' := by
  obtain rfl := Option.some.inj h
  have hmax := hr0_0.2.1
  have HR := Aside0.mk hr0_0
  clear h hr0_0 hc0_0 hr0_1 hc0_1 hr0_2 hc0_2 hr0_3 hc0_3
  go_enter Tryz.func69, Tryz.ntmps69
  go_wp2_with (((with_reducible refine gate_dst (N := 1) rfl ?_); refine box_event ?hg (N := 1) ?hd (cs := #[.slice A0_0 l0_0.length c0_0, .slice A0_1 l0_1.length c0_1, .slice A0_2 l0_2.length c0_2, .slice A0_3 l0_3.length c0_3, .int .i64 a0_4, .int .i64 a0_5]) (t := 32) ?hr ?_; (case hd => rfl); (case hg => rfl); (case hr => (go_simp; done)); intro g5 hg w1 hbox b5; have BK := Aside0.mk hbox; have B1 := Aside0.mk b5; have q0 : w1.cell? ⟨g5, 0, none⟩ = some (.slice A0_0 l0_0.length c0_0) := (blk_cell BK.out 0).trans rfl; clear hg hbox b5))
  go_loopg [8] l0_0.length (fun gg s8 wr => ∃ kk : Nat, kk ≤ l0_0.length ∧ l0_0.length - kk ≤ gg ∧ s8 = .int .i64 kk ∧ Aside0 (Below w.heap.size w wr) ∧ Aside0 (wr.heap[g5]? = some (.cells #[.slice A0_0 l0_0.length c0_0, .slice A0_1 l0_1.length c0_1, .slice A0_2 l0_2.length c0_2, .slice A0_3 l0_3.length c0_3, .int .i64 a0_4, .int .i64 a0_5] 32)) ∧ Aside0 (nodesFine a0_5 (prevN l0_0 kk) (l0_0.drop kk) = nodesFine a0_5 none l0_0))
  case atStart => exact ⟨0, Nat.zero_le _, by omega, rfl, B1, BK, ⟨rfl⟩⟩
  case round =>
    clear q0
    obtain ⟨kk, hkk, hg, rfl, BW, BK2, A⟩ := hrel
    clear B1 BK
    by_cases hlt : kk < l0_0.length
    · have hltz : (kk : Int) < (l0_0.length : Int) := by omega
      obtain ⟨ad, rfl, hx0, hx1, hx2⟩ := at_T57 (Kd.C_below HR.out BW.out) (kk : Int) (by omega) hltz
      rw [Int.toNat_natCast] at hx0 hx1 hx2
      have hd : l0_0.drop kk = rd_T57 l0_0 (kk : Int) :: l0_0.drop (kk + 1) := by
        rw [List.drop_eq_getElem_cons hlt]
        unfold rd_T57
        rw [Int.toNat_natCast, List.getD_eq_getElem?_getD, List.getElem?_eq_getElem hlt]; rfl
      have A2 := A.out
      rw [hd, nodesFine] at A2
      have A3 : (nodeFine a0_5 (prevN l0_0 kk) (rd_T57 l0_0 (kk : Int)) && nodesFine a0_5 (prevN l0_0 (kk + 1)) (l0_0.drop (kk + 1))) = nodesFine a0_5 none l0_0 := A2
      have AA := Aside0.mk A3
      clear A A2 A3 hd
      generalize rd_T57 l0_0 (kk : Int) = y at hx0 hx1 hx2 AA
      go_wp2_with (((with_reducible refine gate_dst (N := 4) rfl ?_); refine box_event ?hg (N := 4) ?hd (cs := #[.int .i64 0, .string (⟨#[]⟩ : ByteArray), .int .i64 0]) (t := 57) ?hr ?_; (case hd => rfl); (case hg => rfl); (case hr => (go_simp; done)); intro g6 hg6 w2 hbox b6; have N2 := Aside0.mk hbox; have S2 := Aside0.mk b6; have G6 := Aside0.mk hg6; have n0 : w2.cell? ⟨g6, 0, none⟩ = some (.int .i64 0) := (blk_cell N2.out 0).trans rfl; have n1 : w2.cell? ⟨g6, 1, none⟩ = some (.string (⟨#[]⟩ : ByteArray)) := (blk_cell N2.out 1).trans rfl; have n2 : w2.cell? ⟨g6, 2, none⟩ = some (.int .i64 0) := (blk_cell N2.out 2).trans rfl; have z0 := blk_frozen N2.out 0; have z1 := blk_frozen N2.out 1; have z2 := blk_frozen N2.out 2; clear hg6 hbox b6))
      refine gen_wp (R := fun W => Below w.heap.size w W ∧ W.heap[g5]? = some (.cells #[.slice (some ad) l0_0.length c0_0, .slice A0_1 l0_1.length c0_1, .slice A0_2 l0_2.length c0_2, .slice A0_3 l0_3.length c0_3, .int .i64 a0_4, .int .i64 a0_5] 32) ∧ W.heap[g6]? = some (.cells #[.int .i64 y.f0, .string y.f1, .int .i64 y.f2] 57)) ?_ ?_
      · have hg6 : g6 ≠ g5 := by have := blk_lt BK2.out; have := G6.out; omega
        have hge : w.heap.size ≤ g6 := by rw [G6.out]; exact BW.out.size
        have hb2 := BW.out.trans (S2.out.mono BW.out.size)
        have hk := (S2.out.block g5 (blk_lt BK2.out)).trans BK2.out
        refine ⟨below_set (below_set (below_set hb2 hge) hge) hge, blk_far (blk_far (blk_far hk (Ne.symm hg6) _) (Ne.symm hg6) _) (Ne.symm hg6) _, ?_⟩
        exact blk_put (cs := #[.int .i64 y.f0, .string y.f1, .int .i64 0]) (blk_put (cs := #[.int .i64 y.f0, .string (⟨#[]⟩ : ByteArray), .int .i64 0]) (blk_put (cs := #[.int .i64 0, .string (⟨#[]⟩ : ByteArray), .int .i64 0]) N2.out 0 _ rfl) 1 _ rfl) 2 _ rfl
      rintro W2 ⟨hB2, hK2, hN2⟩
      have BW2 := Aside0.mk hB2
      have BKd := Aside0.mk hK2
      have e0 : W2.cell? ⟨g5, 0, none⟩ = some (.slice (some ad) l0_0.length c0_0) := (blk_cell hK2 0).trans rfl
      have e5 : W2.cell? ⟨g5, 5, none⟩ = some (.int .i64 a0_5) := (blk_cell hK2 5).trans rfl
      have m0 : W2.cell? ⟨g6, 0, none⟩ = some (.int .i64 y.f0) := (blk_cell hN2 0).trans rfl
      have m1 : W2.cell? ⟨g6, 1, none⟩ = some (.string y.f1) := (blk_cell hN2 1).trans rfl
      have m2 : W2.cell? ⟨g6, 2, none⟩ = some (.int .i64 y.f2) := (blk_cell hN2 2).trans rfl
      clear hB2 hK2 hN2 n0 n1 n2 z0 z1 z2 N2 S2 G6 hx0 hx1 hx2 BK2 BW
      have WN2 := fun (w : World) => within_any y.f0 1 (wrap64 (a0_5 - 1)) w
      have WN3 := fun (w : World) => within_any y.f2 0 (y.f1.size : Int) w
      have A4 := AA.out
      unfold nodeFine at A4
      generalize inR y.f0 1 (wrap64 (a0_5 - 1)) = b2 at WN2 A4
      generalize inR y.f2 0 (y.f1.size : Int) = b3 at WN3 A4
      have hz5 : IntKind.i64.wrap (a0_5 - 1) = wrap64 (a0_5 - 1) := i64_w _
      have AB := Aside0.mk A4
      have H2 := Aside0.mk WN2
      have H3 := Aside0.mk WN3
      clear A4 AA WN2 WN3
      cases kk with
      | zero =>
        have AC := Aside0.mk (show (true && (b2 && b3) && nodesFine a0_5 (prevN l0_0 (0 + 1)) (l0_0.drop (0 + 1))) = nodesFine a0_5 none l0_0 from AB.out)
        clear AB
        cases b2 with
        | false =>
          go_quiet ((go_at_call 68; with_reducible exact Calls.quiet_of (H2.out _)))
          go_wp2
          go_ret
          exact ⟨by rw [← AC.out]; rfl, pw_below_drewN BW2.out _⟩
        | true =>
          cases b3 with
          | false =>
            go_quiet (first | (go_at_call 68; with_reducible exact Calls.quiet_of (H2.out _)) | (go_at_call 68; with_reducible exact Calls.quiet_of (H3.out _)))
            go_wp2
            go_ret
            exact ⟨by rw [← AC.out]; rfl, pw_below_drewN BW2.out _⟩
          | true =>
            go_quiet (first | (go_at_call 68; with_reducible exact Calls.quiet_of (H2.out _)) | (go_at_call 68; with_reducible exact Calls.quiet_of (H3.out _)))
            go_wp2
            go_roundg (l0_0.length - (0 + 1))
            case measure => omega
            case rel => exact ⟨0 + 1, by omega, by omega, by go_num, ⟨pw_below_drewN BW2.out _⟩, ⟨BKd.out⟩, ⟨AC.out⟩⟩
      | succ j =>
        have hw1 : IntKind.i64.wrap ((j : Int) + 1 - 1) = (j : Int) := by rw [show (j : Int) + 1 - 1 = (j : Int) by omega, IntKind.wrap_i64]; omega
        have hj0 : (0 : Int) ≤ (j : Int) := by omega
        have hjl : (j : Int) < (l0_0.length : Int) := by omega
        obtain ⟨ad2, e2, hv0, hv1, hv2⟩ := at_T57 (Kd.C_below HR.out BW2.out) (j : Int) hj0 hjl
        cases e2
        rw [Int.toNat_natCast] at hv0 hv1 hv2
        clear hv1 hv2
        have AC := Aside0.mk (show (!decide (y.f0 ≤ (rd_T57 l0_0 (j : Int)).f0) && (b2 && b3) && nodesFine a0_5 (prevN l0_0 (j + 1 + 1)) (l0_0.drop (j + 1 + 1))) = nodesFine a0_5 none l0_0 from AB.out)
        clear AB
        generalize (rd_T57 l0_0 (j : Int)).f0 = p0 at hv0 AC
        by_cases hle : y.f0 ≤ p0
        · rw [decide_eq_true hle] at AC
          have hle' : decide (y.f0 ≤ p0) = true := decide_eq_true hle
          clear hle
          go_quiet (first | (go_at_call 68; with_reducible exact Calls.quiet_of (H2.out _)) | (go_at_call 68; with_reducible exact Calls.quiet_of (H3.out _)))
          go_wp2
          go_ret
          exact ⟨by rw [← AC.out]; rfl, pw_below_drewN BW2.out _⟩
        · rw [decide_eq_false hle] at AC
          have hle' : decide (y.f0 ≤ p0) = false := decide_eq_false hle
          clear hle
          cases b2 with
          | false =>
            go_quiet ((go_at_call 68; with_reducible exact Calls.quiet_of (H2.out _)))
            go_wp2
            go_ret
            exact ⟨by rw [← AC.out]; rfl, pw_below_drewN BW2.out _⟩
          | true =>
            cases b3 with
            | false =>
              go_quiet (first | (go_at_call 68; with_reducible exact Calls.quiet_of (H2.out _)) | (go_at_call 68; with_reducible exact Calls.quiet_of (H3.out _)))
              go_wp2
              go_ret
              exact ⟨by rw [← AC.out]; rfl, pw_below_drewN BW2.out _⟩
            | true =>
              go_quiet (first | (go_at_call 68; with_reducible exact Calls.quiet_of (H2.out _)) | (go_at_call 68; with_reducible exact Calls.quiet_of (H3.out _)))
              go_wp2
              go_roundg (l0_0.length - (j + 1 + 1))
              case measure => omega
              case rel => exact ⟨j + 1 + 1, by omega, by omega, by go_num, ⟨pw_below_drewN BW2.out _⟩, ⟨BKd.out⟩, ⟨AC.out⟩⟩
    · have hltz : ¬ (kk : Int) < (l0_0.length : Int) := by omega
      have A2 := A.out
      rw [List.drop_of_length_le (by omega), nodesFine] at A2
      have e0 : wr.cell? ⟨g5, 0, none⟩ = some (.slice A0_0 l0_0.length c0_0) := (blk_cell BK2.out 0).trans rfl
      have A3 := Aside0.mk A2
      clear A A2
      go_wp2
      go_ret
      exact ⟨by rw [← A3.out, Bool.true_and]; rfl, BW.out⟩

/-! ### impl_UsedOn: function 70 -/
def impl_UsedOn.l0 : Nat → Int → List (S57) → Int → Int → Option (Int)
 | 0, _, _, _, _ => none
 | k + 1, x3, x7, x8, x9 => if x9 < x8 then (if 0 ≤ x9 then (if x9 < (x7.length : Int) then (impl_UsedOn.l0 k (wrap64 (x3 + (((rd_T57 x7 x9).f1).size : Int))) x7 x8 (wrap64 (x9 + 1))) else (none)) else (none)) else (some x3)
def impl_UsedOn.f (k : Nat) (l0_0 : List (S57)) (l0_1 : List (S59)) (l0_2 : List (S59)) (l0_3 : List ByteArray) (a0_4 : Int) (a0_5 : Int) : Option (Int) := impl_UsedOn.l0 k 0 l0_0 (l0_0.length : Int) 0
theorem impl_UsedOn.mono_l : ∀ k, (∀ y0 y1 y2 y3, LeO (impl_UsedOn.l0 k y0 y1 y2 y3) (impl_UsedOn.l0 (k + 1) y0 y1 y2 y3))
 | 0 => fun _ _ _ _ r h => by simp [impl_UsedOn.l0] at h
 | k + 1 => by
  have ih0 := impl_UsedOn.mono_l k
  ·intro y0 y1 y2 y3
   unfold impl_UsedOn.l0
   repeat' first | (with_reducible exact ih0 _ _ _ _) | (with_reducible exact LeO.refl _) | (with_reducible refine LeO.ite ?_ ?_)
theorem impl_UsedOn.mono : ∀ a0 a1 a2 a3 a4 a5 k, LeO (impl_UsedOn.f k a0 a1 a2 a3 a4 a5) (impl_UsedOn.f (k + 1) a0 a1 a2 a3 a4 a5) := by
 intro a0 a1 a2 a3 a4 a5 k
 have ih0 := impl_UsedOn.mono_l k
 unfold impl_UsedOn.f
 repeat' (with_reducible exact ih0 _ _ _ _)
set_option maxHeartbeats 8000000 in
set_option maxRecDepth 100000 in
theorem impl_UsedOn.calls (k : Nat) (A0_0 : Option Addr) (c0_0 : Nat) (l0_0 : List (S57)) (A0_1 : Option Addr) (c0_1 : Nat) (l0_1 : List (S59)) (A0_2 : Option Addr) (c0_2 : Nat) (l0_2 : List (S59)) (A0_3 : Option Addr) (c0_3 : Nat) (l0_3 : List ByteArray) (a0_4 : Int) (a0_5 : Int) (r : Int) (w : World) (hr0_0 : Kd.C k57 w A0_0 l0_0.length l0_0) (hc0_0 : l0_0.length ≤ c0_0) (hr0_1 : Kd.C k59 w A0_1 l0_1.length l0_1) (hc0_1 : l0_1.length ≤ c0_1) (hr0_2 : Kd.C k59 w A0_2 l0_2.length l0_2) (hc0_2 : l0_2.length ≤ c0_2) (hr0_3 : Kd.C Kd.string w A0_3 l0_3.length l0_3) (hc0_3 : l0_3.length ≤ c0_3) (h : impl_UsedOn.f k l0_0 l0_1 l0_2 l0_3 a0_4 a0_5 = some r) :
  Calls Tryz.prog 70 #[.agg #[.slice A0_0 l0_0.length c0_0, .slice A0_1 l0_1.length c0_1, .slice A0_2 l0_2.length c0_2, .slice A0_3 l0_3.length c0_3, .int .i64 a0_4, .int .i64 a0_5]] w fun e w' => e = .returned (.int .i64 r) ∧ Below w.heap.size w w' := by
 have HR0_0 := Aside0.mk hr0_0
 clear hr0_0 hc0_0
 clear hr0_1 hc0_1
 clear hr0_2 hc0_2
 clear hr0_3 hc0_3
 have HB := Aside0.mk (Below.refl w.heap.size w)
 have H : (impl_UsedOn.l0 k 0 l0_0 (l0_0.length : Int) 0) = some r := h
 clear h
 have H' := Aside0.mk H
 clear H
 go_enter Tryz.func70, Tryz.ntmps70
 go_wp2_with (((with_reducible refine gate_dst (N := 1) rfl ?_); refine box_event ?hg (N := 1) ?hd (cs := #[.slice A0_0 l0_0.length c0_0, .slice A0_1 l0_1.length c0_1, .slice A0_2 l0_2.length c0_2, .slice A0_3 l0_3.length c0_3, .int .i64 a0_4, .int .i64 a0_5]) (t := 32) ?hr ?_; (case hd => rfl); (case hg => rfl); (case hr => (go_simp; done)); intro gb320 hg w2 hbox hb; have BK320 := Aside0.mk (hbox); replace HB := Aside0.mk (below_step HB.out hb); clear hb hbox hg; have hcz3_0 : w2.cell? ⟨gb320, 0, none⟩ = some (.slice A0_0 l0_0.length c0_0) := (blk_cell BK320.out 0).trans rfl; skip))
 go_loopg [3, 9] k (fun kq v3 v9 w' => ∃ (x3_1 : Int) (x9_1 : Int), v3 = .int .i64 x3_1 ∧ v9 = .int .i64 x9_1 ∧ Aside0 (impl_UsedOn.l0 kq x3_1 l0_0 (l0_0.length : Int) x9_1 = some r) ∧ Aside0 (kq ≤ k) ∧ Aside0 (w'.heap[gb320]? = some (.cells #[(.slice A0_0 l0_0.length c0_0), (.slice A0_1 l0_1.length c0_1), (.slice A0_2 l0_2.length c0_2), (.slice A0_3 l0_3.length c0_3), .int .i64 a0_4, .int .i64 a0_5] 32 (0, 0))) ∧ Aside0 (Below w.heap.size w w'))
 case atStart => exact ⟨(0), (0), (by rfl), (by rfl), H', ⟨Nat.le_refl _⟩, ⟨by exact BK320.out⟩, ⟨by repeat (with_reducible exact HB.out)⟩⟩
 case round =>
  clear H'
  try clear p2
  try clear hcz3_0
  try skip
  try skip
  try skip
  try skip
  try skip
  try skip
  try skip
  try skip
  try skip
  try skip
  try skip
  obtain ⟨x3_1, x9_1, rfl, rfl, HA, HK1, BK320, HB⟩ := hrel
  cases gk with
  | zero => exact absurd HA.out (by simp [impl_UsedOn.l0])
  | succ k1 =>
   have H := HA.out
   clear HA
   simp only [impl_UsedOn.l0] at H
   by_cases c4 : x9_1 < (l0_0.length : Int)
   ·rw [if_pos c4] at H
    have c4b0 : decide (x9_1 < (l0_0.length : Int)) = true := decide_eq_true c4
    clear c4
    by_cases c5 : 0 ≤ x9_1
    ·rw [if_pos c5] at H
     have c5b0 : decide (0 ≤ x9_1) = true := decide_eq_true c5
     clear c5
     by_cases c6 : x9_1 < (l0_0.length : Int)
     ·rw [if_pos c6] at H
      have c6b0 : decide (x9_1 < (l0_0.length : Int)) = true := decide_eq_true c6
      clear c6
      have H' := Aside0.mk H
      clear H
      have p321 : 0 ≤ (x9_1 : Int) := of_decide_eq_true (by (with_reducible assumption))
      have q321 : x9_1 < (l0_0.length : Int) := of_decide_eq_true (by (with_reducible assumption))
      obtain ⟨ad321, e321, hx321_0, hx321_1, hx321_2⟩ := at_T57 HR0_0.out x9_1 p321 q321
      cases e321
      replace hx321_0 := (HB.out.cell (World.block_lt_of_cell? w _ hx321_0)).trans hx321_0
      replace hx321_1 := (HB.out.cell (World.block_lt_of_cell? w _ hx321_1)).trans hx321_1
      replace hx321_2 := (HB.out.cell (World.block_lt_of_cell? w _ hx321_2)).trans hx321_2
      replace p321 := eq_true p321
      replace q321 := eq_true q321
      go_wp2_with (((with_reducible refine gate_dst (N := 5) rfl ?_); refine box_event ?hg (N := 5) ?hd (cs := #[.int .i64 0, .string (⟨#[]⟩ : ByteArray), .int .i64 0]) (t := 57) ?hr ?_; (case hd => rfl); (case hg => rfl); (case hr => (go_simp; done)); intro gb322 hg w7 hbox hb; have BK322 := Aside0.mk (hbox); have GE322 := Aside0.mk ((by rw [hg]; exact (below_size HB.out) : w.heap.size ≤ gb322)); have NB320_322 := Aside0.mk ((by rw [hg]; exact Nat.ne_of_lt (blk_lt BK320.out) : gb320 ≠ gb322)); replace BK320 := Aside0.mk (bB hb BK320.out); replace HB := Aside0.mk (below_step HB.out hb); clear hb hbox hg; have hcz9_0 : w7.cell? ⟨gb322, 0, none⟩ = some (.int .i64 0) := (blk_cell BK322.out 0).trans rfl; have hcz9_1 : w7.cell? ⟨gb322, 1, none⟩ = some (.string (⟨#[]⟩ : ByteArray)) := (blk_cell BK322.out 1).trans rfl; have hcz9_2 : w7.cell? ⟨gb322, 2, none⟩ = some (.int .i64 0) := (blk_cell BK322.out 2).trans rfl; have hfz9_0 := blk_frozen BK322.out 0; have hfz9_1 := blk_frozen BK322.out 1; have hfz9_2 := blk_frozen BK322.out 2))
      go_roundg k1
      case measure => have := HK1.out; omega
      case rel => exact ⟨(wrap64 (x3_1 + (((rd_T57 l0_0 x9_1).f1).size : Int))), (wrap64 (x9_1 + 1)), (by rfl), (by rfl), H', ⟨by have := HK1.out; omega⟩, ⟨by refine blk_far ?_ NB320_322.out _; refine blk_far ?_ NB320_322.out _; refine blk_far ?_ NB320_322.out _; exact BK320.out⟩, ⟨by repeat (with_reducible first | exact HB.out | refine below_set ?_ GE322.out)⟩⟩
     ·rw [if_neg c6] at H
      exact absurd H (by simp)
    ·rw [if_neg c5] at H
     exact absurd H (by simp)
   ·rw [if_neg c4] at H
    have c4b0 : decide (x9_1 < (l0_0.length : Int)) = false := decide_eq_false c4
    clear c4
    obtain rfl := Option.some.inj H
    go_wp2
    all_goals (go_ret)
    all_goals exact ⟨by first | rfl | (simp [errW_none, errW_some] <;> rfl) | (simp [*, errW_none, errW_some] <;> rfl) | (exfalso; simp only [decide_eq_true_eq, decide_eq_false_iff_not] at *; omega), by repeat (with_reducible exact HB.out)⟩

/-! ### impl_Entry_71: function 71 -/
set_option maxHeartbeats 2000000 in
theorem cloneE (A0 : Option Addr) (c0 : Nat) (l0 : List S59) (w : World) (hr : Kd.C k59 w A0 l0.length l0) (hb : l0.length * 24 ≤ 140737488355328) :
    Calls Tryz.prog 71 #[.slice A0 l0.length c0] w fun e w' => ∃ v, e = .returned v ∧ Kd.R k59 59 w' w.heap.size (fun _ => True) v l0 ∧ Below w.heap.size w w' := by
  have q22 : ∀ (w : World) (a : Option Addr) (n c n' c' : Nat), (binOp .eql 30 (.slice a n c) (.slice none n' c')).run Tryz.prog w = .ok (.bool a.isNone) w := fun w a n c n' c' => Lib.run_eql_slice_nil w _ _ a n c n' c' Tryz.underlying30
  have HR := Aside0.mk hr
  cases A0 with
  | none =>
    have h0 : l0 = [] := by
      rcases Nat.eq_zero_or_pos l0.length with h | h
      · exact List.eq_nil_of_length_eq_zero h
      · obtain ⟨ad, e, _⟩ := hr.2.2 h
        cases e
    subst h0
    clear hr
    go_enter Tryz.func71, Tryz.ntmps71
    go_wp2
    go_ret
    exact ⟨_, rfl, Kd.R_nil _ _ _ _ _, Below.refl _ _⟩
  | some ad =>
    clear hr
    go_enter Tryz.func71, Tryz.ntmps71
    go_wp2_with (at_builtin; refine Kd.R_append_rows k59 (w0 := w) w.heap.size rfl _ _ 30 59 (.agg #[(.string ⟨#[]⟩), (.int .i64 0)]) 24 rfl Tryz.underlying30 info59 rfl (by decide) (by decide) (.slice (some ⟨w.heap.size, 0, none⟩) 0 0) [] l0 (some ad) l0.length c0 (fun _ => True) (fun _ => False) rfl rfl ⟨fun _ _ => trivial, [], World.ownsRow_made w #[] 0 (Nat.le_refl _) (Nat.zero_le _) (by simp), Reps.none _ _⟩ (Kd.C_alloc HR.out _) (fun x cs h => by obtain rfl := k59_open h; exact k59_mkM _ _ _ x) (fun _ h => h.elim) (fun _ _ => trivial) (below_alloc (Below.refl _ _) _) (by simp) (by simpa using hb) ?_; intro v1 w1 hO hb1 hg hat)
    go_wp2
    go_ret
    exact ⟨v1, rfl, by simpa using hO, hb1⟩
def impl_Entry_71.f (l0 : List S59) : Option (List S59) := if l0.length * 24 ≤ 140737488355328 then some l0 else none
theorem impl_Entry_71.calls (A0 : Option Addr) (c0 : Nat) (l0 : List S59) (r : List S59) (w : World) (hr0 : Kd.C k59 w A0 l0.length l0) (hc0 : l0.length ≤ c0) (h : impl_Entry_71.f l0 = some r) :
    Calls Tryz.prog 71 #[.slice A0 l0.length c0] w fun e w' => ∃ v0_ : Value, e = .returned v0_ ∧ Kd.R k59 59 w' w.heap.size (fun _ => True) v0_ r ∧ Below w.heap.size w w' := by
  unfold impl_Entry_71.f at h
  by_cases hz : l0.length * 24 ≤ 140737488355328
  · rw [if_pos hz] at h
    obtain rfl := Option.some.inj h
    exact cloneE A0 c0 l0 w hr0 hz
  · rw [if_neg hz] at h; cases h

/-! ### impl_Disk_nodeOf: function 93 -/
def idxOf {α : Type} (p : α → Bool) : List α → Nat → Int
  | [], _ => -1
  | x :: l, i => if p x = true then (i : Int) else idxOf p l (i + 1)
set_option maxHeartbeats 2000000 in
theorem idxNode (g : Nat) (lb : Array Value) (p : S57 → Bool) (eg : ∀ args w, (callFunc g args).run Tryz.prog w = .ok (.enter g args) w)
    (A0 : Option Addr) (c0 : Nat) (l0 : List S57) (w : World) (hr : Kd.C k57 w A0 l0.length l0)
    (hp : ∀ (W : World) (x : S57), Below w.heap.size w W → Calls Tryz.prog g (#[.agg #[.int .i64 x.f0, .string x.f1, .int .i64 x.f2]] ++ lb) W fun e w' => e = .returned (.bool (p x)) ∧ Below w.heap.size w w') :
    Calls Tryz.prog 139 #[.slice A0 l0.length c0, .func (.func g) #[] lb] w fun e w' => e = .returned (.int .i64 (idxOf p l0 0)) ∧ Below w.heap.size w w' := by
  have hmax := hr.2.1
  have HR := Aside0.mk hr
  clear hr
  go_enter Tryz.func139, Tryz.ntmps139
  go_wp2
  go_loopg [5, 8] l0.length (fun gg _ s8 wr => ∃ kk : Nat, kk ≤ l0.length ∧ l0.length - kk ≤ gg ∧ s8 = .int .i64 kk ∧ Aside0 (Below w.heap.size w wr) ∧ Aside0 (idxOf p (l0.drop kk) kk = idxOf p l0 0))
  case atStart => exact ⟨0, Nat.zero_le _, by omega, rfl, ⟨Below.refl _ w⟩, ⟨rfl⟩⟩
  case round =>
    obtain ⟨kk, hkk, hg, rfl, BW, A⟩ := hrel
    by_cases hlt : kk < l0.length
    · have hltz : (kk : Int) < (l0.length : Int) := by omega
      obtain ⟨ad, rfl, hx0, hx1, hx2⟩ := at_T57 (Kd.C_below HR.out BW.out) (kk : Int) (by omega) hltz
      rw [Int.toNat_natCast] at hx0 hx1 hx2
      have hd : l0.drop kk = rd_T57 l0 (kk : Int) :: l0.drop (kk + 1) := by
        rw [List.drop_eq_getElem_cons hlt]
        unfold rd_T57
        rw [Int.toNat_natCast, List.getD_eq_getElem?_getD, List.getElem?_eq_getElem hlt]; rfl
      have hcall := hp wr (rd_T57 l0 (kk : Int)) BW.out
      have A2 := A.out
      rw [hd, idxOf] at A2
      clear hp hd A
      generalize rd_T57 l0 (kk : Int) = y at hx0 hx1 hx2 hcall A2
      cases hq : p y with
      | true =>
        rw [hq] at hcall
        rw [hq, if_pos rfl] at A2
        have A3 := Aside0.mk A2
        clear A2
        go_wp2_with (go_at_fn g; refine hcall.mono ?_; rintro e w' ⟨rfl, hb'⟩)
        go_ret
        exact ⟨by rw [← A3.out]; rfl, hb'⟩
      | false =>
        rw [hq] at hcall
        rw [hq, if_neg (by decide)] at A2
        have A3 := Aside0.mk A2
        clear A2
        go_wp2_with (go_at_fn g; refine hcall.mono ?_; rintro e w' ⟨rfl, hb'⟩)
        go_roundg (l0.length - (kk + 1))
        case measure => omega
        case rel => exact ⟨kk + 1, by omega, by omega, by go_num, ⟨hb'⟩, A3⟩
    · have hltz : ¬ (kk : Int) < (l0.length : Int) := by omega
      have A2 := A.out
      rw [List.drop_of_length_le (by omega), idxOf] at A2
      have A3 := Aside0.mk A2
      clear hp A A2
      go_wp2
      go_ret
      exact ⟨by rw [← A3.out]; rfl, BW.out⟩
theorem impl_Disk_nodeOf_lit (a1 : Int) (B : Nat) (w : World) (hB : B < w.heap.size) (hcell : w.cell? ⟨B, 0, none⟩ = some (.int .i64 a1)) (W : World) (x : S57) (hb : Below w.heap.size w W) :
    Calls Tryz.prog 140 (#[.agg #[.int .i64 x.f0, .string x.f1, .int .i64 x.f2]] ++ #[.pointer (some ⟨B, 0, none⟩)]) W fun e w' => e = .returned (.bool (x.f0 == a1)) ∧ Below w.heap.size w w' := by
  have hc : W.cell? ⟨B, 0, none⟩ = some (.int .i64 a1) := (hb.cell (p := ⟨B, 0, none⟩) hB).trans hcell
  have hBW : B < W.heap.size := Nat.lt_of_lt_of_le hB hb.size
  show Calls Tryz.prog 140 #[.agg #[.int .i64 x.f0, .string x.f1, .int .i64 x.f2], .pointer (some ⟨B, 0, none⟩)] W _
  go_enter Tryz.func140, Tryz.ntmps140
  go_wp2
  all_goals (go_ret; exact ⟨by simp_all, hb.alloc hb.size _⟩)
def impl_Disk_nodeOf.f (l0_0 : List S57) (l0_1 : List S59) (l0_2 : List S59) (l0_3 : List ByteArray) (a0_4 : Int) (a0_5 : Int) (a1 : Int) : Option Int := some (idxOf (fun x : S57 => x.f0 == a1) l0_0 0)
theorem impl_Disk_nodeOf.calls (A0_0 : Option Addr) (c0_0 : Nat) (l0_0 : List (S57)) (A0_1 : Option Addr) (c0_1 : Nat) (l0_1 : List (S59)) (A0_2 : Option Addr) (c0_2 : Nat) (l0_2 : List (S59)) (A0_3 : Option Addr) (c0_3 : Nat) (l0_3 : List ByteArray) (a0_4 : Int) (a0_5 : Int) (a1 : Int) (r : Int) (w : World) (hr0_0 : Kd.C k57 w A0_0 l0_0.length l0_0) (hc0_0 : l0_0.length ≤ c0_0) (hr0_1 : Kd.C k59 w A0_1 l0_1.length l0_1) (hc0_1 : l0_1.length ≤ c0_1) (hr0_2 : Kd.C k59 w A0_2 l0_2.length l0_2) (hc0_2 : l0_2.length ≤ c0_2) (hr0_3 : Kd.C Kd.string w A0_3 l0_3.length l0_3) (hc0_3 : l0_3.length ≤ c0_3) (h : impl_Disk_nodeOf.f l0_0 l0_1 l0_2 l0_3 a0_4 a0_5 a1 = some r) :
    Calls Tryz.prog 93 #[.agg #[.slice A0_0 l0_0.length c0_0, .slice A0_1 l0_1.length c0_1, .slice A0_2 l0_2.length c0_2, .slice A0_3 l0_3.length c0_3, .int .i64 a0_4, .int .i64 a0_5], .int .i64 a1] w fun e w' => e = .returned (.int .i64 r) ∧ Below w.heap.size w w' := by
  obtain rfl := Option.some.inj h
  have eg : ∀ args w, (callFunc 140 args).run Tryz.prog w = .ok (.enter 140 args) w := enters_of Tryz.func140 (by kernel_rfl) rfl
  have hb0 : Below w.heap.size w ((w.alloc (.cells #[.slice A0_0 l0_0.length c0_0, .slice A0_1 l0_1.length c0_1, .slice A0_2 l0_2.length c0_2, .slice A0_3 l0_3.length c0_3, .int .i64 a0_4, .int .i64 a0_5] 32)).alloc (.cells #[.int .i64 a1] 3)) := ((Below.refl _ w).alloc (Nat.le_refl _) _).alloc (by simp) _
  have hcon := idxNode 140 #[.pointer (some ⟨w.heap.size + 1, 0, none⟩)] (fun x : S57 => x.f0 == a1) eg A0_0 c0_0 l0_0 _ (Kd.C_below hr0_0 hb0)
    (fun W x hb => impl_Disk_nodeOf_lit a1 (w.heap.size + 1) _ (by simp) (by simp) W x hb)
  clear hr0_0 hr0_1 hr0_2 hr0_3 h
  generalize idxOf (fun x : S57 => x.f0 == a1) l0_0 0 = r at hcon ⊢
  go_enter Tryz.func93, Tryz.ntmps93
  go_wp2_with (go_at_call 139; refine hcon.mono ?_; rintro e w' ⟨rfl, hb'⟩)
  go_ret
  exact ⟨rfl, hb0.trans (hb'.mono (by simp; omega))⟩

end Go.Proofs.YtbcidclclckgfaaGreatDoor.MFnExactCreateFile
