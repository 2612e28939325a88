/- Each theorem here says that a call of one Go function answers what the Lean function beside it answers; its conditions stand in it. Written by a program of this session. -/
import Derived.Test.YtbcidclclckgfaaGreatDoorMFnExactCouldFallx0
import Derived.Test.YtbcidclclckgfaaGreatDoorMFnExactCouldFallx6
import Derived.Test.YtbcidclclckgfaaGreatDoorMFnExactCouldFallx9
import Derived.Test.YtbcidclclckgfaaGreatDoorMFnExactCouldFallx10
import Derived.Test.YtbcidclclckgfaaGreatDoorMFnExactCouldFallx11
namespace Go.Proofs.YtbcidclclckgfaaGreatDoor.MFnExactCouldFall
open Go.RowKit Go.Proofs.YtbcidclclckgfaaGreatDoorW.PrintWords Go.Proofs.YtbcidclclckgfaaGreatDoorW.PrintLast Go.Proofs.YtbcidclclckgfaaGreatDoorW.PrintMore
attribute [local go_sem] max2_int min2_int max_two min_two max_three min_three max_four min_four   -- for this text's walks alone
set_option linter.unusedVariables false
set_option linter.unusedSimpArgs false

/-! ### spec_Fallen: function 32 -/
/-! ### Disks in memory that a law holds -/
theorem blk6 {w : World} {g : Nat} {t : TypeId} {a b c d e f : Value} (h : w.heap[g]? = some (.cells #[a, b, c, d, e, f] t (0, 0))) :
    w.cell? ⟨g, 0, none⟩ = some a ∧ w.cell? ⟨g, 1, none⟩ = some b ∧ w.cell? ⟨g, 2, none⟩ = some c ∧ w.cell? ⟨g, 3, none⟩ = some d ∧ w.cell? ⟨g, 4, none⟩ = some e ∧ w.cell? ⟨g, 5, none⟩ = some f :=
  ⟨(blk_cell h 0).trans rfl, (blk_cell h 1).trans rfl, (blk_cell h 2).trans rfl, (blk_cell h 3).trans rfl, (blk_cell h 4).trans rfl, (blk_cell h 5).trans rfl⟩
def ownD (v0 v1 v2 v3 : Value) (k : Nat) : Prop := some k = v0.ownBlock ∨ some k = v1.ownBlock ∨ some k = v2.ownBlock ∨ some k = v3.ownBlock
structure HasD (W : World) (base : Nat) (v0 v1 v2 v3 : Value) (a : List S57) (b c : List S59) (d : List ByteArray) : Prop where
  r0 : Kd.R k57 57 W base (fun k => some k = v0.ownBlock) v0 a
  r1 : Kd.R k59 59 W base (fun k => some k = v1.ownBlock) v1 b
  r2 : Kd.R k59 59 W base (fun k => some k = v2.ownBlock) v2 c
  r3 : Kd.R Kd.string 9 W base (fun k => some k = v3.ownBlock) v3 d
  ne : ∀ k, some k = v1.ownBlock → ¬ some k = v2.ownBlock
theorem HasD.of {W : World} {base : Nat} {v0 v1 v2 v3 : Value} {a : List S57} {b c : List S59} {d : List ByteArray} {p0 p2 p3 : Nat → Prop}
    (h0 : Kd.R k57 57 W base p0 v0 a) (h1 : Kd.R k59 59 W base (fun k_ => some k_ ≠ v2.ownBlock) v1 b) (h2 : Kd.R k59 59 W base p2 v2 c) (h3 : Kd.R Kd.string 9 W base p3 v3 d) : HasD W base v0 v1 v2 v3 a b c d :=
  ⟨Kd.R_tight rfl h0, Kd.R_tight rfl h1, Kd.R_tight rfl h2, Kd.R_tight rfl h3, fun k hk => h1.1 k hk.symm⟩
section
variable {W W' : World} {base : Nat} {v0 v1 v2 v3 : Value} {a : List S57} {b c : List S59} {d : List ByteArray}
theorem HasD.step (h : HasD W base v0 v1 v2 v3 a b c d) (hm : ∀ k, ownD v0 v1 v2 v3 k → k < W.heap.size → W'.heap[k]? = W.heap[k]?) : HasD W' base v0 v1 v2 v3 a b c d :=
  ⟨Kd.R_step h.r0 fun k hk hl => hm k (.inl hk) hl, Kd.R_step h.r1 fun k hk hl => hm k (.inr (.inl hk)) hl, Kd.R_step h.r2 fun k hk hl => hm k (.inr (.inr (.inl hk))) hl, Kd.R_step h.r3 fun k hk hl => hm k (.inr (.inr (.inr hk))) hl, h.ne⟩
theorem HasD.on (h : HasD W base v0 v1 v2 v3 a b c d) (hb : Below W.heap.size W W') : HasD W' base v0 v1 v2 v3 a b c d := h.step fun k _ hl => hb.block k hl
theorem HasD.kept (h : HasD W base v0 v1 v2 v3 a b c d) {S : Nat → Prop} (hk : Kept W W' S) (hne : ∀ k, ownD v0 v1 v2 v3 k → ¬ S k) : HasD W' base v0 v1 v2 v3 a b c d := h.step fun k ho hl => hk.2 k hl (hne k ho)
theorem HasD.lt (h : HasD W base v0 v1 v2 v3 a b c d) : ∀ k, ownD v0 v1 v2 v3 k → k < W.heap.size := fun k hk => by
  rcases hk with hk | hk | hk | hk
  · exact Kd.R_lt h.r0 k hk.symm
  · exact Kd.R_lt h.r1 k hk.symm
  · exact Kd.R_lt h.r2 k hk.symm
  · exact Kd.R_lt h.r3 k hk.symm
theorem HasD.lower (h : HasD W base v0 v1 v2 v3 a b c d) {base' : Nat} (hb : base' ≤ base) : HasD W base' v0 v1 v2 v3 a b c d := ⟨Kd.R_lower h.r0 hb, Kd.R_lower h.r1 hb, Kd.R_lower h.r2 hb, Kd.R_lower h.r3 hb, h.ne⟩
end
theorem HasD.nobox {W : World} {base : Nat} {v0 v1 v2 v3 : Value} {a : List S57} {b c : List S59} {d : List ByteArray} (h : HasD W base v0 v1 v2 v3 a b c d) {g t : Nat} {cs : Array Value} (hb : W.heap[g]? = some (.cells cs t (0, 0))) (hN : 57 ≠ t) (hE : 59 ≠ t) (hS : 9 ≠ t) : ¬ ownD v0 v1 v2 v3 g := fun hk => by
  rcases hk with hk | hk | hk | hk
  · exact Kd.R_ne h.r0 hb hN hk
  · exact Kd.R_ne h.r1 hb hE hk
  · exact Kd.R_ne h.r2 hb hE hk
  · exact Kd.R_ne h.r3 hb hS hk
/-! ### A disk's six cells laid one by one -/
section
variable {w : World} {g : Nat} {t : TypeId} {x0 x1 x2 x3 x4 x5 a b c d e f : Value}
theorem fill6_at (h : w.heap[g]? = some (.cells #[x0, x1, x2, x3, x4, x5] t (0, 0))) : ((((((w.setCell ⟨g, 0, none⟩ a).setCell ⟨g, 1, none⟩ b).setCell ⟨g, 2, none⟩ c).setCell ⟨g, 3, none⟩ d).setCell ⟨g, 4, none⟩ e).setCell ⟨g, 5, none⟩ f).heap[g]? = some (.cells #[a, b, c, d, e, f] t (0, 0)) :=
  blk_put (cs := #[a, b, c, d, e, x5]) (blk_put (cs := #[a, b, c, d, x4, x5]) (blk_put (cs := #[a, b, c, x3, x4, x5]) (blk_put (cs := #[a, b, x2, x3, x4, x5]) (blk_put (cs := #[a, x1, x2, x3, x4, x5]) (blk_put (cs := #[x0, x1, x2, x3, x4, x5]) h 0 _ rfl) 1 _ rfl) 2 _ rfl) 3 _ rfl) 4 _ rfl) 5 _ rfl
theorem fill6_far {j : Nat} (hj : j ≠ g) : ((((((w.setCell ⟨g, 0, none⟩ a).setCell ⟨g, 1, none⟩ b).setCell ⟨g, 2, none⟩ c).setCell ⟨g, 3, none⟩ d).setCell ⟨g, 4, none⟩ e).setCell ⟨g, 5, none⟩ f).heap[j]? = w.heap[j]? := by
  rw [Below.heap_setCell _ ⟨g, 5, none⟩ _ j hj, Below.heap_setCell _ ⟨g, 4, none⟩ _ j hj, Below.heap_setCell _ ⟨g, 3, none⟩ _ j hj, Below.heap_setCell _ ⟨g, 2, none⟩ _ j hj, Below.heap_setCell _ ⟨g, 1, none⟩ _ j hj, Below.heap_setCell _ ⟨g, 0, none⟩ _ j hj]
theorem fill6_below {w0 : World} (hb : Below w0.heap.size w0 w) (hg : w0.heap.size ≤ g) : Below w0.heap.size w0 ((((((w.setCell ⟨g, 0, none⟩ a).setCell ⟨g, 1, none⟩ b).setCell ⟨g, 2, none⟩ c).setCell ⟨g, 3, none⟩ d).setCell ⟨g, 4, none⟩ e).setCell ⟨g, 5, none⟩ f) :=
  below_set (below_set (below_set (below_set (below_set (below_set hb hg) hg) hg) hg) hg) hg
/-- A call behind such a laying: its world a letter. -/
theorem fill6_calls {P : Program} {F : FuncId} {args : Array Value} {Q : Ending → World → Prop} (h : w.heap[g]? = some (.cells #[x0, x1, x2, x3, x4, x5] t (0, 0)))
    (k : ∀ W, W.heap[g]? = some (.cells #[a, b, c, d, e, f] t (0, 0)) → (∀ {w0 : World}, Below w0.heap.size w0 w → w0.heap.size ≤ g → Below w0.heap.size w0 W) → (∀ j, j ≠ g → W.heap[j]? = w.heap[j]?) → Calls P F args W Q) : Calls P F args ((((((w.setCell ⟨g, 0, none⟩ a).setCell ⟨g, 1, none⟩ b).setCell ⟨g, 2, none⟩ c).setCell ⟨g, 3, none⟩ d).setCell ⟨g, 4, none⟩ e).setCell ⟨g, 5, none⟩ f) Q :=
  k _ (fill6_at h) (fun hb hg => fill6_below hb hg) (fun j hj => fill6_far hj)
end
def cellsN : List S57 → List Value
  | [] => []
  | x :: l => .int .i64 x.f0 :: .string x.f1 :: .int .i64 x.f2 :: cellsN l
theorem cellsN_length : ∀ l, (cellsN l).length = l.length * 3
  | [] => rfl
  | x :: l => by rw [cellsN, List.length_cons, List.length_cons, List.length_cons, cellsN_length l, List.length_cons]; omega
theorem cellsN_at : ∀ (l : List S57) (j : Nat) (x : S57), l[j]? = some x → ((cellsN l).drop (j * 3)).take 3 = [.int .i64 x.f0, .string x.f1, .int .i64 x.f2]
  | [], _, _, h => by cases h
  | y :: l, 0, x, h => by
    obtain rfl : y = x := Option.some.inj h
    rfl
  | y :: l, j + 1, x, h => by
    rw [cellsN, show (j + 1) * 3 = j * 3 + 1 + 1 + 1 by omega, List.drop_succ_cons, List.drop_succ_cons, List.drop_succ_cons]
    exact cellsN_at l j x h
theorem ownN {w : World} {base : Nat} {ok : Nat → Prop} {v : Value} {l : List S57} (h : Kd.R k57 57 w base ok v l) : w.ownsRow base 57 3 v l.length (cellsN l) := by
  obtain ⟨_, inner, ho, hl, hr⟩ := h
  have : inner = cellsN l := by
    have key : ∀ (l : List S57) (inner : List Value), inner.length = l.length * 3 → (∀ j p, l[j]? = some p → (inner.drop (j * 3)).take 3 = [.int .i64 p.f0, .string p.f1, .int .i64 p.f2]) → inner = cellsN l := by
      intro l
      induction l with
      | nil => intro inner h _; exact List.eq_nil_of_length_eq_zero (by simpa using h)
      | cons x l ih =>
        intro inner h hp
        match inner, h with
        | [], h => simp at h
        | [_], h => simp at h; omega
        | [_, _], h => simp at h; omega
        | a :: b :: c :: r, h =>
          have h0 := hp 0 x rfl
          rw [Nat.zero_mul, List.drop_zero, List.take_succ_cons, List.take_succ_cons, List.take_succ_cons, List.take_zero] at h0
          obtain ⟨rfl, h1⟩ := List.cons.inj h0
          obtain ⟨rfl, h2⟩ := List.cons.inj h1
          obtain ⟨rfl, _⟩ := List.cons.inj h2
          rw [cellsN, ih r (by simp only [List.length_cons] at h; omega) (fun j p hj => by
            have := hp (j + 1) p hj
            rwa [show (j + 1) * 3 = j * 3 + 1 + 1 + 1 by omega, List.drop_succ_cons, List.drop_succ_cons, List.drop_succ_cons] at this)]
    exact key l inner hl (fun j p hj => k57_openM (hr j p hj))
  rw [this] at ho
  exact ho
theorem R_ofN {w : World} {base : Nat} {v : Value} {l : List S57} (h : w.ownsRow base 57 3 v l.length (cellsN l)) : Kd.R k57 57 w base (fun _ => True) v l :=
  ⟨fun _ _ => trivial, cellsN l, h, cellsN_length l, fun j p hj => by
    show k57.M w base _ p (((cellsN l).drop (j * 3)).take 3)
    rw [cellsN_at l j p hj]; exact k57_mkM _ _ _ p⟩
theorem cellsN_set2 : ∀ (l : List S57) (i : Nat) (z : Int) (h : i < l.length), (cellsN l).set (i * 3 + 2) (.int .i64 z) = cellsN (l.set i ⟨(l[i]).f0, (l[i]).f1, z⟩)
  | x :: l, 0, z, _ => rfl
  | x :: l, i + 1, z, h => by
    rw [cellsN, show (i + 1) * 3 + 2 = (i * 3 + 2) + 1 + 1 + 1 by omega, List.set_cons_succ, List.set_cons_succ, List.set_cons_succ, cellsN_set2 l i z (by simpa using h), List.set_cons_succ, cellsN]
    rfl
theorem cellsN_set1 : ∀ (l : List S57) (i : Nat) (t : ByteArray) (h : i < l.length), (cellsN l).set (i * 3 + 1) (.string t) = cellsN (l.set i ⟨(l[i]).f0, t, (l[i]).f2⟩)
  | x :: l, 0, z, _ => rfl
  | x :: l, i + 1, z, h => by
    rw [cellsN, show (i + 1) * 3 + 1 = (i * 3 + 1) + 1 + 1 + 1 by omega, List.set_cons_succ, List.set_cons_succ, List.set_cons_succ, cellsN_set1 l i z (by simpa using h), List.set_cons_succ, cellsN]
    rfl
theorem HasD.told {W : World} {base : Nat} {v0 v1 v2 v3 : Value} {a : List S57} {b c : List S59} {d : List ByteArray} (h : HasD W base v0 v1 v2 v3 a b c d) :
    Kd.R k57 57 W base (fun _ => True) v0 a ∧ Kd.R k59 59 W base (fun k_ => some k_ ≠ v2.ownBlock) v1 b ∧ Kd.R k59 59 W base (fun k_ => some k_ ≠ v1.ownBlock) v2 c ∧ Kd.R Kd.string 9 W base (fun _ => True) v3 d :=
  ⟨Kd.R_mono h.r0 fun _ _ => trivial, Kd.R_mono h.r1 fun k hk => h.ne k hk, Kd.R_mono h.r2 fun k hk hj => h.ne k hj hk, Kd.R_mono h.r3 fun _ _ => trivial⟩
theorem HasD.fill {w : World} {g : Nat} {base : Nat} {v0 v1 v2 v3 : Value} {a : List S57} {b c : List S59} {d : List ByteArray} {cs : Array Value} {W : World} (h : HasD w base v0 v1 v2 v3 a b c d) (hb : w.heap[g]? = some (.cells cs 32 (0, 0))) (hf : ∀ j, j ≠ g → W.heap[j]? = w.heap[j]?) : HasD W base v0 v1 v2 v3 a b c d :=
  h.step fun k hk _ => hf k fun e => h.nobox hb (by decide) (by decide) (by decide) (e ▸ hk)
/-- The nodes' row as a block, and a node's cells. -/
theorem HasD.row {W : World} {base : Nat} {A : Option Addr} {m c0 : Nat} {v1 v2 v3 : Value} {a : List S57} {b c : List S59} {d : List ByteArray} (h : HasD W base (.slice A m c0) v1 v2 v3 a b c d) (i : Nat) (hi : i < a.length) :
    ∃ g cur, A = some ⟨g, 0, none⟩ ∧ m = a.length ∧ base ≤ g ∧ W.heap[g]? = some (.cells cur 57 (0, 0)) ∧ W.cell? ⟨g, i * 3, none⟩ = some (.int .i64 (a[i]).f0) ∧ W.cell? ⟨g, i * 3 + 1, none⟩ = some (.string (a[i]).f1) ∧ W.cell? ⟨g, i * 3 + 2, none⟩ = some (.int .i64 (a[i]).f2) ∧ (∀ j, W.frozen? ⟨g, j, none⟩ = false) ∧
      (∀ (j : Nat) (u : Value) (a' : List S57), j < a.length * 3 → a'.length = a.length → (cellsN a).set j u = cellsN a' → HasD (W.setCell ⟨g, j, none⟩ u) base (.slice A m c0) v1 v2 v3 a' b c d) := by
  obtain ⟨_, ⟨_, hl0⟩ | ⟨g, cp, cur, hv, hbg, hg, hlc, hm, hsz, htk⟩⟩ := ownN h.r0
  · omega
  injection hv with h1 h2 h3
  subst h1 h2 h3
  have hat : ∀ j v, (cellsN a)[j]? = some v → W.cell? ⟨g, j, none⟩ = some v := fun j v hj => by
    rw [← htk, List.getElem?_take] at hj
    split at hj
    · rw [cell_of_row W g j cur _ _ hg]
      rw [Array.getElem?_toList] at hj
      exact hj
    · cases hj
  have hc := cellsN_at a i a[i] (List.getElem?_eq_getElem hi)
  have hget : ∀ q, q < 3 → (cellsN a)[i * 3 + q]? = ([.int .i64 (a[i]).f0, .string (a[i]).f1, .int .i64 (a[i]).f2] : List Value)[q]? := fun q hq => by
    rw [← hc, List.getElem?_take, if_pos hq, List.getElem?_drop]
  refine ⟨g, cur, rfl, rfl, hbg, hg, hat _ _ (hget 0 (by omega)), hat _ _ (hget 1 (by omega)), hat _ _ (hget 2 (by omega)), fun j => by simp [World.frozen?, hg], fun j u a' hj hla hcs => ?_⟩
  have hls : (cellsN a).length = a.length * 3 := cellsN_length a
  have hne1 : ∀ k, some k = v1.ownBlock → k ≠ g := fun k hk e => Kd.R_ne h.r1 hg (by decide) (by rw [← e]; exact hk)
  have hne2 : ∀ k, some k = v2.ownBlock → k ≠ g := fun k hk e => Kd.R_ne h.r2 hg (by decide) (by rw [← e]; exact hk)
  have hne3 : ∀ k, some k = v3.ownBlock → k ≠ g := fun k hk e => Kd.R_ne h.r3 hg (by decide) (by rw [← e]; exact hk)
  refine ⟨?_, Kd.R_step h.r1 fun k hk _ => Below.heap_setCell W ⟨g, j, none⟩ u k (hne1 k hk), Kd.R_step h.r2 fun k hk _ => Below.heap_setCell W ⟨g, j, none⟩ u k (hne2 k hk), Kd.R_step h.r3 fun k hk _ => Below.heap_setCell W ⟨g, j, none⟩ u k (hne3 k hk), h.ne⟩
  rw [setCell_eq_setRow W g j cur _ (0, 0) _ hg, ← hla]
  refine Kd.R_tight rfl (R_ofN ⟨cellsN_length _, .inr ⟨g, c0, _, rfl, hbg, setRow_heap W g cur _ _ _ hg, by rw [hla]; exact hlc, hm, by rw [Array.size_setIfInBounds]; exact hsz, ?_⟩⟩)
  rw [hla, Array.toList_setIfInBounds, List.take_set, htk, hcs]
/-! ### What a call may turn -/
structure Turned (w w' : World) (S : Nat → Prop) : Prop where
  os : w'.os = w.os
  tape : w'.tape = w.tape
  output : w'.output = w.output
  size : w.heap.size ≤ w'.heap.size
  block : ∀ k, k < w.heap.size → ¬ S k → w'.heap[k]? = w.heap[k]?
theorem Turned.refl (w : World) (S : Nat → Prop) : Turned w w S := ⟨rfl, rfl, rfl, Nat.le_refl _, fun _ _ _ => rfl⟩
theorem Turned.of {w w' : World} (h : Below w.heap.size w w') (S : Nat → Prop) : Turned w w' S := ⟨h.os, h.tape, h.output, h.size, fun k hk _ => h.block k hk⟩
theorem Turned.trans {a b c : World} {S : Nat → Prop} (h : Turned a b S) (k : Turned b c S) : Turned a c S :=
  ⟨k.os.trans h.os, k.tape.trans h.tape, k.output.trans h.output, Nat.le_trans h.size k.size, fun i hi hs => (k.block i (Nat.lt_of_lt_of_le hi h.size) hs).trans (h.block i hi hs)⟩
theorem Turned.mono {a b : World} {S S' : Nat → Prop} (h : Turned a b S) (hs : ∀ k, k < a.heap.size → S k → S' k) : Turned a b S' :=
  ⟨h.os, h.tape, h.output, h.size, fun i hi hn => h.block i hi fun hS => hn (hs i hi hS)⟩
/-- Two turnings, the second of which may turn what the first one has made. -/
theorem Turned.then {a b c : World} {S S' : Nat → Prop} (h : Turned a b S) (k : Turned b c S') (hs : ∀ i, S' i → S i ∨ a.heap.size ≤ i) : Turned a c S :=
  ⟨k.os.trans h.os, k.tape.trans h.tape, k.output.trans h.output, Nat.le_trans h.size k.size, fun i hi hn => (k.block i (Nat.lt_of_lt_of_le hi h.size) fun h' => (hs i h').elim hn (by omega)).trans (h.block i hi hn)⟩
theorem Turned.set {a b : World} {S : Nat → Prop} (h : Turned a b S) {p : Addr} (hp : S p.block ∨ a.heap.size ≤ p.block) (u : Value) : Turned a (b.setCell p u) S :=
  have hb := (Below.refl p.block b).setCell (Nat.le_refl _) (p := p) u
  ⟨hb.os.trans h.os, hb.tape.trans h.tape, hb.output.trans h.output, Nat.le_trans h.size hb.size, fun i hi hn => (Below.heap_setCell b p u i (fun e => hp.elim (fun hs => hn (e ▸ hs)) (fun hs => by omega))).trans (h.block i hi hn)⟩
theorem Turned.row {a b : World} {S : Nat → Prop} (h : Turned a b S) {g : Nat} (hg : S g ∨ a.heap.size ≤ g) (cs : Array Value) : Turned a (b.setRow g cs) S :=
  ⟨h.os, h.tape, h.output, Nat.le_trans h.size (by simp [World.setRow]), fun i hi hn => by
    have hi2 : i ≠ g := fun e => hg.elim (fun hs => hn (e ▸ hs)) (fun hs => by omega)
    rw [setRow_other b g i cs hi2]
    exact h.block i hi hn⟩
theorem Turned.below {w w' w0 : World} {S : Nat → Prop} {b : Nat} (h : Turned w w' S) (hb : Below b w0 w) (hs : ∀ k, S k → b ≤ k) (hw : b ≤ w.heap.size) : Below b w0 w' :=
  ⟨h.os.trans hb.os, h.tape.trans hb.tape, h.output.trans hb.output, Nat.le_trans hb.size h.size, fun k hk => (h.block k (by omega) fun hS => by have := hs k hS; omega).trans (hb.block k hk)⟩
section
variable {w w1 W : World} {base : Nat} {v0 v1 v2 v3 v0' v1' v2' v3' : Value} {a a' : List S57} {b c b' c' : List S59} {d d' : List ByteArray} {p : Nat → Prop}
theorem has_r3 (h : HasD w base v0 v1 v2 v3 a b c d) (hT : Turned w w1 (fun k => some k = v3.ownBlock)) (hR : Kd.R Kd.string 9 w1 base p v3' d') : HasD w1 base v0 v1 v2 v3' a b c d' := by
  have ty := Kd.R_typed h.r3
  refine ⟨Kd.R_step h.r0 fun k hk hl => hT.block k hl fun e => ?_, Kd.R_step h.r1 fun k hk hl => hT.block k hl fun e => ?_, Kd.R_step h.r2 fun k hk hl => hT.block k hl fun e => ?_, Kd.R_tight rfl hR, h.ne⟩
  · obtain ⟨z, hz⟩ := ty k e.symm
    exact Kd.R_ne h.r0 hz (by decide) hk
  · obtain ⟨z, hz⟩ := ty k e.symm
    exact Kd.R_ne h.r1 hz (by decide) hk
  · obtain ⟨z, hz⟩ := ty k e.symm
    exact Kd.R_ne h.r2 hz (by decide) hk
theorem has_r0 (h : HasD w base v0 v1 v2 v3 a b c d) (hT : Turned w w1 (fun k => some k = v0.ownBlock)) (hR : Kd.R k57 57 w1 base p v0' a') : HasD w1 base v0' v1 v2 v3 a' b c d := by
  have ty := Kd.R_typed h.r0
  refine ⟨Kd.R_tight rfl hR, Kd.R_step h.r1 fun k hk hl => hT.block k hl fun e => ?_, Kd.R_step h.r2 fun k hk hl => hT.block k hl fun e => ?_, Kd.R_step h.r3 fun k hk hl => hT.block k hl fun e => ?_, h.ne⟩
  · obtain ⟨z, hz⟩ := ty k e.symm
    exact Kd.R_ne h.r1 hz (by decide) hk
  · obtain ⟨z, hz⟩ := ty k e.symm
    exact Kd.R_ne h.r2 hz (by decide) hk
  · obtain ⟨z, hz⟩ := ty k e.symm
    exact Kd.R_ne h.r3 hz (by decide) hk
theorem has_r2 (h : HasD w base v0 v1 v2 v3 a b c d) (hb : Below w.heap.size w w1) (hw : base ≤ w.heap.size) (hR : Kd.R k59 59 w1 w.heap.size p v2' c') : HasD w1 base v0 v1 v2' v3 a b c' d := by
  have h2 := h.on hb
  refine ⟨h2.r0, h2.r1, Kd.R_tight rfl (Kd.R_lower hR hw), h2.r3, fun k hk hk2 => ?_⟩
  have := Kd.R_base hR k hk2.symm
  have := Kd.R_lt h.r1 k hk.symm
  omega
theorem has_slices (h : HasD w base v0 v1 v2 v3 a b c d) : ∃ A0 c0 A1 c1 A2 c2 A3 c3, v0 = .slice A0 a.length c0 ∧ v1 = .slice A1 b.length c1 ∧ v2 = .slice A2 c.length c2 ∧ v3 = .slice A3 d.length c3 := by
  obtain ⟨A0, c0, h0⟩ := Kd.R_slice h.r0
  obtain ⟨A1, c1, h1⟩ := Kd.R_slice h.r1
  obtain ⟨A2, c2, h2⟩ := Kd.R_slice h.r2
  obtain ⟨A3, c3, h3⟩ := Kd.R_slice h.r3
  exact ⟨A0, c0, A1, c1, A2, c2, A3, c3, h0, h1, h2, h3⟩
end
theorem cleanS_calls (k : Nat) {A0 : Option Addr} {c0 : Nat} {v1 v2 v3 : Value} {a : List S57} {b c : List S59} {d : List ByteArray} {e f : Int} {z1 : List S57} {z2 z3 : List S59} {z4 : List ByteArray} {z5 z6 : Int} (w0 w : World) (hB : Below w0.heap.size w0 w) (h : HasD w w0.heap.size (.slice A0 a.length c0) v1 v2 v3 a b c d)
    (hz : spec_l06Clean.f k a b c d e f = some (z1, z2, z3, z4, z5, z6)) : Calls Tryz.prog 97 #[.agg #[.slice A0 a.length c0, v1, v2, v3, .int .i64 e, .int .i64 f]] w fun e_ w' => ∃ u0 u1 u2 u3 : Value, e_ = .returned (.agg #[u0, u1, u2, u3, .int .i64 z5, .int .i64 z6]) ∧ HasD w' w0.heap.size u0 u1 u2 u3 z1 z2 z3 z4 ∧ Below w0.heap.size w0 w' ∧ Kept w w' (ownD (.slice A0 a.length c0) v1 v2 v3) := by
  have ty := Kd.R_typed h.r0
  refine (spec_l06Clean.calls k A0 c0 a (fun k => some k = v1.ownBlock) v1 b (fun k => some k = v2.ownBlock) v2 c (fun k => some k = v3.ownBlock) v3 d e f z1 z2 z3 z4 z5 z6 w0 w hB (Kd.C_kept_own h.r0 fun k hk hs => ?_) (Kd.R_reads' h.r0).2.1 h.r1 h.ne h.r2 (fun k h2 h1 => h.ne k h1 h2) h.r3 hz).mono ?_
  · obtain ⟨z, hzz⟩ := ty k hk.symm
    rcases hs with hs | hs | hs
    · exact Kd.R_ne h.r1 hzz (by decide) hs
    · exact Kd.R_ne h.r2 hzz (by decide) hs
    · exact Kd.R_ne h.r3 hzz (by decide) hs
  · rintro e_ w' ⟨u0, u1, u2, u3, rfl, p0, p1, p2, p3, hb, hk⟩
    exact ⟨u0, u1, u2, u3, rfl, HasD.of p0 (Kd.R_mono p1 fun _ hh => hh.2) p2 p3, hb, ⟨hk.1, fun i hi hn => hk.2 i hi fun hs => hn (.inr hs)⟩⟩
theorem filled_told {w1 : World} {g base : Nat} {v0 v1 v2 v3 : Value} (x4 x5 : Value) {a : List S57} {b c : List S59} {d : List ByteArray} {cs : Array Value} (h : HasD w1 base v0 v1 v2 v3 a b c d) (hb : w1.heap[g]? = some (.cells cs 32 (0, 0))) :
    Kd.R k57 57 ((((((w1.setCell ⟨g, 0, none⟩ v0).setCell ⟨g, 1, none⟩ v1).setCell ⟨g, 2, none⟩ v2).setCell ⟨g, 3, none⟩ v3).setCell ⟨g, 4, none⟩ x4).setCell ⟨g, 5, none⟩ x5) base (fun _ => True) v0 a ∧ Kd.R k59 59 ((((((w1.setCell ⟨g, 0, none⟩ v0).setCell ⟨g, 1, none⟩ v1).setCell ⟨g, 2, none⟩ v2).setCell ⟨g, 3, none⟩ v3).setCell ⟨g, 4, none⟩ x4).setCell ⟨g, 5, none⟩ x5) base (fun k_ => some k_ ≠ v2.ownBlock) v1 b ∧ Kd.R k59 59 ((((((w1.setCell ⟨g, 0, none⟩ v0).setCell ⟨g, 1, none⟩ v1).setCell ⟨g, 2, none⟩ v2).setCell ⟨g, 3, none⟩ v3).setCell ⟨g, 4, none⟩ x4).setCell ⟨g, 5, none⟩ x5) base (fun k_ => some k_ ≠ v1.ownBlock) v2 c ∧ Kd.R Kd.string 9 ((((((w1.setCell ⟨g, 0, none⟩ v0).setCell ⟨g, 1, none⟩ v1).setCell ⟨g, 2, none⟩ v2).setCell ⟨g, 3, none⟩ v3).setCell ⟨g, 4, none⟩ x4).setCell ⟨g, 5, none⟩ x5) base (fun _ => True) v3 d :=
  HasD.told (HasD.fill h hb (fun j hj => fill6_far hj))
def keepK (k : Nat) (l2 : List Int) (x : S57) : Option Int := if l2.length = 0 then some x.f2 else if 0 ≤ Int.tmod x.f0 (l2.length : Int) then (spec_Brought.f k (rd l2 (Int.tmod x.f0 (l2.length : Int))) 0 (wrap64 ((x.f1.size : Int) - x.f2))).bind fun t => some (wrap64 (x.f2 + t)) else none
def cutSpec (k : Nat) (l2 : List Int) : List S57 → Option (List S57)
  | [] => some []
  | x :: r => (keepK k l2 x).bind fun m => if 0 ≤ m ∧ m ≤ (x.f1.size : Int) then (cutSpec k l2 r).bind fun t => some (⟨x.f0, x.f1.extract 0 m.toNat, m⟩ :: t) else none
theorem cutSpec_mono (l2 : List Int) (k : Nat) : ∀ l, LeO (cutSpec k l2 l) (cutSpec (k + 1) l2 l)
  | [] => LeO.refl _
  | x :: r => LeO.bind (LeO.ite (LeO.refl _) (LeO.ite (LeO.bind (spec_Brought.mono _ _ _ k) fun _ => LeO.refl _) (LeO.refl _))) fun _ => LeO.ite (LeO.bind (cutSpec_mono l2 k r) fun _ => LeO.refl _) (LeO.refl _)
theorem has_r1n {w w1 : World} {base : Nat} {v0 v1 v2 v3 v1' : Value} {a : List S57} {b c b' : List S59} {d : List ByteArray} {S : Nat → Prop} (h : HasD w base v0 v1 v2 v3 a b c d) (hT : Turned w w1 S) (hS : ∀ k, ownD v0 v1 v2 v3 k → ¬ S k) (hR : Kd.R k59 59 w1 base (fun k => some k ≠ v2.ownBlock) v1' b') : HasD w1 base v0 v1' v2 v3 a b' c d :=
  have h2 := h.step fun k ho hl => hT.block k hl (hS k ho)
  ⟨h2.r0, Kd.R_tight rfl hR, h2.r2, h2.r3, fun k hk => hR.1 k hk.symm⟩
theorem cutRow {W : World} {base : Nat} {A : Option Addr} {m c0 : Nat} {v1 v2 v3 : Value} {a : List S57} {b c : List S59} {d : List ByteArray} (h : HasD W base (.slice A m c0) v1 v2 v3 a b c d) (i : Nat) (x : S57) (hx : a[i]? = some x) :
    ∃ g cur, A = some ⟨g, 0, none⟩ ∧ base ≤ g ∧ W.heap[g]? = some (.cells cur 57 (0, 0)) ∧ W.cell? ⟨g, i * 3, none⟩ = some (.int .i64 x.f0) ∧ W.cell? ⟨g, i * 3 + 1, none⟩ = some (.string x.f1) ∧ W.cell? ⟨g, i * 3 + 2, none⟩ = some (.int .i64 x.f2) ∧ (∀ j, W.frozen? ⟨g, j, none⟩ = false) ∧
      (∀ t : ByteArray, HasD (W.setCell ⟨g, i * 3 + 1, none⟩ (.string t)) base (.slice A m c0) v1 v2 v3 (a.set i ⟨x.f0, t, x.f2⟩) b c d) ∧ (∀ z : Int, HasD (W.setCell ⟨g, i * 3 + 2, none⟩ (.int .i64 z)) base (.slice A m c0) v1 v2 v3 (a.set i ⟨x.f0, x.f1, z⟩) b c d) := by
  obtain ⟨hi, rfl⟩ := List.getElem?_eq_some_iff.mp hx
  obtain ⟨g, cur, h1, _, h2, h3, h4, h5, h6, h7, h8⟩ := h.row i hi
  exact ⟨g, cur, h1, h2, h3, h4, h5, h6, h7, fun t => h8 _ _ _ (by omega) (List.length_set ..) (cellsN_set1 a i t hi), fun z => h8 _ _ _ (by omega) (List.length_set ..) (cellsN_set2 a i z hi)⟩
theorem take_set_snoc {α : Type} (l : List α) (i : Nat) (z : α) (h : i < l.length) : (l.set i z).take (i + 1) = l.take i ++ [z] := by
  rw [List.take_succ_eq_append_getElem (by rw [List.length_set]; exact h), List.getElem_set_self, List.take_set, List.set_eq_of_length_le (by rw [List.length_take]; omega)]
def spec_Fallen.f (k : Nat) (l0_0 : List S57) (l0_1 : List S59) (l0_2 : List S59) (l0_3 : List ByteArray) (a0_4 : Int) (a0_5 : Int) (a1 : Int) (l2 : List Int) : Option (List (S57) × List (S59) × List (S59) × List ByteArray × Int × Int) := (spec_l05Copy.f l0_0 l0_1 l0_2 l0_3 a0_4 a0_5).bind fun o => (spec_DiskOk.f k o.1 o.2.1 o.2.2.1 o.2.2.2.1 o.2.2.2.2.1 o.2.2.2.2.2).bind fun b => if b = true then (spec_StepsDone.f k o.2.2.1 o.2.2.2.1 a1).bind fun q => if q.1.length * 24 ≤ 140737488355328 then (cutSpec k l2 o.1).bind fun ns => spec_l06Clean.f k ns q.1 q.1 [] o.2.2.2.2.1 o.2.2.2.2.2 else none else some (o.1, o.2.1, o.2.2.1, o.2.2.2.1, o.2.2.2.2.1, o.2.2.2.2.2)
theorem spec_Fallen.mono : ∀ l0_0 l0_1 l0_2 l0_3 a0_4 a0_5 a1 l2 k, LeO (spec_Fallen.f k l0_0 l0_1 l0_2 l0_3 a0_4 a0_5 a1 l2) (spec_Fallen.f (k + 1) l0_0 l0_1 l0_2 l0_3 a0_4 a0_5 a1 l2) := by
  intro l0_0 l0_1 l0_2 l0_3 a0_4 a0_5 a1 l2 k
  unfold spec_Fallen.f
  repeat' first | (with_reducible exact LeO.refl _) | (with_reducible exact spec_DiskOk.mono _ _ _ _ _ _ _) | (with_reducible exact spec_StepsDone.mono _ _ _ _) | (with_reducible exact cutSpec_mono _ _ _) | (with_reducible exact spec_l06Clean.mono _ _ _ _ _ _ _) | (with_reducible refine LeO.ite ?_ ?_) | (with_reducible refine LeO.bind ?_ (fun _ => ?_))
set_option maxHeartbeats 4000000 in
set_option maxRecDepth 100000 in
theorem spec_Fallen.calls (k : Nat) (A0_0 : Option Addr) (c0_0 : Nat) (l0_0 : List (S57)) (A0_1 : Option Addr) (c0_1 : Nat) (l0_1 : List (S59)) (A0_2 : Option Addr) (c0_2 : Nat) (l0_2 : List (S59)) (A0_3 : Option Addr) (c0_3 : Nat) (l0_3 : List ByteArray) (a0_4 : Int) (a0_5 : Int) (a1 : Int) (A_2 : Option Addr) (c_2 : Nat) (l2 : List Int) (r1 : List S57) (r2 : List S59) (r3 : List S59) (r4 : List ByteArray) (r5 : Int) (r6 : Int) (w : World) (hr0_0 : Kd.C k57 w A0_0 l0_0.length l0_0) (hc0_0 : l0_0.length ≤ c0_0) (hr0_1 : Kd.C k59 w A0_1 l0_1.length l0_1) (hc0_1 : l0_1.length ≤ c0_1) (hr0_2 : Kd.C k59 w A0_2 l0_2.length l0_2) (hc0_2 : l0_2.length ≤ c0_2) (hr0_3 : Kd.C Kd.string w A0_3 l0_3.length l0_3) (hc0_3 : l0_3.length ≤ c0_3) (hr2 : Kd.C (Kd.int .i64) w A_2 l2.length l2) (hc2 : l2.length ≤ c_2) (h : spec_Fallen.f k l0_0 l0_1 l0_2 l0_3 a0_4 a0_5 a1 l2 = some (r1, r2, r3, r4, r5, r6)) :
    Calls Tryz.prog 32 #[.agg #[.slice A0_0 l0_0.length c0_0, .slice A0_1 l0_1.length c0_1, .slice A0_2 l0_2.length c0_2, .slice A0_3 l0_3.length c0_3, .int .i64 a0_4, .int .i64 a0_5], .int .i64 a1, .slice A_2 l2.length c_2] w fun e w' => ∃ v0_ v1_ v2_ v3_ : Value, e = .returned (.agg #[v0_, v1_, v2_, v3_, .int .i64 r5, .int .i64 r6]) ∧ Kd.R k57 57 w' w.heap.size (fun _ => True) v0_ r1 ∧ Kd.R k59 59 w' w.heap.size (fun k_ => some k_ ≠ (v2_ : Value).ownBlock) v1_ r2 ∧ Kd.R k59 59 w' w.heap.size (fun k_ => some k_ ≠ (v1_ : Value).ownBlock) v2_ r3 ∧ Kd.R Kd.string 9 w' w.heap.size (fun _ => True) v3_ r4 ∧ Below w.heap.size w w' := by
  unfold spec_Fallen.f at h
  replace h := Option.bind_eq_some_iff.mp h
  obtain ⟨⟨o1, o2, o3, o4, o5, o6⟩, ho, h⟩ := h
  replace h := Option.bind_eq_some_iff.mp h
  obtain ⟨b, hbk, h⟩ := h
  dsimp only at h
  have CC := Aside0.mk (fun (w1 : World) (hb : Below w.heap.size w w1) => spec_l05Copy.calls A0_0 c0_0 l0_0 A0_1 c0_1 l0_1 A0_2 c0_2 l0_2 A0_3 c0_3 l0_3 a0_4 a0_5 o1 o2 o3 o4 o5 o6 w1 (Kd.C_below hr0_0 hb) hc0_0 (Kd.C_below hr0_1 hb) hc0_1 (Kd.C_below hr0_2 hb) hc0_2 (Kd.C_below hr0_3 hb) hc0_3 ho)
  have CD := Aside0.mk (fun (w1 : World) (A0 : Option Addr) (c0 : Nat) (A1 : Option Addr) (c1 : Nat) (A2 : Option Addr) (c2 : Nat) (A3 : Option Addr) (c3 : Nat) (h : HasD w1 w.heap.size (.slice A0 o1.length c0) (.slice A1 o2.length c1) (.slice A2 o3.length c2) (.slice A3 o4.length c3) o1 o2 o3 o4) => spec_DiskOk.calls k A0 c0 o1 A1 c1 o2 A2 c2 o3 A3 c3 o4 o5 o6 b w1 (Kd.R_reads' h.r0).2.2 (Kd.R_reads' h.r0).2.1 (Kd.R_reads' h.r1).2.2 (Kd.R_reads' h.r1).2.1 (Kd.R_reads' h.r2).2.2 (Kd.R_reads' h.r2).2.1 (Kd.R_reads' h.r3).2.2 (Kd.R_reads' h.r3).2.1 hbk)
  cases b with
  | false =>
    rw [if_neg (by decide)] at h
    simp only [Option.some.injEq, Prod.mk.injEq] at h
    obtain ⟨rfl, rfl, rfl, rfl, rfl, rfl⟩ := h
    clear ho hbk hr0_0 hc0_0 hr0_1 hc0_1 hr0_2 hc0_2 hr0_3 hc0_3 hr2 hc2
    go_enter Tryz.func32, Tryz.ntmps32
    go_wp2_with (first | ((with_reducible refine gate_dst (N := 3) rfl ?_); refine box_event ?hg (N := 3) ?hd (cs := #[.slice A0_0 l0_0.length c0_0, .slice A0_1 l0_1.length c0_1, .slice A0_2 l0_2.length c0_2, .slice A0_3 l0_3.length c0_3, .int .i64 a0_4, .int .i64 a0_5]) (t := 32) ?hr ?_; (case hd => rfl); (case hg => rfl); (case hr => first | (go_simp; done) | (go_simp; rfl)); intro gD hg w1 hbox hb; have GD := Aside0.mk (Nat.le_of_eq hg.symm); have BL := Aside0.mk hb; have BD := Aside0.mk hbox; clear hb; (try clear iD0 iD1 iD2 iD3 iD4 iD5); obtain ⟨iD0, iD1, iD2, iD3, iD4, iD5⟩ := blk6 BD.out; (try clear zD0 zD1 zD2 zD3 zD4 zD5); have zD0 := blk_frozen BD.out 0; have zD1 := blk_frozen BD.out 1; have zD2 := blk_frozen BD.out 2; have zD3 := blk_frozen BD.out 3; have zD4 := blk_frozen BD.out 4; have zD5 := blk_frozen BD.out 5; clear hg hbox) | ((with_reducible refine gate_dst (N := 6) rfl ?_); refine box_event ?hg (N := 6) ?hd (cs := #[.slice none 0 0, .slice none 0 0, .slice none 0 0, .slice none 0 0, .int .i64 0, .int .i64 0]) (t := 32) ?hr ?_; (case hd => rfl); (case hg => rfl); (case hr => first | (go_simp; done) | (go_simp; rfl)); intro gR hg w1 hbox hb; have GR := Aside0.mk (show w.heap.size ≤ gR by rw [hg]; exact BL.out.size); have RD := Aside0.mk (show gR ≠ gD by rw [hg]; exact Nat.ne_of_gt (blk_lt BD.out)); replace BL := Aside0.mk (BL.out.trans (hb.mono BL.out.size)); (try replace BD := Aside0.mk ((hb.block gD (blk_lt BD.out)).trans BD.out)); (try replace BR := Aside0.mk ((hb.block gR (blk_lt BR.out)).trans BR.out)); (try replace Do := Aside0.mk (Do.out.on hb)); have BR := Aside0.mk hbox; clear hb; (try clear iD0 iD1 iD2 iD3 iD4 iD5); obtain ⟨iD0, iD1, iD2, iD3, iD4, iD5⟩ := blk6 BD.out; (try clear iR0 iR1 iR2 iR3 iR4 iR5); obtain ⟨iR0, iR1, iR2, iR3, iR4, iR5⟩ := blk6 BR.out; (try clear zD0 zD1 zD2 zD3 zD4 zD5); have zD0 := blk_frozen BD.out 0; have zD1 := blk_frozen BD.out 1; have zD2 := blk_frozen BD.out 2; have zD3 := blk_frozen BD.out 3; have zD4 := blk_frozen BD.out 4; have zD5 := blk_frozen BD.out 5; (try clear zR0 zR1 zR2 zR3 zR4 zR5); have zR0 := blk_frozen BR.out 0; have zR1 := blk_frozen BR.out 1; have zR2 := blk_frozen BR.out 2; have zR3 := blk_frozen BR.out 3; have zR4 := blk_frozen BR.out 4; have zR5 := blk_frozen BR.out 5; clear hg hbox) | (go_at_call 78; have hbs := BL.out.size; (with_reducible refine (CC.out _ BL.out).mono ?_); rintro e w1 ⟨v0, v1, v2, v3, rfl, p0, p1, p2, p3, hb⟩; have hD := HasD.of p0 p1 p2 p3; replace BL := Aside0.mk (BL.out.trans (hb.mono BL.out.size)); (try replace BD := Aside0.mk ((hb.block gD (blk_lt BD.out)).trans BD.out)); (try replace BR := Aside0.mk ((hb.block gR (blk_lt BR.out)).trans BR.out)); (try replace Do := Aside0.mk (Do.out.on hb)); have Do := Aside0.mk (hD.lower hbs); obtain ⟨A0, c0, rfl⟩ := Kd.R_slice p0; obtain ⟨A1, c1, rfl⟩ := Kd.R_slice p1; obtain ⟨A2, c2, rfl⟩ := Kd.R_slice p2; obtain ⟨A3, c3, rfl⟩ := Kd.R_slice p3; clear hD hb hbs p0 p1 p2 p3; (try clear iD0 iD1 iD2 iD3 iD4 iD5); obtain ⟨iD0, iD1, iD2, iD3, iD4, iD5⟩ := blk6 BD.out; (try clear iR0 iR1 iR2 iR3 iR4 iR5); obtain ⟨iR0, iR1, iR2, iR3, iR4, iR5⟩ := blk6 BR.out; (try clear zD0 zD1 zD2 zD3 zD4 zD5); have zD0 := blk_frozen BD.out 0; have zD1 := blk_frozen BD.out 1; have zD2 := blk_frozen BD.out 2; have zD3 := blk_frozen BD.out 3; have zD4 := blk_frozen BD.out 4; have zD5 := blk_frozen BD.out 5; (try clear zR0 zR1 zR2 zR3 zR4 zR5); have zR0 := blk_frozen BR.out 0; have zR1 := blk_frozen BR.out 1; have zR2 := blk_frozen BR.out 2; have zR3 := blk_frozen BR.out 3; have zR4 := blk_frozen BR.out 4; have zR5 := blk_frozen BR.out 5) | (go_at_call 16; refine fill6_calls BD.out (fun W hO hk hs => ?_); replace Do := Aside0.mk (HasD.fill Do.out BD.out hs); replace BR := Aside0.mk ((hs gR RD.out).trans BR.out); replace BL := Aside0.mk (hk BL.out GD.out); replace BD := Aside0.mk hO; clear hO hk hs; (with_reducible refine (CD.out _ _ _ _ _ _ _ _ _ Do.out).mono ?_); rintro e w1 ⟨rfl, hb⟩; replace BL := Aside0.mk (BL.out.trans (hb.mono BL.out.size)); (try replace BD := Aside0.mk ((hb.block gD (blk_lt BD.out)).trans BD.out)); (try replace BR := Aside0.mk ((hb.block gR (blk_lt BR.out)).trans BR.out)); (try replace Do := Aside0.mk (Do.out.on hb)); clear hb; (try clear iD0 iD1 iD2 iD3 iD4 iD5); obtain ⟨iD0, iD1, iD2, iD3, iD4, iD5⟩ := blk6 BD.out; (try clear iR0 iR1 iR2 iR3 iR4 iR5); obtain ⟨iR0, iR1, iR2, iR3, iR4, iR5⟩ := blk6 BR.out; (try clear zD0 zD1 zD2 zD3 zD4 zD5); have zD0 := blk_frozen BD.out 0; have zD1 := blk_frozen BD.out 1; have zD2 := blk_frozen BD.out 2; have zD3 := blk_frozen BD.out 3; have zD4 := blk_frozen BD.out 4; have zD5 := blk_frozen BD.out 5; (try clear zR0 zR1 zR2 zR3 zR4 zR5); have zR0 := blk_frozen BR.out 0; have zR1 := blk_frozen BR.out 1; have zR2 := blk_frozen BR.out 2; have zR3 := blk_frozen BR.out 3; have zR4 := blk_frozen BR.out 4; have zR5 := blk_frozen BR.out 5))
    refine bodyPost_ret (results_cell_row rfl _ _ gR 32 #[.slice A0 o1.length c0, .slice A1 o2.length c1, .slice A2 o3.length c2, .slice A3 o4.length c3, .int .i64 o5, .int .i64 o6] (0, 0) _ rfl (fill6_at BR.out) Tryz.underlying32 rfl (by kernel_rfl)) rfl ?_
    have hT := filled_told (.int .i64 o5) (.int .i64 o6) Do.out BR.out
    exact ⟨_, _, _, _, rfl, hT.1, hT.2.1, hT.2.2.1, hT.2.2.2, fill6_below BL.out GR.out⟩
  | true =>
    rw [if_pos rfl] at h
    replace h := Option.bind_eq_some_iff.mp h
    obtain ⟨⟨q, qb⟩, hq, h⟩ := h
    dsimp only at h
    by_cases hql : q.length * 24 ≤ 140737488355328
    case neg => rw [if_neg hql] at h; cases h
    rw [if_pos hql] at h
    replace h := Option.bind_eq_some_iff.mp h
    obtain ⟨ns, hns, h⟩ := h
    obtain ⟨dl, hdl⟩ : ∃ x, x = ([] : List ByteArray) := ⟨_, rfl⟩
    rw [← hdl] at h
    have HZ := Aside0.mk h
    have HDL := Aside0.mk hdl
    have HQL := Aside0.mk hql
    have HNS := Aside0.mk hns
    have HC := Aside0.mk hr2
    have CQ := Aside0.mk (fun (w1 : World) (A0 : Option Addr) (c0 : Nat) (A1 : Option Addr) (c1 : Nat) (A2 : Option Addr) (c2 : Nat) (A3 : Option Addr) (c3 : Nat) (h : HasD w1 w.heap.size (.slice A0 o1.length c0) (.slice A1 o2.length c1) (.slice A2 o3.length c2) (.slice A3 o4.length c3) o1 o2 o3 o4) => spec_StepsDone.calls k A2 c2 o3 A3 c3 o4 a1 q qb w1 (Kd.R_reads' h.r2).2.2 (Kd.R_reads' h.r2).2.1 (Kd.R_reads' h.r3).2.2 (Kd.R_reads' h.r3).2.1 hq)
    clear ho hbk h hdl hql hns hq hr0_0 hc0_0 hr0_1 hc0_1 hr0_2 hc0_2 hr0_3 hc0_3 hr2 hc2
    go_enter Tryz.func32, Tryz.ntmps32
    go_wp2_with (first | ((with_reducible refine gate_dst (N := 3) rfl ?_); refine box_event ?hg (N := 3) ?hd (cs := #[.slice A0_0 l0_0.length c0_0, .slice A0_1 l0_1.length c0_1, .slice A0_2 l0_2.length c0_2, .slice A0_3 l0_3.length c0_3, .int .i64 a0_4, .int .i64 a0_5]) (t := 32) ?hr ?_; (case hd => rfl); (case hg => rfl); (case hr => first | (go_simp; done) | (go_simp; rfl)); intro gD hg w1 hbox hb; have GD := Aside0.mk (Nat.le_of_eq hg.symm); have BL := Aside0.mk hb; have BD := Aside0.mk hbox; clear hb; (try clear iD0 iD1 iD2 iD3 iD4 iD5); obtain ⟨iD0, iD1, iD2, iD3, iD4, iD5⟩ := blk6 BD.out; (try clear zD0 zD1 zD2 zD3 zD4 zD5); have zD0 := blk_frozen BD.out 0; have zD1 := blk_frozen BD.out 1; have zD2 := blk_frozen BD.out 2; have zD3 := blk_frozen BD.out 3; have zD4 := blk_frozen BD.out 4; have zD5 := blk_frozen BD.out 5; clear hg hbox) | ((with_reducible refine gate_dst (N := 6) rfl ?_); refine box_event ?hg (N := 6) ?hd (cs := #[.slice none 0 0, .slice none 0 0, .slice none 0 0, .slice none 0 0, .int .i64 0, .int .i64 0]) (t := 32) ?hr ?_; (case hd => rfl); (case hg => rfl); (case hr => first | (go_simp; done) | (go_simp; rfl)); intro gR hg w1 hbox hb; have GR := Aside0.mk (show w.heap.size ≤ gR by rw [hg]; exact BL.out.size); have RD := Aside0.mk (show gR ≠ gD by rw [hg]; exact Nat.ne_of_gt (blk_lt BD.out)); replace BL := Aside0.mk (BL.out.trans (hb.mono BL.out.size)); (try replace BD := Aside0.mk ((hb.block gD (blk_lt BD.out)).trans BD.out)); (try replace BR := Aside0.mk ((hb.block gR (blk_lt BR.out)).trans BR.out)); (try replace Do := Aside0.mk (Do.out.on hb)); have BR := Aside0.mk hbox; clear hb; (try clear iD0 iD1 iD2 iD3 iD4 iD5); obtain ⟨iD0, iD1, iD2, iD3, iD4, iD5⟩ := blk6 BD.out; (try clear iR0 iR1 iR2 iR3 iR4 iR5); obtain ⟨iR0, iR1, iR2, iR3, iR4, iR5⟩ := blk6 BR.out; (try clear zD0 zD1 zD2 zD3 zD4 zD5); have zD0 := blk_frozen BD.out 0; have zD1 := blk_frozen BD.out 1; have zD2 := blk_frozen BD.out 2; have zD3 := blk_frozen BD.out 3; have zD4 := blk_frozen BD.out 4; have zD5 := blk_frozen BD.out 5; (try clear zR0 zR1 zR2 zR3 zR4 zR5); have zR0 := blk_frozen BR.out 0; have zR1 := blk_frozen BR.out 1; have zR2 := blk_frozen BR.out 2; have zR3 := blk_frozen BR.out 3; have zR4 := blk_frozen BR.out 4; have zR5 := blk_frozen BR.out 5; clear hg hbox) | (go_at_call 78; have hbs := BL.out.size; (with_reducible refine (CC.out _ BL.out).mono ?_); rintro e w1 ⟨v0, v1, v2, v3, rfl, p0, p1, p2, p3, hb⟩; have hD := HasD.of p0 p1 p2 p3; replace BL := Aside0.mk (BL.out.trans (hb.mono BL.out.size)); (try replace BD := Aside0.mk ((hb.block gD (blk_lt BD.out)).trans BD.out)); (try replace BR := Aside0.mk ((hb.block gR (blk_lt BR.out)).trans BR.out)); (try replace Do := Aside0.mk (Do.out.on hb)); have Do := Aside0.mk (hD.lower hbs); obtain ⟨A0, c0, rfl⟩ := Kd.R_slice p0; obtain ⟨A1, c1, rfl⟩ := Kd.R_slice p1; obtain ⟨A2, c2, rfl⟩ := Kd.R_slice p2; obtain ⟨A3, c3, rfl⟩ := Kd.R_slice p3; clear hD hb hbs p0 p1 p2 p3; (try clear iD0 iD1 iD2 iD3 iD4 iD5); obtain ⟨iD0, iD1, iD2, iD3, iD4, iD5⟩ := blk6 BD.out; (try clear iR0 iR1 iR2 iR3 iR4 iR5); obtain ⟨iR0, iR1, iR2, iR3, iR4, iR5⟩ := blk6 BR.out; (try clear zD0 zD1 zD2 zD3 zD4 zD5); have zD0 := blk_frozen BD.out 0; have zD1 := blk_frozen BD.out 1; have zD2 := blk_frozen BD.out 2; have zD3 := blk_frozen BD.out 3; have zD4 := blk_frozen BD.out 4; have zD5 := blk_frozen BD.out 5; (try clear zR0 zR1 zR2 zR3 zR4 zR5); have zR0 := blk_frozen BR.out 0; have zR1 := blk_frozen BR.out 1; have zR2 := blk_frozen BR.out 2; have zR3 := blk_frozen BR.out 3; have zR4 := blk_frozen BR.out 4; have zR5 := blk_frozen BR.out 5) | (go_at_call 16; refine fill6_calls BD.out (fun W hO hk hs => ?_); replace Do := Aside0.mk (HasD.fill Do.out BD.out hs); replace BR := Aside0.mk ((hs gR RD.out).trans BR.out); replace BL := Aside0.mk (hk BL.out GD.out); replace BD := Aside0.mk hO; clear hO hk hs; (with_reducible refine (CD.out _ _ _ _ _ _ _ _ _ Do.out).mono ?_); rintro e w1 ⟨rfl, hb⟩; replace BL := Aside0.mk (BL.out.trans (hb.mono BL.out.size)); (try replace BD := Aside0.mk ((hb.block gD (blk_lt BD.out)).trans BD.out)); (try replace BR := Aside0.mk ((hb.block gR (blk_lt BR.out)).trans BR.out)); (try replace Do := Aside0.mk (Do.out.on hb)); clear hb; (try clear iD0 iD1 iD2 iD3 iD4 iD5); obtain ⟨iD0, iD1, iD2, iD3, iD4, iD5⟩ := blk6 BD.out; (try clear iR0 iR1 iR2 iR3 iR4 iR5); obtain ⟨iR0, iR1, iR2, iR3, iR4, iR5⟩ := blk6 BR.out; (try clear zD0 zD1 zD2 zD3 zD4 zD5); have zD0 := blk_frozen BD.out 0; have zD1 := blk_frozen BD.out 1; have zD2 := blk_frozen BD.out 2; have zD3 := blk_frozen BD.out 3; have zD4 := blk_frozen BD.out 4; have zD5 := blk_frozen BD.out 5; (try clear zR0 zR1 zR2 zR3 zR4 zR5); have zR0 := blk_frozen BR.out 0; have zR1 := blk_frozen BR.out 1; have zR2 := blk_frozen BR.out 2; have zR3 := blk_frozen BR.out 3; have zR4 := blk_frozen BR.out 4; have zR5 := blk_frozen BR.out 5) | (go_at_call 61; have LW := BL.out.size; (with_reducible refine (CQ.out _ _ _ _ _ _ _ _ _ Do.out).mono ?_); rintro e w1 ⟨v4, rfl, hR4, hb⟩; obtain ⟨A4, c4, rfl⟩ := Kd.R_slice hR4; replace Do := Aside0.mk (has_r2 Do.out hb LW hR4); replace BL := Aside0.mk (BL.out.trans (hb.mono BL.out.size)); (try replace BD := Aside0.mk ((hb.block gD (blk_lt BD.out)).trans BD.out)); (try replace BR := Aside0.mk ((hb.block gR (blk_lt BR.out)).trans BR.out)); clear hR4 hb LW; (try clear iD0 iD1 iD2 iD3 iD4 iD5); obtain ⟨iD0, iD1, iD2, iD3, iD4, iD5⟩ := blk6 BD.out; (try clear iR0 iR1 iR2 iR3 iR4 iR5); obtain ⟨iR0, iR1, iR2, iR3, iR4, iR5⟩ := blk6 BR.out; (try clear zD0 zD1 zD2 zD3 zD4 zD5); have zD0 := blk_frozen BD.out 0; have zD1 := blk_frozen BD.out 1; have zD2 := blk_frozen BD.out 2; have zD3 := blk_frozen BD.out 3; have zD4 := blk_frozen BD.out 4; have zD5 := blk_frozen BD.out 5; (try clear zR0 zR1 zR2 zR3 zR4 zR5); have zR0 := blk_frozen BR.out 0; have zR1 := blk_frozen BR.out 1; have zR2 := blk_frozen BR.out 2; have zR3 := blk_frozen BR.out 3; have zR4 := blk_frozen BR.out 4; have zR5 := blk_frozen BR.out 5) | ((with_reducible refine gate_store (t := 30) (p := 27) rfl ?_); refine store_event (t := 30) (p := 27) (v := ?vo27) (w1 := w1.setCell ⟨gD, 2, none⟩ (.slice A4 q.length c4)) ?hg ?ho ?hn ?hr ?_; (case ho => rfl); (case hg => rfl); (case hn => rfl); (case hr => first | (go_simp; done) | (go_simp; rfl)); intro wz hw; have hs : ∀ j, j ≠ gD → wz.heap[j]? = w1.heap[j]? := (by rw [hw]; exact fun j hj => Below.heap_setCell w1 ⟨gD, 2, none⟩ _ j hj); have hbl : Below w.heap.size w wz := (by rw [hw]; exact below_set BL.out GD.out); have hG : wz.heap[gD]? = some (.cells #[.slice A0 o1.length c0, .slice A1 o2.length c1, .slice A4 q.length c4, .slice A3 o4.length c3, .int .i64 o5, .int .i64 o6] 32 (0, 0)) := (by rw [hw]; exact blk_put (cs := #[.slice A0 o1.length c0, .slice A1 o2.length c1, .slice A2 o3.length c2, .slice A3 o4.length c3, .int .i64 o5, .int .i64 o6]) BD.out 2 _ rfl); clear hw; replace Do := Aside0.mk (HasD.fill Do.out BD.out hs); replace BR := Aside0.mk ((hs gR RD.out).trans BR.out); clear BL BD; have BL := Aside0.mk hbl; have BD := Aside0.mk hG; clear hs hbl hG; obtain ⟨w1, hw1⟩ : ∃ x, x = wz := ⟨_, rfl⟩; subst hw1; (try clear iD0 iD1 iD2 iD3 iD4 iD5); obtain ⟨iD0, iD1, iD2, iD3, iD4, iD5⟩ := blk6 BD.out; (try clear iR0 iR1 iR2 iR3 iR4 iR5); obtain ⟨iR0, iR1, iR2, iR3, iR4, iR5⟩ := blk6 BR.out; (try clear zD0 zD1 zD2 zD3 zD4 zD5); have zD0 := blk_frozen BD.out 0; have zD1 := blk_frozen BD.out 1; have zD2 := blk_frozen BD.out 2; have zD3 := blk_frozen BD.out 3; have zD4 := blk_frozen BD.out 4; have zD5 := blk_frozen BD.out 5; (try clear zR0 zR1 zR2 zR3 zR4 zR5); have zR0 := blk_frozen BR.out 0; have zR1 := blk_frozen BR.out 1; have zR2 := blk_frozen BR.out 2; have zR3 := blk_frozen BR.out 3; have zR4 := blk_frozen BR.out 4; have zR5 := blk_frozen BR.out 5) | ((with_reducible refine gate_dst (N := 28) rfl ?_); refine Kd.R_lit k59 _ 59 ?hg (N := 28) ?hd (xs := []) (inner := []) (ok := fun _ => True) (okp := fun _ => True) ?hr ?hp (fun _ hk => hk) trivial (Below.refl _ _) (Nat.le_refl _) (by simp) ?_; (case hd => rfl); (case hg => rfl); (case hr => (go_simp; done)); (case hp => exact (Reps.none _ _)); intro v4 w1 ho hb hg_ hnew_; clear hg_ hnew_; have LW := BL.out.size; have LD := Aside0.mk Do.out.lt; have NEV := Aside0.mk (fun k hd (hv : some k = v4.ownBlock) => Nat.not_le_of_lt (LD.out k hd) (Kd.R_base ho k hv.symm)); have RE := Aside0.mk (Kd.R_lower ho LW); replace BL := Aside0.mk (BL.out.trans (hb.mono BL.out.size)); (try replace BD := Aside0.mk ((hb.block gD (blk_lt BD.out)).trans BD.out)); (try replace BR := Aside0.mk ((hb.block gR (blk_lt BR.out)).trans BR.out)); (try replace Do := Aside0.mk (Do.out.on hb)); clear hb ho LW LD; (try clear iD0 iD1 iD2 iD3 iD4 iD5); obtain ⟨iD0, iD1, iD2, iD3, iD4, iD5⟩ := blk6 BD.out; (try clear iR0 iR1 iR2 iR3 iR4 iR5); obtain ⟨iR0, iR1, iR2, iR3, iR4, iR5⟩ := blk6 BR.out; (try clear zD0 zD1 zD2 zD3 zD4 zD5); have zD0 := blk_frozen BD.out 0; have zD1 := blk_frozen BD.out 1; have zD2 := blk_frozen BD.out 2; have zD3 := blk_frozen BD.out 3; have zD4 := blk_frozen BD.out 4; have zD5 := blk_frozen BD.out 5; (try clear zR0 zR1 zR2 zR3 zR4 zR5); have zR0 := blk_frozen BR.out 0; have zR1 := blk_frozen BR.out 1; have zR2 := blk_frozen BR.out 2; have zR3 := blk_frozen BR.out 3; have zR4 := blk_frozen BR.out 4; have zR5 := blk_frozen BR.out 5) | ((with_reducible refine gate_builtin (b := .append) (xs := #[.tmp 28, .tmp 29]) rfl ?_); at_builtin; refine Kd.R_append_rows k59 (w0 := w) w.heap.size rfl (.tmp 28) (.tmp 29) 30 59 (.agg #[(.string ⟨#[]⟩), (.int .i64 0)]) 24 rfl Tryz.underlying30 info59 rfl (by decide) (by omega) v4 [] q _ _ _ (fun k_ => some k_ ≠ (Value.slice A4 q.length c4).ownBlock) (fun _ => False) rfl rfl ?aO ?aR (fun _ _ h => h) (fun _ h => h.elim) ?aF ?aB ?aS ?aL ?_; (case aR => exact (Kd.R_reads' Do.out.r2).2.2); (case aB => exact BL.out); (case aF => exact fun k_ hk e => Nat.not_le_of_lt (Kd.R_lt Do.out.r2 k_ e.symm) hk); (case aO => exact Kd.R_mono (Kd.R_tight rfl RE.out) (fun k hk e => NEV.out k (.inr (.inr (.inl e))) hk)); (case aS => exact BL.out.size); (case aL => have := HQL.out; rw [List.length_nil]; omega); intro v5 w1 ho hb hg1 hat1; rw [List.nil_append] at ho; have hT : Turned _ w1 _ := ⟨hg1.os, hg1.tape, hg1.output, hg1.size, fun k hk hn => hg1.block k hk hn⟩; have hD := has_r1n Do.out hT (fun k ho hs => NEV.out k ho hs) ho; obtain ⟨A6, c6, rfl⟩ := Kd.R_slice ho; replace BD := Aside0.mk ((hT.block gD (blk_lt BD.out) (fun e => Kd.R_ne RE.out BD.out (by decide) e)).trans BD.out); replace BR := Aside0.mk ((hT.block gR (blk_lt BR.out) (fun e => Kd.R_ne RE.out BR.out (by decide) e)).trans BR.out); clear BL Do RE NEV; have BL := Aside0.mk hb; have Do := Aside0.mk hD; clear hD ho hb hg1 hat1 hT; (try clear iD0 iD1 iD2 iD3 iD4 iD5); obtain ⟨iD0, iD1, iD2, iD3, iD4, iD5⟩ := blk6 BD.out; (try clear iR0 iR1 iR2 iR3 iR4 iR5); obtain ⟨iR0, iR1, iR2, iR3, iR4, iR5⟩ := blk6 BR.out; (try clear zD0 zD1 zD2 zD3 zD4 zD5); have zD0 := blk_frozen BD.out 0; have zD1 := blk_frozen BD.out 1; have zD2 := blk_frozen BD.out 2; have zD3 := blk_frozen BD.out 3; have zD4 := blk_frozen BD.out 4; have zD5 := blk_frozen BD.out 5; (try clear zR0 zR1 zR2 zR3 zR4 zR5); have zR0 := blk_frozen BR.out 0; have zR1 := blk_frozen BR.out 1; have zR2 := blk_frozen BR.out 2; have zR3 := blk_frozen BR.out 3; have zR4 := blk_frozen BR.out 4; have zR5 := blk_frozen BR.out 5) | ((with_reducible refine gate_store (t := 30) (p := 31) rfl ?_); refine store_event (t := 30) (p := 31) (v := ?vo31) (w1 := w1.setCell ⟨gD, 1, none⟩ (.slice A6 q.length c6)) ?hg ?ho ?hn ?hr ?_; (case ho => rfl); (case hg => rfl); (case hn => rfl); (case hr => first | (go_simp; done) | (go_simp; rfl)); intro wz hw; have hs : ∀ j, j ≠ gD → wz.heap[j]? = w1.heap[j]? := (by rw [hw]; exact fun j hj => Below.heap_setCell w1 ⟨gD, 1, none⟩ _ j hj); have hbl : Below w.heap.size w wz := (by rw [hw]; exact below_set BL.out GD.out); have hG : wz.heap[gD]? = some (.cells #[.slice A0 o1.length c0, .slice A6 q.length c6, .slice A4 q.length c4, .slice A3 o4.length c3, .int .i64 o5, .int .i64 o6] 32 (0, 0)) := (by rw [hw]; exact blk_put (cs := #[.slice A0 o1.length c0, .slice A1 o2.length c1, .slice A4 q.length c4, .slice A3 o4.length c3, .int .i64 o5, .int .i64 o6]) BD.out 1 _ rfl); clear hw; replace Do := Aside0.mk (HasD.fill Do.out BD.out hs); replace BR := Aside0.mk ((hs gR RD.out).trans BR.out); clear BL BD; have BL := Aside0.mk hbl; have BD := Aside0.mk hG; clear hs hbl hG; obtain ⟨w1, hw1⟩ : ∃ x, x = wz := ⟨_, rfl⟩; subst hw1; (try clear iD0 iD1 iD2 iD3 iD4 iD5); obtain ⟨iD0, iD1, iD2, iD3, iD4, iD5⟩ := blk6 BD.out; (try clear iR0 iR1 iR2 iR3 iR4 iR5); obtain ⟨iR0, iR1, iR2, iR3, iR4, iR5⟩ := blk6 BR.out; (try clear zD0 zD1 zD2 zD3 zD4 zD5); have zD0 := blk_frozen BD.out 0; have zD1 := blk_frozen BD.out 1; have zD2 := blk_frozen BD.out 2; have zD3 := blk_frozen BD.out 3; have zD4 := blk_frozen BD.out 4; have zD5 := blk_frozen BD.out 5; (try clear zR0 zR1 zR2 zR3 zR4 zR5); have zR0 := blk_frozen BR.out 0; have zR1 := blk_frozen BR.out 1; have zR2 := blk_frozen BR.out 2; have zR3 := blk_frozen BR.out 3; have zR4 := blk_frozen BR.out 4; have zR5 := blk_frozen BR.out 5) | ((with_reducible refine gate_dst (N := 32) rfl ?_); refine Kd.R_lit Kd.string _ 9 ?hg (N := 32) ?hd (xs := []) (inner := []) (ok := fun _ => True) (okp := fun _ => True) ?hr ?hp (fun _ hk => hk) trivial (Below.refl _ _) (Nat.le_refl _) (by simp) ?_; (case hd => rfl); (case hg => rfl); (case hr => (go_simp; done)); (case hp => exact (Reps.none _ _)); intro v4 w1 ho hb hg_ hnew_; clear hg_ hnew_; have LW := BL.out.size; rw [← HDL.out] at ho; replace Do := Aside0.mk (has_r3 Do.out (Turned.of hb _) (Kd.R_lower ho LW)); obtain ⟨A7, c7, rfl⟩ := Kd.R_slice ho; replace BL := Aside0.mk (BL.out.trans (hb.mono BL.out.size)); (try replace BD := Aside0.mk ((hb.block gD (blk_lt BD.out)).trans BD.out)); (try replace BR := Aside0.mk ((hb.block gR (blk_lt BR.out)).trans BR.out)); clear hb ho LW; (try clear iD0 iD1 iD2 iD3 iD4 iD5); obtain ⟨iD0, iD1, iD2, iD3, iD4, iD5⟩ := blk6 BD.out; (try clear iR0 iR1 iR2 iR3 iR4 iR5); obtain ⟨iR0, iR1, iR2, iR3, iR4, iR5⟩ := blk6 BR.out; (try clear zD0 zD1 zD2 zD3 zD4 zD5); have zD0 := blk_frozen BD.out 0; have zD1 := blk_frozen BD.out 1; have zD2 := blk_frozen BD.out 2; have zD3 := blk_frozen BD.out 3; have zD4 := blk_frozen BD.out 4; have zD5 := blk_frozen BD.out 5; (try clear zR0 zR1 zR2 zR3 zR4 zR5); have zR0 := blk_frozen BR.out 0; have zR1 := blk_frozen BR.out 1; have zR2 := blk_frozen BR.out 2; have zR3 := blk_frozen BR.out 3; have zR4 := blk_frozen BR.out 4; have zR5 := blk_frozen BR.out 5) | ((with_reducible refine gate_store (t := 24) (p := 33) rfl ?_); refine store_event (t := 24) (p := 33) (v := ?vo33) (w1 := w1.setCell ⟨gD, 3, none⟩ (.slice A7 dl.length c7)) ?hg ?ho ?hn ?hr ?_; (case ho => rfl); (case hg => rfl); (case hn => rfl); (case hr => first | (go_simp; done) | (go_simp; rfl)); intro wz hw; have hs : ∀ j, j ≠ gD → wz.heap[j]? = w1.heap[j]? := (by rw [hw]; exact fun j hj => Below.heap_setCell w1 ⟨gD, 3, none⟩ _ j hj); have hbl : Below w.heap.size w wz := (by rw [hw]; exact below_set BL.out GD.out); have hG : wz.heap[gD]? = some (.cells #[.slice A0 o1.length c0, .slice A6 q.length c6, .slice A4 q.length c4, .slice A7 dl.length c7, .int .i64 o5, .int .i64 o6] 32 (0, 0)) := (by rw [hw]; exact blk_put (cs := #[.slice A0 o1.length c0, .slice A6 q.length c6, .slice A4 q.length c4, .slice A3 o4.length c3, .int .i64 o5, .int .i64 o6]) BD.out 3 _ rfl); clear hw; replace Do := Aside0.mk (HasD.fill Do.out BD.out hs); replace BR := Aside0.mk ((hs gR RD.out).trans BR.out); clear BL BD; have BL := Aside0.mk hbl; have BD := Aside0.mk hG; clear hs hbl hG; obtain ⟨w1, hw1⟩ : ∃ x, x = wz := ⟨_, rfl⟩; subst hw1; (try clear iD0 iD1 iD2 iD3 iD4 iD5); obtain ⟨iD0, iD1, iD2, iD3, iD4, iD5⟩ := blk6 BD.out; (try clear iR0 iR1 iR2 iR3 iR4 iR5); obtain ⟨iR0, iR1, iR2, iR3, iR4, iR5⟩ := blk6 BR.out; (try clear zD0 zD1 zD2 zD3 zD4 zD5); have zD0 := blk_frozen BD.out 0; have zD1 := blk_frozen BD.out 1; have zD2 := blk_frozen BD.out 2; have zD3 := blk_frozen BD.out 3; have zD4 := blk_frozen BD.out 4; have zD5 := blk_frozen BD.out 5; (try clear zR0 zR1 zR2 zR3 zR4 zR5); have zR0 := blk_frozen BR.out 0; have zR1 := blk_frozen BR.out 1; have zR2 := blk_frozen BR.out 2; have zR3 := blk_frozen BR.out 3; have zR4 := blk_frozen BR.out 4; have zR5 := blk_frozen BR.out 5))
    go_loopg [9] o1.length (fun gg s9 wr => ∃ (kk : Nat) (cur : List S57), kk ≤ o1.length ∧ o1.length - kk ≤ gg ∧ s9 = .int .i64 kk ∧ Aside0 (cur.length = o1.length) ∧ Aside0 (∃ rest, cutSpec k l2 (cur.drop kk) = some rest ∧ cur.take kk ++ rest = ns) ∧ Aside0 (Below w.heap.size w wr) ∧ Aside0 (wr.heap[gD]? = some (.cells #[.slice A0 o1.length c0, .slice A6 q.length c6, .slice A4 q.length c4, .slice A7 dl.length c7, .int .i64 o5, .int .i64 o6] 32 (0, 0))) ∧ Aside0 (wr.heap[gR]? = some (.cells #[.slice none 0 0, .slice none 0 0, .slice none 0 0, .slice none 0 0, .int .i64 0, .int .i64 0] 32 (0, 0))) ∧ Aside0 (HasD wr w.heap.size (.slice A0 o1.length c0) (.slice A6 q.length c6) (.slice A4 q.length c4) (.slice A7 dl.length c7) cur q q dl))
    case atStart => exact ⟨0, o1, by omega, by omega, rfl, ⟨rfl⟩, ⟨ns, HNS.out, rfl⟩, BL, BD, BR, Do⟩
    case round =>
      obtain ⟨kk, cur, hkk, hgg, rfl, CL, PC, BL, BD, BR, Do⟩ := hrel
      (try clear iD0 iD1 iD2 iD3 iD4 iD5 iR0 iR1 iR2 iR3 iR4 iR5 zD0 zD1 zD2 zD3 zD4 zD5 zR0 zR1 zR2 zR3 zR4 zR5)
      have hmax : o1.length ≤ 9223372036854775807 := by have h1 := (Kd.R_reads' Do.out.r0).2.2.2.1; have h2 := CL.out; omega
      by_cases hlt : kk < o1.length
      · have hkl : kk < cur.length := by rw [CL.out]; exact hlt
        have hltz : (kk : Int) < (o1.length : Int) := by omega
        have hk0 : (0 : Int) ≤ (kk : Int) := by omega
        obtain ⟨x, hx⟩ : ∃ x, cur[kk]? = some x := ⟨_, List.getElem?_eq_getElem hkl⟩
        obtain ⟨gN, row, rfl, hbg, hg, c0', c1', c2', hfr, hs1, hs2⟩ := cutRow Do.out kk x hx
        obtain ⟨rest, hrest, hns⟩ := PC.out
        rw [List.drop_eq_getElem_cons hkl, cutSpec, show cur[kk] = x from Option.some.inj ((List.getElem?_eq_getElem hkl).symm.trans hx)] at hrest
        replace hrest := Option.bind_eq_some_iff.mp hrest
        obtain ⟨m, hKm, hrest⟩ := hrest
        by_cases hm : 0 ≤ m ∧ m ≤ (x.f1.size : Int)
        case neg => rw [if_neg hm] at hrest; cases hrest
        rw [if_pos hm] at hrest
        obtain ⟨hm0, hm1⟩ := hm
        replace hrest := Option.bind_eq_some_iff.mp hrest
        obtain ⟨rt, hrt, hrest⟩ := hrest
        obtain rfl := Option.some.inj hrest
        clear hrest
        have HRT := Aside0.mk hrt
        have HNS2 := Aside0.mk hns
        have HX := Aside0.mk hx
        have HKL := Aside0.mk hkl
        have hbL := HC.out.2.1
        clear hrt hns hs1 hs2 PC hx hkl hbg hg hfr
        (try clear iD0 iD1 iD2 iD3 iD4 iD5); obtain ⟨iD0, iD1, iD2, iD3, iD4, iD5⟩ := blk6 BD.out
        unfold keepK at hKm
        by_cases h0 : l2.length = 0
        case' pos =>
          rw [if_pos h0] at hKm
          have hKm := Option.some.inj hKm
          rw [hKm] at c2'
          have hz0 : decide ((0 : Int) < (l2.length : Int)) = false := decide_eq_false (by omega)
          have hz1 : decide (0 < l2.length) = false := decide_eq_false (by omega)
          clear h0
          go_wp2_with fail
          rename World => w9
        case' neg =>
          rw [if_neg h0] at hKm
          by_cases h1 : 0 ≤ Int.tmod x.f0 (l2.length : Int)
          case neg => rw [if_neg h1] at hKm; cases hKm
          rw [if_pos h1] at hKm
          replace hKm := Option.bind_eq_some_iff.mp hKm
          obtain ⟨t, ht, hKm⟩ := hKm
          have hKm := Option.some.inj hKm
          have hz0 : (0 : Int) < (l2.length : Int) := by omega
          have hz1 : ¬ ((l2.length : Int) = 0) := by omega
          have h2 : Int.tmod x.f0 (l2.length : Int) < (l2.length : Int) := Int.tmod_lt_of_pos _ hz0
          go_wp2_with fail
          obtain ⟨ad, rfl, hx⟩ := Kd.at_int (Kd.C_below HC.out BL.out) (Int.tmod x.f0 (l2.length : Int)) h1 h2
          have CB := Aside0.mk (fun (w1 : World) => ((spec_Brought.calls k _ _ _ t w1 ht).mono (fun e w' q => ⟨q.1, by obtain ⟨nd, hnd⟩ := q.2; rw [hnd]; exact pw_below_drewN (Below.refl _ _) nd⟩) : Calls Tryz.prog 96 _ w1 fun e w' => e = .returned (.int .i64 t) ∧ Below w1.heap.size w1 w'))
          clear ht
          have d1 : decide (0 ≤ Int.tmod x.f0 (l2.length : Int)) = true := decide_eq_true h1
          have d2 : decide (Int.tmod x.f0 (l2.length : Int) < (l2.length : Int)) = true := decide_eq_true h2
          have hwt : IntKind.i64.wrap (x.f2 + t) = m := (i64_w _).trans hKm
          have hws : IntKind.i64.wrap ((x.f1.size : Int) - x.f2) = wrap64 ((x.f1.size : Int) - x.f2) := i64_w _
          clear hKm
          have sq0_ : ∀ p_ : LaidBy wr, p_.W.cell? ⟨gD, 0, none⟩ = some (.slice (some ⟨gN, 0, none⟩) o1.length c0) := fun p_ => p_.cell (iD0)
          have sq1_ : ∀ p_ : LaidBy wr, p_.W.cell? ⟨gN, kk * 3, none⟩ = some (.int .i64 x.f0) := fun p_ => p_.cell (c0')
          have sq2_ : ∀ p_ : LaidBy wr, p_.W.cell? ⟨gN, kk * 3 + 1, none⟩ = some (.string x.f1) := fun p_ => p_.cell (c1')
          have sq3_ : ∀ p_ : LaidBy wr, p_.W.cell? (ad.add (Int.tmod x.f0 (l2.length : Int)).toNat) = some (.int .i64 (rd l2 (Int.tmod x.f0 (l2.length : Int)))) := fun p_ => p_.cell (hx)
          refine wp_region_laid (by kernel_rfl) (by kernel_rfl) ?_
          repeat (go_big_quiet_step (first | (go_at_call 96; with_reducible exact laid_of _ (CB.out _))))
          refine wpQuiet_nil ?_
          rintro w9 ⟨p_, hp_⟩
          have hq_ : Below wr.heap.size wr w9 := hp_ ▸ p_.ok
          clear hp_ p_ sq0_ sq1_ sq2_ sq3_
          have hb := hq_
          replace BL := Aside0.mk (BL.out.trans (hb.mono BL.out.size)); (try replace BD := Aside0.mk ((hb.block gD (blk_lt BD.out)).trans BD.out)); (try replace BR := Aside0.mk ((hb.block gR (blk_lt BR.out)).trans BR.out)); (try replace Do := Aside0.mk (Do.out.on hb))
          clear hb hq_
          go_wp2_with fail
        all_goals
          clear c0' c1' c2'
          (try clear iD0 iD1 iD2 iD3 iD4 iD5 iR0 iR1 iR2 iR3 iR4 iR5 zD0 zD1 zD2 zD3 zD4 zD5 zR0 zR1 zR2 zR3 zR4 zR5)
          have hb := below_drew (Below.refl w9.heap.size w9)
          replace BL := Aside0.mk (BL.out.trans (hb.mono BL.out.size)); (try replace BD := Aside0.mk ((hb.block gD (blk_lt BD.out)).trans BD.out)); (try replace BR := Aside0.mk ((hb.block gR (blk_lt BR.out)).trans BR.out)); (try replace Do := Aside0.mk (Do.out.on hb))
          clear hb
          obtain ⟨gN', row', eA, hbg, hg, _, c1', c2', hfr, hs1, hs2⟩ := cutRow Do.out kk _ HX.out
          obtain rfl : gN = gN' := by injection eA with eA; injection eA
          clear eA
          have hf1 := hfr (kk * 3 + 1)
          clear c2' hs2 hfr
          have hneD : gD ≠ gN := fun e => Do.out.nobox BD.out (by decide) (by decide) (by decide) (.inl (by rw [e]; rfl))
          have hneR : gR ≠ gN := fun e => Do.out.nobox BR.out (by decide) (by decide) (by decide) (.inl (by rw [e]; rfl))
          have HS1 := Aside0.mk hs1
          have HBG := Aside0.mk hbg
          have HND := Aside0.mk hneD
          have HNR := Aside0.mk hneR
          clear hs1 hg hneD hneR hbg
          refine start_ (n := 14) (S := fun w' => w'.cell? ⟨gD, 0, none⟩ = some (.slice (some ⟨gN, 0, none⟩) o1.length c0) ∧ w'.cell? ⟨gN, kk * 3 + 1, none⟩ = some (.string x.f1)) (ds := [13]) (marks 14 0) (by kernel_rfl) rfl rfl ⟨(blk_cell BD.out 0).trans rfl, c1'⟩ (fun hHeld => ?_)
          clear c1'
          generalize w9.drew = w10 at BL BD BR Do HS1 hf1 hHeld ⊢
          have hm2 : m.toNat ≤ x.f1.size := by omega
          refine pure_ (i := 0) (N := some 74) (v := ?_) (a' := ?_) (marks 14 1) rfl rfl (by kernel_rfl) (fun _ _ _ h => h) (Or.inl ⟨by rfl, ?_⟩) ?_ ?_
          rotate_left
          · intro w'
            go_simp
            with_reducible rfl
          rotate_left
          · simp only [Act.put, List.setIfInBounds_toArray, List.set_cons_zero, List.set_cons_succ, i64_w, i32_w]
            rfl
          refine pure_ (i := 2) (N := some 76) (v := ?_) (a' := ?_) (marks 14 5) rfl rfl (by kernel_rfl) (fun _ _ _ h => h) (Or.inl ⟨by rfl, ?_⟩) ?_ ?_
          rotate_left
          · intro w'
            go_simp
            with_reducible rfl
          rotate_left
          · simp only [Act.put, List.setIfInBounds_toArray, List.set_cons_zero, List.set_cons_succ, i64_w, i32_w]
            rfl
          refine pure_ (i := 3) (N := some 77) (v := ?_) (a' := ?_) (marks 14 13) rfl rfl (by kernel_rfl) (fun _ _ _ h => h) (Or.inl ⟨by rfl, ?_⟩) ?_ ?_
          rotate_left
          · intro w'
            go_simp
            with_reducible rfl
          rotate_left
          · simp only [Act.put, List.setIfInBounds_toArray, List.set_cons_zero, List.set_cons_succ, i64_w, i32_w]
            rfl
          refine pure_ (i := 5) (N := some 79) (v := ?_) (a' := ?_) (marks 14 45) rfl rfl (by kernel_rfl) (fun _ _ _ h => h) (Or.inl ⟨by rfl, ?_⟩) ?_ ?_
          rotate_left
          · intro w'
            go_simp
            with_reducible rfl
          rotate_left
          · simp only [Act.put, List.setIfInBounds_toArray, List.set_cons_zero, List.set_cons_succ, i64_w, i32_w]
            rfl
          refine pure_ (i := 9) (N := some 83) (v := ?_) (a' := ?_) (marks 14 557) rfl rfl (by kernel_rfl) (fun _ _ _ h => h) (Or.inl ⟨by rfl, ?_⟩) ?_ ?_
          rotate_left
          · intro w'
            go_simp
            with_reducible rfl
          rotate_left
          · simp only [Act.put, List.setIfInBounds_toArray, List.set_cons_zero, List.set_cons_succ, i64_w, i32_w]
            rfl
          refine take_ (i := 1) (N := some 75) (v := ?_) (a' := ?_) (marks 14 559) rfl rfl (by kernel_rfl) (fun _ _ _ h => h) (Or.inl ⟨by rfl, ?_⟩) hHeld ?_ ?_
          rotate_left
          · rintro w' ⟨s0, s1⟩
            go_simp
            with_reducible rfl
          rotate_left
          · simp only [Act.put, List.setIfInBounds_toArray, List.set_cons_zero, List.set_cons_succ, i64_w, i32_w]
            rfl
          refine take_ (i := 4) (N := some 78) (v := ?_) (a' := ?_) (marks 14 575) rfl rfl (by kernel_rfl) (fun _ _ _ h => h) (Or.inl ⟨by rfl, ?_⟩) hHeld ?_ ?_
          rotate_left
          · rintro w' ⟨s0, s1⟩
            go_simp
            with_reducible rfl
          rotate_left
          · simp only [Act.put, List.setIfInBounds_toArray, List.set_cons_zero, List.set_cons_succ, i64_w, i32_w]
            rfl
          refine pure_ (i := 6) (N := some 80) (v := ?_) (a' := ?_) (marks 14 639) rfl rfl (by kernel_rfl) (fun _ _ _ h => h) (Or.inl ⟨by rfl, ?_⟩) ?_ ?_
          rotate_left
          · intro w'
            go_simp
            with_reducible rfl
          rotate_left
          · simp only [Act.put, List.setIfInBounds_toArray, List.set_cons_zero, List.set_cons_succ, i64_w, i32_w]
            rfl
          refine pure_ (i := 7) (N := some 81) (v := ?_) (a' := ?_) (marks 14 767) rfl rfl (by kernel_rfl) (fun _ _ _ h => h) (Or.inl ⟨by rfl, ?_⟩) ?_ ?_
          rotate_left
          · intro w'
            go_simp
            with_reducible rfl
          rotate_left
          · simp only [Act.put, List.setIfInBounds_toArray, List.set_cons_zero, List.set_cons_succ, i64_w, i32_w]
            rfl
          refine take_ (i := 8) (N := some 82) (v := ?_) (a' := ?_) (marks 14 1023) rfl rfl (by kernel_rfl) (fun _ _ _ h => h) (Or.inl ⟨by rfl, ?_⟩) hHeld ?_ ?_
          rotate_left
          · rintro w' ⟨s0, s1⟩
            go_simp
            with_reducible rfl
          rotate_left
          · simp only [Act.put, List.setIfInBounds_toArray, List.set_cons_zero, List.set_cons_succ, i64_w, i32_w]
            rfl
          refine pure_ (i := 10) (N := some 84) (v := ?_) (a' := ?_) (marks 14 2047) rfl rfl (by kernel_rfl) (fun _ _ _ h => h) (Or.inl ⟨by rfl, ?_⟩) ?_ ?_
          rotate_left
          · intro w'
            go_simp
            with_reducible rfl
          rotate_left
          · simp only [Act.put, List.setIfInBounds_toArray, List.set_cons_zero, List.set_cons_succ, i64_w, i32_w]
            rfl
          refine pure_ (i := 11) (N := some 85) (v := ?_) (a' := ?_) (marks 14 4095) rfl rfl (by kernel_rfl) (fun _ _ _ h => h) (Or.inl ⟨by rfl, ?_⟩) ?_ ?_
          rotate_left
          · intro w'
            go_simp
            with_reducible rfl
          rotate_left
          · simp only [Act.put, List.setIfInBounds_toArray, List.set_cons_zero, List.set_cons_succ, i64_w, i32_w]
            rfl
          refine pure_ (i := 12) (N := some 86) (v := ?_) (a' := ?_) (marks 14 8191) rfl rfl (by kernel_rfl) (fun _ _ _ h => h) (Or.inl ⟨by rfl, ?_⟩) ?_ ?_
          rotate_left
          · intro w'
            go_simp
            with_reducible rfl
          rotate_left
          · simp only [Act.put, List.setIfInBounds_toArray, List.set_cons_zero, List.set_cons_succ, i64_w, i32_w]
            rfl
          refine last_ (i := 13) (N := none) (marks 14 16383) rfl rfl (by kernel_rfl) (by decide) (fun K hK => ?_)
          refine skip_ (w1 := ?_) (by rfl) rfl ?_ ?_
          rotate_left
          · go_simp
            rfl
          refine hK.out _ _ ?_
          clear hK K hHeld
          refine done_ (by kernel_rfl) ?_
          have hneD := HND.out
          have hneR := HNR.out
          have hbg := HBG.out
          clear HND HNR
          generalize x.f1.extract 0 m.toNat = tx at HNS2 ⊢
          have b1 : Below w.heap.size w (w10.setCell ⟨gN, kk * 3 + 1, none⟩ (.string tx)) := below_set BL.out hbg
          have b2 : (w10.setCell ⟨gN, kk * 3 + 1, none⟩ (.string tx)).heap[gD]? = some (.cells #[.slice (some ⟨gN, 0, none⟩) o1.length c0, .slice A6 q.length c6, .slice A4 q.length c4, .slice A7 dl.length c7, .int .i64 o5, .int .i64 o6] 32 (0, 0)) := blk_far BD.out hneD _
          have b3 : (w10.setCell ⟨gN, kk * 3 + 1, none⟩ (.string tx)).heap[gR]? = some (.cells #[.slice none 0 0, .slice none 0 0, .slice none 0 0, .slice none 0 0, .int .i64 0, .int .i64 0] 32 (0, 0)) := blk_far BR.out hneR _
          have b4 := HS1.out tx
          clear BL BD BR Do HS1 hf1
          generalize w10.setCell ⟨gN, kk * 3 + 1, none⟩ (.string tx) = w11 at b1 b2 b3 b4 ⊢
          have BL := Aside0.mk b1
          have BD := Aside0.mk b2
          have BR := Aside0.mk b3
          have Do := Aside0.mk b4
          clear b1 b2 b3 b4
          (try clear iD0 iD1 iD2 iD3 iD4 iD5); obtain ⟨iD0, iD1, iD2, iD3, iD4, iD5⟩ := blk6 BD.out
          obtain ⟨gN', row', eA, hbg, hg, _, c1', c2', hfr, hs1, hs2⟩ := cutRow Do.out kk _ (List.getElem?_set_self HKL.out)
          obtain rfl : gN = gN' := by injection eA with eA; injection eA
          clear eA
          have HS2 := Aside0.mk hs2
          have HFR := Aside0.mk (And.intro hneD (And.intro hneR hbg))
          have hf2 := hfr (kk * 3 + 2)
          clear c1' hs1 hs2 hfr hg hneD hneR hbg HBG
          go_wp2_with (first | ((with_reducible refine gate_store (t := 3) (p := 92) rfl ?_); refine store_event (t := 3) (p := 92) (v := ?vo92) (w1 := w11.setCell ⟨gN, kk * 3 + 2, none⟩ (.int .i64 m)) ?hg ?ho ?hn ?hr ?_; (case ho => rfl); (case hg => rfl); (case hn => rfl); (case hr => first | (go_simp; done) | (go_simp; rfl)); intro wz hw; obtain ⟨hneD, hneR, hbg⟩ := HFR.out; have b1 : Below w.heap.size w (w11.setCell ⟨gN, kk * 3 + 2, none⟩ (.int .i64 m)) := below_set BL.out hbg; have b2 : (w11.setCell ⟨gN, kk * 3 + 2, none⟩ (.int .i64 m)).heap[gD]? = some (.cells #[.slice (some ⟨gN, 0, none⟩) o1.length c0, .slice A6 q.length c6, .slice A4 q.length c4, .slice A7 dl.length c7, .int .i64 o5, .int .i64 o6] 32 (0, 0)) := blk_far BD.out hneD _; have b3 : (w11.setCell ⟨gN, kk * 3 + 2, none⟩ (.int .i64 m)).heap[gR]? = some (.cells #[.slice none 0 0, .slice none 0 0, .slice none 0 0, .slice none 0 0, .int .i64 0, .int .i64 0] 32 (0, 0)) := blk_far BR.out hneR _; have b4 := HS2.out m; rw [← hw] at b1 b2 b3 b4; clear BL BD BR Do HS2 hneD hneR hbg HFR hw; have BL := Aside0.mk b1; have BD := Aside0.mk b2; have BR := Aside0.mk b3; have Do := Aside0.mk b4; clear b1 b2 b3 b4 iD0 iD1 iD2 iD3 iD4 iD5 hf2 c2'))
          go_roundg (o1.length - (kk + 1))
          case measure => omega
          case rel => exact ⟨kk + 1, _, by omega, by omega, by go_num, ⟨by rw [List.length_set, List.length_set]; exact CL.out⟩, ⟨rt, by rw [List.set_set, List.drop_set, if_pos (Nat.lt_succ_self _)]; exact HRT.out, by rw [List.set_set, take_set_snoc _ _ _ HKL.out, List.append_assoc]; exact HNS2.out⟩, BL, BD, BR, Do⟩
      · have hcl := CL.out
        have hz : cur.drop kk = [] := List.drop_eq_nil_of_le (by omega)
        obtain ⟨rest, hrest, hns⟩ := PC.out
        rw [hz, cutSpec] at hrest
        obtain rfl := Option.some.inj hrest
        rw [List.append_nil, List.take_of_length_le (by omega)] at hns
        subst hns
        have hltz : ¬ (kk : Int) < (cur.length : Int) := by omega
        have BD2 : Aside0 (wr.heap[gD]? = some (.cells #[.slice A0 cur.length c0, .slice A6 q.length c6, .slice A4 q.length c4, .slice A7 dl.length c7, .int .i64 o5, .int .i64 o6] 32 (0, 0))) := ⟨by rw [CL.out]; exact BD.out⟩
        have Do2 : Aside0 (HasD wr w.heap.size (.slice A0 cur.length c0) (.slice A6 q.length c6) (.slice A4 q.length c4) (.slice A7 dl.length c7) cur q q dl) := ⟨by rw [CL.out]; exact Do.out⟩
        clear BD Do hz hrest PC hmax hcl CL hkk hgg
        have BD := BD2
        have Do := Do2
        clear BD2 Do2
        (try clear iD0 iD1 iD2 iD3 iD4 iD5); obtain ⟨iD0, iD1, iD2, iD3, iD4, iD5⟩ := blk6 BD.out
        (try clear iR0 iR1 iR2 iR3 iR4 iR5); obtain ⟨iR0, iR1, iR2, iR3, iR4, iR5⟩ := blk6 BR.out
        (try clear zD0 zD1 zD2 zD3 zD4 zD5); have zD0 := blk_frozen BD.out 0; have zD1 := blk_frozen BD.out 1; have zD2 := blk_frozen BD.out 2; have zD3 := blk_frozen BD.out 3; have zD4 := blk_frozen BD.out 4; have zD5 := blk_frozen BD.out 5
        (try clear zR0 zR1 zR2 zR3 zR4 zR5); have zR0 := blk_frozen BR.out 0; have zR1 := blk_frozen BR.out 1; have zR2 := blk_frozen BR.out 2; have zR3 := blk_frozen BR.out 3; have zR4 := blk_frozen BR.out 4; have zR5 := blk_frozen BR.out 5
        go_wp2_with (first | (go_at_call 97; refine (cleanS_calls k w _ BL.out Do.out HZ.out).mono ?_; rintro e w2 ⟨u0, u1, u2, u3, rfl, hD, hb, hk⟩; have BR2 := Aside0.mk ((hk.2 gR (blk_lt BR.out) (Do.out.nobox BR.out (by decide) (by decide) (by decide))).trans BR.out); obtain ⟨B0, b0, B1, b1, B2, b2, B3, b3, rfl, rfl, rfl, rfl⟩ := has_slices hD; clear BR BL BD Do; have BR := BR2; have BL := Aside0.mk hb; have Do := Aside0.mk hD; clear BR2 hD hb hk; clear iD0 iD1 iD2 iD3 iD4 iD5 zD0 zD1 zD2 zD3 zD4 zD5; (try clear iR0 iR1 iR2 iR3 iR4 iR5); obtain ⟨iR0, iR1, iR2, iR3, iR4, iR5⟩ := blk6 BR.out; (try clear zR0 zR1 zR2 zR3 zR4 zR5); have zR0 := blk_frozen BR.out 0; have zR1 := blk_frozen BR.out 1; have zR2 := blk_frozen BR.out 2; have zR3 := blk_frozen BR.out 3; have zR4 := blk_frozen BR.out 4; have zR5 := blk_frozen BR.out 5))
        refine bodyPost_ret (results_cell_row rfl _ _ gR 32 #[.slice B0 r1.length b0, .slice B1 r2.length b1, .slice B2 r3.length b2, .slice B3 r4.length b3, .int .i64 r5, .int .i64 r6] (0, 0) _ rfl (fill6_at BR.out) Tryz.underlying32 rfl (by kernel_rfl)) rfl ?_
        have hT := filled_told (.int .i64 r5) (.int .i64 r6) Do.out BR.out
        exact ⟨_, _, _, _, rfl, hT.1, hT.2.1, hT.2.2.1, hT.2.2.2, fill6_below BL.out GR.out⟩

/-! ### spec_SameDisk: function 55 -/
theorem eqNodes (d : Nat) (w : World) (x0 y0 : Int) (x1 y1 : ByteArray) (x2 y2 : Int) :
    (Op.equalIn (d + 2) 57 (.agg #[.int .i64 x0, .string x1, .int .i64 x2]) (.agg #[.int .i64 y0, .string y1, .int .i64 y2])).run Tryz.prog w = .ok (x0 == y0 && (x1.toList == y1.toList && (x2 == y2))) w := by
  refine eqA_of Tryz.underlying57 (by kernel_rfl) ?_
  refine eqf_cons (by rfl) (by go_simp; rfl) (by go_simp; rfl) (by go_simp) ?_
  refine eqf_cons (by rfl) (by go_simp; rfl) (by go_simp; rfl) (by go_simp) ?_
  exact eqf_last (by rfl) (by go_simp; rfl) (by go_simp; rfl) (by go_simp)
attribute [local go_sem high] eqNodes
def rowN (x y : S57) : Bool := (x.f0 == y.f0) && ((x.f1.toList == y.f1.toList) && (x.f2 == y.f2))
def rowB (x y : ByteArray) : Bool := x.toList == y.toList
def rowsEq {α : Type} (p : α → α → Bool) : List α → List α → Bool
  | [], [] => true
  | x :: xs, y :: ys => p x y && rowsEq p xs ys
  | _, _ => false
theorem rowsEq_drop {α : Type} (p : α → α → Bool) (z : α) (xs ys : List α) (i : Nat) (hx : i < xs.length) (hy : i < ys.length) : rowsEq p (xs.drop i) (ys.drop i) = (p (xs.getD i z) (ys.getD i z) && rowsEq p (xs.drop (i + 1)) (ys.drop (i + 1))) := by
  rw [List.drop_eq_getElem_cons hx, List.drop_eq_getElem_cons hy, List.getD_eq_getElem?_getD, List.getD_eq_getElem?_getD, List.getElem?_eq_getElem hx, List.getElem?_eq_getElem hy]; rfl
theorem rowsEq_end {α : Type} (p : α → α → Bool) (xs ys : List α) (i : Nat) (hx : xs.length ≤ i) (hy : ys.length ≤ i) : rowsEq p (xs.drop i) (ys.drop i) = true := by
  rw [List.drop_eq_nil_of_le hx, List.drop_eq_nil_of_le hy]; rfl
theorem str_at {w : World} {A : Option Addr} {n : Nat} {xs : List ByteArray} (h : Kd.C Kd.string w A n xs) (i : Nat) (hi : i < xs.length) : ∃ ad, A = some ad ∧ w.cell? (ad.add i) = some (.string (xs.getD i ByteArray.empty)) := by
  have hl : xs.length = n := h.1
  obtain ⟨ad, c, e, _, hK, hc⟩ := Kd.C_get h ByteArray.empty (i : Int) (by omega) (by omega)
  have hK' : c = [Value.string (xs.getD ((i : Int)).toNat ByteArray.empty)] := hK
  subst hK'
  refine ⟨ad, e, ?_⟩
  have := hc 0 _ rfl
  rw [Int.toNat_natCast] at this
  simpa [Kd.string, Kd.scalar] using this
def spec_SameDisk.f (k : Nat) (l0_0 : List S57) (l0_1 : List S59) (l0_2 : List S59) (l0_3 : List ByteArray) (a0_4 : Int) (a0_5 : Int) (l1_0 : List S57) (l1_1 : List S59) (l1_2 : List S59) (l1_3 : List ByteArray) (a1_4 : Int) (a1_5 : Int) : Option Bool := if l0_0.length = l1_0.length then (spec_l06Same.f k l0_1 l1_1).bind fun t => if t = true then (spec_l06Same.f k l0_2 l1_2).bind fun u => if u = true then (if l0_3.length = l1_3.length then (if a0_4 = a1_4 then (if a0_5 = a1_5 then some (rowsEq rowN l0_0 l1_0 && rowsEq rowB l0_3 l1_3) else some false) else some false) else some false) else some false else some false else some false
theorem spec_SameDisk.mono : ∀ l0_0 l0_1 l0_2 l0_3 a0_4 a0_5 l1_0 l1_1 l1_2 l1_3 a1_4 a1_5 k, LeO (spec_SameDisk.f k l0_0 l0_1 l0_2 l0_3 a0_4 a0_5 l1_0 l1_1 l1_2 l1_3 a1_4 a1_5) (spec_SameDisk.f (k + 1) l0_0 l0_1 l0_2 l0_3 a0_4 a0_5 l1_0 l1_1 l1_2 l1_3 a1_4 a1_5) := by
  intro l0_0 l0_1 l0_2 l0_3 a0_4 a0_5 l1_0 l1_1 l1_2 l1_3 a1_4 a1_5 k
  exact LeO.ite (LeO.bind (spec_l06Same.mono _ _ k) fun _ => LeO.ite (LeO.bind (spec_l06Same.mono _ _ k) fun _ => LeO.refl _) (LeO.refl _)) (LeO.refl _)
set_option maxHeartbeats 4000000 in
set_option maxRecDepth 100000 in
theorem spec_SameDisk.calls (k : Nat) (A0_0 : Option Addr) (c0_0 : Nat) (l0_0 : List (S57)) (A0_1 : Option Addr) (c0_1 : Nat) (l0_1 : List (S59)) (A0_2 : Option Addr) (c0_2 : Nat) (l0_2 : List (S59)) (A0_3 : Option Addr) (c0_3 : Nat) (l0_3 : List ByteArray) (a0_4 : Int) (a0_5 : Int) (A1_0 : Option Addr) (c1_0 : Nat) (l1_0 : List (S57)) (A1_1 : Option Addr) (c1_1 : Nat) (l1_1 : List (S59)) (A1_2 : Option Addr) (c1_2 : Nat) (l1_2 : List (S59)) (A1_3 : Option Addr) (c1_3 : Nat) (l1_3 : List ByteArray) (a1_4 : Int) (a1_5 : Int) (r : Bool) (w : World) (hr0_0 : Kd.C k57 w A0_0 l0_0.length l0_0) (hc0_0 : l0_0.length ≤ c0_0) (hr0_1 : Kd.C k59 w A0_1 l0_1.length l0_1) (hc0_1 : l0_1.length ≤ c0_1) (hr0_2 : Kd.C k59 w A0_2 l0_2.length l0_2) (hc0_2 : l0_2.length ≤ c0_2) (hr0_3 : Kd.C Kd.string w A0_3 l0_3.length l0_3) (hc0_3 : l0_3.length ≤ c0_3) (hr1_0 : Kd.C k57 w A1_0 l1_0.length l1_0) (hc1_0 : l1_0.length ≤ c1_0) (hr1_1 : Kd.C k59 w A1_1 l1_1.length l1_1) (hc1_1 : l1_1.length ≤ c1_1) (hr1_2 : Kd.C k59 w A1_2 l1_2.length l1_2) (hc1_2 : l1_2.length ≤ c1_2) (hr1_3 : Kd.C Kd.string w A1_3 l1_3.length l1_3) (hc1_3 : l1_3.length ≤ c1_3) (h : spec_SameDisk.f k l0_0 l0_1 l0_2 l0_3 a0_4 a0_5 l1_0 l1_1 l1_2 l1_3 a1_4 a1_5 = some r) :
    Calls Tryz.prog 55 #[.agg #[.slice A0_0 l0_0.length c0_0, .slice A0_1 l0_1.length c0_1, .slice A0_2 l0_2.length c0_2, .slice A0_3 l0_3.length c0_3, .int .i64 a0_4, .int .i64 a0_5], .agg #[.slice A1_0 l1_0.length c1_0, .slice A1_1 l1_1.length c1_1, .slice A1_2 l1_2.length c1_2, .slice A1_3 l1_3.length c1_3, .int .i64 a1_4, .int .i64 a1_5]] w fun e w' => e = .returned (.bool r) ∧ Below w.heap.size w w' := by
  unfold spec_SameDisk.f at h
  have C1 := Aside0.mk (fun (w1 : World) (hb : Below w.heap.size w w1) b h => spec_l06Same.calls k A0_1 c0_1 l0_1 A1_1 c1_1 l1_1 b w1 (Kd.C_below hr0_1 hb) hc0_1 (Kd.C_below hr1_1 hb) hc1_1 h)
  have C2 := Aside0.mk (fun (w1 : World) (hb : Below w.heap.size w w1) b h => spec_l06Same.calls k A0_2 c0_2 l0_2 A1_2 c1_2 l1_2 b w1 (Kd.C_below hr0_2 hb) hc0_2 (Kd.C_below hr1_2 hb) hc1_2 h)
  have HN0 := Aside0.mk hr0_0
  have HN1 := Aside0.mk hr1_0
  have HS0 := Aside0.mk hr0_3
  have HS1 := Aside0.mk hr1_3
  have hm0 := hr0_0.2.1
  have hm3 := hr0_3.2.1
  clear hr0_0 hc0_0 hr0_1 hc0_1 hr0_2 hc0_2 hr0_3 hc0_3 hr1_0 hc1_0 hr1_1 hc1_1 hr1_2 hc1_2 hr1_3 hc1_3
  have K1 := Aside0.mk True.intro
  have K2 := Aside0.mk True.intro
  have HH : (¬ l0_0.length = l1_0.length ∧ r = false) ∨ (l0_0.length = l1_0.length ∧ ((spec_l06Same.f k l0_1 l1_1 = some false ∧ r = false) ∨ (spec_l06Same.f k l0_1 l1_1 = some true ∧ ((spec_l06Same.f k l0_2 l1_2 = some false ∧ r = false) ∨ (spec_l06Same.f k l0_2 l1_2 = some true ∧ ((¬ l0_3.length = l1_3.length ∧ r = false) ∨ (l0_3.length = l1_3.length ∧ ((¬ a0_4 = a1_4 ∧ r = false) ∨ (a0_4 = a1_4 ∧ ((¬ a0_5 = a1_5 ∧ r = false) ∨ (a0_5 = a1_5 ∧ (rowsEq rowN l0_0 l1_0 && rowsEq rowB l0_3 l1_3) = r))))))))))) := by
    split at h
    case isFalse g => exact .inl ⟨g, (Option.some.inj h).symm⟩
    rename_i g1
    refine .inr ⟨g1, ?_⟩
    obtain ⟨t, ht, h⟩ := Option.bind_eq_some_iff.mp h
    cases t with
    | false => exact .inl ⟨ht, (Option.some.inj h).symm⟩
    | true =>
      refine .inr ⟨ht, ?_⟩
      obtain ⟨u, hu, h⟩ := Option.bind_eq_some_iff.mp h
      cases u with
      | false => exact .inl ⟨hu, (Option.some.inj h).symm⟩
      | true =>
        refine .inr ⟨hu, ?_⟩
        rw [if_pos rfl] at h
        split at h
        case isFalse g => exact .inl ⟨g, (Option.some.inj h).symm⟩
        rename_i g2
        refine .inr ⟨g2, ?_⟩
        split at h
        case isFalse g => exact .inl ⟨g, (Option.some.inj h).symm⟩
        rename_i g3
        refine .inr ⟨g3, ?_⟩
        split at h
        case isFalse g => exact .inl ⟨g, (Option.some.inj h).symm⟩
        rename_i g4
        exact .inr ⟨g4, Option.some.inj h⟩
  clear h
  rcases HH with ⟨h1, rfl⟩ | ⟨h1, ⟨h2, rfl⟩ | ⟨h2, ⟨h3, rfl⟩ | ⟨h3, ⟨h4, rfl⟩ | ⟨h4, ⟨h5, rfl⟩ | ⟨h5, ⟨h6, rfl⟩ | ⟨h6, hr⟩⟩⟩⟩⟩⟩
  rotate_left 6
  have HR := Aside0.mk hr
  clear hr
  rotate_left 1
  all_goals try have S1 := Aside0.mk (fun (w1 : World) (hb : Below w.heap.size w w1) => C1.out w1 hb _ h2)
  all_goals try have S2 := Aside0.mk (fun (w1 : World) (hb : Below w.heap.size w w1) => C2.out w1 hb _ h3)
  all_goals (clear C1 C2; try clear h2; try clear h3)
  all_goals have H1 := Aside0.mk h1
  all_goals try have H4 := Aside0.mk h4
  all_goals first | have d1 : ((l0_0.length : Int) == (l1_0.length : Int)) = false := beq_eq_false_iff_ne.mpr (by omega) | have d1 : ((l0_0.length : Int) == (l1_0.length : Int)) = true := beq_iff_eq.mpr (by omega)
  all_goals first | have e1 : (l0_0.length == l1_0.length) = false := beq_eq_false_iff_ne.mpr (by omega) | have e1 : (l0_0.length == l1_0.length) = true := beq_iff_eq.mpr (by omega)
  all_goals try have d4 : ((l0_3.length : Int) == (l1_3.length : Int)) = false := beq_eq_false_iff_ne.mpr (by omega)
  all_goals try have d4 : ((l0_3.length : Int) == (l1_3.length : Int)) = true := beq_iff_eq.mpr (by omega)
  all_goals try have e4 : (l0_3.length == l1_3.length) = false := beq_eq_false_iff_ne.mpr (by omega)
  all_goals try have e4 : (l0_3.length == l1_3.length) = true := beq_iff_eq.mpr (by omega)
  all_goals (clear h1; try clear h4)
  all_goals try have d5 : (a0_4 == a1_4) = false := beq_eq_false_iff_ne.mpr h5
  all_goals try have d5 : (a0_4 == a1_4) = true := beq_iff_eq.mpr h5
  all_goals try have d6 : (a0_5 == a1_5) = false := beq_eq_false_iff_ne.mpr h6
  all_goals try have d6 : (a0_5 == a1_5) = true := beq_iff_eq.mpr h6
  all_goals (try clear h5; try clear h6)
  all_goals try first | have nd1 : ((l0_0.length : Int) != (l1_0.length : Int)) = true := (by rw [bne, d1]; rfl) | have nd1 : ((l0_0.length : Int) != (l1_0.length : Int)) = false := (by rw [bne, d1]; rfl)
  all_goals try first | have ne1 : (l0_0.length != l1_0.length) = true := (by rw [bne, e1]; rfl) | have ne1 : (l0_0.length != l1_0.length) = false := (by rw [bne, e1]; rfl)
  all_goals try first | have nd4 : ((l0_3.length : Int) != (l1_3.length : Int)) = true := (by rw [bne, d4]; rfl) | have nd4 : ((l0_3.length : Int) != (l1_3.length : Int)) = false := (by rw [bne, d4]; rfl)
  all_goals try first | have ne4 : (l0_3.length != l1_3.length) = true := (by rw [bne, e4]; rfl) | have ne4 : (l0_3.length != l1_3.length) = false := (by rw [bne, e4]; rfl)
  all_goals try first | have nd5 : (a0_4 != a1_4) = true := (by rw [bne, d5]; rfl) | have nd5 : (a0_4 != a1_4) = false := (by rw [bne, d5]; rfl)
  all_goals try first | have nd6 : (a0_5 != a1_5) = true := (by rw [bne, d6]; rfl) | have nd6 : (a0_5 != a1_5) = false := (by rw [bne, d6]; rfl)
  all_goals go_enter Tryz.func55, Tryz.ntmps55
  all_goals go_wp2_with (first | ((with_reducible refine gate_dst (N := 2) rfl ?_); refine box_event ?hg (N := 2) ?hd (cs := #[.slice A0_0 l0_0.length c0_0, .slice A0_1 l0_1.length c0_1, .slice A0_2 l0_2.length c0_2, .slice A0_3 l0_3.length c0_3, .int .i64 a0_4, .int .i64 a0_5]) (t := 32) ?hr ?_; (case hd => rfl); (case hg => rfl); (case hr => first | (go_simp; done) | (go_simp; rfl)); intro gD hg w1 hbox hb; have BL := Aside0.mk hb; have BD := Aside0.mk hbox; clear hb; (try clear iD0 iD1 iD2 iD3 iD4 iD5); obtain ⟨iD0, iD1, iD2, iD3, iD4, iD5⟩ := blk6 BD.out; clear hg hbox) | ((with_reducible refine gate_dst (N := 3) rfl ?_); refine box_event ?hg (N := 3) ?hd (cs := #[.slice A1_0 l1_0.length c1_0, .slice A1_1 l1_1.length c1_1, .slice A1_2 l1_2.length c1_2, .slice A1_3 l1_3.length c1_3, .int .i64 a1_4, .int .i64 a1_5]) (t := 32) ?hr ?_; (case hd => rfl); (case hg => rfl); (case hr => first | (go_simp; done) | (go_simp; rfl)); intro gX hg w1 hbox hb; replace BL := Aside0.mk (BL.out.trans (hb.mono BL.out.size)); (try replace BD := Aside0.mk ((hb.block gD (blk_lt BD.out)).trans BD.out)); (try replace BX := Aside0.mk ((hb.block gX (blk_lt BX.out)).trans BX.out)); have BX := Aside0.mk hbox; clear hb; (try clear iD0 iD1 iD2 iD3 iD4 iD5); obtain ⟨iD0, iD1, iD2, iD3, iD4, iD5⟩ := blk6 BD.out; (try clear iX0 iX1 iX2 iX3 iX4 iX5); obtain ⟨iX0, iX1, iX2, iX3, iX4, iX5⟩ := blk6 BX.out; clear hg hbox) | (go_at_call 63; clear K1; (with_reducible refine (S1.out _ BL.out).mono ?_); rintro e wq ⟨rfl, hq⟩; have hb : Below w1.heap.size w1 wq := (by obtain ⟨nd, hnd⟩ := hq; rw [hnd]; exact pw_below_drewN (Below.refl _ _) nd); clear hq; replace BL := Aside0.mk (BL.out.trans (hb.mono BL.out.size)); (try replace BD := Aside0.mk ((hb.block gD (blk_lt BD.out)).trans BD.out)); (try replace BX := Aside0.mk ((hb.block gX (blk_lt BX.out)).trans BX.out)); clear hb; obtain ⟨w1, hw1⟩ : ∃ x, x = wq := ⟨_, rfl⟩; subst hw1; (try clear iD0 iD1 iD2 iD3 iD4 iD5); obtain ⟨iD0, iD1, iD2, iD3, iD4, iD5⟩ := blk6 BD.out; (try clear iX0 iX1 iX2 iX3 iX4 iX5); obtain ⟨iX0, iX1, iX2, iX3, iX4, iX5⟩ := blk6 BX.out) | (go_at_call 63; clear K2; (with_reducible refine (S2.out _ BL.out).mono ?_); rintro e wq ⟨rfl, hq⟩; have hb : Below w1.heap.size w1 wq := (by obtain ⟨nd, hnd⟩ := hq; rw [hnd]; exact pw_below_drewN (Below.refl _ _) nd); clear hq; replace BL := Aside0.mk (BL.out.trans (hb.mono BL.out.size)); (try replace BD := Aside0.mk ((hb.block gD (blk_lt BD.out)).trans BD.out)); (try replace BX := Aside0.mk ((hb.block gX (blk_lt BX.out)).trans BX.out)); clear hb; obtain ⟨w1, hw1⟩ : ∃ x, x = wq := ⟨_, rfl⟩; subst hw1; (try clear iD0 iD1 iD2 iD3 iD4 iD5); obtain ⟨iD0, iD1, iD2, iD3, iD4, iD5⟩ := blk6 BD.out; (try clear iX0 iX1 iX2 iX3 iX4 iX5); obtain ⟨iX0, iX1, iX2, iX3, iX4, iX5⟩ := blk6 BX.out))
  iterate 6 (go_ret; exact ⟨rfl, BL.out⟩)
  go_loopg [5] l0_0.length (fun gg s5 wr => ∃ kk : Nat, kk ≤ l0_0.length ∧ l0_0.length - kk ≤ gg ∧ s5 = .int .i64 kk ∧ Aside0 ((rowsEq rowN (l0_0.drop kk) (l1_0.drop kk) && rowsEq rowB l0_3 l1_3) = r) ∧ Aside0 (Below w.heap.size w wr) ∧ Aside0 (wr.heap[gD]? = some (.cells #[.slice A0_0 l0_0.length c0_0, .slice A0_1 l0_1.length c0_1, .slice A0_2 l0_2.length c0_2, .slice A0_3 l0_3.length c0_3, .int .i64 a0_4, .int .i64 a0_5] 32 (0, 0))) ∧ Aside0 (wr.heap[gX]? = some (.cells #[.slice A1_0 l1_0.length c1_0, .slice A1_1 l1_1.length c1_1, .slice A1_2 l1_2.length c1_2, .slice A1_3 l1_3.length c1_3, .int .i64 a1_4, .int .i64 a1_5] 32 (0, 0))))
  case atStart => exact ⟨0, Nat.zero_le _, by omega, rfl, HR, ⟨by (repeat (first | (with_reducible first | exact BL.out | apply pw_below_drewN | apply below_drew1) | exact BL.out))⟩, ⟨by (with_reducible repeat (first | refine blk_drewN ?_ _ | refine blk_drew ?_)); exact BD.out⟩, ⟨by (with_reducible repeat (first | refine blk_drewN ?_ _ | refine blk_drew ?_)); exact BX.out⟩⟩
  case round =>
    (try clear iD0 iD1 iD2 iD3 iD4 iD5 iX0 iX1 iX2 iX3 iX4 iX5)
    clear BL BD BX
    obtain ⟨kk, hkk, hgg, rfl, RR, BL, BD, BX⟩ := hrel
    by_cases hlt : kk < l0_0.length
    · have hlt2 : kk < l1_0.length := by have := H1.out; omega
      have hz0 : (kk : Int) < (l0_0.length : Int) := by omega
      have hz1 : (kk : Int) < (l1_0.length : Int) := by omega
      obtain ⟨ad0, rfl, u0, u1, u2⟩ := at_T57 (Kd.C_below HN0.out BL.out) (kk : Int) (by omega) hz0
      obtain ⟨ad1, rfl, t0, t1, t2⟩ := at_T57 (Kd.C_below HN1.out BL.out) (kk : Int) (by omega) hz1
      rw [Int.toNat_natCast] at u0 u1 u2 t0 t1 t2
      have gy0 : l0_0.getD kk z57 = rd_T57 l0_0 (kk : Int) := rfl
      have gy1 : l1_0.getD kk z57 = rd_T57 l1_0 (kk : Int) := rfl
      have RR' := RR.out
      rw [rowsEq_drop rowN z57 _ _ kk hlt hlt2] at RR'
      clear RR
      rw [gy0, gy1] at RR'
      clear gy0 gy1
      generalize rd_T57 l0_0 (kk : Int) = y0 at u0 u1 u2 RR'
      generalize rd_T57 l1_0 (kk : Int) = y1 at t0 t1 t2 RR'
      cases hb : rowN y0 y1
      · have ht : (!(y0.f0 == y1.f0) || (!(y0.f1.toList == y1.f1.toList) || !(y0.f2 == y1.f2))) = true := by unfold rowN at hb; rw [← Bool.not_and, ← Bool.not_and, hb]; rfl
        rw [hb, Bool.false_and, Bool.false_and] at RR'
        subst RR'
        clear hb hlt2
        (try clear iD0 iD1 iD2 iD3 iD4 iD5); obtain ⟨iD0, iD1, iD2, iD3, iD4, iD5⟩ := blk6 BD.out; (try clear iX0 iX1 iX2 iX3 iX4 iX5); obtain ⟨iX0, iX1, iX2, iX3, iX4, iX5⟩ := blk6 BX.out
        go_wp2
        repeat (go_quiet (fail); try go_wp2)
        go_ret
        exact ⟨rfl, by (repeat (first | (with_reducible first | exact BL.out | apply pw_below_drewN | apply below_drew1) | exact BL.out))⟩
      · have ht : (!(y0.f0 == y1.f0) || (!(y0.f1.toList == y1.f1.toList) || !(y0.f2 == y1.f2))) = false := by unfold rowN at hb; rw [← Bool.not_and, ← Bool.not_and, hb]; rfl
        rw [hb, Bool.true_and] at RR'
        have RR := Aside0.mk RR'
        clear hb RR' hlt2
        (try clear iD0 iD1 iD2 iD3 iD4 iD5); obtain ⟨iD0, iD1, iD2, iD3, iD4, iD5⟩ := blk6 BD.out; (try clear iX0 iX1 iX2 iX3 iX4 iX5); obtain ⟨iX0, iX1, iX2, iX3, iX4, iX5⟩ := blk6 BX.out
        go_wp2
        repeat (go_quiet (fail); try go_wp2)
        go_roundg (l0_0.length - (kk + 1))
        case measure => omega
        case rel => exact ⟨kk + 1, by omega, by omega, by go_num, RR, ⟨by (repeat (first | (with_reducible first | exact BL.out | apply pw_below_drewN | apply below_drew1) | exact BL.out))⟩, ⟨by (with_reducible repeat (first | refine blk_drewN ?_ _ | refine blk_drew ?_)); exact BD.out⟩, ⟨by (with_reducible repeat (first | refine blk_drewN ?_ _ | refine blk_drew ?_)); exact BX.out⟩⟩
    · have hlt2 : l1_0.length ≤ kk := by have := H1.out; omega
      have hz0 : ¬ (kk : Int) < (l0_0.length : Int) := by omega
      have RR' := RR.out
      rw [rowsEq_end rowN _ _ kk (by omega) hlt2] at RR'
      clear RR hlt2
      (try clear iD0 iD1 iD2 iD3 iD4 iD5); obtain ⟨iD0, iD1, iD2, iD3, iD4, iD5⟩ := blk6 BD.out; (try clear iX0 iX1 iX2 iX3 iX4 iX5); obtain ⟨iX0, iX1, iX2, iX3, iX4, iX5⟩ := blk6 BX.out
      rw [Bool.true_and] at RR'
      go_wp2
      go_loopg [6] l0_3.length (fun gg s5 wr => ∃ kk : Nat, kk ≤ l0_3.length ∧ l0_3.length - kk ≤ gg ∧ s5 = .int .i64 kk ∧ Aside0 (rowsEq rowB (l0_3.drop kk) (l1_3.drop kk) = r) ∧ Aside0 (Below w.heap.size w wr) ∧ Aside0 (wr.heap[gD]? = some (.cells #[.slice A0_0 l0_0.length c0_0, .slice A0_1 l0_1.length c0_1, .slice A0_2 l0_2.length c0_2, .slice A0_3 l0_3.length c0_3, .int .i64 a0_4, .int .i64 a0_5] 32 (0, 0))) ∧ Aside0 (wr.heap[gX]? = some (.cells #[.slice A1_0 l1_0.length c1_0, .slice A1_1 l1_1.length c1_1, .slice A1_2 l1_2.length c1_2, .slice A1_3 l1_3.length c1_3, .int .i64 a1_4, .int .i64 a1_5] 32 (0, 0))))
      case atStart => exact ⟨0, Nat.zero_le _, by omega, rfl, ⟨RR'⟩, ⟨by (repeat (first | (with_reducible first | exact BL.out | apply pw_below_drewN | apply below_drew1) | exact BL.out))⟩, ⟨by (with_reducible repeat (first | refine blk_drewN ?_ _ | refine blk_drew ?_)); exact BD.out⟩, ⟨by (with_reducible repeat (first | refine blk_drewN ?_ _ | refine blk_drew ?_)); exact BX.out⟩⟩
      case round =>
        (try clear iD0 iD1 iD2 iD3 iD4 iD5 iX0 iX1 iX2 iX3 iX4 iX5)
        clear BL BD BX RR'
        obtain ⟨kk, hkk, hgg, rfl, RR, BL, BD, BX⟩ := hrel
        by_cases hlt : kk < l0_3.length
        · have hlt2 : kk < l1_3.length := by have := H4.out; omega
          have hz0 : (kk : Int) < (l0_3.length : Int) := by omega
          have hz1 : (kk : Int) < (l1_3.length : Int) := by omega
          obtain ⟨ad0, rfl, u0⟩ := str_at (Kd.C_below HS0.out BL.out) kk hlt
          obtain ⟨ad1, rfl, t0⟩ := str_at (Kd.C_below HS1.out BL.out) kk hlt2
          have RR' := RR.out
          rw [rowsEq_drop rowB ByteArray.empty _ _ kk hlt hlt2] at RR'
          clear RR
          generalize l0_3.getD kk ByteArray.empty = y0 at u0 RR'
          generalize l1_3.getD kk ByteArray.empty = y1 at t0 RR'
          by_cases hb : y0.toList = y1.toList
          · rw [show rowB y0 y1 = true from beq_iff_eq.mpr hb, Bool.true_and] at RR'
            have RR := Aside0.mk RR'
            clear RR' hlt2
            (try clear iD0 iD1 iD2 iD3 iD4 iD5); obtain ⟨iD0, iD1, iD2, iD3, iD4, iD5⟩ := blk6 BD.out; (try clear iX0 iX1 iX2 iX3 iX4 iX5); obtain ⟨iX0, iX1, iX2, iX3, iX4, iX5⟩ := blk6 BX.out
            go_wp2
            repeat (go_quiet (fail); try go_wp2)
            go_roundg (l0_3.length - (kk + 1))
            case measure => omega
            case rel => exact ⟨kk + 1, by omega, by omega, by go_num, RR, ⟨by (repeat (first | (with_reducible first | exact BL.out | apply pw_below_drewN | apply below_drew1) | exact BL.out))⟩, ⟨by (with_reducible repeat (first | refine blk_drewN ?_ _ | refine blk_drew ?_)); exact BD.out⟩, ⟨by (with_reducible repeat (first | refine blk_drewN ?_ _ | refine blk_drew ?_)); exact BX.out⟩⟩
          · rw [show rowB y0 y1 = false from beq_eq_false_iff_ne.mpr hb, Bool.false_and] at RR'
            subst RR'
            have hb1 : (y0.toList == y1.toList) = false := beq_eq_false_iff_ne.mpr hb
            have hb2 : (y0.toList != y1.toList) = true := by rw [bne, hb1]; rfl
            have hb3 : decide (y0.toList = y1.toList) = false := decide_eq_false hb
            clear hlt2 hb
            (try clear iD0 iD1 iD2 iD3 iD4 iD5); obtain ⟨iD0, iD1, iD2, iD3, iD4, iD5⟩ := blk6 BD.out; (try clear iX0 iX1 iX2 iX3 iX4 iX5); obtain ⟨iX0, iX1, iX2, iX3, iX4, iX5⟩ := blk6 BX.out
            go_wp2
            repeat (go_quiet (fail); try go_wp2)
            go_ret
            exact ⟨rfl, by (repeat (first | (with_reducible first | exact BL.out | apply pw_below_drewN | apply below_drew1) | exact BL.out))⟩
        · have hlt2 : l1_3.length ≤ kk := by have := H4.out; omega
          have hz0 : ¬ (kk : Int) < (l0_3.length : Int) := by omega
          have RR' := RR.out
          rw [rowsEq_end rowB _ _ kk (by omega) hlt2] at RR'
          subst RR'
          clear RR hlt2
          (try clear iD0 iD1 iD2 iD3 iD4 iD5); obtain ⟨iD0, iD1, iD2, iD3, iD4, iD5⟩ := blk6 BD.out; (try clear iX0 iX1 iX2 iX3 iX4 iX5); obtain ⟨iX0, iX1, iX2, iX3, iX4, iX5⟩ := blk6 BX.out
          go_wp2
          go_ret
          exact ⟨rfl, BL.out⟩

end Go.Proofs.YtbcidclclckgfaaGreatDoor.MFnExactCouldFall
