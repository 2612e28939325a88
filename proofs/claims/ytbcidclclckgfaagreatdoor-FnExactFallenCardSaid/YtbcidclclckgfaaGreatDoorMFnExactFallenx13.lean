/- Each theorem here says that a call of one Go function answers what the Lean function beside it answers; its conditions stand in it. Written by a program of this session. -/
import Derived.Test.YtbcidclclckgfaaGreatDoorMFnExactFallenx0
import Derived.Test.YtbcidclclckgfaaGreatDoorMFnExactFallenx7
import Derived.Test.YtbcidclclckgfaaGreatDoorMFnExactFallenx10
import Derived.Test.YtbcidclclckgfaaGreatDoorMFnExactFallenx11
import Derived.Test.YtbcidclclckgfaaGreatDoorMFnExactFallenx12
namespace Go.Proofs.YtbcidclclckgfaaGreatDoor.MFnExactFallen
open Go.RowKit Go.Proofs.YtbcidclclckgfaaGreatDoorW.PrintWords Go.Proofs.YtbcidclclckgfaaGreatDoorW.PrintLast Go.Proofs.YtbcidclclckgfaaGreatDoorW.PrintMore
attribute [local go_sem] max2_int min2_int max_two min_two max_three min_three max_four min_four   -- for this text's walks alone
set_option linter.unusedVariables false
set_option linter.unusedSimpArgs false

/-! ### spec_Fallen: function 32 -/
/-! ### Disks in memory that a law holds -/
theorem blk6 {w : World} {g : Nat} {t : TypeId} {a b c d e f : Value} (h : w.heap[g]? = some (.cells #[a, b, c, d, e, f] t (0, 0))) :
    w.cell? ⟨g, 0, none⟩ = some a ∧ w.cell? ⟨g, 1, none⟩ = some b ∧ w.cell? ⟨g, 2, none⟩ = some c ∧ w.cell? ⟨g, 3, none⟩ = some d ∧ w.cell? ⟨g, 4, none⟩ = some e ∧ w.cell? ⟨g, 5, none⟩ = some f :=
  ⟨(blk_cell h 0).trans rfl, (blk_cell h 1).trans rfl, (blk_cell h 2).trans rfl, (blk_cell h 3).trans rfl, (blk_cell h 4).trans rfl, (blk_cell h 5).trans rfl⟩
def ownD (v0 v1 v2 v3 : Value) (k : Nat) : Prop := some k = v0.ownBlock ∨ some k = v1.ownBlock ∨ some k = v2.ownBlock ∨ some k = v3.ownBlock
structure HasD (W : World) (base : Nat) (v0 v1 v2 v3 : Value) (a : List S57) (b c : List S59) (d : List ByteArray) : Prop where
  r0 : Kd.R k57 57 W base (fun k => some k = v0.ownBlock) v0 a
  r1 : Kd.R k59 59 W base (fun k => some k = v1.ownBlock) v1 b
  r2 : Kd.R k59 59 W base (fun k => some k = v2.ownBlock) v2 c
  r3 : Kd.R Kd.string 9 W base (fun k => some k = v3.ownBlock) v3 d
  ne : ∀ k, some k = v1.ownBlock → ¬ some k = v2.ownBlock
theorem HasD.of {W : World} {base : Nat} {v0 v1 v2 v3 : Value} {a : List S57} {b c : List S59} {d : List ByteArray} {p0 p2 p3 : Nat → Prop}
    (h0 : Kd.R k57 57 W base p0 v0 a) (h1 : Kd.R k59 59 W base (fun k_ => some k_ ≠ v2.ownBlock) v1 b) (h2 : Kd.R k59 59 W base p2 v2 c) (h3 : Kd.R Kd.string 9 W base p3 v3 d) : HasD W base v0 v1 v2 v3 a b c d :=
  ⟨Kd.R_tight rfl h0, Kd.R_tight rfl h1, Kd.R_tight rfl h2, Kd.R_tight rfl h3, fun k hk => h1.1 k hk.symm⟩
section
variable {W W' : World} {base : Nat} {v0 v1 v2 v3 : Value} {a : List S57} {b c : List S59} {d : List ByteArray}
theorem HasD.step (h : HasD W base v0 v1 v2 v3 a b c d) (hm : ∀ k, ownD v0 v1 v2 v3 k → k < W.heap.size → W'.heap[k]? = W.heap[k]?) : HasD W' base v0 v1 v2 v3 a b c d :=
  ⟨Kd.R_step h.r0 fun k hk hl => hm k (.inl hk) hl, Kd.R_step h.r1 fun k hk hl => hm k (.inr (.inl hk)) hl, Kd.R_step h.r2 fun k hk hl => hm k (.inr (.inr (.inl hk))) hl, Kd.R_step h.r3 fun k hk hl => hm k (.inr (.inr (.inr hk))) hl, h.ne⟩
theorem HasD.on (h : HasD W base v0 v1 v2 v3 a b c d) (hb : Below W.heap.size W W') : HasD W' base v0 v1 v2 v3 a b c d := h.step fun k _ hl => hb.block k hl
theorem HasD.kept (h : HasD W base v0 v1 v2 v3 a b c d) {S : Nat → Prop} (hk : Kept W W' S) (hne : ∀ k, ownD v0 v1 v2 v3 k → ¬ S k) : HasD W' base v0 v1 v2 v3 a b c d := h.step fun k ho hl => hk.2 k hl (hne k ho)
theorem HasD.lt (h : HasD W base v0 v1 v2 v3 a b c d) : ∀ k, ownD v0 v1 v2 v3 k → k < W.heap.size := fun k hk => by
  rcases hk with hk | hk | hk | hk
  · exact Kd.R_lt h.r0 k hk.symm
  · exact Kd.R_lt h.r1 k hk.symm
  · exact Kd.R_lt h.r2 k hk.symm
  · exact Kd.R_lt h.r3 k hk.symm
theorem HasD.ge (h : HasD W base v0 v1 v2 v3 a b c d) : ∀ k, ownD v0 v1 v2 v3 k → base ≤ k := fun k hk => by
  rcases hk with hk | hk | hk | hk
  · exact Kd.R_base h.r0 k hk.symm
  · exact Kd.R_base h.r1 k hk.symm
  · exact Kd.R_base h.r2 k hk.symm
  · exact Kd.R_base h.r3 k hk.symm
theorem HasD.lower (h : HasD W base v0 v1 v2 v3 a b c d) {base' : Nat} (hb : base' ≤ base) : HasD W base' v0 v1 v2 v3 a b c d := ⟨Kd.R_lower h.r0 hb, Kd.R_lower h.r1 hb, Kd.R_lower h.r2 hb, Kd.R_lower h.r3 hb, h.ne⟩
end
theorem HasD.nobox {W : World} {base : Nat} {v0 v1 v2 v3 : Value} {a : List S57} {b c : List S59} {d : List ByteArray} (h : HasD W base v0 v1 v2 v3 a b c d) {g t : Nat} {cs : Array Value} (hb : W.heap[g]? = some (.cells cs t (0, 0))) (hN : 57 ≠ t) (hE : 59 ≠ t) (hS : 9 ≠ t) : ¬ ownD v0 v1 v2 v3 g := fun hk => by
  rcases hk with hk | hk | hk | hk
  · exact Kd.R_ne h.r0 hb hN hk
  · exact Kd.R_ne h.r1 hb hE hk
  · exact Kd.R_ne h.r2 hb hE hk
  · exact Kd.R_ne h.r3 hb hS hk
/-! ### A disk's six cells laid one by one -/
section
variable {w : World} {g : Nat} {t : TypeId} {x0 x1 x2 x3 x4 x5 a b c d e f : Value}
theorem fill6_at (h : w.heap[g]? = some (.cells #[x0, x1, x2, x3, x4, x5] t (0, 0))) : ((((((w.setCell ⟨g, 0, none⟩ a).setCell ⟨g, 1, none⟩ b).setCell ⟨g, 2, none⟩ c).setCell ⟨g, 3, none⟩ d).setCell ⟨g, 4, none⟩ e).setCell ⟨g, 5, none⟩ f).heap[g]? = some (.cells #[a, b, c, d, e, f] t (0, 0)) :=
  blk_put (cs := #[a, b, c, d, e, x5]) (blk_put (cs := #[a, b, c, d, x4, x5]) (blk_put (cs := #[a, b, c, x3, x4, x5]) (blk_put (cs := #[a, b, x2, x3, x4, x5]) (blk_put (cs := #[a, x1, x2, x3, x4, x5]) (blk_put (cs := #[x0, x1, x2, x3, x4, x5]) h 0 _ rfl) 1 _ rfl) 2 _ rfl) 3 _ rfl) 4 _ rfl) 5 _ rfl
theorem fill6_far {j : Nat} (hj : j ≠ g) : ((((((w.setCell ⟨g, 0, none⟩ a).setCell ⟨g, 1, none⟩ b).setCell ⟨g, 2, none⟩ c).setCell ⟨g, 3, none⟩ d).setCell ⟨g, 4, none⟩ e).setCell ⟨g, 5, none⟩ f).heap[j]? = w.heap[j]? := by
  rw [Below.heap_setCell _ ⟨g, 5, none⟩ _ j hj, Below.heap_setCell _ ⟨g, 4, none⟩ _ j hj, Below.heap_setCell _ ⟨g, 3, none⟩ _ j hj, Below.heap_setCell _ ⟨g, 2, none⟩ _ j hj, Below.heap_setCell _ ⟨g, 1, none⟩ _ j hj, Below.heap_setCell _ ⟨g, 0, none⟩ _ j hj]
theorem fill6_below {w0 : World} (hb : Below w0.heap.size w0 w) (hg : w0.heap.size ≤ g) : Below w0.heap.size w0 ((((((w.setCell ⟨g, 0, none⟩ a).setCell ⟨g, 1, none⟩ b).setCell ⟨g, 2, none⟩ c).setCell ⟨g, 3, none⟩ d).setCell ⟨g, 4, none⟩ e).setCell ⟨g, 5, none⟩ f) :=
  below_set (below_set (below_set (below_set (below_set (below_set hb hg) hg) hg) hg) hg) hg
/-- A call behind such a laying: its world a letter. -/
theorem fill6_calls {P : Program} {F : FuncId} {args : Array Value} {Q : Ending → World → Prop} (h : w.heap[g]? = some (.cells #[x0, x1, x2, x3, x4, x5] t (0, 0)))
    (k : ∀ W, W.heap[g]? = some (.cells #[a, b, c, d, e, f] t (0, 0)) → (∀ {w0 : World}, Below w0.heap.size w0 w → w0.heap.size ≤ g → Below w0.heap.size w0 W) → (∀ j, j ≠ g → W.heap[j]? = w.heap[j]?) → Calls P F args W Q) : Calls P F args ((((((w.setCell ⟨g, 0, none⟩ a).setCell ⟨g, 1, none⟩ b).setCell ⟨g, 2, none⟩ c).setCell ⟨g, 3, none⟩ d).setCell ⟨g, 4, none⟩ e).setCell ⟨g, 5, none⟩ f) Q :=
  k _ (fill6_at h) (fun hb hg => fill6_below hb hg) (fun j hj => fill6_far hj)
end
def cellsN : List S57 → List Value
  | [] => []
  | x :: l => .int .i64 x.f0 :: .string x.f1 :: .int .i64 x.f2 :: cellsN l
theorem cellsN_length : ∀ l, (cellsN l).length = l.length * 3
  | [] => rfl
  | x :: l => by rw [cellsN, List.length_cons, List.length_cons, List.length_cons, cellsN_length l, List.length_cons]; omega
theorem cellsN_at : ∀ (l : List S57) (j : Nat) (x : S57), l[j]? = some x → ((cellsN l).drop (j * 3)).take 3 = [.int .i64 x.f0, .string x.f1, .int .i64 x.f2]
  | [], _, _, h => by cases h
  | y :: l, 0, x, h => by
    obtain rfl : y = x := Option.some.inj h
    rfl
  | y :: l, j + 1, x, h => by
    rw [cellsN, show (j + 1) * 3 = j * 3 + 1 + 1 + 1 by omega, List.drop_succ_cons, List.drop_succ_cons, List.drop_succ_cons]
    exact cellsN_at l j x h
theorem ownN {w : World} {base : Nat} {ok : Nat → Prop} {v : Value} {l : List S57} (h : Kd.R k57 57 w base ok v l) : w.ownsRow base 57 3 v l.length (cellsN l) := by
  obtain ⟨_, inner, ho, hl, hr⟩ := h
  have : inner = cellsN l := by
    have key : ∀ (l : List S57) (inner : List Value), inner.length = l.length * 3 → (∀ j p, l[j]? = some p → (inner.drop (j * 3)).take 3 = [.int .i64 p.f0, .string p.f1, .int .i64 p.f2]) → inner = cellsN l := by
      intro l
      induction l with
      | nil => intro inner h _; exact List.eq_nil_of_length_eq_zero (by simpa using h)
      | cons x l ih =>
        intro inner h hp
        match inner, h with
        | [], h => simp at h
        | [_], h => simp at h; omega
        | [_, _], h => simp at h; omega
        | a :: b :: c :: r, h =>
          have h0 := hp 0 x rfl
          rw [Nat.zero_mul, List.drop_zero, List.take_succ_cons, List.take_succ_cons, List.take_succ_cons, List.take_zero] at h0
          obtain ⟨rfl, h1⟩ := List.cons.inj h0
          obtain ⟨rfl, h2⟩ := List.cons.inj h1
          obtain ⟨rfl, _⟩ := List.cons.inj h2
          rw [cellsN, ih r (by simp only [List.length_cons] at h; omega) (fun j p hj => by
            have := hp (j + 1) p hj
            rwa [show (j + 1) * 3 = j * 3 + 1 + 1 + 1 by omega, List.drop_succ_cons, List.drop_succ_cons, List.drop_succ_cons] at this)]
    exact key l inner hl (fun j p hj => k57_openM (hr j p hj))
  rw [this] at ho
  exact ho
theorem R_ofN {w : World} {base : Nat} {v : Value} {l : List S57} (h : w.ownsRow base 57 3 v l.length (cellsN l)) : Kd.R k57 57 w base (fun _ => True) v l :=
  ⟨fun _ _ => trivial, cellsN l, h, cellsN_length l, fun j p hj => by
    show k57.M w base _ p (((cellsN l).drop (j * 3)).take 3)
    rw [cellsN_at l j p hj]; exact k57_mkM _ _ _ p⟩
theorem cellsN_set2 : ∀ (l : List S57) (i : Nat) (z : Int) (h : i < l.length), (cellsN l).set (i * 3 + 2) (.int .i64 z) = cellsN (l.set i ⟨(l[i]).f0, (l[i]).f1, z⟩)
  | x :: l, 0, z, _ => rfl
  | x :: l, i + 1, z, h => by
    rw [cellsN, show (i + 1) * 3 + 2 = (i * 3 + 2) + 1 + 1 + 1 by omega, List.set_cons_succ, List.set_cons_succ, List.set_cons_succ, cellsN_set2 l i z (by simpa using h), List.set_cons_succ, cellsN]
    rfl
theorem cellsN_set1 : ∀ (l : List S57) (i : Nat) (t : ByteArray) (h : i < l.length), (cellsN l).set (i * 3 + 1) (.string t) = cellsN (l.set i ⟨(l[i]).f0, t, (l[i]).f2⟩)
  | x :: l, 0, z, _ => rfl
  | x :: l, i + 1, z, h => by
    rw [cellsN, show (i + 1) * 3 + 1 = (i * 3 + 1) + 1 + 1 + 1 by omega, List.set_cons_succ, List.set_cons_succ, List.set_cons_succ, cellsN_set1 l i z (by simpa using h), List.set_cons_succ, cellsN]
    rfl
theorem HasD.told {W : World} {base : Nat} {v0 v1 v2 v3 : Value} {a : List S57} {b c : List S59} {d : List ByteArray} (h : HasD W base v0 v1 v2 v3 a b c d) :
    Kd.R k57 57 W base (fun _ => True) v0 a ∧ Kd.R k59 59 W base (fun k_ => some k_ ≠ v2.ownBlock) v1 b ∧ Kd.R k59 59 W base (fun k_ => some k_ ≠ v1.ownBlock) v2 c ∧ Kd.R Kd.string 9 W base (fun _ => True) v3 d :=
  ⟨Kd.R_mono h.r0 fun _ _ => trivial, Kd.R_mono h.r1 fun k hk => h.ne k hk, Kd.R_mono h.r2 fun k hk hj => h.ne k hj hk, Kd.R_mono h.r3 fun _ _ => trivial⟩
theorem HasD.fill {w : World} {g : Nat} {base : Nat} {v0 v1 v2 v3 : Value} {a : List S57} {b c : List S59} {d : List ByteArray} {cs : Array Value} {W : World} (h : HasD w base v0 v1 v2 v3 a b c d) (hb : w.heap[g]? = some (.cells cs 32 (0, 0))) (hf : ∀ j, j ≠ g → W.heap[j]? = w.heap[j]?) : HasD W base v0 v1 v2 v3 a b c d :=
  h.step fun k hk _ => hf k fun e => h.nobox hb (by decide) (by decide) (by decide) (e ▸ hk)
/-- The nodes' row as a block, and a node's cells. -/
theorem HasD.row {W : World} {base : Nat} {A : Option Addr} {m c0 : Nat} {v1 v2 v3 : Value} {a : List S57} {b c : List S59} {d : List ByteArray} (h : HasD W base (.slice A m c0) v1 v2 v3 a b c d) (i : Nat) (hi : i < a.length) :
    ∃ g cur, A = some ⟨g, 0, none⟩ ∧ m = a.length ∧ base ≤ g ∧ W.heap[g]? = some (.cells cur 57 (0, 0)) ∧ W.cell? ⟨g, i * 3, none⟩ = some (.int .i64 (a[i]).f0) ∧ W.cell? ⟨g, i * 3 + 1, none⟩ = some (.string (a[i]).f1) ∧ W.cell? ⟨g, i * 3 + 2, none⟩ = some (.int .i64 (a[i]).f2) ∧ (∀ j, W.frozen? ⟨g, j, none⟩ = false) ∧
      (∀ (j : Nat) (u : Value) (a' : List S57), j < a.length * 3 → a'.length = a.length → (cellsN a).set j u = cellsN a' → HasD (W.setCell ⟨g, j, none⟩ u) base (.slice A m c0) v1 v2 v3 a' b c d) := by
  obtain ⟨_, ⟨_, hl0⟩ | ⟨g, cp, cur, hv, hbg, hg, hlc, hm, hsz, htk⟩⟩ := ownN h.r0
  · omega
  injection hv with h1 h2 h3
  subst h1 h2 h3
  have hat : ∀ j v, (cellsN a)[j]? = some v → W.cell? ⟨g, j, none⟩ = some v := fun j v hj => by
    rw [← htk, List.getElem?_take] at hj
    split at hj
    · rw [cell_of_row W g j cur _ _ hg]
      rw [Array.getElem?_toList] at hj
      exact hj
    · cases hj
  have hc := cellsN_at a i a[i] (List.getElem?_eq_getElem hi)
  have hget : ∀ q, q < 3 → (cellsN a)[i * 3 + q]? = ([.int .i64 (a[i]).f0, .string (a[i]).f1, .int .i64 (a[i]).f2] : List Value)[q]? := fun q hq => by
    rw [← hc, List.getElem?_take, if_pos hq, List.getElem?_drop]
  refine ⟨g, cur, rfl, rfl, hbg, hg, hat _ _ (hget 0 (by omega)), hat _ _ (hget 1 (by omega)), hat _ _ (hget 2 (by omega)), fun j => by simp [World.frozen?, hg], fun j u a' hj hla hcs => ?_⟩
  have hls : (cellsN a).length = a.length * 3 := cellsN_length a
  have hne1 : ∀ k, some k = v1.ownBlock → k ≠ g := fun k hk e => Kd.R_ne h.r1 hg (by decide) (by rw [← e]; exact hk)
  have hne2 : ∀ k, some k = v2.ownBlock → k ≠ g := fun k hk e => Kd.R_ne h.r2 hg (by decide) (by rw [← e]; exact hk)
  have hne3 : ∀ k, some k = v3.ownBlock → k ≠ g := fun k hk e => Kd.R_ne h.r3 hg (by decide) (by rw [← e]; exact hk)
  refine ⟨?_, Kd.R_step h.r1 fun k hk _ => Below.heap_setCell W ⟨g, j, none⟩ u k (hne1 k hk), Kd.R_step h.r2 fun k hk _ => Below.heap_setCell W ⟨g, j, none⟩ u k (hne2 k hk), Kd.R_step h.r3 fun k hk _ => Below.heap_setCell W ⟨g, j, none⟩ u k (hne3 k hk), h.ne⟩
  rw [setCell_eq_setRow W g j cur _ (0, 0) _ hg, ← hla]
  refine Kd.R_tight rfl (R_ofN ⟨cellsN_length _, .inr ⟨g, c0, _, rfl, hbg, setRow_heap W g cur _ _ _ hg, by rw [hla]; exact hlc, hm, by rw [Array.size_setIfInBounds]; exact hsz, ?_⟩⟩)
  rw [hla, Array.toList_setIfInBounds, List.take_set, htk, hcs]
/-! ### What a call may turn -/
structure Turned (w w' : World) (S : Nat → Prop) : Prop where
  os : w'.os = w.os
  tape : w'.tape = w.tape
  output : w'.output = w.output
  size : w.heap.size ≤ w'.heap.size
  block : ∀ k, k < w.heap.size → ¬ S k → w'.heap[k]? = w.heap[k]?
theorem Turned.refl (w : World) (S : Nat → Prop) : Turned w w S := ⟨rfl, rfl, rfl, Nat.le_refl _, fun _ _ _ => rfl⟩
theorem Turned.of {w w' : World} (h : Below w.heap.size w w') (S : Nat → Prop) : Turned w w' S := ⟨h.os, h.tape, h.output, h.size, fun k hk _ => h.block k hk⟩
theorem Turned.trans {a b c : World} {S : Nat → Prop} (h : Turned a b S) (k : Turned b c S) : Turned a c S :=
  ⟨k.os.trans h.os, k.tape.trans h.tape, k.output.trans h.output, Nat.le_trans h.size k.size, fun i hi hs => (k.block i (Nat.lt_of_lt_of_le hi h.size) hs).trans (h.block i hi hs)⟩
theorem Turned.mono {a b : World} {S S' : Nat → Prop} (h : Turned a b S) (hs : ∀ k, k < a.heap.size → S k → S' k) : Turned a b S' :=
  ⟨h.os, h.tape, h.output, h.size, fun i hi hn => h.block i hi fun hS => hn (hs i hi hS)⟩
/-- Two turnings, the second of which may turn what the first one has made. -/
theorem Turned.then {a b c : World} {S S' : Nat → Prop} (h : Turned a b S) (k : Turned b c S') (hs : ∀ i, S' i → S i ∨ a.heap.size ≤ i) : Turned a c S :=
  ⟨k.os.trans h.os, k.tape.trans h.tape, k.output.trans h.output, Nat.le_trans h.size k.size, fun i hi hn => (k.block i (Nat.lt_of_lt_of_le hi h.size) fun h' => (hs i h').elim hn (by omega)).trans (h.block i hi hn)⟩
theorem Turned.set {a b : World} {S : Nat → Prop} (h : Turned a b S) {p : Addr} (hp : S p.block ∨ a.heap.size ≤ p.block) (u : Value) : Turned a (b.setCell p u) S :=
  have hb := (Below.refl p.block b).setCell (Nat.le_refl _) (p := p) u
  ⟨hb.os.trans h.os, hb.tape.trans h.tape, hb.output.trans h.output, Nat.le_trans h.size hb.size, fun i hi hn => (Below.heap_setCell b p u i (fun e => hp.elim (fun hs => hn (e ▸ hs)) (fun hs => by omega))).trans (h.block i hi hn)⟩
theorem Turned.row {a b : World} {S : Nat → Prop} (h : Turned a b S) {g : Nat} (hg : S g ∨ a.heap.size ≤ g) (cs : Array Value) : Turned a (b.setRow g cs) S :=
  ⟨h.os, h.tape, h.output, Nat.le_trans h.size (by simp [World.setRow]), fun i hi hn => by
    have hi2 : i ≠ g := fun e => hg.elim (fun hs => hn (e ▸ hs)) (fun hs => by omega)
    rw [setRow_other b g i cs hi2]
    exact h.block i hi hn⟩
theorem Turned.below {w w' w0 : World} {S : Nat → Prop} {b : Nat} (h : Turned w w' S) (hb : Below b w0 w) (hs : ∀ k, S k → b ≤ k) (hw : b ≤ w.heap.size) : Below b w0 w' :=
  ⟨h.os.trans hb.os, h.tape.trans hb.tape, h.output.trans hb.output, Nat.le_trans hb.size h.size, fun k hk => (h.block k (by omega) fun hS => by have := hs k hS; omega).trans (hb.block k hk)⟩
section
variable {w w1 W : World} {base : Nat} {v0 v1 v2 v3 v0' v1' v2' v3' : Value} {a a' : List S57} {b c b' c' : List S59} {d d' : List ByteArray} {p : Nat → Prop}
theorem has_r3 (h : HasD w base v0 v1 v2 v3 a b c d) (hT : Turned w w1 (fun k => some k = v3.ownBlock)) (hR : Kd.R Kd.string 9 w1 base p v3' d') : HasD w1 base v0 v1 v2 v3' a b c d' := by
  have ty := Kd.R_typed h.r3
  refine ⟨Kd.R_step h.r0 fun k hk hl => hT.block k hl fun e => ?_, Kd.R_step h.r1 fun k hk hl => hT.block k hl fun e => ?_, Kd.R_step h.r2 fun k hk hl => hT.block k hl fun e => ?_, Kd.R_tight rfl hR, h.ne⟩
  · obtain ⟨z, hz⟩ := ty k e.symm
    exact Kd.R_ne h.r0 hz (by decide) hk
  · obtain ⟨z, hz⟩ := ty k e.symm
    exact Kd.R_ne h.r1 hz (by decide) hk
  · obtain ⟨z, hz⟩ := ty k e.symm
    exact Kd.R_ne h.r2 hz (by decide) hk
theorem has_r0 (h : HasD w base v0 v1 v2 v3 a b c d) (hT : Turned w w1 (fun k => some k = v0.ownBlock)) (hR : Kd.R k57 57 w1 base p v0' a') : HasD w1 base v0' v1 v2 v3 a' b c d := by
  have ty := Kd.R_typed h.r0
  refine ⟨Kd.R_tight rfl hR, Kd.R_step h.r1 fun k hk hl => hT.block k hl fun e => ?_, Kd.R_step h.r2 fun k hk hl => hT.block k hl fun e => ?_, Kd.R_step h.r3 fun k hk hl => hT.block k hl fun e => ?_, h.ne⟩
  · obtain ⟨z, hz⟩ := ty k e.symm
    exact Kd.R_ne h.r1 hz (by decide) hk
  · obtain ⟨z, hz⟩ := ty k e.symm
    exact Kd.R_ne h.r2 hz (by decide) hk
  · obtain ⟨z, hz⟩ := ty k e.symm
    exact Kd.R_ne h.r3 hz (by decide) hk
theorem has_r2 (h : HasD w base v0 v1 v2 v3 a b c d) (hb : Below w.heap.size w w1) (hw : base ≤ w.heap.size) (hR : Kd.R k59 59 w1 w.heap.size p v2' c') : HasD w1 base v0 v1 v2' v3 a b c' d := by
  have h2 := h.on hb
  refine ⟨h2.r0, h2.r1, Kd.R_tight rfl (Kd.R_lower hR hw), h2.r3, fun k hk hk2 => ?_⟩
  have := Kd.R_base hR k hk2.symm
  have := Kd.R_lt h.r1 k hk.symm
  omega
theorem has_slices (h : HasD w base v0 v1 v2 v3 a b c d) : ∃ A0 c0 A1 c1 A2 c2 A3 c3, v0 = .slice A0 a.length c0 ∧ v1 = .slice A1 b.length c1 ∧ v2 = .slice A2 c.length c2 ∧ v3 = .slice A3 d.length c3 := by
  obtain ⟨A0, c0, h0⟩ := Kd.R_slice h.r0
  obtain ⟨A1, c1, h1⟩ := Kd.R_slice h.r1
  obtain ⟨A2, c2, h2⟩ := Kd.R_slice h.r2
  obtain ⟨A3, c3, h3⟩ := Kd.R_slice h.r3
  exact ⟨A0, c0, A1, c1, A2, c2, A3, c3, h0, h1, h2, h3⟩
end
theorem cleanS_calls (k : Nat) {A0 : Option Addr} {c0 : Nat} {v1 v2 v3 : Value} {a : List S57} {b c : List S59} {d : List ByteArray} {e f : Int} {z1 : List S57} {z2 z3 : List S59} {z4 : List ByteArray} {z5 z6 : Int} (w0 w : World) (hB : Below w0.heap.size w0 w) (h : HasD w w0.heap.size (.slice A0 a.length c0) v1 v2 v3 a b c d)
    (hz : spec_l06Clean.f k a b c d e f = some (z1, z2, z3, z4, z5, z6)) : Calls Tryz.prog 97 #[.agg #[.slice A0 a.length c0, v1, v2, v3, .int .i64 e, .int .i64 f]] w fun e_ w' => ∃ u0 u1 u2 u3 : Value, e_ = .returned (.agg #[u0, u1, u2, u3, .int .i64 z5, .int .i64 z6]) ∧ HasD w' w0.heap.size u0 u1 u2 u3 z1 z2 z3 z4 ∧ Below w0.heap.size w0 w' ∧ Kept w w' (ownD (.slice A0 a.length c0) v1 v2 v3) := by
  have ty := Kd.R_typed h.r0
  refine (spec_l06Clean.calls k A0 c0 a (fun k => some k = v1.ownBlock) v1 b (fun k => some k = v2.ownBlock) v2 c (fun k => some k = v3.ownBlock) v3 d e f z1 z2 z3 z4 z5 z6 w0 w hB (Kd.C_kept_own h.r0 fun k hk hs => ?_) (Kd.R_reads' h.r0).2.1 h.r1 h.ne h.r2 (fun k h2 h1 => h.ne k h1 h2) h.r3 hz).mono ?_
  · obtain ⟨z, hzz⟩ := ty k hk.symm
    rcases hs with hs | hs | hs
    · exact Kd.R_ne h.r1 hzz (by decide) hs
    · exact Kd.R_ne h.r2 hzz (by decide) hs
    · exact Kd.R_ne h.r3 hzz (by decide) hs
  · rintro e_ w' ⟨u0, u1, u2, u3, rfl, p0, p1, p2, p3, hb, hk⟩
    exact ⟨u0, u1, u2, u3, rfl, HasD.of p0 (Kd.R_mono p1 fun _ hh => hh.2) p2 p3, hb, ⟨hk.1, fun i hi hn => hk.2 i hi fun hs => hn (.inr hs)⟩⟩
theorem filled_told {w1 : World} {g base : Nat} {v0 v1 v2 v3 : Value} (x4 x5 : Value) {a : List S57} {b c : List S59} {d : List ByteArray} {cs : Array Value} (h : HasD w1 base v0 v1 v2 v3 a b c d) (hb : w1.heap[g]? = some (.cells cs 32 (0, 0))) :
    Kd.R k57 57 ((((((w1.setCell ⟨g, 0, none⟩ v0).setCell ⟨g, 1, none⟩ v1).setCell ⟨g, 2, none⟩ v2).setCell ⟨g, 3, none⟩ v3).setCell ⟨g, 4, none⟩ x4).setCell ⟨g, 5, none⟩ x5) base (fun _ => True) v0 a ∧ Kd.R k59 59 ((((((w1.setCell ⟨g, 0, none⟩ v0).setCell ⟨g, 1, none⟩ v1).setCell ⟨g, 2, none⟩ v2).setCell ⟨g, 3, none⟩ v3).setCell ⟨g, 4, none⟩ x4).setCell ⟨g, 5, none⟩ x5) base (fun k_ => some k_ ≠ v2.ownBlock) v1 b ∧ Kd.R k59 59 ((((((w1.setCell ⟨g, 0, none⟩ v0).setCell ⟨g, 1, none⟩ v1).setCell ⟨g, 2, none⟩ v2).setCell ⟨g, 3, none⟩ v3).setCell ⟨g, 4, none⟩ x4).setCell ⟨g, 5, none⟩ x5) base (fun k_ => some k_ ≠ v1.ownBlock) v2 c ∧ Kd.R Kd.string 9 ((((((w1.setCell ⟨g, 0, none⟩ v0).setCell ⟨g, 1, none⟩ v1).setCell ⟨g, 2, none⟩ v2).setCell ⟨g, 3, none⟩ v3).setCell ⟨g, 4, none⟩ x4).setCell ⟨g, 5, none⟩ x5) base (fun _ => True) v3 d :=
  HasD.told (HasD.fill h hb (fun j hj => fill6_far hj))
def keepK (k : Nat) (l2 : List Int) (x : S57) : Option Int := if l2.length = 0 then some x.f2 else if 0 ≤ Int.tmod x.f0 (l2.length : Int) then (spec_Brought.f k (rd l2 (Int.tmod x.f0 (l2.length : Int))) 0 (wrap64 ((x.f1.size : Int) - x.f2))).bind fun t => some (wrap64 (x.f2 + t)) else none
def cutSpec (k : Nat) (l2 : List Int) : List S57 → Option (List S57)
  | [] => some []
  | x :: r => (keepK k l2 x).bind fun m => if 0 ≤ m ∧ m ≤ (x.f1.size : Int) then (cutSpec k l2 r).bind fun t => some (⟨x.f0, x.f1.extract 0 m.toNat, m⟩ :: t) else none
theorem cutSpec_mono (l2 : List Int) (k : Nat) : ∀ l, LeO (cutSpec k l2 l) (cutSpec (k + 1) l2 l)
  | [] => LeO.refl _
  | x :: r => LeO.bind (LeO.ite (LeO.refl _) (LeO.ite (LeO.bind (spec_Brought.mono _ _ _ k) fun _ => LeO.refl _) (LeO.refl _))) fun _ => LeO.ite (LeO.bind (cutSpec_mono l2 k r) fun _ => LeO.refl _) (LeO.refl _)
theorem has_r1n {w w1 : World} {base : Nat} {v0 v1 v2 v3 v1' : Value} {a : List S57} {b c b' : List S59} {d : List ByteArray} {S : Nat → Prop} (h : HasD w base v0 v1 v2 v3 a b c d) (hT : Turned w w1 S) (hS : ∀ k, ownD v0 v1 v2 v3 k → ¬ S k) (hR : Kd.R k59 59 w1 base (fun k => some k ≠ v2.ownBlock) v1' b') : HasD w1 base v0 v1' v2 v3 a b' c d :=
  have h2 := h.step fun k ho hl => hT.block k hl (hS k ho)
  ⟨h2.r0, Kd.R_tight rfl hR, h2.r2, h2.r3, fun k hk => hR.1 k hk.symm⟩
theorem cutRow {W : World} {base : Nat} {A : Option Addr} {m c0 : Nat} {v1 v2 v3 : Value} {a : List S57} {b c : List S59} {d : List ByteArray} (h : HasD W base (.slice A m c0) v1 v2 v3 a b c d) (i : Nat) (x : S57) (hx : a[i]? = some x) :
    ∃ g cur, A = some ⟨g, 0, none⟩ ∧ base ≤ g ∧ W.heap[g]? = some (.cells cur 57 (0, 0)) ∧ W.cell? ⟨g, i * 3, none⟩ = some (.int .i64 x.f0) ∧ W.cell? ⟨g, i * 3 + 1, none⟩ = some (.string x.f1) ∧ W.cell? ⟨g, i * 3 + 2, none⟩ = some (.int .i64 x.f2) ∧ (∀ j, W.frozen? ⟨g, j, none⟩ = false) ∧
      (∀ t : ByteArray, HasD (W.setCell ⟨g, i * 3 + 1, none⟩ (.string t)) base (.slice A m c0) v1 v2 v3 (a.set i ⟨x.f0, t, x.f2⟩) b c d) ∧ (∀ z : Int, HasD (W.setCell ⟨g, i * 3 + 2, none⟩ (.int .i64 z)) base (.slice A m c0) v1 v2 v3 (a.set i ⟨x.f0, x.f1, z⟩) b c d) := by
  obtain ⟨hi, rfl⟩ := List.getElem?_eq_some_iff.mp hx
  obtain ⟨g, cur, h1, _, h2, h3, h4, h5, h6, h7, h8⟩ := h.row i hi
  exact ⟨g, cur, h1, h2, h3, h4, h5, h6, h7, fun t => h8 _ _ _ (by omega) (List.length_set ..) (cellsN_set1 a i t hi), fun z => h8 _ _ _ (by omega) (List.length_set ..) (cellsN_set2 a i z hi)⟩
theorem take_set_snoc {α : Type} (l : List α) (i : Nat) (z : α) (h : i < l.length) : (l.set i z).take (i + 1) = l.take i ++ [z] := by
  rw [List.take_succ_eq_append_getElem (by rw [List.length_set]; exact h), List.getElem_set_self, List.take_set, List.set_eq_of_length_le (by rw [List.length_take]; omega)]
def spec_Fallen.f (k : Nat) (l0_0 : List S57) (l0_1 : List S59) (l0_2 : List S59) (l0_3 : List ByteArray) (a0_4 : Int) (a0_5 : Int) (a1 : Int) (l2 : List Int) : Option (List (S57) × List (S59) × List (S59) × List ByteArray × Int × Int) := (spec_l05Copy.f l0_0 l0_1 l0_2 l0_3 a0_4 a0_5).bind fun o => (spec_DiskOk.f k o.1 o.2.1 o.2.2.1 o.2.2.2.1 o.2.2.2.2.1 o.2.2.2.2.2).bind fun b => if b = true then (spec_StepsDone.f k o.2.2.1 o.2.2.2.1 a1).bind fun q => if q.1.length * 24 ≤ 140737488355328 then (cutSpec k l2 o.1).bind fun ns => spec_l06Clean.f k ns q.1 q.1 [] o.2.2.2.2.1 o.2.2.2.2.2 else none else some (o.1, o.2.1, o.2.2.1, o.2.2.2.1, o.2.2.2.2.1, o.2.2.2.2.2)
theorem spec_Fallen.mono : ∀ l0_0 l0_1 l0_2 l0_3 a0_4 a0_5 a1 l2 k, LeO (spec_Fallen.f k l0_0 l0_1 l0_2 l0_3 a0_4 a0_5 a1 l2) (spec_Fallen.f (k + 1) l0_0 l0_1 l0_2 l0_3 a0_4 a0_5 a1 l2) := by
  intro l0_0 l0_1 l0_2 l0_3 a0_4 a0_5 a1 l2 k
  unfold spec_Fallen.f
  repeat' first | (with_reducible exact LeO.refl _) | (with_reducible exact spec_DiskOk.mono _ _ _ _ _ _ _) | (with_reducible exact spec_StepsDone.mono _ _ _ _) | (with_reducible exact cutSpec_mono _ _ _) | (with_reducible exact spec_l06Clean.mono _ _ _ _ _ _ _) | (with_reducible refine LeO.ite ?_ ?_) | (with_reducible refine LeO.bind ?_ (fun _ => ?_))
set_option maxHeartbeats 4000000 in
set_option maxRecDepth 100000 in
theorem spec_Fallen.calls (k : Nat) (A0_0 : Option Addr) (c0_0 : Nat) (l0_0 : List (S57)) (A0_1 : Option Addr) (c0_1 : Nat) (l0_1 : List (S59)) (A0_2 : Option Addr) (c0_2 : Nat) (l0_2 : List (S59)) (A0_3 : Option Addr) (c0_3 : Nat) (l0_3 : List ByteArray) (a0_4 : Int) (a0_5 : Int) (a1 : Int) (A_2 : Option Addr) (c_2 : Nat) (l2 : List Int) (r1 : List S57) (r2 : List S59) (r3 : List S59) (r4 : List ByteArray) (r5 : Int) (r6 : Int) (w : World) (hr0_0 : Kd.C k57 w A0_0 l0_0.length l0_0) (hc0_0 : l0_0.length ≤ c0_0) (hr0_1 : Kd.C k59 w A0_1 l0_1.length l0_1) (hc0_1 : l0_1.length ≤ c0_1) (hr0_2 : Kd.C k59 w A0_2 l0_2.length l0_2) (hc0_2 : l0_2.length ≤ c0_2) (hr0_3 : Kd.C Kd.string w A0_3 l0_3.length l0_3) (hc0_3 : l0_3.length ≤ c0_3) (hr2 : Kd.C (Kd.int .i64) w A_2 l2.length l2) (hc2 : l2.length ≤ c_2) (h : spec_Fallen.f k l0_0 l0_1 l0_2 l0_3 a0_4 a0_5 a1 l2 = some (r1, r2, r3, r4, r5, r6)) :
    Calls Tryz.prog 32 #[.agg #[.slice A0_0 l0_0.length c0_0, .slice A0_1 l0_1.length c0_1, .slice A0_2 l0_2.length c0_2, .slice A0_3 l0_3.length c0_3, .int .i64 a0_4, .int .i64 a0_5], .int .i64 a1, .slice A_2 l2.length c_2] w fun e w' => ∃ v0_ v1_ v2_ v3_ : Value, e = .returned (.agg #[v0_, v1_, v2_, v3_, .int .i64 r5, .int .i64 r6]) ∧ Kd.R k57 57 w' w.heap.size (fun _ => True) v0_ r1 ∧ Kd.R k59 59 w' w.heap.size (fun k_ => some k_ ≠ (v2_ : Value).ownBlock) v1_ r2 ∧ Kd.R k59 59 w' w.heap.size (fun k_ => some k_ ≠ (v1_ : Value).ownBlock) v2_ r3 ∧ Kd.R Kd.string 9 w' w.heap.size (fun _ => True) v3_ r4 ∧ Below w.heap.size w w' := by
  unfold spec_Fallen.f at h
  replace h := Option.bind_eq_some_iff.mp h
  obtain ⟨⟨o1, o2, o3, o4, o5, o6⟩, ho, h⟩ := h
  replace h := Option.bind_eq_some_iff.mp h
  obtain ⟨b, hbk, h⟩ := h
  dsimp only at h
  have CC := Aside0.mk (fun (w1 : World) (hb : Below w.heap.size w w1) => spec_l05Copy.calls A0_0 c0_0 l0_0 A0_1 c0_1 l0_1 A0_2 c0_2 l0_2 A0_3 c0_3 l0_3 a0_4 a0_5 o1 o2 o3 o4 o5 o6 w1 (Kd.C_below hr0_0 hb) hc0_0 (Kd.C_below hr0_1 hb) hc0_1 (Kd.C_below hr0_2 hb) hc0_2 (Kd.C_below hr0_3 hb) hc0_3 ho)
  have CD := Aside0.mk (fun (w1 : World) (A0 : Option Addr) (c0 : Nat) (A1 : Option Addr) (c1 : Nat) (A2 : Option Addr) (c2 : Nat) (A3 : Option Addr) (c3 : Nat) (h : HasD w1 w.heap.size (.slice A0 o1.length c0) (.slice A1 o2.length c1) (.slice A2 o3.length c2) (.slice A3 o4.length c3) o1 o2 o3 o4) => spec_DiskOk.calls k A0 c0 o1 A1 c1 o2 A2 c2 o3 A3 c3 o4 o5 o6 b w1 (Kd.R_reads' h.r0).2.2 (Kd.R_reads' h.r0).2.1 (Kd.R_reads' h.r1).2.2 (Kd.R_reads' h.r1).2.1 (Kd.R_reads' h.r2).2.2 (Kd.R_reads' h.r2).2.1 (Kd.R_reads' h.r3).2.2 (Kd.R_reads' h.r3).2.1 hbk)
  cases b with
  | false =>
    rw [if_neg (by decide)] at h
    simp only [Option.some.injEq, Prod.mk.injEq] at h
    obtain ⟨rfl, rfl, rfl, rfl, rfl, rfl⟩ := h
    clear ho hbk hr0_0 hc0_0 hr0_1 hc0_1 hr0_2 hc0_2 hr0_3 hc0_3 hr2 hc2
    go_enter Tryz.func32, Tryz.ntmps32
    go_wp2_with (first | ((with_reducible refine gate_dst (N := 3) rfl ?_); refine box_event ?hg (N := 3) ?hd (cs := #[.slice A0_0 l0_0.length c0_0, .slice A0_1 l0_1.length c0_1, .slice A0_2 l0_2.length c0_2, .slice A0_3 l0_3.length c0_3, .int .i64 a0_4, .int .i64 a0_5]) (t := 32) ?hr ?_; (case hd => rfl); (case hg => rfl); (case hr => first | (go_simp; done) | (go_simp; rfl)); intro gD hg w1 hbox hb; have GD := Aside0.mk (Nat.le_of_eq hg.symm); have BL := Aside0.mk hb; have BD := Aside0.mk hbox; clear hb; (try clear iD0 iD1 iD2 iD3 iD4 iD5); obtain ⟨iD0, iD1, iD2, iD3, iD4, iD5⟩ := blk6 BD.out; (try clear zD0 zD1 zD2 zD3 zD4 zD5); have zD0 := blk_frozen BD.out 0; have zD1 := blk_frozen BD.out 1; have zD2 := blk_frozen BD.out 2; have zD3 := blk_frozen BD.out 3; have zD4 := blk_frozen BD.out 4; have zD5 := blk_frozen BD.out 5; clear hg hbox) | ((with_reducible refine gate_dst (N := 6) rfl ?_); refine box_event ?hg (N := 6) ?hd (cs := #[.slice none 0 0, .slice none 0 0, .slice none 0 0, .slice none 0 0, .int .i64 0, .int .i64 0]) (t := 32) ?hr ?_; (case hd => rfl); (case hg => rfl); (case hr => first | (go_simp; done) | (go_simp; rfl)); intro gR hg w1 hbox hb; have GR := Aside0.mk (show w.heap.size ≤ gR by rw [hg]; exact BL.out.size); have RD := Aside0.mk (show gR ≠ gD by rw [hg]; exact Nat.ne_of_gt (blk_lt BD.out)); replace BL := Aside0.mk (BL.out.trans (hb.mono BL.out.size)); (try replace BD := Aside0.mk ((hb.block gD (blk_lt BD.out)).trans BD.out)); (try replace BR := Aside0.mk ((hb.block gR (blk_lt BR.out)).trans BR.out)); (try replace Do := Aside0.mk (Do.out.on hb)); have BR := Aside0.mk hbox; clear hb; (try clear iD0 iD1 iD2 iD3 iD4 iD5); obtain ⟨iD0, iD1, iD2, iD3, iD4, iD5⟩ := blk6 BD.out; (try clear iR0 iR1 iR2 iR3 iR4 iR5); obtain ⟨iR0, iR1, iR2, iR3, iR4, iR5⟩ := blk6 BR.out; (try clear zD0 zD1 zD2 zD3 zD4 zD5); have zD0 := blk_frozen BD.out 0; have zD1 := blk_frozen BD.out 1; have zD2 := blk_frozen BD.out 2; have zD3 := blk_frozen BD.out 3; have zD4 := blk_frozen BD.out 4; have zD5 := blk_frozen BD.out 5; (try clear zR0 zR1 zR2 zR3 zR4 zR5); have zR0 := blk_frozen BR.out 0; have zR1 := blk_frozen BR.out 1; have zR2 := blk_frozen BR.out 2; have zR3 := blk_frozen BR.out 3; have zR4 := blk_frozen BR.out 4; have zR5 := blk_frozen BR.out 5; clear hg hbox) | (go_at_call 78; have hbs := BL.out.size; (with_reducible refine (CC.out _ BL.out).mono ?_); rintro e w1 ⟨v0, v1, v2, v3, rfl, p0, p1, p2, p3, hb⟩; have hD := HasD.of p0 p1 p2 p3; replace BL := Aside0.mk (BL.out.trans (hb.mono BL.out.size)); (try replace BD := Aside0.mk ((hb.block gD (blk_lt BD.out)).trans BD.out)); (try replace BR := Aside0.mk ((hb.block gR (blk_lt BR.out)).trans BR.out)); (try replace Do := Aside0.mk (Do.out.on hb)); have Do := Aside0.mk (hD.lower hbs); obtain ⟨A0, c0, rfl⟩ := Kd.R_slice p0; obtain ⟨A1, c1, rfl⟩ := Kd.R_slice p1; obtain ⟨A2, c2, rfl⟩ := Kd.R_slice p2; obtain ⟨A3, c3, rfl⟩ := Kd.R_slice p3; clear hD hb hbs p0 p1 p2 p3; (try clear iD0 iD1 iD2 iD3 iD4 iD5); obtain ⟨iD0, iD1, iD2, iD3, iD4, iD5⟩ := blk6 BD.out; (try clear iR0 iR1 iR2 iR3 iR4 iR5); obtain ⟨iR0, iR1, iR2, iR3, iR4, iR5⟩ := blk6 BR.out; (try clear zD0 zD1 zD2 zD3 zD4 zD5); have zD0 := blk_frozen BD.out 0; have zD1 := blk_frozen BD.out 1; have zD2 := blk_frozen BD.out 2; have zD3 := blk_frozen BD.out 3; have zD4 := blk_frozen BD.out 4; have zD5 := blk_frozen BD.out 5; (try clear zR0 zR1 zR2 zR3 zR4 zR5); have zR0 := blk_frozen BR.out 0; have zR1 := blk_frozen BR.out 1; have zR2 := blk_frozen BR.out 2; have zR3 := blk_frozen BR.out 3; have zR4 := blk_frozen BR.out 4; have zR5 := blk_frozen BR.out 5) | (go_at_call 16; refine fill6_calls BD.out (fun W hO hk hs => ?_); replace Do := Aside0.mk (HasD.fill Do.out BD.out hs); replace BR := Aside0.mk ((hs gR RD.out).trans BR.out); replace BL := Aside0.mk (hk BL.out GD.out); replace BD := Aside0.mk hO; clear hO hk hs; (with_reducible refine (CD.out _ _ _ _ _ _ _ _ _ Do.out).mono ?_); rintro e w1 ⟨rfl, hb⟩; replace BL := Aside0.mk (BL.out.trans (hb.mono BL.out.size)); (try replace BD := Aside0.mk ((hb.block gD (blk_lt BD.out)).trans BD.out)); (try replace BR := Aside0.mk ((hb.block gR (blk_lt BR.out)).trans BR.out)); (try replace Do := Aside0.mk (Do.out.on hb)); clear hb; (try clear iD0 iD1 iD2 iD3 iD4 iD5); obtain ⟨iD0, iD1, iD2, iD3, iD4, iD5⟩ := blk6 BD.out; (try clear iR0 iR1 iR2 iR3 iR4 iR5); obtain ⟨iR0, iR1, iR2, iR3, iR4, iR5⟩ := blk6 BR.out; (try clear zD0 zD1 zD2 zD3 zD4 zD5); have zD0 := blk_frozen BD.out 0; have zD1 := blk_frozen BD.out 1; have zD2 := blk_frozen BD.out 2; have zD3 := blk_frozen BD.out 3; have zD4 := blk_frozen BD.out 4; have zD5 := blk_frozen BD.out 5; (try clear zR0 zR1 zR2 zR3 zR4 zR5); have zR0 := blk_frozen BR.out 0; have zR1 := blk_frozen BR.out 1; have zR2 := blk_frozen BR.out 2; have zR3 := blk_frozen BR.out 3; have zR4 := blk_frozen BR.out 4; have zR5 := blk_frozen BR.out 5))
    refine bodyPost_ret (results_cell_row rfl _ _ gR 32 #[.slice A0 o1.length c0, .slice A1 o2.length c1, .slice A2 o3.length c2, .slice A3 o4.length c3, .int .i64 o5, .int .i64 o6] (0, 0) _ rfl (fill6_at BR.out) Tryz.underlying32 rfl (by kernel_rfl)) rfl ?_
    have hT := filled_told (.int .i64 o5) (.int .i64 o6) Do.out BR.out
    exact ⟨_, _, _, _, rfl, hT.1, hT.2.1, hT.2.2.1, hT.2.2.2, fill6_below BL.out GR.out⟩
  | true =>
    rw [if_pos rfl] at h
    replace h := Option.bind_eq_some_iff.mp h
    obtain ⟨⟨q, qb⟩, hq, h⟩ := h
    dsimp only at h
    by_cases hql : q.length * 24 ≤ 140737488355328
    case neg => rw [if_neg hql] at h; cases h
    rw [if_pos hql] at h
    replace h := Option.bind_eq_some_iff.mp h
    obtain ⟨ns, hns, h⟩ := h
    obtain ⟨dl, hdl⟩ : ∃ x, x = ([] : List ByteArray) := ⟨_, rfl⟩
    rw [← hdl] at h
    have HZ := Aside0.mk h
    have HDL := Aside0.mk hdl
    have HQL := Aside0.mk hql
    have HNS := Aside0.mk hns
    have HC := Aside0.mk hr2
    have CQ := Aside0.mk (fun (w1 : World) (A0 : Option Addr) (c0 : Nat) (A1 : Option Addr) (c1 : Nat) (A2 : Option Addr) (c2 : Nat) (A3 : Option Addr) (c3 : Nat) (h : HasD w1 w.heap.size (.slice A0 o1.length c0) (.slice A1 o2.length c1) (.slice A2 o3.length c2) (.slice A3 o4.length c3) o1 o2 o3 o4) => spec_StepsDone.calls k A2 c2 o3 A3 c3 o4 a1 q qb w1 (Kd.R_reads' h.r2).2.2 (Kd.R_reads' h.r2).2.1 (Kd.R_reads' h.r3).2.2 (Kd.R_reads' h.r3).2.1 hq)
    clear ho hbk h hdl hql hns hq hr0_0 hc0_0 hr0_1 hc0_1 hr0_2 hc0_2 hr0_3 hc0_3 hr2 hc2
    go_enter Tryz.func32, Tryz.ntmps32
    go_wp2_with (first | ((with_reducible refine gate_dst (N := 3) rfl ?_); refine box_event ?hg (N := 3) ?hd (cs := #[.slice A0_0 l0_0.length c0_0, .slice A0_1 l0_1.length c0_1, .slice A0_2 l0_2.length c0_2, .slice A0_3 l0_3.length c0_3, .int .i64 a0_4, .int .i64 a0_5]) (t := 32) ?hr ?_; (case hd => rfl); (case hg => rfl); (case hr => first | (go_simp; done) | (go_simp; rfl)); intro gD hg w1 hbox hb; have GD := Aside0.mk (Nat.le_of_eq hg.symm); have BL := Aside0.mk hb; have BD := Aside0.mk hbox; clear hb; (try clear iD0 iD1 iD2 iD3 iD4 iD5); obtain ⟨iD0, iD1, iD2, iD3, iD4, iD5⟩ := blk6 BD.out; (try clear zD0 zD1 zD2 zD3 zD4 zD5); have zD0 := blk_frozen BD.out 0; have zD1 := blk_frozen BD.out 1; have zD2 := blk_frozen BD.out 2; have zD3 := blk_frozen BD.out 3; have zD4 := blk_frozen BD.out 4; have zD5 := blk_frozen BD.out 5; clear hg hbox) | ((with_reducible refine gate_dst (N := 6) rfl ?_); refine box_event ?hg (N := 6) ?hd (cs := #[.slice none 0 0, .slice none 0 0, .slice none 0 0, .slice none 0 0, .int .i64 0, .int .i64 0]) (t := 32) ?hr ?_; (case hd => rfl); (case hg => rfl); (case hr => first | (go_simp; done) | (go_simp; rfl)); intro gR hg w1 hbox hb; have GR := Aside0.mk (show w.heap.size ≤ gR by rw [hg]; exact BL.out.size); have RD := Aside0.mk (show gR ≠ gD by rw [hg]; exact Nat.ne_of_gt (blk_lt BD.out)); replace BL := Aside0.mk (BL.out.trans (hb.mono BL.out.size)); (try replace BD := Aside0.mk ((hb.block gD (blk_lt BD.out)).trans BD.out)); (try replace BR := Aside0.mk ((hb.block gR (blk_lt BR.out)).trans BR.out)); (try replace Do := Aside0.mk (Do.out.on hb)); have BR := Aside0.mk hbox; clear hb; (try clear iD0 iD1 iD2 iD3 iD4 iD5); obtain ⟨iD0, iD1, iD2, iD3, iD4, iD5⟩ := blk6 BD.out; (try clear iR0 iR1 iR2 iR3 iR4 iR5); obtain ⟨iR0, iR1, iR2, iR3, iR4, iR5⟩ := blk6 BR.out; (try clear zD0 zD1 zD2 zD3 zD4 zD5); have zD0 := blk_frozen BD.out 0; have zD1 := blk_frozen BD.out 1; have zD2 := blk_frozen BD.out 2; have zD3 := blk_frozen BD.out 3; have zD4 := blk_frozen BD.out 4; have zD5 := blk_frozen BD.out 5; (try clear zR0 zR1 zR2 zR3 zR4 zR5); have zR0 := blk_frozen BR.out 0; have zR1 := blk_frozen BR.out 1; have zR2 := blk_frozen BR.out 2; have zR3 := blk_frozen BR.out 3; have zR4 := blk_frozen BR.out 4; have zR5 := blk_frozen BR.out 5; clear hg hbox) | (go_at_call 78; have hbs := BL.out.size; (with_reducible refine (CC.out _ BL.out).mono ?_); rintro e w1 ⟨v0, v1, v2, v3, rfl, p0, p1, p2, p3, hb⟩; have hD := HasD.of p0 p1 p2 p3; replace BL := Aside0.mk (BL.out.trans (hb.mono BL.out.size)); (try replace BD := Aside0.mk ((hb.block gD (blk_lt BD.out)).trans BD.out)); (try replace BR := Aside0.mk ((hb.block gR (blk_lt BR.out)).trans BR.out)); (try replace Do := Aside0.mk (Do.out.on hb)); have Do := Aside0.mk (hD.lower hbs); obtain ⟨A0, c0, rfl⟩ := Kd.R_slice p0; obtain ⟨A1, c1, rfl⟩ := Kd.R_slice p1; obtain ⟨A2, c2, rfl⟩ := Kd.R_slice p2; obtain ⟨A3, c3, rfl⟩ := Kd.R_slice p3; clear hD hb hbs p0 p1 p2 p3; (try clear iD0 iD1 iD2 iD3 iD4 iD5); obtain ⟨iD0, iD1, iD2, iD3, iD4, iD5⟩ := blk6 BD.out; (try clear iR0 iR1 iR2 iR3 iR4 iR5); obtain ⟨iR0, iR1, iR2, iR3, iR4, iR5⟩ := blk6 BR.out; (try clear zD0 zD1 zD2 zD3 zD4 zD5); have zD0 := blk_frozen BD.out 0; have zD1 := blk_frozen BD.out 1; have zD2 := blk_frozen BD.out 2; have zD3 := blk_frozen BD.out 3; have zD4 := blk_frozen BD.out 4; have zD5 := blk_frozen BD.out 5; (try clear zR0 zR1 zR2 zR3 zR4 zR5); have zR0 := blk_frozen BR.out 0; have zR1 := blk_frozen BR.out 1; have zR2 := blk_frozen BR.out 2; have zR3 := blk_frozen BR.out 3; have zR4 := blk_frozen BR.out 4; have zR5 := blk_frozen BR.out 5) | (go_at_call 16; refine fill6_calls BD.out (fun W hO hk hs => ?_); replace Do := Aside0.mk (HasD.fill Do.out BD.out hs); replace BR := Aside0.mk ((hs gR RD.out).trans BR.out); replace BL := Aside0.mk (hk BL.out GD.out); replace BD := Aside0.mk hO; clear hO hk hs; (with_reducible refine (CD.out _ _ _ _ _ _ _ _ _ Do.out).mono ?_); rintro e w1 ⟨rfl, hb⟩; replace BL := Aside0.mk (BL.out.trans (hb.mono BL.out.size)); (try replace BD := Aside0.mk ((hb.block gD (blk_lt BD.out)).trans BD.out)); (try replace BR := Aside0.mk ((hb.block gR (blk_lt BR.out)).trans BR.out)); (try replace Do := Aside0.mk (Do.out.on hb)); clear hb; (try clear iD0 iD1 iD2 iD3 iD4 iD5); obtain ⟨iD0, iD1, iD2, iD3, iD4, iD5⟩ := blk6 BD.out; (try clear iR0 iR1 iR2 iR3 iR4 iR5); obtain ⟨iR0, iR1, iR2, iR3, iR4, iR5⟩ := blk6 BR.out; (try clear zD0 zD1 zD2 zD3 zD4 zD5); have zD0 := blk_frozen BD.out 0; have zD1 := blk_frozen BD.out 1; have zD2 := blk_frozen BD.out 2; have zD3 := blk_frozen BD.out 3; have zD4 := blk_frozen BD.out 4; have zD5 := blk_frozen BD.out 5; (try clear zR0 zR1 zR2 zR3 zR4 zR5); have zR0 := blk_frozen BR.out 0; have zR1 := blk_frozen BR.out 1; have zR2 := blk_frozen BR.out 2; have zR3 := blk_frozen BR.out 3; have zR4 := blk_frozen BR.out 4; have zR5 := blk_frozen BR.out 5) | (go_at_call 61; have LW := BL.out.size; (with_reducible refine (CQ.out _ _ _ _ _ _ _ _ _ Do.out).mono ?_); rintro e w1 ⟨v4, rfl, hR4, hb⟩; obtain ⟨A4, c4, rfl⟩ := Kd.R_slice hR4; replace Do := Aside0.mk (has_r2 Do.out hb LW hR4); replace BL := Aside0.mk (BL.out.trans (hb.mono BL.out.size)); (try replace BD := Aside0.mk ((hb.block gD (blk_lt BD.out)).trans BD.out)); (try replace BR := Aside0.mk ((hb.block gR (blk_lt BR.out)).trans BR.out)); clear hR4 hb LW; (try clear iD0 iD1 iD2 iD3 iD4 iD5); obtain ⟨iD0, iD1, iD2, iD3, iD4, iD5⟩ := blk6 BD.out; (try clear iR0 iR1 iR2 iR3 iR4 iR5); obtain ⟨iR0, iR1, iR2, iR3, iR4, iR5⟩ := blk6 BR.out; (try clear zD0 zD1 zD2 zD3 zD4 zD5); have zD0 := blk_frozen BD.out 0; have zD1 := blk_frozen BD.out 1; have zD2 := blk_frozen BD.out 2; have zD3 := blk_frozen BD.out 3; have zD4 := blk_frozen BD.out 4; have zD5 := blk_frozen BD.out 5; (try clear zR0 zR1 zR2 zR3 zR4 zR5); have zR0 := blk_frozen BR.out 0; have zR1 := blk_frozen BR.out 1; have zR2 := blk_frozen BR.out 2; have zR3 := blk_frozen BR.out 3; have zR4 := blk_frozen BR.out 4; have zR5 := blk_frozen BR.out 5) | ((with_reducible refine gate_store (t := 30) (p := 27) rfl ?_); refine store_event (t := 30) (p := 27) (v := ?vo27) (w1 := w1.setCell ⟨gD, 2, none⟩ (.slice A4 q.length c4)) ?hg ?ho ?hn ?hr ?_; (case ho => rfl); (case hg => rfl); (case hn => rfl); (case hr => first | (go_simp; done) | (go_simp; rfl)); intro wz hw; have hs : ∀ j, j ≠ gD → wz.heap[j]? = w1.heap[j]? := (by rw [hw]; exact fun j hj => Below.heap_setCell w1 ⟨gD, 2, none⟩ _ j hj); have hbl : Below w.heap.size w wz := (by rw [hw]; exact below_set BL.out GD.out); have hG : wz.heap[gD]? = some (.cells #[.slice A0 o1.length c0, .slice A1 o2.length c1, .slice A4 q.length c4, .slice A3 o4.length c3, .int .i64 o5, .int .i64 o6] 32 (0, 0)) := (by rw [hw]; exact blk_put (cs := #[.slice A0 o1.length c0, .slice A1 o2.length c1, .slice A2 o3.length c2, .slice A3 o4.length c3, .int .i64 o5, .int .i64 o6]) BD.out 2 _ rfl); clear hw; replace Do := Aside0.mk (HasD.fill Do.out BD.out hs); replace BR := Aside0.mk ((hs gR RD.out).trans BR.out); clear BL BD; have BL := Aside0.mk hbl; have BD := Aside0.mk hG; clear hs hbl hG; obtain ⟨w1, hw1⟩ : ∃ x, x = wz := ⟨_, rfl⟩; subst hw1; (try clear iD0 iD1 iD2 iD3 iD4 iD5); obtain ⟨iD0, iD1, iD2, iD3, iD4, iD5⟩ := blk6 BD.out; (try clear iR0 iR1 iR2 iR3 iR4 iR5); obtain ⟨iR0, iR1, iR2, iR3, iR4, iR5⟩ := blk6 BR.out; (try clear zD0 zD1 zD2 zD3 zD4 zD5); have zD0 := blk_frozen BD.out 0; have zD1 := blk_frozen BD.out 1; have zD2 := blk_frozen BD.out 2; have zD3 := blk_frozen BD.out 3; have zD4 := blk_frozen BD.out 4; have zD5 := blk_frozen BD.out 5; (try clear zR0 zR1 zR2 zR3 zR4 zR5); have zR0 := blk_frozen BR.out 0; have zR1 := blk_frozen BR.out 1; have zR2 := blk_frozen BR.out 2; have zR3 := blk_frozen BR.out 3; have zR4 := blk_frozen BR.out 4; have zR5 := blk_frozen BR.out 5) | ((with_reducible refine gate_dst (N := 28) rfl ?_); refine Kd.R_lit k59 _ 59 ?hg (N := 28) ?hd (xs := []) (inner := []) (ok := fun _ => True) (okp := fun _ => True) ?hr ?hp (fun _ hk => hk) trivial (Below.refl _ _) (Nat.le_refl _) (by simp) ?_; (case hd => rfl); (case hg => rfl); (case hr => (go_simp; done)); (case hp => exact (Reps.none _ _)); intro v4 w1 ho hb hg_ hnew_; clear hg_ hnew_; have LW := BL.out.size; have LD := Aside0.mk Do.out.lt; have NEV := Aside0.mk (fun k hd (hv : some k = v4.ownBlock) => Nat.not_le_of_lt (LD.out k hd) (Kd.R_base ho k hv.symm)); have RE := Aside0.mk (Kd.R_lower ho LW); replace BL := Aside0.mk (BL.out.trans (hb.mono BL.out.size)); (try replace BD := Aside0.mk ((hb.block gD (blk_lt BD.out)).trans BD.out)); (try replace BR := Aside0.mk ((hb.block gR (blk_lt BR.out)).trans BR.out)); (try replace Do := Aside0.mk (Do.out.on hb)); clear hb ho LW LD; (try clear iD0 iD1 iD2 iD3 iD4 iD5); obtain ⟨iD0, iD1, iD2, iD3, iD4, iD5⟩ := blk6 BD.out; (try clear iR0 iR1 iR2 iR3 iR4 iR5); obtain ⟨iR0, iR1, iR2, iR3, iR4, iR5⟩ := blk6 BR.out; (try clear zD0 zD1 zD2 zD3 zD4 zD5); have zD0 := blk_frozen BD.out 0; have zD1 := blk_frozen BD.out 1; have zD2 := blk_frozen BD.out 2; have zD3 := blk_frozen BD.out 3; have zD4 := blk_frozen BD.out 4; have zD5 := blk_frozen BD.out 5; (try clear zR0 zR1 zR2 zR3 zR4 zR5); have zR0 := blk_frozen BR.out 0; have zR1 := blk_frozen BR.out 1; have zR2 := blk_frozen BR.out 2; have zR3 := blk_frozen BR.out 3; have zR4 := blk_frozen BR.out 4; have zR5 := blk_frozen BR.out 5) | ((with_reducible refine gate_builtin (b := .append) (xs := #[.tmp 28, .tmp 29]) rfl ?_); at_builtin; refine Kd.R_append_rows k59 (w0 := w) w.heap.size rfl (.tmp 28) (.tmp 29) 30 59 (.agg #[(.string ⟨#[]⟩), (.int .i64 0)]) 24 rfl Tryz.underlying30 info59 rfl (by decide) (by omega) v4 [] q _ _ _ (fun k_ => some k_ ≠ (Value.slice A4 q.length c4).ownBlock) (fun _ => False) rfl rfl ?aO ?aR (fun _ _ h => h) (fun _ h => h.elim) ?aF ?aB ?aS ?aL ?_; (case aR => exact (Kd.R_reads' Do.out.r2).2.2); (case aB => exact BL.out); (case aF => exact fun k_ hk e => Nat.not_le_of_lt (Kd.R_lt Do.out.r2 k_ e.symm) hk); (case aO => exact Kd.R_mono (Kd.R_tight rfl RE.out) (fun k hk e => NEV.out k (.inr (.inr (.inl e))) hk)); (case aS => exact BL.out.size); (case aL => have := HQL.out; rw [List.length_nil]; omega); intro v5 w1 ho hb hg1 hat1; rw [List.nil_append] at ho; have hT : Turned _ w1 _ := ⟨hg1.os, hg1.tape, hg1.output, hg1.size, fun k hk hn => hg1.block k hk hn⟩; have hD := has_r1n Do.out hT (fun k ho hs => NEV.out k ho hs) ho; obtain ⟨A6, c6, rfl⟩ := Kd.R_slice ho; replace BD := Aside0.mk ((hT.block gD (blk_lt BD.out) (fun e => Kd.R_ne RE.out BD.out (by decide) e)).trans BD.out); replace BR := Aside0.mk ((hT.block gR (blk_lt BR.out) (fun e => Kd.R_ne RE.out BR.out (by decide) e)).trans BR.out); clear BL Do RE NEV; have BL := Aside0.mk hb; have Do := Aside0.mk hD; clear hD ho hb hg1 hat1 hT; (try clear iD0 iD1 iD2 iD3 iD4 iD5); obtain ⟨iD0, iD1, iD2, iD3, iD4, iD5⟩ := blk6 BD.out; (try clear iR0 iR1 iR2 iR3 iR4 iR5); obtain ⟨iR0, iR1, iR2, iR3, iR4, iR5⟩ := blk6 BR.out; (try clear zD0 zD1 zD2 zD3 zD4 zD5); have zD0 := blk_frozen BD.out 0; have zD1 := blk_frozen BD.out 1; have zD2 := blk_frozen BD.out 2; have zD3 := blk_frozen BD.out 3; have zD4 := blk_frozen BD.out 4; have zD5 := blk_frozen BD.out 5; (try clear zR0 zR1 zR2 zR3 zR4 zR5); have zR0 := blk_frozen BR.out 0; have zR1 := blk_frozen BR.out 1; have zR2 := blk_frozen BR.out 2; have zR3 := blk_frozen BR.out 3; have zR4 := blk_frozen BR.out 4; have zR5 := blk_frozen BR.out 5) | ((with_reducible refine gate_store (t := 30) (p := 31) rfl ?_); refine store_event (t := 30) (p := 31) (v := ?vo31) (w1 := w1.setCell ⟨gD, 1, none⟩ (.slice A6 q.length c6)) ?hg ?ho ?hn ?hr ?_; (case ho => rfl); (case hg => rfl); (case hn => rfl); (case hr => first | (go_simp; done) | (go_simp; rfl)); intro wz hw; have hs : ∀ j, j ≠ gD → wz.heap[j]? = w1.heap[j]? := (by rw [hw]; exact fun j hj => Below.heap_setCell w1 ⟨gD, 1, none⟩ _ j hj); have hbl : Below w.heap.size w wz := (by rw [hw]; exact below_set BL.out GD.out); have hG : wz.heap[gD]? = some (.cells #[.slice A0 o1.length c0, .slice A6 q.length c6, .slice A4 q.length c4, .slice A3 o4.length c3, .int .i64 o5, .int .i64 o6] 32 (0, 0)) := (by rw [hw]; exact blk_put (cs := #[.slice A0 o1.length c0, .slice A1 o2.length c1, .slice A4 q.length c4, .slice A3 o4.length c3, .int .i64 o5, .int .i64 o6]) BD.out 1 _ rfl); clear hw; replace Do := Aside0.mk (HasD.fill Do.out BD.out hs); replace BR := Aside0.mk ((hs gR RD.out).trans BR.out); clear BL BD; have BL := Aside0.mk hbl; have BD := Aside0.mk hG; clear hs hbl hG; obtain ⟨w1, hw1⟩ : ∃ x, x = wz := ⟨_, rfl⟩; subst hw1; (try clear iD0 iD1 iD2 iD3 iD4 iD5); obtain ⟨iD0, iD1, iD2, iD3, iD4, iD5⟩ := blk6 BD.out; (try clear iR0 iR1 iR2 iR3 iR4 iR5); obtain ⟨iR0, iR1, iR2, iR3, iR4, iR5⟩ := blk6 BR.out; (try clear zD0 zD1 zD2 zD3 zD4 zD5); have zD0 := blk_frozen BD.out 0; have zD1 := blk_frozen BD.out 1; have zD2 := blk_frozen BD.out 2; have zD3 := blk_frozen BD.out 3; have zD4 := blk_frozen BD.out 4; have zD5 := blk_frozen BD.out 5; (try clear zR0 zR1 zR2 zR3 zR4 zR5); have zR0 := blk_frozen BR.out 0; have zR1 := blk_frozen BR.out 1; have zR2 := blk_frozen BR.out 2; have zR3 := blk_frozen BR.out 3; have zR4 := blk_frozen BR.out 4; have zR5 := blk_frozen BR.out 5) | ((with_reducible refine gate_dst (N := 32) rfl ?_); refine Kd.R_lit Kd.string _ 9 ?hg (N := 32) ?hd (xs := []) (inner := []) (ok := fun _ => True) (okp := fun _ => True) ?hr ?hp (fun _ hk => hk) trivial (Below.refl _ _) (Nat.le_refl _) (by simp) ?_; (case hd => rfl); (case hg => rfl); (case hr => (go_simp; done)); (case hp => exact (Reps.none _ _)); intro v4 w1 ho hb hg_ hnew_; clear hg_ hnew_; have LW := BL.out.size; rw [← HDL.out] at ho; replace Do := Aside0.mk (has_r3 Do.out (Turned.of hb _) (Kd.R_lower ho LW)); obtain ⟨A7, c7, rfl⟩ := Kd.R_slice ho; replace BL := Aside0.mk (BL.out.trans (hb.mono BL.out.size)); (try replace BD := Aside0.mk ((hb.block gD (blk_lt BD.out)).trans BD.out)); (try replace BR := Aside0.mk ((hb.block gR (blk_lt BR.out)).trans BR.out)); clear hb ho LW; (try clear iD0 iD1 iD2 iD3 iD4 iD5); obtain ⟨iD0, iD1, iD2, iD3, iD4, iD5⟩ := blk6 BD.out; (try clear iR0 iR1 iR2 iR3 iR4 iR5); obtain ⟨iR0, iR1, iR2, iR3, iR4, iR5⟩ := blk6 BR.out; (try clear zD0 zD1 zD2 zD3 zD4 zD5); have zD0 := blk_frozen BD.out 0; have zD1 := blk_frozen BD.out 1; have zD2 := blk_frozen BD.out 2; have zD3 := blk_frozen BD.out 3; have zD4 := blk_frozen BD.out 4; have zD5 := blk_frozen BD.out 5; (try clear zR0 zR1 zR2 zR3 zR4 zR5); have zR0 := blk_frozen BR.out 0; have zR1 := blk_frozen BR.out 1; have zR2 := blk_frozen BR.out 2; have zR3 := blk_frozen BR.out 3; have zR4 := blk_frozen BR.out 4; have zR5 := blk_frozen BR.out 5) | ((with_reducible refine gate_store (t := 24) (p := 33) rfl ?_); refine store_event (t := 24) (p := 33) (v := ?vo33) (w1 := w1.setCell ⟨gD, 3, none⟩ (.slice A7 dl.length c7)) ?hg ?ho ?hn ?hr ?_; (case ho => rfl); (case hg => rfl); (case hn => rfl); (case hr => first | (go_simp; done) | (go_simp; rfl)); intro wz hw; have hs : ∀ j, j ≠ gD → wz.heap[j]? = w1.heap[j]? := (by rw [hw]; exact fun j hj => Below.heap_setCell w1 ⟨gD, 3, none⟩ _ j hj); have hbl : Below w.heap.size w wz := (by rw [hw]; exact below_set BL.out GD.out); have hG : wz.heap[gD]? = some (.cells #[.slice A0 o1.length c0, .slice A6 q.length c6, .slice A4 q.length c4, .slice A7 dl.length c7, .int .i64 o5, .int .i64 o6] 32 (0, 0)) := (by rw [hw]; exact blk_put (cs := #[.slice A0 o1.length c0, .slice A6 q.length c6, .slice A4 q.length c4, .slice A3 o4.length c3, .int .i64 o5, .int .i64 o6]) BD.out 3 _ rfl); clear hw; replace Do := Aside0.mk (HasD.fill Do.out BD.out hs); replace BR := Aside0.mk ((hs gR RD.out).trans BR.out); clear BL BD; have BL := Aside0.mk hbl; have BD := Aside0.mk hG; clear hs hbl hG; obtain ⟨w1, hw1⟩ : ∃ x, x = wz := ⟨_, rfl⟩; subst hw1; (try clear iD0 iD1 iD2 iD3 iD4 iD5); obtain ⟨iD0, iD1, iD2, iD3, iD4, iD5⟩ := blk6 BD.out; (try clear iR0 iR1 iR2 iR3 iR4 iR5); obtain ⟨iR0, iR1, iR2, iR3, iR4, iR5⟩ := blk6 BR.out; (try clear zD0 zD1 zD2 zD3 zD4 zD5); have zD0 := blk_frozen BD.out 0; have zD1 := blk_frozen BD.out 1; have zD2 := blk_frozen BD.out 2; have zD3 := blk_frozen BD.out 3; have zD4 := blk_frozen BD.out 4; have zD5 := blk_frozen BD.out 5; (try clear zR0 zR1 zR2 zR3 zR4 zR5); have zR0 := blk_frozen BR.out 0; have zR1 := blk_frozen BR.out 1; have zR2 := blk_frozen BR.out 2; have zR3 := blk_frozen BR.out 3; have zR4 := blk_frozen BR.out 4; have zR5 := blk_frozen BR.out 5))
    go_loopg [9] o1.length (fun gg s9 wr => ∃ (kk : Nat) (cur : List S57), kk ≤ o1.length ∧ o1.length - kk ≤ gg ∧ s9 = .int .i64 kk ∧ Aside0 (cur.length = o1.length) ∧ Aside0 (∃ rest, cutSpec k l2 (cur.drop kk) = some rest ∧ cur.take kk ++ rest = ns) ∧ Aside0 (Below w.heap.size w wr) ∧ Aside0 (wr.heap[gD]? = some (.cells #[.slice A0 o1.length c0, .slice A6 q.length c6, .slice A4 q.length c4, .slice A7 dl.length c7, .int .i64 o5, .int .i64 o6] 32 (0, 0))) ∧ Aside0 (wr.heap[gR]? = some (.cells #[.slice none 0 0, .slice none 0 0, .slice none 0 0, .slice none 0 0, .int .i64 0, .int .i64 0] 32 (0, 0))) ∧ Aside0 (HasD wr w.heap.size (.slice A0 o1.length c0) (.slice A6 q.length c6) (.slice A4 q.length c4) (.slice A7 dl.length c7) cur q q dl))
    case atStart => exact ⟨0, o1, by omega, by omega, rfl, ⟨rfl⟩, ⟨ns, HNS.out, rfl⟩, BL, BD, BR, Do⟩
    case round =>
      obtain ⟨kk, cur, hkk, hgg, rfl, CL, PC, BL, BD, BR, Do⟩ := hrel
      (try clear iD0 iD1 iD2 iD3 iD4 iD5 iR0 iR1 iR2 iR3 iR4 iR5 zD0 zD1 zD2 zD3 zD4 zD5 zR0 zR1 zR2 zR3 zR4 zR5)
      have hmax : o1.length ≤ 9223372036854775807 := by have h1 := (Kd.R_reads' Do.out.r0).2.2.2.1; have h2 := CL.out; omega
      by_cases hlt : kk < o1.length
      · have hkl : kk < cur.length := by rw [CL.out]; exact hlt
        have hltz : (kk : Int) < (o1.length : Int) := by omega
        have hk0 : (0 : Int) ≤ (kk : Int) := by omega
        obtain ⟨x, hx⟩ : ∃ x, cur[kk]? = some x := ⟨_, List.getElem?_eq_getElem hkl⟩
        obtain ⟨gN, row, rfl, hbg, hg, c0', c1', c2', hfr, hs1, hs2⟩ := cutRow Do.out kk x hx
        obtain ⟨rest, hrest, hns⟩ := PC.out
        rw [List.drop_eq_getElem_cons hkl, cutSpec, show cur[kk] = x from Option.some.inj ((List.getElem?_eq_getElem hkl).symm.trans hx)] at hrest
        replace hrest := Option.bind_eq_some_iff.mp hrest
        obtain ⟨m, hKm, hrest⟩ := hrest
        by_cases hm : 0 ≤ m ∧ m ≤ (x.f1.size : Int)
        case neg => rw [if_neg hm] at hrest; cases hrest
        rw [if_pos hm] at hrest
        obtain ⟨hm0, hm1⟩ := hm
        replace hrest := Option.bind_eq_some_iff.mp hrest
        obtain ⟨rt, hrt, hrest⟩ := hrest
        obtain rfl := Option.some.inj hrest
        clear hrest
        have HRT := Aside0.mk hrt
        have HNS2 := Aside0.mk hns
        have HX := Aside0.mk hx
        have HKL := Aside0.mk hkl
        have hbL := HC.out.2.1
        clear hrt hns hs1 hs2 PC hx hkl hbg hg hfr
        (try clear iD0 iD1 iD2 iD3 iD4 iD5); obtain ⟨iD0, iD1, iD2, iD3, iD4, iD5⟩ := blk6 BD.out
        unfold keepK at hKm
        by_cases h0 : l2.length = 0
        case' pos =>
          rw [if_pos h0] at hKm
          have hKm := Option.some.inj hKm
          rw [hKm] at c2'
          have hz0 : decide ((0 : Int) < (l2.length : Int)) = false := decide_eq_false (by omega)
          have hz1 : decide (0 < l2.length) = false := decide_eq_false (by omega)
          clear h0
          go_wp2_with fail
          rename World => w9
        case' neg =>
          rw [if_neg h0] at hKm
          by_cases h1 : 0 ≤ Int.tmod x.f0 (l2.length : Int)
          case neg => rw [if_neg h1] at hKm; cases hKm
          rw [if_pos h1] at hKm
          replace hKm := Option.bind_eq_some_iff.mp hKm
          obtain ⟨t, ht, hKm⟩ := hKm
          have hKm := Option.some.inj hKm
          have hz0 : (0 : Int) < (l2.length : Int) := by omega
          have hz1 : ¬ ((l2.length : Int) = 0) := by omega
          have h2 : Int.tmod x.f0 (l2.length : Int) < (l2.length : Int) := Int.tmod_lt_of_pos _ hz0
          go_wp2_with fail
          obtain ⟨ad, rfl, hx⟩ := Kd.at_int (Kd.C_below HC.out BL.out) (Int.tmod x.f0 (l2.length : Int)) h1 h2
          have CB := Aside0.mk (fun (w1 : World) => ((spec_Brought.calls k _ _ _ t w1 ht).mono (fun e w' q => ⟨q.1, by obtain ⟨nd, hnd⟩ := q.2; rw [hnd]; exact pw_below_drewN (Below.refl _ _) nd⟩) : Calls Tryz.prog 96 _ w1 fun e w' => e = .returned (.int .i64 t) ∧ Below w1.heap.size w1 w'))
          clear ht
          have d1 : decide (0 ≤ Int.tmod x.f0 (l2.length : Int)) = true := decide_eq_true h1
          have d2 : decide (Int.tmod x.f0 (l2.length : Int) < (l2.length : Int)) = true := decide_eq_true h2
          have hwt : IntKind.i64.wrap (x.f2 + t) = m := (i64_w _).trans hKm
          have hws : IntKind.i64.wrap ((x.f1.size : Int) - x.f2) = wrap64 ((x.f1.size : Int) - x.f2) := i64_w _
          clear hKm
          have sq0_ : ∀ p_ : LaidBy wr, p_.W.cell? ⟨gD, 0, none⟩ = some (.slice (some ⟨gN, 0, none⟩) o1.length c0) := fun p_ => p_.cell (iD0)
          have sq1_ : ∀ p_ : LaidBy wr, p_.W.cell? ⟨gN, kk * 3, none⟩ = some (.int .i64 x.f0) := fun p_ => p_.cell (c0')
          have sq2_ : ∀ p_ : LaidBy wr, p_.W.cell? ⟨gN, kk * 3 + 1, none⟩ = some (.string x.f1) := fun p_ => p_.cell (c1')
          have sq3_ : ∀ p_ : LaidBy wr, p_.W.cell? (ad.add (Int.tmod x.f0 (l2.length : Int)).toNat) = some (.int .i64 (rd l2 (Int.tmod x.f0 (l2.length : Int)))) := fun p_ => p_.cell (hx)
          refine wp_region_laid (by kernel_rfl) (by kernel_rfl) ?_
          repeat (go_big_quiet_step (first | (go_at_call 96; with_reducible exact laid_of _ (CB.out _))))
          refine wpQuiet_nil ?_
          rintro w9 ⟨p_, hp_⟩
          have hq_ : Below wr.heap.size wr w9 := hp_ ▸ p_.ok
          clear hp_ p_ sq0_ sq1_ sq2_ sq3_
          have hb := hq_
          replace BL := Aside0.mk (BL.out.trans (hb.mono BL.out.size)); (try replace BD := Aside0.mk ((hb.block gD (blk_lt BD.out)).trans BD.out)); (try replace BR := Aside0.mk ((hb.block gR (blk_lt BR.out)).trans BR.out)); (try replace Do := Aside0.mk (Do.out.on hb))
          clear hb hq_
          go_wp2_with fail
        all_goals
          clear c0' c1' c2'
          (try clear iD0 iD1 iD2 iD3 iD4 iD5 iR0 iR1 iR2 iR3 iR4 iR5 zD0 zD1 zD2 zD3 zD4 zD5 zR0 zR1 zR2 zR3 zR4 zR5)
          have hb := below_drew (Below.refl w9.heap.size w9)
          replace BL := Aside0.mk (BL.out.trans (hb.mono BL.out.size)); (try replace BD := Aside0.mk ((hb.block gD (blk_lt BD.out)).trans BD.out)); (try replace BR := Aside0.mk ((hb.block gR (blk_lt BR.out)).trans BR.out)); (try replace Do := Aside0.mk (Do.out.on hb))
          clear hb
          obtain ⟨gN', row', eA, hbg, hg, _, c1', c2', hfr, hs1, hs2⟩ := cutRow Do.out kk _ HX.out
          obtain rfl : gN = gN' := by injection eA with eA; injection eA
          clear eA
          have hf1 := hfr (kk * 3 + 1)
          clear c2' hs2 hfr
          have hneD : gD ≠ gN := fun e => Do.out.nobox BD.out (by decide) (by decide) (by decide) (.inl (by rw [e]; rfl))
          have hneR : gR ≠ gN := fun e => Do.out.nobox BR.out (by decide) (by decide) (by decide) (.inl (by rw [e]; rfl))
          have HS1 := Aside0.mk hs1
          have HBG := Aside0.mk hbg
          have HND := Aside0.mk hneD
          have HNR := Aside0.mk hneR
          clear hs1 hg hneD hneR hbg
          refine start_ (n := 14) (S := fun w' => w'.cell? ⟨gD, 0, none⟩ = some (.slice (some ⟨gN, 0, none⟩) o1.length c0) ∧ w'.cell? ⟨gN, kk * 3 + 1, none⟩ = some (.string x.f1)) (ds := [13]) (marks 14 0) (by kernel_rfl) rfl rfl ⟨(blk_cell BD.out 0).trans rfl, c1'⟩ (fun hHeld => ?_)
          clear c1'
          generalize w9.drew = w10 at BL BD BR Do HS1 hf1 hHeld ⊢
          have hm2 : m.toNat ≤ x.f1.size := by omega
          refine pure_ (i := 0) (N := some 74) (v := ?_) (a' := ?_) (marks 14 1) rfl rfl (by kernel_rfl) (fun _ _ _ h => h) (Or.inl ⟨by rfl, ?_⟩) ?_ ?_
          rotate_left
          · intro w'
            go_simp
            with_reducible rfl
          rotate_left
          · simp only [Act.put, List.setIfInBounds_toArray, List.set_cons_zero, List.set_cons_succ, i64_w, i32_w]
            rfl
          refine pure_ (i := 2) (N := some 76) (v := ?_) (a' := ?_) (marks 14 5) rfl rfl (by kernel_rfl) (fun _ _ _ h => h) (Or.inl ⟨by rfl, ?_⟩) ?_ ?_
          rotate_left
          · intro w'
            go_simp
            with_reducible rfl
          rotate_left
          · simp only [Act.put, List.setIfInBounds_toArray, List.set_cons_zero, List.set_cons_succ, i64_w, i32_w]
            rfl
          refine pure_ (i := 3) (N := some 77) (v := ?_) (a' := ?_) (marks 14 13) rfl rfl (by kernel_rfl) (fun _ _ _ h => h) (Or.inl ⟨by rfl, ?_⟩) ?_ ?_
          rotate_left
          · intro w'
            go_simp
            with_reducible rfl
          rotate_left
          · simp only [Act.put, List.setIfInBounds_toArray, List.set_cons_zero, List.set_cons_succ, i64_w, i32_w]
            rfl
          refine pure_ (i := 5) (N := some 79) (v := ?_) (a' := ?_) (marks 14 45) rfl rfl (by kernel_rfl) (fun _ _ _ h => h) (Or.inl ⟨by rfl, ?_⟩) ?_ ?_
          rotate_left
          · intro w'
            go_simp
            with_reducible rfl
          rotate_left
          · simp only [Act.put, List.setIfInBounds_toArray, List.set_cons_zero, List.set_cons_succ, i64_w, i32_w]
            rfl
          refine pure_ (i := 9) (N := some 83) (v := ?_) (a' := ?_) (marks 14 557) rfl rfl (by kernel_rfl) (fun _ _ _ h => h) (Or.inl ⟨by rfl, ?_⟩) ?_ ?_
          rotate_left
          · intro w'
            go_simp
            with_reducible rfl
          rotate_left
          · simp only [Act.put, List.setIfInBounds_toArray, List.set_cons_zero, List.set_cons_succ, i64_w, i32_w]
            rfl
          refine take_ (i := 1) (N := some 75) (v := ?_) (a' := ?_) (marks 14 559) rfl rfl (by kernel_rfl) (fun _ _ _ h => h) (Or.inl ⟨by rfl, ?_⟩) hHeld ?_ ?_
          rotate_left
          · rintro w' ⟨s0, s1⟩
            go_simp
            with_reducible rfl
          rotate_left
          · simp only [Act.put, List.setIfInBounds_toArray, List.set_cons_zero, List.set_cons_succ, i64_w, i32_w]
            rfl
          refine take_ (i := 4) (N := some 78) (v := ?_) (a' := ?_) (marks 14 575) rfl rfl (by kernel_rfl) (fun _ _ _ h => h) (Or.inl ⟨by rfl, ?_⟩) hHeld ?_ ?_
          rotate_left
          · rintro w' ⟨s0, s1⟩
            go_simp
            with_reducible rfl
          rotate_left
          · simp only [Act.put, List.setIfInBounds_toArray, List.set_cons_zero, List.set_cons_succ, i64_w, i32_w]
            rfl
          refine pure_ (i := 6) (N := some 80) (v := ?_) (a' := ?_) (marks 14 639) rfl rfl (by kernel_rfl) (fun _ _ _ h => h) (Or.inl ⟨by rfl, ?_⟩) ?_ ?_
          rotate_left
          · intro w'
            go_simp
            with_reducible rfl
          rotate_left
          · simp only [Act.put, List.setIfInBounds_toArray, List.set_cons_zero, List.set_cons_succ, i64_w, i32_w]
            rfl
          refine pure_ (i := 7) (N := some 81) (v := ?_) (a' := ?_) (marks 14 767) rfl rfl (by kernel_rfl) (fun _ _ _ h => h) (Or.inl ⟨by rfl, ?_⟩) ?_ ?_
          rotate_left
          · intro w'
            go_simp
            with_reducible rfl
          rotate_left
          · simp only [Act.put, List.setIfInBounds_toArray, List.set_cons_zero, List.set_cons_succ, i64_w, i32_w]
            rfl
          refine take_ (i := 8) (N := some 82) (v := ?_) (a' := ?_) (marks 14 1023) rfl rfl (by kernel_rfl) (fun _ _ _ h => h) (Or.inl ⟨by rfl, ?_⟩) hHeld ?_ ?_
          rotate_left
          · rintro w' ⟨s0, s1⟩
            go_simp
            with_reducible rfl
          rotate_left
          · simp only [Act.put, List.setIfInBounds_toArray, List.set_cons_zero, List.set_cons_succ, i64_w, i32_w]
            rfl
          refine pure_ (i := 10) (N := some 84) (v := ?_) (a' := ?_) (marks 14 2047) rfl rfl (by kernel_rfl) (fun _ _ _ h => h) (Or.inl ⟨by rfl, ?_⟩) ?_ ?_
          rotate_left
          · intro w'
            go_simp
            with_reducible rfl
          rotate_left
          · simp only [Act.put, List.setIfInBounds_toArray, List.set_cons_zero, List.set_cons_succ, i64_w, i32_w]
            rfl
          refine pure_ (i := 11) (N := some 85) (v := ?_) (a' := ?_) (marks 14 4095) rfl rfl (by kernel_rfl) (fun _ _ _ h => h) (Or.inl ⟨by rfl, ?_⟩) ?_ ?_
          rotate_left
          · intro w'
            go_simp
            with_reducible rfl
          rotate_left
          · simp only [Act.put, List.setIfInBounds_toArray, List.set_cons_zero, List.set_cons_succ, i64_w, i32_w]
            rfl
          refine pure_ (i := 12) (N := some 86) (v := ?_) (a' := ?_) (marks 14 8191) rfl rfl (by kernel_rfl) (fun _ _ _ h => h) (Or.inl ⟨by rfl, ?_⟩) ?_ ?_
          rotate_left
          · intro w'
            go_simp
            with_reducible rfl
          rotate_left
          · simp only [Act.put, List.setIfInBounds_toArray, List.set_cons_zero, List.set_cons_succ, i64_w, i32_w]
            rfl
          refine last_ (i := 13) (N := none) (marks 14 16383) rfl rfl (by kernel_rfl) (by decide) (fun K hK => ?_)
          refine skip_ (w1 := ?_) (by rfl) rfl ?_ ?_
          rotate_left
          · go_simp
            rfl
          refine hK.out _ _ ?_
          clear hK K hHeld
          refine done_ (by kernel_rfl) ?_
          have hneD := HND.out
          have hneR := HNR.out
          have hbg := HBG.out
          clear HND HNR
          generalize x.f1.extract 0 m.toNat = tx at HNS2 ⊢
          have b1 : Below w.heap.size w (w10.setCell ⟨gN, kk * 3 + 1, none⟩ (.string tx)) := below_set BL.out hbg
          have b2 : (w10.setCell ⟨gN, kk * 3 + 1, none⟩ (.string tx)).heap[gD]? = some (.cells #[.slice (some ⟨gN, 0, none⟩) o1.length c0, .slice A6 q.length c6, .slice A4 q.length c4, .slice A7 dl.length c7, .int .i64 o5, .int .i64 o6] 32 (0, 0)) := blk_far BD.out hneD _
          have b3 : (w10.setCell ⟨gN, kk * 3 + 1, none⟩ (.string tx)).heap[gR]? = some (.cells #[.slice none 0 0, .slice none 0 0, .slice none 0 0, .slice none 0 0, .int .i64 0, .int .i64 0] 32 (0, 0)) := blk_far BR.out hneR _
          have b4 := HS1.out tx
          clear BL BD BR Do HS1 hf1
          generalize w10.setCell ⟨gN, kk * 3 + 1, none⟩ (.string tx) = w11 at b1 b2 b3 b4 ⊢
          have BL := Aside0.mk b1
          have BD := Aside0.mk b2
          have BR := Aside0.mk b3
          have Do := Aside0.mk b4
          clear b1 b2 b3 b4
          (try clear iD0 iD1 iD2 iD3 iD4 iD5); obtain ⟨iD0, iD1, iD2, iD3, iD4, iD5⟩ := blk6 BD.out
          obtain ⟨gN', row', eA, hbg, hg, _, c1', c2', hfr, hs1, hs2⟩ := cutRow Do.out kk _ (List.getElem?_set_self HKL.out)
          obtain rfl : gN = gN' := by injection eA with eA; injection eA
          clear eA
          have HS2 := Aside0.mk hs2
          have HFR := Aside0.mk (And.intro hneD (And.intro hneR hbg))
          have hf2 := hfr (kk * 3 + 2)
          clear c1' hs1 hs2 hfr hg hneD hneR hbg HBG
          go_wp2_with (first | ((with_reducible refine gate_store (t := 3) (p := 92) rfl ?_); refine store_event (t := 3) (p := 92) (v := ?vo92) (w1 := w11.setCell ⟨gN, kk * 3 + 2, none⟩ (.int .i64 m)) ?hg ?ho ?hn ?hr ?_; (case ho => rfl); (case hg => rfl); (case hn => rfl); (case hr => first | (go_simp; done) | (go_simp; rfl)); intro wz hw; obtain ⟨hneD, hneR, hbg⟩ := HFR.out; have b1 : Below w.heap.size w (w11.setCell ⟨gN, kk * 3 + 2, none⟩ (.int .i64 m)) := below_set BL.out hbg; have b2 : (w11.setCell ⟨gN, kk * 3 + 2, none⟩ (.int .i64 m)).heap[gD]? = some (.cells #[.slice (some ⟨gN, 0, none⟩) o1.length c0, .slice A6 q.length c6, .slice A4 q.length c4, .slice A7 dl.length c7, .int .i64 o5, .int .i64 o6] 32 (0, 0)) := blk_far BD.out hneD _; have b3 : (w11.setCell ⟨gN, kk * 3 + 2, none⟩ (.int .i64 m)).heap[gR]? = some (.cells #[.slice none 0 0, .slice none 0 0, .slice none 0 0, .slice none 0 0, .int .i64 0, .int .i64 0] 32 (0, 0)) := blk_far BR.out hneR _; have b4 := HS2.out m; rw [← hw] at b1 b2 b3 b4; clear BL BD BR Do HS2 hneD hneR hbg HFR hw; have BL := Aside0.mk b1; have BD := Aside0.mk b2; have BR := Aside0.mk b3; have Do := Aside0.mk b4; clear b1 b2 b3 b4 iD0 iD1 iD2 iD3 iD4 iD5 hf2 c2'))
          go_roundg (o1.length - (kk + 1))
          case measure => omega
          case rel => exact ⟨kk + 1, _, by omega, by omega, by go_num, ⟨by rw [List.length_set, List.length_set]; exact CL.out⟩, ⟨rt, by rw [List.set_set, List.drop_set, if_pos (Nat.lt_succ_self _)]; exact HRT.out, by rw [List.set_set, take_set_snoc _ _ _ HKL.out, List.append_assoc]; exact HNS2.out⟩, BL, BD, BR, Do⟩
      · have hcl := CL.out
        have hz : cur.drop kk = [] := List.drop_eq_nil_of_le (by omega)
        obtain ⟨rest, hrest, hns⟩ := PC.out
        rw [hz, cutSpec] at hrest
        obtain rfl := Option.some.inj hrest
        rw [List.append_nil, List.take_of_length_le (by omega)] at hns
        subst hns
        have hltz : ¬ (kk : Int) < (cur.length : Int) := by omega
        have BD2 : Aside0 (wr.heap[gD]? = some (.cells #[.slice A0 cur.length c0, .slice A6 q.length c6, .slice A4 q.length c4, .slice A7 dl.length c7, .int .i64 o5, .int .i64 o6] 32 (0, 0))) := ⟨by rw [CL.out]; exact BD.out⟩
        have Do2 : Aside0 (HasD wr w.heap.size (.slice A0 cur.length c0) (.slice A6 q.length c6) (.slice A4 q.length c4) (.slice A7 dl.length c7) cur q q dl) := ⟨by rw [CL.out]; exact Do.out⟩
        clear BD Do hz hrest PC hmax hcl CL hkk hgg
        have BD := BD2
        have Do := Do2
        clear BD2 Do2
        (try clear iD0 iD1 iD2 iD3 iD4 iD5); obtain ⟨iD0, iD1, iD2, iD3, iD4, iD5⟩ := blk6 BD.out
        (try clear iR0 iR1 iR2 iR3 iR4 iR5); obtain ⟨iR0, iR1, iR2, iR3, iR4, iR5⟩ := blk6 BR.out
        (try clear zD0 zD1 zD2 zD3 zD4 zD5); have zD0 := blk_frozen BD.out 0; have zD1 := blk_frozen BD.out 1; have zD2 := blk_frozen BD.out 2; have zD3 := blk_frozen BD.out 3; have zD4 := blk_frozen BD.out 4; have zD5 := blk_frozen BD.out 5
        (try clear zR0 zR1 zR2 zR3 zR4 zR5); have zR0 := blk_frozen BR.out 0; have zR1 := blk_frozen BR.out 1; have zR2 := blk_frozen BR.out 2; have zR3 := blk_frozen BR.out 3; have zR4 := blk_frozen BR.out 4; have zR5 := blk_frozen BR.out 5
        go_wp2_with (first | (go_at_call 97; refine (cleanS_calls k w _ BL.out Do.out HZ.out).mono ?_; rintro e w2 ⟨u0, u1, u2, u3, rfl, hD, hb, hk⟩; have BR2 := Aside0.mk ((hk.2 gR (blk_lt BR.out) (Do.out.nobox BR.out (by decide) (by decide) (by decide))).trans BR.out); obtain ⟨B0, b0, B1, b1, B2, b2, B3, b3, rfl, rfl, rfl, rfl⟩ := has_slices hD; clear BR BL BD Do; have BR := BR2; have BL := Aside0.mk hb; have Do := Aside0.mk hD; clear BR2 hD hb hk; clear iD0 iD1 iD2 iD3 iD4 iD5 zD0 zD1 zD2 zD3 zD4 zD5; (try clear iR0 iR1 iR2 iR3 iR4 iR5); obtain ⟨iR0, iR1, iR2, iR3, iR4, iR5⟩ := blk6 BR.out; (try clear zR0 zR1 zR2 zR3 zR4 zR5); have zR0 := blk_frozen BR.out 0; have zR1 := blk_frozen BR.out 1; have zR2 := blk_frozen BR.out 2; have zR3 := blk_frozen BR.out 3; have zR4 := blk_frozen BR.out 4; have zR5 := blk_frozen BR.out 5))
        refine bodyPost_ret (results_cell_row rfl _ _ gR 32 #[.slice B0 r1.length b0, .slice B1 r2.length b1, .slice B2 r3.length b2, .slice B3 r4.length b3, .int .i64 r5, .int .i64 r6] (0, 0) _ rfl (fill6_at BR.out) Tryz.underlying32 rfl (by kernel_rfl)) rfl ?_
        have hT := filled_told (.int .i64 r5) (.int .i64 r6) Do.out BR.out
        exact ⟨_, _, _, _, rfl, hT.1, hT.2.1, hT.2.2.1, hT.2.2.2, fill6_below BL.out GR.out⟩

/-! ### laws_toIntS: function 33 -/
def laws_toIntS.l0 : Nat → List Int → List Int → Int → Option (List Int)
 | 0, _, _, _ => none
 | k + 1, x0, x3, x4 => if x4 < (x0.length : Int) then (if 0 ≤ x4 then (if x4 < (x3.length : Int) then (laws_toIntS.l0 k x0 (x3.set (x4 : Int).toNat (rd x0 x4)) (wrap64 (x4 + 1))) else (none)) else (none)) else (some x3)
def laws_toIntS.f (k : Nat) (l0 : List Int) : Option (List Int) := if 0 ≤ (l0.length : Int) then (if ((l0.length : Int) : Int).toNat ≤ 35184372088832 then (laws_toIntS.l0 k l0 (List.replicate ((l0.length : Int) : Int).toNat 0) 0) else (none)) else (none)
theorem laws_toIntS.mono_l : ∀ k, (∀ y0 y1 y2, LeO (laws_toIntS.l0 k y0 y1 y2) (laws_toIntS.l0 (k + 1) y0 y1 y2))
 | 0 => fun _ _ _ r h => by simp [laws_toIntS.l0] at h
 | k + 1 => by
  have ih0 := laws_toIntS.mono_l k
  ·intro y0 y1 y2
   unfold laws_toIntS.l0
   repeat' first
   | (with_reducible exact ih0 _ _ _)
   | (with_reducible exact LeO.refl _)
   | (with_reducible exact LeO.none _)
   | (with_reducible refine LeO.ite ?_ ?_)
   | (with_reducible refine LeO.bind ?_ (fun _ => ?_))
   | exact ih0 _ _ _
   | exact LeO.none _
   | refine LeO.ite ?_ ?_
   | refine LeO.bind ?_ (fun _ => ?_)
theorem laws_toIntS.mono : ∀ a0 k, LeO (laws_toIntS.f k a0) (laws_toIntS.f (k + 1) a0) := by
 intro a0 k
 have ih0 := laws_toIntS.mono_l k
 unfold laws_toIntS.f
 repeat' first
   | (with_reducible exact ih0 _ _ _)
   | (with_reducible exact LeO.refl _)
   | (with_reducible exact LeO.none _)
   | (with_reducible refine LeO.ite ?_ ?_)
   | (with_reducible refine LeO.bind ?_ (fun _ => ?_))
   | exact ih0 _ _ _
   | exact LeO.none _
   | refine LeO.ite ?_ ?_
   | refine LeO.bind ?_ (fun _ => ?_)
set_option maxHeartbeats 8000000 in
set_option maxRecDepth 100000 in
theorem laws_toIntS.calls (k : Nat) (A0 : Option Addr) (c0 : Nat) (l0 : List Int) (r : List Int) (w : World) (hr0 : Kd.C (Kd.int .i64) w A0 l0.length l0) (hc0 : l0.length ≤ c0) (h : laws_toIntS.f k l0 = some r) :
  Calls Tryz.prog 33 #[.slice A0 l0.length c0] w fun e w' => ∃ v0_ : Value, e = .returned (v0_) ∧ Kd.R (Kd.int .i64) 3 w' w.heap.size (fun _ => True) v0_ r ∧ Below w.heap.size w w' := by
 have HR0 := Aside0.mk hr0
 have HC0 := Aside0.mk hc0
 clear hr0 hc0
 have HB := Aside0.mk (Below.refl w.heap.size w)
 have H : (if 0 ≤ (l0.length : Int) then (if ((l0.length : Int) : Int).toNat ≤ 35184372088832 then (laws_toIntS.l0 k l0 (List.replicate ((l0.length : Int) : Int).toNat 0) 0) else (none)) else (none)) = some r := h
 clear h
 by_cases c2 : 0 ≤ (l0.length : Int)
 ·rw [if_pos c2] at H
  have c2b0 := eq_true c2
  have c2b1 : decide (0 ≤ (l0.length : Int)) = true := decide_eq_true c2
  clear c2
  by_cases c3 : ((l0.length : Int) : Int).toNat ≤ 35184372088832
  ·rw [if_pos c3] at H
   have c3b0 := eq_true c3
   have c3b1 : decide (((l0.length : Int) : Int).toNat ≤ 35184372088832) = true := decide_eq_true c3
   clear c3
   obtain ⟨y319, hy319⟩ : ∃ y_ : List Int, y_ = (List.replicate ((l0.length : Int) : Int).toNat 0) := ⟨_, rfl⟩
   replace H : (laws_toIntS.l0 k l0 y319 0) = some r := by first | (rw [hy319]; with_reducible exact H) | (have H2_ := (Option.bind_some _ _).symm.trans H; rw [hy319]; with_reducible exact H2_) | (have H2_ := (Option.bind_some _ _).symm.trans H; with_reducible exact H2_) | with_reducible exact H | (rw [hy319]; exact H) | exact H
   have Ny319 := Aside0.mk hy319
   clear hy319
   have H' := Aside0.mk H
   clear H
   go_enter Tryz.func33, Tryz.ntmps33
   go_wp2_with (first | ((with_reducible refine gate_dst (N := 7) rfl ?_); refine Kd.R_make (Kd.int .i64) _ 3 rfl (N := 7) rfl 44 _ _ rfl (l0.length : Int) rfl rfl Tryz.underlying44 (.int .i64 0) 8 info3 rfl (by decide) (by omega) 0 (ok := fun _ => True) (okp := fun _ => True) rfl (fun _ hk => hk) trivial (of_decide_eq_true (by first | (with_reducible assumption) | assumption)) (Nat.le_trans (Nat.mul_le_mul_right _ (of_decide_eq_true (by first | (with_reducible assumption) | assumption) : (l0.length : Int).toNat ≤ 35184372088832)) (by omega)) (Below.refl _ _) (Nat.le_refl _) ?_; intro v320 w4 ho5 hb hg_ hnew_; clear hg_ hnew_; (first | rw [← Ny319.out] at ho5 | (simp only [Int.reduceToNat] at ho5; rw [← Ny319.out] at ho5)); have n0_ := Aside0.mk (Kd.R_lower ho5 (below_size (by repeat (first | (with_reducible first | exact HB.out | apply below_alloc | apply pw_below_drewN | apply below_drew1) | exact HB.out)))); have n1_ := Aside0.mk (below_step (by repeat (first | (with_reducible first | exact HB.out | apply below_alloc | apply pw_below_drewN | apply below_drew1) | exact HB.out)) hb); clear HB; have HO321 := n0_; have HB := n1_; clear n0_ n1_; clear hb ho5))
   go_loopg [4] k (fun kq v4 w' => ∃ (x3_1 : List Int) (x4_1 : Int), v4 = .int .i64 x4_1 ∧ Aside0 (laws_toIntS.l0 kq l0 x3_1 x4_1 = some r) ∧ Aside0 (kq ≤ k) ∧ Aside0 (Kd.R (Kd.int .i64) 3 w' w.heap.size (fun _ => True) v320 x3_1) ∧ Aside0 (Below w.heap.size w w'))
   case atStart => exact ⟨(y319), (0), (by first | rfl | (simp; done) | (simp [*]; done)), H', ⟨Nat.le_refl _⟩, ⟨by (with_reducible repeat (first | apply Kd.R_alloc | apply Kd.R_drewN | apply Kd.R_drew)); exact HO321.out⟩, ⟨by repeat (first | (with_reducible first | exact HB.out | apply below_alloc | apply pw_below_drewN | apply below_drew1) | exact HB.out)⟩⟩
   case round =>
    clear H'
    try clear c2
    try clear c2b0
    try clear c2b1
    try clear p2
    try clear c3
    try clear c3b0
    try clear c3b1
    obtain ⟨x3_1, x4_1, rfl, HA, HK1, HO_3, HB⟩ := hrel
    cases gk with
    | zero => exact absurd HA.out (by simp [laws_toIntS.l0])
    | succ k1 =>
     have H := HA.out
     clear HA
     simp only [laws_toIntS.l0] at H
     by_cases c6 : x4_1 < (l0.length : Int)
     ·rw [if_pos c6] at H
      have c6b0 : decide (x4_1 < (l0.length : Int)) = true := decide_eq_true c6
      clear c6
      by_cases c7 : 0 ≤ x4_1
      ·rw [if_pos c7] at H
       have c7b0 : decide (0 ≤ x4_1) = true := decide_eq_true c7
       clear c7
       by_cases c8 : x4_1 < (x3_1.length : Int)
       ·rw [if_pos c8] at H
        have c8b0 : decide (x4_1 < (x3_1.length : Int)) = true := decide_eq_true c8
        clear c8
        obtain ⟨y323, hy323⟩ : ∃ y_ : List Int, y_ = (x3_1.set (x4_1 : Int).toNat (rd l0 x4_1)) := ⟨_, rfl⟩
        replace H : (laws_toIntS.l0 k1 l0 y323 (wrap64 (x4_1 + 1))) = some r := by first | (rw [hy323]; with_reducible exact H) | (have H2_ := (Option.bind_some _ _).symm.trans H; rw [hy323]; with_reducible exact H2_) | (have H2_ := (Option.bind_some _ _).symm.trans H; with_reducible exact H2_) | with_reducible exact H | (rw [hy323]; exact H) | exact H
        have Ny323 := Aside0.mk hy323
        clear hy323
        have H' := Aside0.mk H
        clear H
        have p322 : 0 ≤ (x4_1 : Int) := of_decide_eq_true (by first | (with_reducible assumption) | assumption)
        have q322 : x4_1 < (l0.length : Int) := of_decide_eq_true (by first | (with_reducible assumption) | assumption)
        obtain ⟨ad322, e322, hx322_0⟩ := Kd.at_int HR0.out x4_1 p322 q322
        cases e322
        replace hx322_0 := (HB.out.cell (World.block_lt_of_cell? w _ hx322_0)).trans hx322_0
        replace p322 := eq_true p322
        replace q322 := eq_true q322
        have p9 : 0 ≤ (x4_1 : Int) := of_decide_eq_true (by first | (with_reducible assumption) | assumption)
        have q9 : (x4_1 : Int) < ((x3_1.length : Int) : Int) := of_decide_eq_true (by first | (with_reducible assumption) | assumption)
        obtain ⟨go9, co9, eo9, gb9, gl9, cl9, HG9⟩ := Kd.R_form HO_3.out (by omega)
        (first | cases eo9 | (injection eo9 with ea_ en_ ec_; (first | subst ea_ | (injection ea_ with ea_; subst ea_)); subst ec_; clear en_))
        have GB9 := Aside0.mk gb9
        have GG9 := Aside0.mk HG9
        clear gb9 gl9 HG9
        obtain ⟨hx9_0, hf9_0⟩ := Kd.R_celln 0 HO_3.out (x4_1 : Int) p9 q9
        replace p9 := eq_true p9
        replace q9 := eq_true q9
        have HP10 := Kd.R_putg HO_3.out (x4_1 : Int) (rd l0 x4_1)
        go_wp2_with (first | ((with_reducible refine gate_store (t := 3) (p := 20) rfl ?_); refine store_event (t := 3) (p := 20) (v := ?vo_w11) (w1 := (wr.setCell ⟨go9, (x4_1 : Int).toNat, none⟩ (.int .i64 (rd l0 x4_1)))) ?hg ?ho ?hn ?hr ?_; (case ho => rfl); (case hg => rfl); (case hn => rfl); (case hr => first | (go_simp; done) | (go_simp; rfl)); intro w11 hw; have hg : wr.grownBy w11 (some go9) := (by rw [hw]; exact HP10.2); have hp_ : Kd.R (Kd.int .i64) 3 w11 w.heap.size (fun _ => True) (.slice (some ⟨go9, 0, none⟩) x3_1.length co9) y323 := (by rw [hw, Ny323.out]; exact HP10.1); clear HP10; have n0_ := Aside0.mk (hp_); have n1_ := Aside0.mk ((by rw [hw]; exact below_set (HB.out) GB9.out : Below w.heap.size w w11)); clear HO_3; clear HB; have HO_3 := n0_; have HB := n1_; clear n0_ n1_; clear hg hw hp_))
        go_roundg k1
        case measure => have := HK1.out; omega
        case rel => exact ⟨(y323), (wrap64 (x4_1 + 1)), (by first | rfl | (simp; done) | (simp [*]; done)), H', ⟨by have := HK1.out; omega⟩, ⟨by (with_reducible repeat (first | apply Kd.R_alloc | apply Kd.R_drewN | apply Kd.R_drew)); exact HO_3.out⟩, ⟨by repeat (first | (with_reducible first | exact HB.out | apply below_alloc | apply pw_below_drewN | apply below_drew1) | exact HB.out)⟩⟩
       ·rw [if_neg c8] at H
        exact absurd H (by simp)
      ·rw [if_neg c7] at H
       exact absurd H (by simp)
     ·rw [if_neg c6] at H
      have c6b0 : decide (x4_1 < (l0.length : Int)) = false := decide_eq_false c6
      clear c6
      obtain rfl := Option.some.inj H
      go_wp2
      all_goals (first | go_ret | (exfalso; simp only [decide_eq_true_eq, decide_eq_false_iff_not] at *; omega))
      all_goals exact ⟨_, by rfl, by (with_reducible repeat (first | apply Kd.R_alloc | apply Kd.R_drewN | apply Kd.R_drew)); exact HO_3.out, by repeat (first | (with_reducible first | exact HB.out | apply below_alloc | apply pw_below_drewN | apply below_drew1) | exact HB.out)⟩
  ·rw [if_neg c3] at H
   exact absurd H (by simp)
 ·rw [if_neg c2] at H
  exact absurd H (by simp)

/-! ### impl_within: function 68 -/
def impl_within.f (a0 : Int) (a1 : Int) (a2 : Int) : Option (Bool) := if a0 ≥ a1 then (some (decide (a0 ≤ a2))) else (some false)
set_option maxHeartbeats 8000000 in
set_option maxRecDepth 100000 in
theorem impl_within.calls (a0 : Int) (a1 : Int) (a2 : Int) (r : Bool) (w : World) (h : impl_within.f a0 a1 a2 = some r) :
  Calls Tryz.prog 68 #[.int .i64 a0, .int .i64 a1, .int .i64 a2] w fun e w' => e = .returned (.bool r) ∧ Drawn0 w w' := by
 have H : (if a0 ≥ a1 then (some (decide (a0 ≤ a2))) else (some false)) = some r := h
 clear h
 by_cases c4 : a0 ≥ a1
 ·rw [if_pos c4] at H
  have c4b0 : decide (a1 ≤ a0) = true := decide_eq_true c4
  clear c4
  obtain rfl := Option.some.inj H
  go_enter Tryz.func68, Tryz.ntmps68
  go_wp2
  all_goals (go_ret)
  exact ⟨by first | rfl | (simp; done) | (simp [*]; done), by repeat (exact Drawn0.refl _)⟩
 ·rw [if_neg c4] at H
  have c4b0 : decide (a1 ≤ a0) = false := decide_eq_false c4
  clear c4
  obtain rfl := Option.some.inj H
  go_enter Tryz.func68, Tryz.ntmps68
  go_wp2
  all_goals (go_ret)
  exact ⟨by first | rfl | (simp; done) | (simp [*]; done), by repeat (exact Drawn0.refl _)⟩

/-! ### impl_isNumber: function 67 -/
def impl_isNumber.f (a0 : Int) : Option (Bool) := (impl_within.f a0 0 1000000000).bind fun t324 => (some t324)
set_option maxHeartbeats 8000000 in
set_option maxRecDepth 100000 in
theorem impl_isNumber.calls (a0 : Int) (r : Bool) (w : World) (h : impl_isNumber.f a0 = some r) :
  Calls Tryz.prog 67 #[.int .i64 a0] w fun e w' => e = .returned (.bool r) ∧ Drawn0 w w' := by
 have H : ((impl_within.f a0 0 1000000000).bind fun t324 => (some t324)) = some r := h
 clear h
 obtain ⟨t324, A2, H⟩ := bA H
 replace H : (some t324) = some r := H
 obtain rfl := Option.some.inj H
 go_enter Tryz.func67, Tryz.ntmps67
 go_wp2_with (((with_reducible refine gate_callee (f := 68) rfl ?_); refine goesL_ (some 4) rfl rfl Tryz.func68 (by kernel_rfl) rfl #[.int .i64 a0, .int .i64 0, .int .i64 1000000000] rfl (by (try simp only [List.map_toArray, List.map_cons, List.map_nil]); rfl) ?_; (with_reducible refine (impl_within.calls a0 0 1000000000 t324 _ A2.out).mono ?_); rintro e w' ⟨rfl, ⟨nd, rfl⟩⟩; refine ⟨_, rfl, ?_⟩))
 all_goals (go_ret)
 exact ⟨by first | rfl | (simp; done) | (simp [*]; done), by repeat (first | exact Drawn0.refl _ | apply Drawn0.step)⟩

/-! ### impl_Disk_areNodes: function 69 -/
def inR (n low high : Int) : Bool := decide (low ≤ n) && decide (n ≤ high)
theorem within_any (n low high : Int) (w : World) : Calls Tryz.prog 68 #[.int .i64 n, .int .i64 low, .int .i64 high] w fun e w' => e = .returned (.bool (inR n low high)) ∧ ∃ q, w' = w.drewN q := by
  unfold inR
  by_cases h : low ≤ n
  · rw [decide_eq_true h, Bool.true_and]
    go_enter Tryz.func68, Tryz.ntmps68
    go_wp2
    go_ret
    exact ⟨rfl, 0, rfl⟩
  · rw [decide_eq_false h, Bool.false_and]
    go_enter Tryz.func68, Tryz.ntmps68
    go_wp2
    go_ret
    exact ⟨rfl, 0, rfl⟩
def nodeFine (next : Int) (prev : Option Int) (x : S57) : Bool := (match prev with | none => true | some p => !decide (x.f0 ≤ p)) && (inR x.f0 1 (wrap64 (next - 1)) && inR x.f2 0 (x.f1.size : Int))
def nodesFine (next : Int) : Option Int → List S57 → Bool
  | _, [] => true
  | p, x :: l => nodeFine next p x && nodesFine next (some x.f0) l
def prevN (l : List S57) : Nat → Option Int
  | 0 => none
  | k + 1 => some (rd_T57 l (k : Int)).f0
def impl_Disk_areNodes.f (l0_0 : List S57) (l0_1 : List S59) (l0_2 : List S59) (l0_3 : List ByteArray) (a0_4 : Int) (a0_5 : Int) : Option Bool := some (nodesFine a0_5 none l0_0 && decide ((l0_0.length : Int) ≤ 64))
set_option maxHeartbeats 2000000 in
set_option maxRecDepth 100000 in
theorem impl_Disk_areNodes.calls (A0_0 : Option Addr) (c0_0 : Nat) (l0_0 : List (S57)) (A0_1 : Option Addr) (c0_1 : Nat) (l0_1 : List (S59)) (A0_2 : Option Addr) (c0_2 : Nat) (l0_2 : List (S59)) (A0_3 : Option Addr) (c0_3 : Nat) (l0_3 : List ByteArray) (a0_4 : Int) (a0_5 : Int) (r : Bool) (w : World) (hr0_0 : Kd.C k57 w A0_0 l0_0.length l0_0) (hc0_0 : l0_0.length ≤ c0_0) (hr0_1 : Kd.C k59 w A0_1 l0_1.length l0_1) (hc0_1 : l0_1.length ≤ c0_1) (hr0_2 : Kd.C k59 w A0_2 l0_2.length l0_2) (hc0_2 : l0_2.length ≤ c0_2) (hr0_3 : Kd.C Kd.string w A0_3 l0_3.length l0_3) (hc0_3 : l0_3.length ≤ c0_3) (h : impl_Disk_areNodes.f l0_0 l0_1 l0_2 l0_3 a0_4 a0_5 = some r) :
    Calls Tryz.prog 69 #[.agg #[.slice A0_0 l0_0.length c0_0, .slice A0_1 l0_1.length c0_1, .slice A0_2 l0_2.length c0_2, .slice A0_3 l0_3.length c0_3, .int .i64 a0_4, .int .i64 a0_5]] w fun e w' => e = .returned (.bool r) ∧ Below w.heap.size w w' := by
  obtain rfl := Option.some.inj h
  have hmax := hr0_0.2.1
  have HR := Aside0.mk hr0_0
  clear h hr0_0 hc0_0 hr0_1 hc0_1 hr0_2 hc0_2 hr0_3 hc0_3
  go_enter Tryz.func69, Tryz.ntmps69
  go_wp2_with (((with_reducible refine gate_dst (N := 1) rfl ?_); refine box_event ?hg (N := 1) ?hd (cs := #[.slice A0_0 l0_0.length c0_0, .slice A0_1 l0_1.length c0_1, .slice A0_2 l0_2.length c0_2, .slice A0_3 l0_3.length c0_3, .int .i64 a0_4, .int .i64 a0_5]) (t := 32) ?hr ?_; (case hd => rfl); (case hg => rfl); (case hr => (go_simp; done)); intro g5 hg w1 hbox b5; have BK := Aside0.mk hbox; have B1 := Aside0.mk b5; have q0 : w1.cell? ⟨g5, 0, none⟩ = some (.slice A0_0 l0_0.length c0_0) := (blk_cell BK.out 0).trans rfl; clear hg hbox b5))
  go_loopg [8] l0_0.length (fun gg s8 wr => ∃ kk : Nat, kk ≤ l0_0.length ∧ l0_0.length - kk ≤ gg ∧ s8 = .int .i64 kk ∧ Aside0 (Below w.heap.size w wr) ∧ Aside0 (wr.heap[g5]? = some (.cells #[.slice A0_0 l0_0.length c0_0, .slice A0_1 l0_1.length c0_1, .slice A0_2 l0_2.length c0_2, .slice A0_3 l0_3.length c0_3, .int .i64 a0_4, .int .i64 a0_5] 32)) ∧ Aside0 (nodesFine a0_5 (prevN l0_0 kk) (l0_0.drop kk) = nodesFine a0_5 none l0_0))
  case atStart => exact ⟨0, Nat.zero_le _, by omega, rfl, B1, BK, ⟨rfl⟩⟩
  case round =>
    clear q0
    obtain ⟨kk, hkk, hg, rfl, BW, BK2, A⟩ := hrel
    clear B1 BK
    by_cases hlt : kk < l0_0.length
    · have hltz : (kk : Int) < (l0_0.length : Int) := by omega
      obtain ⟨ad, rfl, hx0, hx1, hx2⟩ := at_T57 (Kd.C_below HR.out BW.out) (kk : Int) (by omega) hltz
      rw [Int.toNat_natCast] at hx0 hx1 hx2
      have hd : l0_0.drop kk = rd_T57 l0_0 (kk : Int) :: l0_0.drop (kk + 1) := by
        rw [List.drop_eq_getElem_cons hlt]
        unfold rd_T57
        rw [Int.toNat_natCast, List.getD_eq_getElem?_getD, List.getElem?_eq_getElem hlt]; rfl
      have A2 := A.out
      rw [hd, nodesFine] at A2
      have A3 : (nodeFine a0_5 (prevN l0_0 kk) (rd_T57 l0_0 (kk : Int)) && nodesFine a0_5 (prevN l0_0 (kk + 1)) (l0_0.drop (kk + 1))) = nodesFine a0_5 none l0_0 := A2
      have AA := Aside0.mk A3
      clear A A2 A3 hd
      generalize rd_T57 l0_0 (kk : Int) = y at hx0 hx1 hx2 AA
      go_wp2_with (((with_reducible refine gate_dst (N := 4) rfl ?_); refine box_event ?hg (N := 4) ?hd (cs := #[.int .i64 0, .string (⟨#[]⟩ : ByteArray), .int .i64 0]) (t := 57) ?hr ?_; (case hd => rfl); (case hg => rfl); (case hr => (go_simp; done)); intro g6 hg6 w2 hbox b6; have N2 := Aside0.mk hbox; have S2 := Aside0.mk b6; have G6 := Aside0.mk hg6; have n0 : w2.cell? ⟨g6, 0, none⟩ = some (.int .i64 0) := (blk_cell N2.out 0).trans rfl; have n1 : w2.cell? ⟨g6, 1, none⟩ = some (.string (⟨#[]⟩ : ByteArray)) := (blk_cell N2.out 1).trans rfl; have n2 : w2.cell? ⟨g6, 2, none⟩ = some (.int .i64 0) := (blk_cell N2.out 2).trans rfl; have z0 := blk_frozen N2.out 0; have z1 := blk_frozen N2.out 1; have z2 := blk_frozen N2.out 2; clear hg6 hbox b6))
      refine gen_wp (R := fun W => Below w.heap.size w W ∧ W.heap[g5]? = some (.cells #[.slice (some ad) l0_0.length c0_0, .slice A0_1 l0_1.length c0_1, .slice A0_2 l0_2.length c0_2, .slice A0_3 l0_3.length c0_3, .int .i64 a0_4, .int .i64 a0_5] 32) ∧ W.heap[g6]? = some (.cells #[.int .i64 y.f0, .string y.f1, .int .i64 y.f2] 57)) ?_ ?_
      · have hg6 : g6 ≠ g5 := by have := blk_lt BK2.out; have := G6.out; omega
        have hge : w.heap.size ≤ g6 := by rw [G6.out]; exact BW.out.size
        have hb2 := BW.out.trans (S2.out.mono BW.out.size)
        have hk := (S2.out.block g5 (blk_lt BK2.out)).trans BK2.out
        refine ⟨below_set (below_set (below_set hb2 hge) hge) hge, blk_far (blk_far (blk_far hk (Ne.symm hg6) _) (Ne.symm hg6) _) (Ne.symm hg6) _, ?_⟩
        exact blk_put (cs := #[.int .i64 y.f0, .string y.f1, .int .i64 0]) (blk_put (cs := #[.int .i64 y.f0, .string (⟨#[]⟩ : ByteArray), .int .i64 0]) (blk_put (cs := #[.int .i64 0, .string (⟨#[]⟩ : ByteArray), .int .i64 0]) N2.out 0 _ rfl) 1 _ rfl) 2 _ rfl
      rintro W2 ⟨hB2, hK2, hN2⟩
      have BW2 := Aside0.mk hB2
      have BKd := Aside0.mk hK2
      have e0 : W2.cell? ⟨g5, 0, none⟩ = some (.slice (some ad) l0_0.length c0_0) := (blk_cell hK2 0).trans rfl
      have e5 : W2.cell? ⟨g5, 5, none⟩ = some (.int .i64 a0_5) := (blk_cell hK2 5).trans rfl
      have m0 : W2.cell? ⟨g6, 0, none⟩ = some (.int .i64 y.f0) := (blk_cell hN2 0).trans rfl
      have m1 : W2.cell? ⟨g6, 1, none⟩ = some (.string y.f1) := (blk_cell hN2 1).trans rfl
      have m2 : W2.cell? ⟨g6, 2, none⟩ = some (.int .i64 y.f2) := (blk_cell hN2 2).trans rfl
      clear hB2 hK2 hN2 n0 n1 n2 z0 z1 z2 N2 S2 G6 hx0 hx1 hx2 BK2 BW
      have WN2 := fun (w : World) => within_any y.f0 1 (wrap64 (a0_5 - 1)) w
      have WN3 := fun (w : World) => within_any y.f2 0 (y.f1.size : Int) w
      have A4 := AA.out
      unfold nodeFine at A4
      generalize inR y.f0 1 (wrap64 (a0_5 - 1)) = b2 at WN2 A4
      generalize inR y.f2 0 (y.f1.size : Int) = b3 at WN3 A4
      have hz5 : IntKind.i64.wrap (a0_5 - 1) = wrap64 (a0_5 - 1) := i64_w _
      have AB := Aside0.mk A4
      have H2 := Aside0.mk WN2
      have H3 := Aside0.mk WN3
      clear A4 AA WN2 WN3
      cases kk with
      | zero =>
        have AC := Aside0.mk (show (true && (b2 && b3) && nodesFine a0_5 (prevN l0_0 (0 + 1)) (l0_0.drop (0 + 1))) = nodesFine a0_5 none l0_0 from AB.out)
        clear AB
        cases b2 with
        | false =>
          go_quiet ((go_at_call 68; with_reducible exact Calls.quiet_of (H2.out _)))
          go_wp2
          go_ret
          exact ⟨by rw [← AC.out]; rfl, pw_below_drewN BW2.out _⟩
        | true =>
          cases b3 with
          | false =>
            go_quiet (first | (go_at_call 68; with_reducible exact Calls.quiet_of (H2.out _)) | (go_at_call 68; with_reducible exact Calls.quiet_of (H3.out _)))
            go_wp2
            go_ret
            exact ⟨by rw [← AC.out]; rfl, pw_below_drewN BW2.out _⟩
          | true =>
            go_quiet (first | (go_at_call 68; with_reducible exact Calls.quiet_of (H2.out _)) | (go_at_call 68; with_reducible exact Calls.quiet_of (H3.out _)))
            go_wp2
            go_roundg (l0_0.length - (0 + 1))
            case measure => omega
            case rel => exact ⟨0 + 1, by omega, by omega, by go_num, ⟨pw_below_drewN BW2.out _⟩, ⟨BKd.out⟩, ⟨AC.out⟩⟩
      | succ j =>
        have hw1 : IntKind.i64.wrap ((j : Int) + 1 - 1) = (j : Int) := by rw [show (j : Int) + 1 - 1 = (j : Int) by omega, IntKind.wrap_i64]; omega
        have hj0 : (0 : Int) ≤ (j : Int) := by omega
        have hjl : (j : Int) < (l0_0.length : Int) := by omega
        obtain ⟨ad2, e2, hv0, hv1, hv2⟩ := at_T57 (Kd.C_below HR.out BW2.out) (j : Int) hj0 hjl
        cases e2
        rw [Int.toNat_natCast] at hv0 hv1 hv2
        clear hv1 hv2
        have AC := Aside0.mk (show (!decide (y.f0 ≤ (rd_T57 l0_0 (j : Int)).f0) && (b2 && b3) && nodesFine a0_5 (prevN l0_0 (j + 1 + 1)) (l0_0.drop (j + 1 + 1))) = nodesFine a0_5 none l0_0 from AB.out)
        clear AB
        generalize (rd_T57 l0_0 (j : Int)).f0 = p0 at hv0 AC
        by_cases hle : y.f0 ≤ p0
        · rw [decide_eq_true hle] at AC
          have hle' : decide (y.f0 ≤ p0) = true := decide_eq_true hle
          clear hle
          go_quiet (first | (go_at_call 68; with_reducible exact Calls.quiet_of (H2.out _)) | (go_at_call 68; with_reducible exact Calls.quiet_of (H3.out _)))
          go_wp2
          go_ret
          exact ⟨by rw [← AC.out]; rfl, pw_below_drewN BW2.out _⟩
        · rw [decide_eq_false hle] at AC
          have hle' : decide (y.f0 ≤ p0) = false := decide_eq_false hle
          clear hle
          cases b2 with
          | false =>
            go_quiet ((go_at_call 68; with_reducible exact Calls.quiet_of (H2.out _)))
            go_wp2
            go_ret
            exact ⟨by rw [← AC.out]; rfl, pw_below_drewN BW2.out _⟩
          | true =>
            cases b3 with
            | false =>
              go_quiet (first | (go_at_call 68; with_reducible exact Calls.quiet_of (H2.out _)) | (go_at_call 68; with_reducible exact Calls.quiet_of (H3.out _)))
              go_wp2
              go_ret
              exact ⟨by rw [← AC.out]; rfl, pw_below_drewN BW2.out _⟩
            | true =>
              go_quiet (first | (go_at_call 68; with_reducible exact Calls.quiet_of (H2.out _)) | (go_at_call 68; with_reducible exact Calls.quiet_of (H3.out _)))
              go_wp2
              go_roundg (l0_0.length - (j + 1 + 1))
              case measure => omega
              case rel => exact ⟨j + 1 + 1, by omega, by omega, by go_num, ⟨pw_below_drewN BW2.out _⟩, ⟨BKd.out⟩, ⟨AC.out⟩⟩
    · have hltz : ¬ (kk : Int) < (l0_0.length : Int) := by omega
      have A2 := A.out
      rw [List.drop_of_length_le (by omega), nodesFine] at A2
      have e0 : wr.cell? ⟨g5, 0, none⟩ = some (.slice A0_0 l0_0.length c0_0) := (blk_cell BK2.out 0).trans rfl
      have A3 := Aside0.mk A2
      clear A A2
      go_wp2
      go_ret
      exact ⟨by rw [← A3.out, Bool.true_and]; rfl, BW.out⟩

end Go.Proofs.YtbcidclclckgfaaGreatDoor.MFnExactFallen
