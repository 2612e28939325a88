/- Each theorem here says that a call of one Go function answers what the Lean function beside it answers; its conditions stand in it. Written by a program of this session. -/
import Derived.Test.YtbcidclclckgfaaGreatDoorMFnExactCouldFallx0
import Derived.Test.YtbcidclclckgfaaGreatDoorMFnExactCouldFallx9
namespace Go.Proofs.YtbcidclclckgfaaGreatDoor.MFnExactCouldFall
open Go.RowKit Go.Proofs.YtbcidclclckgfaaGreatDoorW.PrintWords Go.Proofs.YtbcidclclckgfaaGreatDoorW.PrintLast Go.Proofs.YtbcidclclckgfaaGreatDoorW.PrintMore
attribute [local go_sem] max2_int min2_int max_two min_two max_three min_three max_four min_four   -- for this text's walks alone
set_option linter.unusedVariables false
set_option linter.unusedSimpArgs false

/-! ### spec_l06Clean: function 97 -/
mutual
def spec_l06Clean.l0 : Nat → List (S57) → Int → List (S57) → List (S59) → List (S59) → List ByteArray → Int → Int → Option ((List (S57)) × (List (S59)) × (List (S59)) × List ByteArray × Int × Int)
 | 0, _, _, _, _, _, _, _, _ => none
 | k + 1, x3, x4, x270000, x270001, x270002, x270003, x270004, x270005 => if x4 < (x270000.length : Int) then (spec_l06Clean.l1 k x3 x4 false 0 x270000 x270001 x270002 x270003 x270004 x270005) else (some (x3, x270001, x270002, x270003, x270004, x270005))
def spec_l06Clean.l1 : Nat → List (S57) → Int → Bool → Int → List (S57) → List (S59) → List (S59) → List ByteArray → Int → Int → Option ((List (S57)) × (List (S59)) × (List (S59)) × List ByteArray × Int × Int)
 | 0, _, _, _, _, _, _, _, _, _, _ => none
 | k + 1, x3, x4, x5, x6, x270000, x270001, x270002, x270003, x270004, x270005 => if x6 ≤ (x270003.length : Int) then (spec_l06Clean.j2 k x3 x4 x5 x6 (!x5) x270000 x270001 x270002 x270003 x270004 x270005) else (spec_l06Clean.j2 k x3 x4 x5 x6 false x270000 x270001 x270002 x270003 x270004 x270005)
def spec_l06Clean.j2 : Nat → List (S57) → Int → Bool → Int → Bool → List (S57) → List (S59) → List (S59) → List ByteArray → Int → Int → Option ((List (S57)) × (List (S59)) × (List (S59)) × List ByteArray × Int × Int)
 | 0, _, _, _, _, _, _, _, _, _, _, _ => none
 | k + 1, x3, x4, x5, x6, x26, x270000, x270001, x270002, x270003, x270004, x270005 => if x26 = true then ((spec_StepsDone.f k x270002 x270003 x6).bind fun bt278 => (spec_l06Clean.l2 k x3 x4 x5 x6 bt278.1 0 x270000 x270001 x270002 x270003 x270004 x270005)) else (if x5 = true then (if 0 ≤ x4 then (if x4 < (x270000.length : Int) then (if x3.length < 4398046511104 then (spec_l06Clean.l0 k (x3 ++ [(⟨(rd_T57 x270000 x4).f0, (rd_T57 x270000 x4).f1, (rd_T57 x270000 x4).f2⟩ : S57)]) (wrap64 (x4 + 1)) x270000 x270001 x270002 x270003 x270004 x270005) else (none)) else (none)) else (none)) else (spec_l06Clean.l0 k x3 (wrap64 (x4 + 1)) x270000 x270001 x270002 x270003 x270004 x270005))
def spec_l06Clean.l2 : Nat → List (S57) → Int → Bool → Int → List (S59) → Int → List (S57) → List (S59) → List (S59) → List ByteArray → Int → Int → Option ((List (S57)) × (List (S59)) × (List (S59)) × List ByteArray × Int × Int)
 | 0, _, _, _, _, _, _, _, _, _, _, _, _ => none
 | k + 1, x3, x4, x5, x6, x7, x9, x270000, x270001, x270002, x270003, x270004, x270005 => if x9 < (x7.length : Int) then (if x5 = true then (spec_l06Clean.l2 k x3 x4 true x6 x7 (wrap64 (x9 + 1)) x270000 x270001 x270002 x270003 x270004 x270005) else (if 0 ≤ x9 then (if 0 ≤ x4 then (if x4 < (x270000.length : Int) then (spec_l06Clean.l2 k x3 x4 (((rd_T59 x7 x9).f1) == ((rd_T57 x270000 x4).f0)) x6 x7 (wrap64 (x9 + 1)) x270000 x270001 x270002 x270003 x270004 x270005) else (none)) else (none)) else (none))) else (spec_l06Clean.l1 k x3 x4 x5 (wrap64 (x6 + 1)) x270000 x270001 x270002 x270003 x270004 x270005)
end
def spec_l06Clean.f (k : Nat) (l0_0 : List (S57)) (l0_1 : List (S59)) (l0_2 : List (S59)) (l0_3 : List ByteArray) (a0_4 : Int) (a0_5 : Int) : Option ((List (S57)) × (List (S59)) × (List (S59)) × List ByteArray × Int × Int) := spec_l06Clean.l0 k (([] : List (S57))) 0 l0_0 l0_1 l0_2 l0_3 a0_4 a0_5
theorem spec_l06Clean.mono_l : ∀ k, (∀ y0 y1 y2 y3 y4 y5 y6 y7, LeO (spec_l06Clean.l0 k y0 y1 y2 y3 y4 y5 y6 y7) (spec_l06Clean.l0 (k + 1) y0 y1 y2 y3 y4 y5 y6 y7)) ∧ (∀ y0 y1 y2 y3 y4 y5 y6 y7 y8 y9, LeO (spec_l06Clean.l1 k y0 y1 y2 y3 y4 y5 y6 y7 y8 y9) (spec_l06Clean.l1 (k + 1) y0 y1 y2 y3 y4 y5 y6 y7 y8 y9)) ∧ (∀ y0 y1 y2 y3 y4 y5 y6 y7 y8 y9 y10, LeO (spec_l06Clean.j2 k y0 y1 y2 y3 y4 y5 y6 y7 y8 y9 y10) (spec_l06Clean.j2 (k + 1) y0 y1 y2 y3 y4 y5 y6 y7 y8 y9 y10)) ∧ (∀ y0 y1 y2 y3 y4 y5 y6 y7 y8 y9 y10 y11, LeO (spec_l06Clean.l2 k y0 y1 y2 y3 y4 y5 y6 y7 y8 y9 y10 y11) (spec_l06Clean.l2 (k + 1) y0 y1 y2 y3 y4 y5 y6 y7 y8 y9 y10 y11))
 | 0 => ⟨fun _ _ _ _ _ _ _ _ r h => by simp [spec_l06Clean.l0] at h, fun _ _ _ _ _ _ _ _ _ _ r h => by simp [spec_l06Clean.l1] at h, fun _ _ _ _ _ _ _ _ _ _ _ r h => by simp [spec_l06Clean.j2] at h, fun _ _ _ _ _ _ _ _ _ _ _ _ r h => by simp [spec_l06Clean.l2] at h⟩
 | k + 1 => by
  obtain ⟨ih0, ih1, ih2, ih3⟩ := spec_l06Clean.mono_l k
  refine ⟨?_, ?_, ?_, ?_⟩
  ·intro y0 y1 y2 y3 y4 y5 y6 y7
   unfold spec_l06Clean.l0
   repeat' first | (with_reducible exact ih1 _ _ _ _ _ _ _ _ _ _) | (with_reducible exact LeO.refl _) | (with_reducible refine LeO.ite ?_ ?_)
  ·intro y0 y1 y2 y3 y4 y5 y6 y7 y8 y9
   unfold spec_l06Clean.l1
   repeat' first | (with_reducible exact ih2 _ _ _ _ _ _ _ _ _ _ _) | (with_reducible refine LeO.ite ?_ ?_)
  ·intro y0 y1 y2 y3 y4 y5 y6 y7 y8 y9 y10
   unfold spec_l06Clean.j2
   repeat' first | (with_reducible exact ih0 _ _ _ _ _ _ _ _) | (with_reducible exact ih3 _ _ _ _ _ _ _ _ _ _ _ _) | (with_reducible exact spec_StepsDone.mono _ _ _ _) | (with_reducible exact LeO.refl _) | (with_reducible refine LeO.ite ?_ ?_) | (with_reducible refine LeO.bind ?_ (fun _ => ?_))
  ·intro y0 y1 y2 y3 y4 y5 y6 y7 y8 y9 y10 y11
   unfold spec_l06Clean.l2
   repeat' first | (with_reducible exact ih1 _ _ _ _ _ _ _ _ _ _) | (with_reducible exact ih3 _ _ _ _ _ _ _ _ _ _ _ _) | (with_reducible exact LeO.refl _) | (with_reducible refine LeO.ite ?_ ?_)
theorem spec_l06Clean.mono : ∀ a0 a1 a2 a3 a4 a5 k, LeO (spec_l06Clean.f k a0 a1 a2 a3 a4 a5) (spec_l06Clean.f (k + 1) a0 a1 a2 a3 a4 a5) := by
 intro a0 a1 a2 a3 a4 a5 k
 obtain ⟨ih0, ih1, ih2, ih3⟩ := spec_l06Clean.mono_l k
 unfold spec_l06Clean.f
 repeat' (with_reducible exact ih0 _ _ _ _ _ _ _ _)
set_option maxHeartbeats 8000000 in
set_option maxRecDepth 100000 in
theorem spec_l06Clean.calls (k : Nat) (A0_0 : Option Addr) (c0_0 : Nat) (l0_0 : List (S57)) (P0_1_ : Nat → Prop) (u9000_ : Value) (l0_1 : List (S59)) (P0_2_ : Nat → Prop) (u9001_ : Value) (l0_2 : List (S59)) (P0_3_ : Nat → Prop) (u9002_ : Value) (l0_3 : List ByteArray) (a0_4 : Int) (a0_5 : Int) (r1 : List (S57)) (r2 : List (S59)) (r3 : List (S59)) (r4 : List ByteArray) (r5 : Int) (r6 : Int) (w0 w : World) (hB : Below w0.heap.size w0 w) (hr0_0 : ∀ W_, Kept w W_ (fun k_ => P0_1_ k_ ∨ P0_2_ k_ ∨ P0_3_ k_) → Kd.C k57 W_ A0_0 l0_0.length l0_0) (hc0_0 : l0_0.length ≤ c0_0) (ho0_1 : Kd.R k59 59 w w0.heap.size P0_1_ u9000_ l0_1) (hp0_1_0_2 : ∀ k_, P0_1_ k_ → ¬ P0_2_ k_) (ho0_2 : Kd.R k59 59 w w0.heap.size P0_2_ u9001_ l0_2) (hp0_2_0_1 : ∀ k_, P0_2_ k_ → ¬ P0_1_ k_) (ho0_3 : Kd.R Kd.string 9 w w0.heap.size P0_3_ u9002_ l0_3) (h : spec_l06Clean.f k l0_0 l0_1 l0_2 l0_3 a0_4 a0_5 = some (r1, r2, r3, r4, r5, r6)) :
  Calls Tryz.prog 97 #[.agg #[.slice A0_0 l0_0.length c0_0, u9000_, u9001_, u9002_, .int .i64 a0_4, .int .i64 a0_5]] w fun e w' => ∃ v0_ v1_ v2_ v3_ : Value, e = .returned (.agg #[v0_, v1_, v2_, v3_, .int .i64 r5, .int .i64 r6]) ∧ Kd.R k57 57 w' w0.heap.size (fun k_ => ((P0_1_ k_ ∨ P0_2_ k_ ∨ P0_3_ k_) ∨ w.heap.size ≤ k_)) v0_ r1 ∧ Kd.R k59 59 w' w0.heap.size (fun k_ => ((P0_1_ k_ ∨ P0_2_ k_ ∨ P0_3_ k_) ∨ w.heap.size ≤ k_) ∧ some k_ ≠ (v2_ : Value).ownBlock) v1_ r2 ∧ Kd.R k59 59 w' w0.heap.size (fun k_ => ((P0_1_ k_ ∨ P0_2_ k_ ∨ P0_3_ k_) ∨ w.heap.size ≤ k_) ∧ some k_ ≠ (v1_ : Value).ownBlock) v2_ r3 ∧ Kd.R Kd.string 9 w' w0.heap.size (fun k_ => ((P0_1_ k_ ∨ P0_2_ k_ ∨ P0_3_ k_) ∨ w.heap.size ≤ k_)) v3_ r4 ∧ Below w0.heap.size w0 w' ∧ Kept w w' (fun k_ => P0_1_ k_ ∨ P0_2_ k_ ∨ P0_3_ k_) := by
 have HR0_0 := Aside0.mk hr0_0
 clear hr0_0 hc0_0
 have HO0_1 := Aside0.mk (show Kd.R k59 59 w w0.heap.size (fun k_ => ((P0_1_ k_ ∨ P0_2_ k_ ∨ P0_3_ k_) ∨ w.heap.size ≤ k_) ∧ some k_ ≠ (u9001_ : Value).ownBlock) u9000_ l0_1 from Kd.R_mono ho0_1 (fun k_ hk => ⟨(.inl (.inl hk)), fun e_ => hp0_1_0_2 k_ hk (ho0_2.1 k_ e_.symm)⟩))
 have HO0_2 := Aside0.mk (show Kd.R k59 59 w w0.heap.size (fun k_ => ((P0_1_ k_ ∨ P0_2_ k_ ∨ P0_3_ k_) ∨ w.heap.size ≤ k_) ∧ some k_ ≠ (u9000_ : Value).ownBlock) u9001_ l0_2 from Kd.R_mono ho0_2 (fun k_ hk => ⟨(.inl (.inr (.inl hk))), fun e_ => hp0_2_0_1 k_ hk (ho0_1.1 k_ e_.symm)⟩))
 have HO0_3 := Aside0.mk (show Kd.R Kd.string 9 w w0.heap.size (fun k_ => ((P0_1_ k_ ∨ P0_2_ k_ ∨ P0_3_ k_) ∨ w.heap.size ≤ k_)) u9002_ l0_3 from Kd.R_mono ho0_3 (fun k_ hk => (.inl (.inr (.inr hk)))))
 have HK := Aside0.mk (Kept.refl w (fun k_ => P0_1_ k_ ∨ P0_2_ k_ ∨ P0_3_ k_))
 have HB := Aside0.mk hB
 clear hB
 have H : (spec_l06Clean.l0 k (([] : List (S57))) 0 l0_0 l0_1 l0_2 l0_3 a0_4 a0_5) = some (r1, r2, r3, r4, r5, r6) := h
 clear h
 obtain ⟨y271, hy271⟩ : ∃ y_ : List (S57), y_ = (([] : List (S57))) := ⟨_, rfl⟩
 replace H : (spec_l06Clean.l0 k y271 0 l0_0 l0_1 l0_2 l0_3 a0_4 a0_5) = some (r1, r2, r3, r4, r5, r6) := by (rw [hy271]; with_reducible exact H)
 have Ny271 := Aside0.mk hy271
 clear hy271
 have H' := Aside0.mk H
 clear H
 obtain ⟨Ao2, co2, eo2⟩ := Kd.R_slice HO0_1.out
 subst eo2
 obtain ⟨Ao3, co3, eo3⟩ := Kd.R_slice HO0_2.out
 subst eo3
 obtain ⟨Ao4, co4, eo4⟩ := Kd.R_slice HO0_3.out
 subst eo4
 go_enter Tryz.func97, Tryz.ntmps97
 go_wp2_with (first | ((with_reducible refine gate_dst (N := 1) rfl ?_); refine box_event ?hg (N := 1) ?hd (cs := #[.slice A0_0 l0_0.length c0_0, .slice Ao2 l0_1.length co2, .slice Ao3 l0_2.length co3, .slice Ao4 l0_3.length co4, .int .i64 a0_4, .int .i64 a0_5]) (t := 32) ?hr ?_; (case hd => rfl); (case hg => rfl); (case hr => (go_simp; done)); intro gb269 hg w5 hbox hb; have BK269 := Aside0.mk (hbox); have GW269 := Aside0.mk (by rw [hg]; exact HK.out.1 : w.heap.size ≤ gb269); have GE269 := Aside0.mk ((by rw [hg]; exact (below_size HB.out) : w0.heap.size ≤ gb269)); replace HO0_1 := Aside0.mk (Kd.R_below HO0_1.out hb); replace HO0_2 := Aside0.mk (Kd.R_below HO0_2.out hb); replace HO0_3 := Aside0.mk (Kd.R_below HO0_3.out hb); replace HK := Aside0.mk (Kept.below (S := (fun k_ => P0_1_ k_ ∨ P0_2_ k_ ∨ P0_3_ k_)) HK.out hb); replace HB := Aside0.mk (below_step HB.out hb); clear hb hbox hg) | ((with_reducible refine gate_dst (N := 2) rfl ?_); refine box_event ?hg (N := 2) ?hd (cs := #[.slice none 0 0, .slice none 0 0, .slice none 0 0, .slice none 0 0, .int .i64 0, .int .i64 0]) (t := 32) ?hr ?_; (case hd => rfl); (case hg => rfl); (case hr => (go_simp; done)); intro gb270 hg w6 hbox hb; have BK270 := Aside0.mk (hbox); have GW270 := Aside0.mk (by rw [hg]; exact HK.out.1 : w.heap.size ≤ gb270); have GE270 := Aside0.mk ((by rw [hg]; exact (below_size HB.out) : w0.heap.size ≤ gb270)); have NB270_269 := Aside0.mk ((by rw [hg]; exact Nat.ne_of_gt (blk_lt BK269.out) : gb270 ≠ gb269)); replace HO0_1 := Aside0.mk (Kd.R_below HO0_1.out hb); replace HO0_2 := Aside0.mk (Kd.R_below HO0_2.out hb); replace HO0_3 := Aside0.mk (Kd.R_below HO0_3.out hb); replace BK269 := Aside0.mk (bB hb BK269.out); replace HK := Aside0.mk (Kept.below (S := (fun k_ => P0_1_ k_ ∨ P0_2_ k_ ∨ P0_3_ k_)) HK.out hb); replace HB := Aside0.mk (below_step HB.out hb); clear hb hbox hg) | ((with_reducible refine gate_dst (N := 10) rfl ?_); refine Kd.R_lit k57 _ 57 ?hg (N := 10) ?hd (xs := ([] : List (S57))) (inner := []) (ok := fun _ => True) (okp := fun _ => True) ?hr ?hp (fun _ hk => hk) trivial (Below.refl _ _) (Nat.le_refl _) (by simp) ?_; (case hd => rfl); (case hg => rfl); (case hr => (go_simp; done)); (case hp => exact (Reps.none _ _)); intro v272 w7 ho8 hb hg_ hnew_; clear hg_ hnew_; (rw [← Ny271.out] at ho8); have HO273 := Aside0.mk (Kd.R_lower (Kd.R_newM (M := fun k_ => ((P0_1_ k_ ∨ P0_2_ k_ ∨ P0_3_ k_) ∨ w.heap.size ≤ k_)) ho8 HK.out.1 (fun k_ h_ => .inr h_)) (below_size HB.out)); replace HO0_1 := Aside0.mk (Kd.R_below HO0_1.out hb); replace HO0_2 := Aside0.mk (Kd.R_below HO0_2.out hb); replace HO0_3 := Aside0.mk (Kd.R_below HO0_3.out hb); replace BK269 := Aside0.mk (bB hb BK269.out); replace BK270 := Aside0.mk (bB hb BK270.out); replace HK := Aside0.mk (Kept.below (S := (fun k_ => P0_1_ k_ ∨ P0_2_ k_ ∨ P0_3_ k_)) HK.out hb); replace HB := Aside0.mk (below_step HB.out hb); clear hb ho8))
 repeat (go_quiet (first | ((with_reducible refine gate_dst (N := 1) rfl ?_); refine box_event ?hg (N := 1) ?hd (cs := #[.slice A0_0 l0_0.length c0_0, .slice Ao2 l0_1.length co2, .slice Ao3 l0_2.length co3, .slice Ao4 l0_3.length co4, .int .i64 a0_4, .int .i64 a0_5]) (t := 32) ?hr ?_; (case hd => rfl); (case hg => rfl); (case hr => first | (go_simp; done) | (go_simp; rfl)); intro gb269 hg w5 hbox hb; have BK269 := Aside0.mk (hbox); have GW269 := Aside0.mk ((by rw [hg]; exact (by first | exact HK.out.1 | exact (show Kept w _ (fun k_ => P0_1_ k_ ∨ P0_2_ k_ ∨ P0_3_ k_) from by repeat (first | (with_reducible first | exact HK.out | apply Kept.alloc | apply Kept.drewN | apply Kept.drew) | exact HK.out)).1) : w.heap.size ≤ gb269)); have GE269 := Aside0.mk ((by rw [hg]; exact (below_size (by repeat (first | (with_reducible first | exact HB.out | apply below_alloc | apply pw_below_drewN | apply below_drew1) | exact HB.out))) : w0.heap.size ≤ gb269)); replace HO0_1 := Aside0.mk (Kd.R_below (by (with_reducible repeat (first | apply Kd.R_alloc | apply Kd.R_drewN | apply Kd.R_drew)); exact HO0_1.out) hb); replace HO0_2 := Aside0.mk (Kd.R_below (by (with_reducible repeat (first | apply Kd.R_alloc | apply Kd.R_drewN | apply Kd.R_drew)); exact HO0_2.out) hb); replace HO0_3 := Aside0.mk (Kd.R_below (by (with_reducible repeat (first | apply Kd.R_alloc | apply Kd.R_drewN | apply Kd.R_drew)); exact HO0_3.out) hb); replace HK := Aside0.mk (Kept.below (S := (fun k_ => P0_1_ k_ ∨ P0_2_ k_ ∨ P0_3_ k_)) (by repeat (first | (with_reducible first | exact HK.out | apply Kept.alloc | apply Kept.drewN | apply Kept.drew) | exact HK.out)) hb); replace HB := Aside0.mk (below_step (by repeat (first | (with_reducible first | exact HB.out | apply below_alloc | apply pw_below_drewN | apply below_drew1) | exact HB.out)) hb); clear hb hbox hg) | ((with_reducible refine gate_dst (N := 2) rfl ?_); refine box_event ?hg (N := 2) ?hd (cs := #[.slice none 0 0, .slice none 0 0, .slice none 0 0, .slice none 0 0, .int .i64 0, .int .i64 0]) (t := 32) ?hr ?_; (case hd => rfl); (case hg => rfl); (case hr => first | (go_simp; done) | (go_simp; rfl)); intro gb270 hg w6 hbox hb; have BK270 := Aside0.mk (hbox); have GW270 := Aside0.mk ((by rw [hg]; exact (by first | exact HK.out.1 | exact (show Kept w _ (fun k_ => P0_1_ k_ ∨ P0_2_ k_ ∨ P0_3_ k_) from by repeat (first | (with_reducible first | exact HK.out | apply Kept.alloc | apply Kept.drewN | apply Kept.drew | refine Kept.setCell ?_ (.inr GW269.out) _) | exact HK.out)).1) : w.heap.size ≤ gb270)); have GE270 := Aside0.mk ((by rw [hg]; exact (below_size (by repeat (first | (with_reducible first | exact HB.out | apply below_alloc | apply pw_below_drewN | apply below_drew1 | refine below_set ?_ GE269.out) | exact HB.out))) : w0.heap.size ≤ gb270)); have NB270_269 := Aside0.mk ((by rw [hg]; exact Nat.ne_of_gt (blk_lt (by (with_reducible repeat (first | refine blk_drewN ?_ _ | refine blk_drew ?_ | refine blk_alloc ?_ _)); exact BK269.out)) : gb270 ≠ gb269)); replace HO0_1 := Aside0.mk (Kd.R_below (by (with_reducible repeat (first | apply Kd.R_alloc | apply Kd.R_drewN | apply Kd.R_drew)); exact HO0_1.out) hb); replace HO0_2 := Aside0.mk (Kd.R_below (by (with_reducible repeat (first | apply Kd.R_alloc | apply Kd.R_drewN | apply Kd.R_drew)); exact HO0_2.out) hb); replace HO0_3 := Aside0.mk (Kd.R_below (by (with_reducible repeat (first | apply Kd.R_alloc | apply Kd.R_drewN | apply Kd.R_drew)); exact HO0_3.out) hb); replace BK269 := Aside0.mk (blk_below (g := gb269) (o := .cells #[.slice A0_0 l0_0.length c0_0, .slice Ao2 l0_1.length co2, .slice Ao3 l0_2.length co3, .slice Ao4 l0_3.length co4, .int .i64 a0_4, .int .i64 a0_5] 32 (0, 0)) (by (with_reducible repeat (first | refine blk_drewN ?_ _ | refine blk_drew ?_ | refine blk_alloc ?_ _)); exact BK269.out) hb); replace HK := Aside0.mk (Kept.below (S := (fun k_ => P0_1_ k_ ∨ P0_2_ k_ ∨ P0_3_ k_)) (by repeat (first | (with_reducible first | exact HK.out | apply Kept.alloc | apply Kept.drewN | apply Kept.drew | refine Kept.setCell ?_ (.inr GW269.out) _) | exact HK.out)) hb); replace HB := Aside0.mk (below_step (by repeat (first | (with_reducible first | exact HB.out | apply below_alloc | apply pw_below_drewN | apply below_drew1 | refine below_set ?_ GE269.out) | exact HB.out)) hb); clear hb hbox hg) | ((with_reducible refine gate_dst (N := 10) rfl ?_); refine Kd.R_lit k57 _ 57 ?hg (N := 10) ?hd (xs := ([] : List (S57))) (inner := []) (ok := fun _ => True) (okp := fun _ => True) ?hr ?hp (fun _ hk => hk) trivial (Below.refl _ _) (Nat.le_refl _) (by simp) ?_; (case hd => rfl); (case hg => rfl); (case hr => first | (go_simp; done) | (go_simp; rfl) | (simp only [ByteArray.size_append, Int.natCast_add]; go_simp; done) | (simp only [ByteArray.size_append, Int.natCast_add]; go_simp; unfold wrap64; (repeat (first | with_reducible rfl | omega | with_reducible congr 1)); done)); (case hp => exact (Reps.none _ _)); intro v272 w7 ho8 hb hg_ hnew_; clear hg_ hnew_; (first | rw [← Ny271.out] at ho8 | (simp only [Int.reduceToNat] at ho8; rw [← Ny271.out] at ho8)); have HO273 := Aside0.mk (Kd.R_lower (Kd.R_newM (M := fun k_ => ((P0_1_ k_ ∨ P0_2_ k_ ∨ P0_3_ k_) ∨ w.heap.size ≤ k_)) ho8 (by first | exact HK.out.1 | exact (show Kept w _ (fun k_ => P0_1_ k_ ∨ P0_2_ k_ ∨ P0_3_ k_) from by repeat (first | (with_reducible first | exact HK.out | apply Kept.alloc | apply Kept.drewN | apply Kept.drew | refine Kept.setCell ?_ (.inr GW269.out) _ | refine Kept.setCell ?_ (.inr GW270.out) _) | exact HK.out)).1) (fun k_ h_ => .inr h_)) (below_size (by repeat (first | (with_reducible first | exact HB.out | apply below_alloc | apply pw_below_drewN | apply below_drew1 | refine below_set ?_ GE269.out | refine below_set ?_ GE270.out) | exact HB.out)))); replace HO0_1 := Aside0.mk (Kd.R_below (by (with_reducible repeat (first | apply Kd.R_alloc | apply Kd.R_drewN | apply Kd.R_drew)); exact HO0_1.out) hb); replace HO0_2 := Aside0.mk (Kd.R_below (by (with_reducible repeat (first | apply Kd.R_alloc | apply Kd.R_drewN | apply Kd.R_drew)); exact HO0_2.out) hb); replace HO0_3 := Aside0.mk (Kd.R_below (by (with_reducible repeat (first | apply Kd.R_alloc | apply Kd.R_drewN | apply Kd.R_drew)); exact HO0_3.out) hb); replace BK269 := Aside0.mk (blk_below (g := gb269) (o := .cells #[.slice A0_0 l0_0.length c0_0, .slice Ao2 l0_1.length co2, .slice Ao3 l0_2.length co3, .slice Ao4 l0_3.length co4, .int .i64 a0_4, .int .i64 a0_5] 32 (0, 0)) (by (with_reducible repeat (first | refine blk_drewN ?_ _ | refine blk_drew ?_ | refine blk_alloc ?_ _)); exact BK269.out) hb); replace BK270 := Aside0.mk (blk_below (g := gb270) (o := .cells #[.slice none 0 0, .slice none 0 0, .slice none 0 0, .slice none 0 0, .int .i64 0, .int .i64 0] 32 (0, 0)) (by (with_reducible repeat (first | refine blk_drewN ?_ _ | refine blk_drew ?_ | refine blk_alloc ?_ _)); exact BK270.out) hb); replace HK := Aside0.mk (Kept.below (S := (fun k_ => P0_1_ k_ ∨ P0_2_ k_ ∨ P0_3_ k_)) (by repeat (first | (with_reducible first | exact HK.out | apply Kept.alloc | apply Kept.drewN | apply Kept.drew | refine Kept.setCell ?_ (.inr GW269.out) _ | refine Kept.setCell ?_ (.inr GW270.out) _) | exact HK.out)) hb); replace HB := Aside0.mk (below_step (by repeat (first | (with_reducible first | exact HB.out | apply below_alloc | apply pw_below_drewN | apply below_drew1 | refine below_set ?_ GE269.out | refine below_set ?_ GE270.out) | exact HB.out)) hb); clear hb ho8)); try go_wp2_with (first | ((with_reducible refine gate_dst (N := 1) rfl ?_); refine box_event ?hg (N := 1) ?hd (cs := #[.slice A0_0 l0_0.length c0_0, .slice Ao2 l0_1.length co2, .slice Ao3 l0_2.length co3, .slice Ao4 l0_3.length co4, .int .i64 a0_4, .int .i64 a0_5]) (t := 32) ?hr ?_; (case hd => rfl); (case hg => rfl); (case hr => first | (go_simp; done) | (go_simp; rfl)); intro gb269 hg w5 hbox hb; have BK269 := Aside0.mk (hbox); have GW269 := Aside0.mk ((by rw [hg]; exact (by first | exact HK.out.1 | exact (show Kept w _ (fun k_ => P0_1_ k_ ∨ P0_2_ k_ ∨ P0_3_ k_) from by repeat (first | (with_reducible first | exact HK.out | apply Kept.alloc | apply Kept.drewN | apply Kept.drew) | exact HK.out)).1) : w.heap.size ≤ gb269)); have GE269 := Aside0.mk ((by rw [hg]; exact (below_size (by repeat (first | (with_reducible first | exact HB.out | apply below_alloc | apply pw_below_drewN | apply below_drew1) | exact HB.out))) : w0.heap.size ≤ gb269)); replace HO0_1 := Aside0.mk (Kd.R_below (by (with_reducible repeat (first | apply Kd.R_alloc | apply Kd.R_drewN | apply Kd.R_drew)); exact HO0_1.out) hb); replace HO0_2 := Aside0.mk (Kd.R_below (by (with_reducible repeat (first | apply Kd.R_alloc | apply Kd.R_drewN | apply Kd.R_drew)); exact HO0_2.out) hb); replace HO0_3 := Aside0.mk (Kd.R_below (by (with_reducible repeat (first | apply Kd.R_alloc | apply Kd.R_drewN | apply Kd.R_drew)); exact HO0_3.out) hb); replace HK := Aside0.mk (Kept.below (S := (fun k_ => P0_1_ k_ ∨ P0_2_ k_ ∨ P0_3_ k_)) (by repeat (first | (with_reducible first | exact HK.out | apply Kept.alloc | apply Kept.drewN | apply Kept.drew) | exact HK.out)) hb); replace HB := Aside0.mk (below_step (by repeat (first | (with_reducible first | exact HB.out | apply below_alloc | apply pw_below_drewN | apply below_drew1) | exact HB.out)) hb); clear hb hbox hg) | ((with_reducible refine gate_dst (N := 2) rfl ?_); refine box_event ?hg (N := 2) ?hd (cs := #[.slice none 0 0, .slice none 0 0, .slice none 0 0, .slice none 0 0, .int .i64 0, .int .i64 0]) (t := 32) ?hr ?_; (case hd => rfl); (case hg => rfl); (case hr => first | (go_simp; done) | (go_simp; rfl)); intro gb270 hg w6 hbox hb; have BK270 := Aside0.mk (hbox); have GW270 := Aside0.mk ((by rw [hg]; exact (by first | exact HK.out.1 | exact (show Kept w _ (fun k_ => P0_1_ k_ ∨ P0_2_ k_ ∨ P0_3_ k_) from by repeat (first | (with_reducible first | exact HK.out | apply Kept.alloc | apply Kept.drewN | apply Kept.drew | refine Kept.setCell ?_ (.inr GW269.out) _) | exact HK.out)).1) : w.heap.size ≤ gb270)); have GE270 := Aside0.mk ((by rw [hg]; exact (below_size (by repeat (first | (with_reducible first | exact HB.out | apply below_alloc | apply pw_below_drewN | apply below_drew1 | refine below_set ?_ GE269.out) | exact HB.out))) : w0.heap.size ≤ gb270)); have NB270_269 := Aside0.mk ((by rw [hg]; exact Nat.ne_of_gt (blk_lt (by (with_reducible repeat (first | refine blk_drewN ?_ _ | refine blk_drew ?_ | refine blk_alloc ?_ _)); exact BK269.out)) : gb270 ≠ gb269)); replace HO0_1 := Aside0.mk (Kd.R_below (by (with_reducible repeat (first | apply Kd.R_alloc | apply Kd.R_drewN | apply Kd.R_drew)); exact HO0_1.out) hb); replace HO0_2 := Aside0.mk (Kd.R_below (by (with_reducible repeat (first | apply Kd.R_alloc | apply Kd.R_drewN | apply Kd.R_drew)); exact HO0_2.out) hb); replace HO0_3 := Aside0.mk (Kd.R_below (by (with_reducible repeat (first | apply Kd.R_alloc | apply Kd.R_drewN | apply Kd.R_drew)); exact HO0_3.out) hb); replace BK269 := Aside0.mk (blk_below (g := gb269) (o := .cells #[.slice A0_0 l0_0.length c0_0, .slice Ao2 l0_1.length co2, .slice Ao3 l0_2.length co3, .slice Ao4 l0_3.length co4, .int .i64 a0_4, .int .i64 a0_5] 32 (0, 0)) (by (with_reducible repeat (first | refine blk_drewN ?_ _ | refine blk_drew ?_ | refine blk_alloc ?_ _)); exact BK269.out) hb); replace HK := Aside0.mk (Kept.below (S := (fun k_ => P0_1_ k_ ∨ P0_2_ k_ ∨ P0_3_ k_)) (by repeat (first | (with_reducible first | exact HK.out | apply Kept.alloc | apply Kept.drewN | apply Kept.drew | refine Kept.setCell ?_ (.inr GW269.out) _) | exact HK.out)) hb); replace HB := Aside0.mk (below_step (by repeat (first | (with_reducible first | exact HB.out | apply below_alloc | apply pw_below_drewN | apply below_drew1 | refine below_set ?_ GE269.out) | exact HB.out)) hb); clear hb hbox hg) | ((with_reducible refine gate_dst (N := 10) rfl ?_); refine Kd.R_lit k57 _ 57 ?hg (N := 10) ?hd (xs := ([] : List (S57))) (inner := []) (ok := fun _ => True) (okp := fun _ => True) ?hr ?hp (fun _ hk => hk) trivial (Below.refl _ _) (Nat.le_refl _) (by simp) ?_; (case hd => rfl); (case hg => rfl); (case hr => first | (go_simp; done) | (go_simp; rfl) | (simp only [ByteArray.size_append, Int.natCast_add]; go_simp; done) | (simp only [ByteArray.size_append, Int.natCast_add]; go_simp; unfold wrap64; (repeat (first | with_reducible rfl | omega | with_reducible congr 1)); done)); (case hp => exact (Reps.none _ _)); intro v272 w7 ho8 hb hg_ hnew_; clear hg_ hnew_; (first | rw [← Ny271.out] at ho8 | (simp only [Int.reduceToNat] at ho8; rw [← Ny271.out] at ho8)); have HO273 := Aside0.mk (Kd.R_lower (Kd.R_newM (M := fun k_ => ((P0_1_ k_ ∨ P0_2_ k_ ∨ P0_3_ k_) ∨ w.heap.size ≤ k_)) ho8 (by first | exact HK.out.1 | exact (show Kept w _ (fun k_ => P0_1_ k_ ∨ P0_2_ k_ ∨ P0_3_ k_) from by repeat (first | (with_reducible first | exact HK.out | apply Kept.alloc | apply Kept.drewN | apply Kept.drew | refine Kept.setCell ?_ (.inr GW269.out) _ | refine Kept.setCell ?_ (.inr GW270.out) _) | exact HK.out)).1) (fun k_ h_ => .inr h_)) (below_size (by repeat (first | (with_reducible first | exact HB.out | apply below_alloc | apply pw_below_drewN | apply below_drew1 | refine below_set ?_ GE269.out | refine below_set ?_ GE270.out) | exact HB.out)))); replace HO0_1 := Aside0.mk (Kd.R_below (by (with_reducible repeat (first | apply Kd.R_alloc | apply Kd.R_drewN | apply Kd.R_drew)); exact HO0_1.out) hb); replace HO0_2 := Aside0.mk (Kd.R_below (by (with_reducible repeat (first | apply Kd.R_alloc | apply Kd.R_drewN | apply Kd.R_drew)); exact HO0_2.out) hb); replace HO0_3 := Aside0.mk (Kd.R_below (by (with_reducible repeat (first | apply Kd.R_alloc | apply Kd.R_drewN | apply Kd.R_drew)); exact HO0_3.out) hb); replace BK269 := Aside0.mk (blk_below (g := gb269) (o := .cells #[.slice A0_0 l0_0.length c0_0, .slice Ao2 l0_1.length co2, .slice Ao3 l0_2.length co3, .slice Ao4 l0_3.length co4, .int .i64 a0_4, .int .i64 a0_5] 32 (0, 0)) (by (with_reducible repeat (first | refine blk_drewN ?_ _ | refine blk_drew ?_ | refine blk_alloc ?_ _)); exact BK269.out) hb); replace BK270 := Aside0.mk (blk_below (g := gb270) (o := .cells #[.slice none 0 0, .slice none 0 0, .slice none 0 0, .slice none 0 0, .int .i64 0, .int .i64 0] 32 (0, 0)) (by (with_reducible repeat (first | refine blk_drewN ?_ _ | refine blk_drew ?_ | refine blk_alloc ?_ _)); exact BK270.out) hb); replace HK := Aside0.mk (Kept.below (S := (fun k_ => P0_1_ k_ ∨ P0_2_ k_ ∨ P0_3_ k_)) (by repeat (first | (with_reducible first | exact HK.out | apply Kept.alloc | apply Kept.drewN | apply Kept.drew | refine Kept.setCell ?_ (.inr GW269.out) _ | refine Kept.setCell ?_ (.inr GW270.out) _) | exact HK.out)) hb); replace HB := Aside0.mk (below_step (by repeat (first | (with_reducible first | exact HB.out | apply below_alloc | apply pw_below_drewN | apply below_drew1 | refine below_set ?_ GE269.out | refine below_set ?_ GE270.out) | exact HB.out)) hb); clear hb ho8)))
 go_loopg [3, 4] k (fun kq v3 v4 w' => ∃ (x3_1 : List (S57)) (x4_1 : Int), v4 = .int .i64 x4_1 ∧ Aside0 (spec_l06Clean.l0 kq x3_1 x4_1 l0_0 l0_1 l0_2 l0_3 a0_4 a0_5 = some (r1, r2, r3, r4, r5, r6)) ∧ Aside0 (kq ≤ k) ∧ Aside0 (Kd.R k57 57 w' w0.heap.size (fun k_ => ((P0_1_ k_ ∨ P0_2_ k_ ∨ P0_3_ k_) ∨ w.heap.size ≤ k_)) v3 x3_1) ∧ Aside0 (Kd.R k59 59 w' w0.heap.size (fun k_ => ((P0_1_ k_ ∨ P0_2_ k_ ∨ P0_3_ k_) ∨ w.heap.size ≤ k_) ∧ some k_ ≠ ((.slice Ao3 l0_2.length co3) : Value).ownBlock) (.slice Ao2 l0_1.length co2) l0_1) ∧ Aside0 (Kd.R k59 59 w' w0.heap.size (fun k_ => ((P0_1_ k_ ∨ P0_2_ k_ ∨ P0_3_ k_) ∨ w.heap.size ≤ k_) ∧ some k_ ≠ ((.slice Ao2 l0_1.length co2) : Value).ownBlock) (.slice Ao3 l0_2.length co3) l0_2) ∧ Aside0 (Kd.R Kd.string 9 w' w0.heap.size (fun k_ => ((P0_1_ k_ ∨ P0_2_ k_ ∨ P0_3_ k_) ∨ w.heap.size ≤ k_)) (.slice Ao4 l0_3.length co4) l0_3) ∧ Aside0 (w'.heap[gb269]? = some (.cells #[(.slice A0_0 l0_0.length c0_0), (.slice Ao2 l0_1.length co2), (.slice Ao3 l0_2.length co3), (.slice Ao4 l0_3.length co4), .int .i64 a0_4, .int .i64 a0_5] 32 (0, 0))) ∧ Aside0 (w'.heap[gb270]? = some (.cells #[(.slice none 0 0), (.slice none 0 0), (.slice none 0 0), (.slice none 0 0), .int .i64 0, .int .i64 0] 32 (0, 0))) ∧ Aside0 (Kept w w' (fun k_ => P0_1_ k_ ∨ P0_2_ k_ ∨ P0_3_ k_)) ∧ Aside0 (Below w0.heap.size w0 w'))
 case atStart => exact ⟨(y271), (0), (by rfl), H', ⟨Nat.le_refl _⟩, ⟨by exact Kd.R_mono HO273.out (fun _ hk => hk.1)⟩, ⟨by exact HO0_1.out⟩, ⟨by exact HO0_2.out⟩, ⟨by exact HO0_3.out⟩, ⟨by exact BK269.out⟩, ⟨by exact BK270.out⟩, ⟨by repeat (with_reducible exact HK.out)⟩, ⟨by repeat (with_reducible exact HB.out)⟩⟩
 case round =>
  clear H'
  try clear p2
  try clear p6
  obtain ⟨x3_1, x4_1, rfl, HA, HK1, HO_3, HO_270001, HO_270002, HO_270003, BK269, BK270, HK, HB⟩ := hrel
  cases gk with
  | zero => exact absurd HA.out (by simp [spec_l06Clean.l0])
  | succ k1 =>
   have H := HA.out
   clear HA
   simp only [spec_l06Clean.l0] at H
   by_cases c9 : x4_1 < (l0_0.length : Int)
   ·rw [if_pos c9] at H
    have c9b0 : decide (x4_1 < (l0_0.length : Int)) = true := decide_eq_true c9
    clear c9
    have H' := Aside0.mk H
    clear H
    have hcz11_0 : wr.cell? ⟨gb269, 0, none⟩ = some (.slice A0_0 l0_0.length c0_0) := (blk_cell BK269.out 0).trans rfl
    go_wp2
    repeat (go_quiet (fail); try go_wp2)
    go_loopg [5, 6] k1 (fun kq v5 v6 w' => ∃ (x5_2 : Bool) (x6_2 : Int), v5 = .bool x5_2 ∧ v6 = .int .i64 x6_2 ∧ Aside0 (spec_l06Clean.l1 kq x3_1 x4_1 x5_2 x6_2 l0_0 l0_1 l0_2 l0_3 a0_4 a0_5 = some (r1, r2, r3, r4, r5, r6)) ∧ Aside0 (kq ≤ k1) ∧ Aside0 (Kd.R k57 57 w' w0.heap.size (fun k_ => ((P0_1_ k_ ∨ P0_2_ k_ ∨ P0_3_ k_) ∨ w.heap.size ≤ k_)) u3 x3_1) ∧ Aside0 (Kd.R k59 59 w' w0.heap.size (fun k_ => ((P0_1_ k_ ∨ P0_2_ k_ ∨ P0_3_ k_) ∨ w.heap.size ≤ k_) ∧ some k_ ≠ ((.slice Ao3 l0_2.length co3) : Value).ownBlock) (.slice Ao2 l0_1.length co2) l0_1) ∧ Aside0 (Kd.R k59 59 w' w0.heap.size (fun k_ => ((P0_1_ k_ ∨ P0_2_ k_ ∨ P0_3_ k_) ∨ w.heap.size ≤ k_) ∧ some k_ ≠ ((.slice Ao2 l0_1.length co2) : Value).ownBlock) (.slice Ao3 l0_2.length co3) l0_2) ∧ Aside0 (Kd.R Kd.string 9 w' w0.heap.size (fun k_ => ((P0_1_ k_ ∨ P0_2_ k_ ∨ P0_3_ k_) ∨ w.heap.size ≤ k_)) (.slice Ao4 l0_3.length co4) l0_3) ∧ Aside0 (w'.heap[gb269]? = some (.cells #[(.slice A0_0 l0_0.length c0_0), (.slice Ao2 l0_1.length co2), (.slice Ao3 l0_2.length co3), (.slice Ao4 l0_3.length co4), .int .i64 a0_4, .int .i64 a0_5] 32 (0, 0))) ∧ Aside0 (w'.heap[gb270]? = some (.cells #[(.slice none 0 0), (.slice none 0 0), (.slice none 0 0), (.slice none 0 0), .int .i64 0, .int .i64 0] 32 (0, 0))) ∧ Aside0 (Kept w w' (fun k_ => P0_1_ k_ ∨ P0_2_ k_ ∨ P0_3_ k_)) ∧ Aside0 (Below w0.heap.size w0 w'))
    case atStart => exact ⟨(false), (0), (by rfl), (by rfl), H', ⟨Nat.le_refl _⟩, ⟨by exact HO_3.out⟩, ⟨by exact HO_270001.out⟩, ⟨by exact HO_270002.out⟩, ⟨by exact HO_270003.out⟩, ⟨by exact BK269.out⟩, ⟨by exact BK270.out⟩, ⟨by repeat (with_reducible exact HK.out)⟩, ⟨by repeat (with_reducible exact HB.out)⟩⟩
    case round =>
     clear H'
     try clear c1
     try clear p2
     try clear p6
     try clear c9
     try clear c9b0
     try clear c10
     try clear hcz11_0
     try clear p2
     try clear p6
     obtain ⟨x5_2, x6_2, rfl, rfl, HA, HK2, HO_3, HO_270001, HO_270002, HO_270003, BK269, BK270, HK, HB⟩ := hrel
     cases gk with
     | zero => exact absurd HA.out (by simp [spec_l06Clean.l1])
     | succ k2 =>
      have H := HA.out
      clear HA
      simp only [spec_l06Clean.l1] at H
      have HC12 := Aside0.mk H
      clear H
      go_upto_region 7 with (fail)
      repeat (go_quiet (fail); go_upto_region 7 with (fail))
      go_cut [26] (fun v26 wc => ∃ (kq : Nat) (x26_11 : Bool), v26 = .bool x26_11 ∧ Aside0 (spec_l06Clean.j2 kq x3_1 x4_1 x5_2 x6_2 x26_11 l0_0 l0_1 l0_2 l0_3 a0_4 a0_5 = some (r1, r2, r3, r4, r5, r6)) ∧ Aside0 (kq ≤ k2) ∧ Aside0 (Kd.R k57 57 wc w0.heap.size (fun k_ => ((P0_1_ k_ ∨ P0_2_ k_ ∨ P0_3_ k_) ∨ w.heap.size ≤ k_)) u3 x3_1) ∧ Aside0 (Kd.R k59 59 wc w0.heap.size (fun k_ => ((P0_1_ k_ ∨ P0_2_ k_ ∨ P0_3_ k_) ∨ w.heap.size ≤ k_) ∧ some k_ ≠ ((.slice Ao3 l0_2.length co3) : Value).ownBlock) (.slice Ao2 l0_1.length co2) l0_1) ∧ Aside0 (Kd.R k59 59 wc w0.heap.size (fun k_ => ((P0_1_ k_ ∨ P0_2_ k_ ∨ P0_3_ k_) ∨ w.heap.size ≤ k_) ∧ some k_ ≠ ((.slice Ao2 l0_1.length co2) : Value).ownBlock) (.slice Ao3 l0_2.length co3) l0_2) ∧ Aside0 (Kd.R Kd.string 9 wc w0.heap.size (fun k_ => ((P0_1_ k_ ∨ P0_2_ k_ ∨ P0_3_ k_) ∨ w.heap.size ≤ k_)) (.slice Ao4 l0_3.length co4) l0_3) ∧ Aside0 (wc.heap[gb269]? = some (.cells #[(.slice A0_0 l0_0.length c0_0), (.slice Ao2 l0_1.length co2), (.slice Ao3 l0_2.length co3), (.slice Ao4 l0_3.length co4), .int .i64 a0_4, .int .i64 a0_5] 32 (0, 0))) ∧ Aside0 (wc.heap[gb270]? = some (.cells #[(.slice none 0 0), (.slice none 0 0), (.slice none 0 0), (.slice none 0 0), .int .i64 0, .int .i64 0] 32 (0, 0))) ∧ Aside0 (Kept w wc (fun k_ => P0_1_ k_ ∨ P0_2_ k_ ∨ P0_3_ k_)) ∧ Aside0 (Below w0.heap.size w0 wc))
      case first =>
       have H := HC12.out
       clear HC12
       by_cases c13 : x6_2 ≤ (l0_3.length : Int)
       ·rw [if_pos c13] at H
        have c13b0 : decide (x6_2 ≤ (l0_3.length : Int)) = true := decide_eq_true c13
        clear c13
        (skip)
        have H' := Aside0.mk H
        clear H
        have hcz15_3 : wr.cell? ⟨gb269, 3, none⟩ = some (.slice Ao4 l0_3.length co4) := (blk_cell BK269.out 3).trans rfl
        go_wp2
        repeat (go_quiet (fail); try go_wp2)
        go_meet
        case rel => exact ⟨_, (!x5_2), (by rfl), H', ⟨by have := HK1.out; have := HK2.out; omega⟩, ⟨by exact HO_3.out⟩, ⟨by exact HO_270001.out⟩, ⟨by exact HO_270002.out⟩, ⟨by exact HO_270003.out⟩, ⟨by exact BK269.out⟩, ⟨by exact BK270.out⟩, ⟨by repeat (with_reducible exact HK.out)⟩, ⟨by repeat (with_reducible exact HB.out)⟩⟩
       ·rw [if_neg c13] at H
        have c13b0 : decide (x6_2 ≤ (l0_3.length : Int)) = false := decide_eq_false c13
        clear c13
        (skip)
        have H' := Aside0.mk H
        clear H
        have hcz17_3 : wr.cell? ⟨gb269, 3, none⟩ = some (.slice Ao4 l0_3.length co4) := (blk_cell BK269.out 3).trans rfl
        go_wp2
        repeat (go_quiet (fail); try go_wp2)
        go_meet
        case rel => exact ⟨_, (false), (by rfl), H', ⟨by have := HK1.out; have := HK2.out; omega⟩, ⟨by exact HO_3.out⟩, ⟨by exact HO_270001.out⟩, ⟨by exact HO_270002.out⟩, ⟨by exact HO_270003.out⟩, ⟨by exact BK269.out⟩, ⟨by exact BK270.out⟩, ⟨by repeat (with_reducible exact HK.out)⟩, ⟨by repeat (with_reducible exact HB.out)⟩⟩
      case rest =>
       clear HC12
       try clear c1
       try clear p2
       try clear p6
       try clear c9
       try clear c9b0
       try clear c10
       try clear c13
       try clear c13b0
       try clear c14
       try clear c16
       try clear hcz11_0
       try clear hcz15_3
       try clear hcz17_3
       try clear p2
       try clear p6
       obtain ⟨kq, x26_11, rfl, HA, HJ11, HO_3, HO_270001, HO_270002, HO_270003, BK269, BK270, HK, HB⟩ := hcut
       cases kq with
       | zero => exact absurd HA.out (by simp [spec_l06Clean.j2])
       | succ kj11 =>
        have H := HA.out
        clear HA
        simp only [spec_l06Clean.j2] at H
        by_cases c18 : x26_11 = true
        ·subst c18
         have H1 : ((spec_StepsDone.f kj11 l0_2 l0_3 x6_2).bind fun bt278 => (spec_l06Clean.l2 kj11 x3_1 x4_1 x5_2 x6_2 bt278.1 0 l0_0 l0_1 l0_2 l0_3 a0_4 a0_5)) = some (r1, r2, r3, r4, r5, r6) := by rw [if_pos rfl] at H; exact H
         clear H
         have H := H1
         clear H1
         obtain ⟨⟨t278, t279⟩, A19, H⟩ := bA H
         replace H : (spec_l06Clean.l2 kj11 x3_1 x4_1 x5_2 x6_2 t278 0 l0_0 l0_1 l0_2 l0_3 a0_4 a0_5) = some (r1, r2, r3, r4, r5, r6) := H
         have H' := Aside0.mk H
         clear H
         have hcz21_2 : wc.cell? ⟨gb269, 2, none⟩ = some (.slice Ao3 l0_2.length co3) := (blk_cell BK269.out 2).trans rfl
         have hcz21_3 : wc.cell? ⟨gb269, 3, none⟩ = some (.slice Ao4 l0_3.length co4) := (blk_cell BK269.out 3).trans rfl
         go_wp2_with ((go_at_call 61; (with_reducible refine (spec_StepsDone.calls kj11 _ _ l0_2 _ _ l0_3 x6_2 t278 t279 _ ?side1 ?side2 ?side3 ?side4 A19.out).mono ?_); (case side1 => repeat (exact (Kd.R_reads' HO_270002.out).2.2)); (case side2 => exact (Kd.R_reads' HO_270002.out).2.1); (case side3 => repeat (exact (Kd.R_reads' HO_270003.out).2.2)); (case side4 => exact (Kd.R_reads' HO_270003.out).2.1); rintro e w22 ⟨v280, rfl, ho0, hb⟩; have HO281 := Aside0.mk (Kd.R_lower (Kd.R_new' (Kd.R_new' (Kd.R_newM (M := fun k_ => ((P0_1_ k_ ∨ P0_2_ k_ ∨ P0_3_ k_) ∨ w.heap.size ≤ k_)) ho0 HK.out.1 (fun k_ h_ => .inr h_)) (Kd.R_lt HO_270001.out)) (Kd.R_lt HO_270002.out)) (below_size HB.out)); replace HO_3 := Aside0.mk (Kd.R_below HO_3.out hb); replace HO_270001 := Aside0.mk (Kd.R_elder' HO_270001.out (Kd.R_base ho0) hb); replace HO_270002 := Aside0.mk (Kd.R_elder' HO_270002.out (Kd.R_base ho0) hb); replace HO_270003 := Aside0.mk (Kd.R_below HO_270003.out hb); replace BK269 := Aside0.mk (bB hb BK269.out); replace BK270 := Aside0.mk (bB hb BK270.out); replace HK := Aside0.mk (Kept.below (S := (fun k_ => P0_1_ k_ ∨ P0_2_ k_ ∨ P0_3_ k_)) HK.out hb); replace HB := Aside0.mk (below_step HB.out hb); (try clear hb); (try clear ho0)))
         repeat (go_quiet (first | (go_at_call 61; (with_reducible refine (spec_StepsDone.calls kj11 _ _ l0_2 _ _ l0_3 x6_2 t278 t279 _ ?side1 ?side2 ?side3 ?side4 A19.out).mono ?_); (case side1 => repeat (first | exact (Kd.R_reads' HO_270002.out).2.2 | (with_reducible refine Kd.C_alloc ?_ _) | (with_reducible refine Kd.C_drewN ?_ _) | (with_reducible refine Kd.C_drew ?_))); (case side2 => exact (Kd.R_reads' HO_270002.out).2.1); (case side3 => repeat (first | exact (Kd.R_reads' HO_270003.out).2.2 | (with_reducible refine Kd.C_alloc ?_ _) | (with_reducible refine Kd.C_drewN ?_ _) | (with_reducible refine Kd.C_drew ?_))); (case side4 => exact (Kd.R_reads' HO_270003.out).2.1); rintro e w22 ⟨v280, rfl, ho0, hb⟩; have HO281 := Aside0.mk (Kd.R_lower (Kd.R_new' (Kd.R_new' (Kd.R_newM (M := fun k_ => ((P0_1_ k_ ∨ P0_2_ k_ ∨ P0_3_ k_) ∨ w.heap.size ≤ k_)) ho0 (by first | exact HK.out.1 | exact (show Kept w _ (fun k_ => P0_1_ k_ ∨ P0_2_ k_ ∨ P0_3_ k_) from by repeat (first | (with_reducible first | exact HK.out | apply Kept.alloc | apply Kept.drewN | apply Kept.drew | refine Kept.setCell ?_ (.inr GW269.out) _ | refine Kept.setCell ?_ (.inr GW270.out) _) | exact HK.out)).1) (fun k_ h_ => .inr h_)) (Kd.R_lt (by (with_reducible repeat (first | apply Kd.R_alloc | apply Kd.R_drewN | apply Kd.R_drew)); exact HO_270001.out))) (Kd.R_lt (by (with_reducible repeat (first | apply Kd.R_alloc | apply Kd.R_drewN | apply Kd.R_drew)); exact HO_270002.out))) (below_size (by repeat (first | (with_reducible first | exact HB.out | apply below_alloc | apply pw_below_drewN | apply below_drew1 | refine below_set ?_ GE269.out | refine below_set ?_ GE270.out) | exact HB.out)))); replace HO_3 := Aside0.mk (Kd.R_below (by (with_reducible repeat (first | apply Kd.R_alloc | apply Kd.R_drewN | apply Kd.R_drew)); exact HO_3.out) hb); replace HO_270001 := Aside0.mk (Kd.R_elder' (by (with_reducible repeat (first | apply Kd.R_alloc | apply Kd.R_drewN | apply Kd.R_drew)); exact HO_270001.out) (Kd.R_base ho0) hb); replace HO_270002 := Aside0.mk (Kd.R_elder' (by (with_reducible repeat (first | apply Kd.R_alloc | apply Kd.R_drewN | apply Kd.R_drew)); exact HO_270002.out) (Kd.R_base ho0) hb); replace HO_270003 := Aside0.mk (Kd.R_below (by (with_reducible repeat (first | apply Kd.R_alloc | apply Kd.R_drewN | apply Kd.R_drew)); exact HO_270003.out) hb); replace BK269 := Aside0.mk (blk_below (g := gb269) (o := .cells #[.slice A0_0 l0_0.length c0_0, .slice Ao2 l0_1.length co2, .slice Ao3 l0_2.length co3, .slice Ao4 l0_3.length co4, .int .i64 a0_4, .int .i64 a0_5] 32 (0, 0)) (by (with_reducible repeat (first | refine blk_drewN ?_ _ | refine blk_drew ?_ | refine blk_alloc ?_ _)); exact BK269.out) hb); replace BK270 := Aside0.mk (blk_below (g := gb270) (o := .cells #[.slice none 0 0, .slice none 0 0, .slice none 0 0, .slice none 0 0, .int .i64 0, .int .i64 0] 32 (0, 0)) (by (with_reducible repeat (first | refine blk_drewN ?_ _ | refine blk_drew ?_ | refine blk_alloc ?_ _)); exact BK270.out) hb); replace HK := Aside0.mk (Kept.below (S := (fun k_ => P0_1_ k_ ∨ P0_2_ k_ ∨ P0_3_ k_)) (by repeat (first | (with_reducible first | exact HK.out | apply Kept.alloc | apply Kept.drewN | apply Kept.drew | refine Kept.setCell ?_ (.inr GW269.out) _ | refine Kept.setCell ?_ (.inr GW270.out) _) | exact HK.out)) hb); replace HB := Aside0.mk (below_step (by repeat (first | (with_reducible first | exact HB.out | apply below_alloc | apply pw_below_drewN | apply below_drew1 | refine below_set ?_ GE269.out | refine below_set ?_ GE270.out) | exact HB.out)) hb); (try clear hb); (try clear hb2); (try clear hk); (try clear hi); (try clear ho0))); try go_wp2_with (first | (go_at_call 61; (with_reducible refine (spec_StepsDone.calls kj11 _ _ l0_2 _ _ l0_3 x6_2 t278 t279 _ ?side1 ?side2 ?side3 ?side4 A19.out).mono ?_); (case side1 => repeat (first | exact (Kd.R_reads' HO_270002.out).2.2 | (with_reducible refine Kd.C_alloc ?_ _) | (with_reducible refine Kd.C_drewN ?_ _) | (with_reducible refine Kd.C_drew ?_))); (case side2 => exact (Kd.R_reads' HO_270002.out).2.1); (case side3 => repeat (first | exact (Kd.R_reads' HO_270003.out).2.2 | (with_reducible refine Kd.C_alloc ?_ _) | (with_reducible refine Kd.C_drewN ?_ _) | (with_reducible refine Kd.C_drew ?_))); (case side4 => exact (Kd.R_reads' HO_270003.out).2.1); rintro e w22 ⟨v280, rfl, ho0, hb⟩; have HO281 := Aside0.mk (Kd.R_lower (Kd.R_new' (Kd.R_new' (Kd.R_newM (M := fun k_ => ((P0_1_ k_ ∨ P0_2_ k_ ∨ P0_3_ k_) ∨ w.heap.size ≤ k_)) ho0 (by first | exact HK.out.1 | exact (show Kept w _ (fun k_ => P0_1_ k_ ∨ P0_2_ k_ ∨ P0_3_ k_) from by repeat (first | (with_reducible first | exact HK.out | apply Kept.alloc | apply Kept.drewN | apply Kept.drew | refine Kept.setCell ?_ (.inr GW269.out) _ | refine Kept.setCell ?_ (.inr GW270.out) _) | exact HK.out)).1) (fun k_ h_ => .inr h_)) (Kd.R_lt (by (with_reducible repeat (first | apply Kd.R_alloc | apply Kd.R_drewN | apply Kd.R_drew)); exact HO_270001.out))) (Kd.R_lt (by (with_reducible repeat (first | apply Kd.R_alloc | apply Kd.R_drewN | apply Kd.R_drew)); exact HO_270002.out))) (below_size (by repeat (first | (with_reducible first | exact HB.out | apply below_alloc | apply pw_below_drewN | apply below_drew1 | refine below_set ?_ GE269.out | refine below_set ?_ GE270.out) | exact HB.out)))); replace HO_3 := Aside0.mk (Kd.R_below (by (with_reducible repeat (first | apply Kd.R_alloc | apply Kd.R_drewN | apply Kd.R_drew)); exact HO_3.out) hb); replace HO_270001 := Aside0.mk (Kd.R_elder' (by (with_reducible repeat (first | apply Kd.R_alloc | apply Kd.R_drewN | apply Kd.R_drew)); exact HO_270001.out) (Kd.R_base ho0) hb); replace HO_270002 := Aside0.mk (Kd.R_elder' (by (with_reducible repeat (first | apply Kd.R_alloc | apply Kd.R_drewN | apply Kd.R_drew)); exact HO_270002.out) (Kd.R_base ho0) hb); replace HO_270003 := Aside0.mk (Kd.R_below (by (with_reducible repeat (first | apply Kd.R_alloc | apply Kd.R_drewN | apply Kd.R_drew)); exact HO_270003.out) hb); replace BK269 := Aside0.mk (blk_below (g := gb269) (o := .cells #[.slice A0_0 l0_0.length c0_0, .slice Ao2 l0_1.length co2, .slice Ao3 l0_2.length co3, .slice Ao4 l0_3.length co4, .int .i64 a0_4, .int .i64 a0_5] 32 (0, 0)) (by (with_reducible repeat (first | refine blk_drewN ?_ _ | refine blk_drew ?_ | refine blk_alloc ?_ _)); exact BK269.out) hb); replace BK270 := Aside0.mk (blk_below (g := gb270) (o := .cells #[.slice none 0 0, .slice none 0 0, .slice none 0 0, .slice none 0 0, .int .i64 0, .int .i64 0] 32 (0, 0)) (by (with_reducible repeat (first | refine blk_drewN ?_ _ | refine blk_drew ?_ | refine blk_alloc ?_ _)); exact BK270.out) hb); replace HK := Aside0.mk (Kept.below (S := (fun k_ => P0_1_ k_ ∨ P0_2_ k_ ∨ P0_3_ k_)) (by repeat (first | (with_reducible first | exact HK.out | apply Kept.alloc | apply Kept.drewN | apply Kept.drew | refine Kept.setCell ?_ (.inr GW269.out) _ | refine Kept.setCell ?_ (.inr GW270.out) _) | exact HK.out)) hb); replace HB := Aside0.mk (below_step (by repeat (first | (with_reducible first | exact HB.out | apply below_alloc | apply pw_below_drewN | apply below_drew1 | refine below_set ?_ GE269.out | refine below_set ?_ GE270.out) | exact HB.out)) hb); (try clear hb); (try clear hb2); (try clear hk); (try clear hi); (try clear ho0))))
         go_loopg [5, 9] kj11 (fun kq v5 v9 w' => ∃ (x5_4 : Bool) (x9_4 : Int), v5 = .bool x5_4 ∧ v9 = .int .i64 x9_4 ∧ Aside0 (spec_l06Clean.l2 kq x3_1 x4_1 x5_4 x6_2 t278 x9_4 l0_0 l0_1 l0_2 l0_3 a0_4 a0_5 = some (r1, r2, r3, r4, r5, r6)) ∧ Aside0 (kq ≤ kj11) ∧ Aside0 (Kd.R k57 57 w' w0.heap.size (fun k_ => ((P0_1_ k_ ∨ P0_2_ k_ ∨ P0_3_ k_) ∨ w.heap.size ≤ k_)) u3 x3_1) ∧ Aside0 (Kd.R k59 59 w' w0.heap.size (fun k_ => ((P0_1_ k_ ∨ P0_2_ k_ ∨ P0_3_ k_) ∨ w.heap.size ≤ k_) ∧ some k_ ≠ ((.slice Ao2 l0_1.length co2) : Value).ownBlock ∧ some k_ ≠ ((.slice Ao3 l0_2.length co3) : Value).ownBlock) v280 t278) ∧ Aside0 (Kd.R k59 59 w' w0.heap.size (fun k_ => ((P0_1_ k_ ∨ P0_2_ k_ ∨ P0_3_ k_) ∨ w.heap.size ≤ k_) ∧ some k_ ≠ (v280 : Value).ownBlock ∧ some k_ ≠ ((.slice Ao3 l0_2.length co3) : Value).ownBlock) (.slice Ao2 l0_1.length co2) l0_1) ∧ Aside0 (Kd.R k59 59 w' w0.heap.size (fun k_ => ((P0_1_ k_ ∨ P0_2_ k_ ∨ P0_3_ k_) ∨ w.heap.size ≤ k_) ∧ some k_ ≠ (v280 : Value).ownBlock ∧ some k_ ≠ ((.slice Ao2 l0_1.length co2) : Value).ownBlock) (.slice Ao3 l0_2.length co3) l0_2) ∧ Aside0 (Kd.R Kd.string 9 w' w0.heap.size (fun k_ => ((P0_1_ k_ ∨ P0_2_ k_ ∨ P0_3_ k_) ∨ w.heap.size ≤ k_)) (.slice Ao4 l0_3.length co4) l0_3) ∧ Aside0 (w'.heap[gb269]? = some (.cells #[(.slice A0_0 l0_0.length c0_0), (.slice Ao2 l0_1.length co2), (.slice Ao3 l0_2.length co3), (.slice Ao4 l0_3.length co4), .int .i64 a0_4, .int .i64 a0_5] 32 (0, 0))) ∧ Aside0 (w'.heap[gb270]? = some (.cells #[(.slice none 0 0), (.slice none 0 0), (.slice none 0 0), (.slice none 0 0), .int .i64 0, .int .i64 0] 32 (0, 0))) ∧ Aside0 (Kept w w' (fun k_ => P0_1_ k_ ∨ P0_2_ k_ ∨ P0_3_ k_)) ∧ Aside0 (Below w0.heap.size w0 w'))
         case atStart => exact ⟨(x5_2), (0), (by rfl), (by rfl), H', ⟨Nat.le_refl _⟩, ⟨by exact HO_3.out⟩, ⟨by exact Kd.R_mono HO281.out (fun _ hk => ⟨hk.1.1.1, ⟨hk.1.2, hk.2⟩⟩)⟩, ⟨by exact Kd.R_mono HO_270001.out (fun _ hk => ⟨hk.1.1, ⟨hk.2, hk.1.2⟩⟩)⟩, ⟨by exact Kd.R_mono HO_270002.out (fun _ hk => ⟨hk.1.1, ⟨hk.2, hk.1.2⟩⟩)⟩, ⟨by exact HO_270003.out⟩, ⟨by exact BK269.out⟩, ⟨by exact BK270.out⟩, ⟨by repeat (with_reducible exact HK.out)⟩, ⟨by repeat (with_reducible exact HB.out)⟩⟩
         case round =>
          clear H'
          try clear c1
          try clear c2
          try clear p2
          try clear p6
          try clear c9
          try clear c9b0
          try clear c10
          try clear c13
          try clear c13b0
          try clear c14
          try clear c16
          try clear c18
          try clear c20
          try clear hcz11_0
          try clear hcz15_3
          try clear hcz17_3
          try clear hcz21_2
          try clear hcz21_3
          try clear p2
          try clear p6
          obtain ⟨x5_4, x9_4, rfl, rfl, HA, HK4, HO_3, HO_7, HO_270001, HO_270002, HO_270003, BK269, BK270, HK, HB⟩ := hrel
          cases gk with
          | zero => exact absurd HA.out (by simp [spec_l06Clean.l2])
          | succ k4 =>
           have H := HA.out
           clear HA
           simp only [spec_l06Clean.l2] at H
           by_cases c23 : x9_4 < (t278.length : Int)
           ·rw [if_pos c23] at H
            have c23b0 : decide (x9_4 < (t278.length : Int)) = true := decide_eq_true c23
            clear c23
            by_cases c24 : x5_4 = true
            ·subst c24
             have H1 : (spec_l06Clean.l2 k4 x3_1 x4_1 true x6_2 t278 (wrap64 (x9_4 + 1)) l0_0 l0_1 l0_2 l0_3 a0_4 a0_5) = some (r1, r2, r3, r4, r5, r6) := by rw [if_pos rfl] at H; exact H
             clear H
             have H := H1
             clear H1
             have H' := Aside0.mk H
             clear H
             obtain ⟨Ao25, co25, eo25⟩ := Kd.R_slice HO_7.out
             subst eo25
             go_wp2
             repeat (go_quiet (fail); try go_wp2)
             go_roundg k4
             case measure => have := HK1.out; have := HK2.out; have := HJ11.out; have := HK4.out; omega
             case rel => exact ⟨(true), (wrap64 (x9_4 + 1)), (by rfl), (by rfl), H', ⟨by have := HK1.out; have := HK2.out; have := HJ11.out; have := HK4.out; omega⟩, ⟨by (with_reducible repeat (apply Kd.R_drewN)); exact HO_3.out⟩, ⟨by (with_reducible repeat (apply Kd.R_drewN)); exact HO_7.out⟩, ⟨by (with_reducible repeat (apply Kd.R_drewN)); exact HO_270001.out⟩, ⟨by (with_reducible repeat (apply Kd.R_drewN)); exact HO_270002.out⟩, ⟨by (with_reducible repeat (apply Kd.R_drewN)); exact HO_270003.out⟩, ⟨by (with_reducible repeat (refine blk_drewN ?_ _)); exact BK269.out⟩, ⟨by (with_reducible repeat (refine blk_drewN ?_ _)); exact BK270.out⟩, ⟨by repeat (with_reducible first | exact HK.out | apply Kept.drewN)⟩, ⟨by repeat (with_reducible first | exact HB.out | apply pw_below_drewN)⟩⟩
            ·replace c24 := Bool.eq_false_iff.mpr c24
             subst c24
             have H1 : (if 0 ≤ x9_4 then (if 0 ≤ x4_1 then (if x4_1 < (l0_0.length : Int) then (spec_l06Clean.l2 k4 x3_1 x4_1 (((rd_T59 t278 x9_4).f1) == ((rd_T57 l0_0 x4_1).f0)) x6_2 t278 (wrap64 (x9_4 + 1)) l0_0 l0_1 l0_2 l0_3 a0_4 a0_5) else (none)) else (none)) else (none)) = some (r1, r2, r3, r4, r5, r6) := by rw [if_neg (show ¬ (false = true) by decide)] at H; exact H
             clear H
             have H := H1
             clear H1
             by_cases c26 : 0 ≤ x9_4
             ·rw [if_pos c26] at H
              have c26b0 : decide (0 ≤ x9_4) = true := decide_eq_true c26
              clear c26
              by_cases c27 : 0 ≤ x4_1
              ·rw [if_pos c27] at H
               have c27b0 : decide (0 ≤ x4_1) = true := decide_eq_true c27
               clear c27
               by_cases c28 : x4_1 < (l0_0.length : Int)
               ·rw [if_pos c28] at H
                have c28b0 : decide (x4_1 < (l0_0.length : Int)) = true := decide_eq_true c28
                clear c28
                have H' := Aside0.mk H
                clear H
                obtain ⟨Ao29, co29, eo29⟩ := Kd.R_slice HO_7.out
                subst eo29
                have p282 : 0 ≤ (x9_4 : Int) := of_decide_eq_true (by (with_reducible assumption))
                have q282 : x9_4 < (t278.length : Int) := of_decide_eq_true (by (with_reducible assumption))
                obtain ⟨ad282, e282, hx282_0, hx282_1⟩ := at_T59 (Kd.R_reads' HO_7.out).2.2 x9_4 p282 q282
                cases e282
                replace p282 := eq_true p282
                replace q282 := eq_true q282
                have hcz31_0 : wr.cell? ⟨gb269, 0, none⟩ = some (.slice A0_0 l0_0.length c0_0) := (blk_cell BK269.out 0).trans rfl
                have p283 : 0 ≤ (x4_1 : Int) := of_decide_eq_true (by (with_reducible assumption))
                have q283 : x4_1 < (l0_0.length : Int) := of_decide_eq_true (by (with_reducible assumption))
                obtain ⟨ad283, e283, hx283_0, hx283_1, hx283_2⟩ := at_T57 (Kd.C_kept_now HR0_0.out HK.out) x4_1 p283 q283
                cases e283
                replace p283 := eq_true p283
                replace q283 := eq_true q283
                go_wp2
                repeat (go_quiet (fail); try go_wp2)
                go_roundg k4
                case measure => have := HK1.out; have := HK2.out; have := HJ11.out; have := HK4.out; omega
                case rel => exact ⟨((((rd_T59 t278 x9_4).f1) == ((rd_T57 l0_0 x4_1).f0))), (wrap64 (x9_4 + 1)), (by rfl), (by rfl), H', ⟨by have := HK1.out; have := HK2.out; have := HJ11.out; have := HK4.out; omega⟩, ⟨by (with_reducible repeat (apply Kd.R_drewN)); exact HO_3.out⟩, ⟨by (with_reducible repeat (apply Kd.R_drewN)); exact HO_7.out⟩, ⟨by (with_reducible repeat (apply Kd.R_drewN)); exact HO_270001.out⟩, ⟨by (with_reducible repeat (apply Kd.R_drewN)); exact HO_270002.out⟩, ⟨by (with_reducible repeat (apply Kd.R_drewN)); exact HO_270003.out⟩, ⟨by (with_reducible repeat (refine blk_drewN ?_ _)); exact BK269.out⟩, ⟨by (with_reducible repeat (refine blk_drewN ?_ _)); exact BK270.out⟩, ⟨by repeat (with_reducible first | exact HK.out | apply Kept.drewN)⟩, ⟨by repeat (with_reducible first | exact HB.out | apply pw_below_drewN)⟩⟩
               ·rw [if_neg c28] at H
                exact absurd H (by simp)
              ·rw [if_neg c27] at H
               exact absurd H (by simp)
             ·rw [if_neg c26] at H
              exact absurd H (by simp)
           ·rw [if_neg c23] at H
            have c23b0 : decide (x9_4 < (t278.length : Int)) = false := decide_eq_false c23
            clear c23
            have H' := Aside0.mk H
            clear H
            obtain ⟨Ao32, co32, eo32⟩ := Kd.R_slice HO_7.out
            subst eo32
            go_wp2
            repeat (go_quiet (fail); try go_wp2)
            go_roundg k4
            case measure => have := HK1.out; have := HK2.out; have := HJ11.out; have := HK4.out; omega
            case rel => exact ⟨(x5_4), (wrap64 (x6_2 + 1)), (by rfl), (by rfl), H', ⟨by have := HK1.out; have := HK2.out; have := HJ11.out; have := HK4.out; omega⟩, ⟨by exact HO_3.out⟩, ⟨by exact Kd.R_mono HO_270001.out (fun _ hk => ⟨hk.1, hk.2.2⟩)⟩, ⟨by exact Kd.R_mono HO_270002.out (fun _ hk => ⟨hk.1, hk.2.2⟩)⟩, ⟨by exact HO_270003.out⟩, ⟨by exact BK269.out⟩, ⟨by exact BK270.out⟩, ⟨by repeat (with_reducible exact HK.out)⟩, ⟨by repeat (with_reducible exact HB.out)⟩⟩
        ·replace c18 := Bool.eq_false_iff.mpr c18
         subst c18
         have H1 : (if x5_2 = true then (if 0 ≤ x4_1 then (if x4_1 < (l0_0.length : Int) then (if x3_1.length < 4398046511104 then (spec_l06Clean.l0 kj11 (x3_1 ++ [(⟨(rd_T57 l0_0 x4_1).f0, (rd_T57 l0_0 x4_1).f1, (rd_T57 l0_0 x4_1).f2⟩ : S57)]) (wrap64 (x4_1 + 1)) l0_0 l0_1 l0_2 l0_3 a0_4 a0_5) else (none)) else (none)) else (none)) else (spec_l06Clean.l0 kj11 x3_1 (wrap64 (x4_1 + 1)) l0_0 l0_1 l0_2 l0_3 a0_4 a0_5)) = some (r1, r2, r3, r4, r5, r6) := by rw [if_neg (show ¬ (false = true) by decide)] at H; exact H
         clear H
         have H := H1
         clear H1
         by_cases c33 : x5_2 = true
         ·subst c33
          have H1 : (if 0 ≤ x4_1 then (if x4_1 < (l0_0.length : Int) then (if x3_1.length < 4398046511104 then (spec_l06Clean.l0 kj11 (x3_1 ++ [(⟨(rd_T57 l0_0 x4_1).f0, (rd_T57 l0_0 x4_1).f1, (rd_T57 l0_0 x4_1).f2⟩ : S57)]) (wrap64 (x4_1 + 1)) l0_0 l0_1 l0_2 l0_3 a0_4 a0_5) else (none)) else (none)) else (none)) = some (r1, r2, r3, r4, r5, r6) := by rw [if_pos rfl] at H; exact H
          clear H
          have H := H1
          clear H1
          by_cases c34 : 0 ≤ x4_1
          ·rw [if_pos c34] at H
           have c34b0 : decide (0 ≤ x4_1) = true := decide_eq_true c34
           clear c34
           by_cases c35 : x4_1 < (l0_0.length : Int)
           ·rw [if_pos c35] at H
            have c35b0 : decide (x4_1 < (l0_0.length : Int)) = true := decide_eq_true c35
            clear c35
            by_cases c36 : x3_1.length < 4398046511104
            ·rw [if_pos c36] at H
             have LMc36 := Aside0.mk c36
             clear c36
             obtain ⟨y275, hy275⟩ : ∃ y_ : List (S57), y_ = (x3_1 ++ [(⟨(rd_T57 l0_0 x4_1).f0, (rd_T57 l0_0 x4_1).f1, (rd_T57 l0_0 x4_1).f2⟩ : S57)]) := ⟨_, rfl⟩
             replace H : (spec_l06Clean.l0 kj11 y275 (wrap64 (x4_1 + 1)) l0_0 l0_1 l0_2 l0_3 a0_4 a0_5) = some (r1, r2, r3, r4, r5, r6) := by (rw [hy275]; with_reducible exact H)
             have Ny275 := Aside0.mk hy275
             clear hy275
             have H' := Aside0.mk H
             clear H
             have hcz38_0 : wc.cell? ⟨gb269, 0, none⟩ = some (.slice A0_0 l0_0.length c0_0) := (blk_cell BK269.out 0).trans rfl
             have p274 : 0 ≤ (x4_1 : Int) := of_decide_eq_true (by (with_reducible assumption))
             have q274 : x4_1 < (l0_0.length : Int) := of_decide_eq_true (by (with_reducible assumption))
             obtain ⟨ad274, e274, hx274_0, hx274_1, hx274_2⟩ := at_T57 (Kd.C_kept_now HR0_0.out HK.out) x4_1 p274 q274
             cases e274
             replace p274 := eq_true p274
             replace q274 := eq_true q274
             go_wp2_with (((with_reducible refine gate_builtin (b := .append) (xs := #[.tmp 60, .tmp 66]) rfl ?_); at_builtin; refine Kd.R_append k57 (w0 := w0) w0.heap.size rfl (.tmp 60) (.tmp 66) 29 57 (.agg #[(.int .i64 0), (.string ⟨#[]⟩), (.int .i64 0)]) 32 rfl Tryz.underlying29 info57 rfl (by decide) (by omega) u3 x3_1 (⟨(rd_T57 l0_0 x4_1).f0, (rd_T57 l0_0 x4_1).f1, (rd_T57 l0_0 x4_1).f2⟩ : S57) [.int .i64 ((rd_T57 l0_0 x4_1).f0), .string ((rd_T57 l0_0 x4_1).f1), .int .i64 ((rd_T57 l0_0 x4_1).f2)] (fun k_ => ((P0_1_ k_ ∨ P0_2_ k_ ∨ P0_3_ k_) ∨ w.heap.size ≤ k_)) (fun _ => False) rfl rfl ?aP (fun _ hk => hk.elim) ?aF ?aO ?aB ?aS ?aL ?_; (case aP => exact k57_mkM _ _ _ (⟨(rd_T57 l0_0 x4_1).f0, (rd_T57 l0_0 x4_1).f1, (rd_T57 l0_0 x4_1).f2⟩ : S57)); (case aB => exact HB.out); (case aF => exact (fun k_ hk => (.inr (Nat.le_trans HK.out.1 hk)))); (case aO => exact HO_3.out); (case aS => exact (below_size HB.out)); (case aL => have := LMc36.out; omega); intro v276 w39 ho hb hg hat; rw [← Ny275.out] at ho; have HO277 := Aside0.mk (ho); replace HO_270001 := Aside0.mk (Kd.R_over' HO_270001.out (Kd.R_typed HO_3.out) (by decide) hg); replace HO_270002 := Aside0.mk (Kd.R_over' HO_270002.out (Kd.R_typed HO_3.out) (by decide) hg); replace HO_270003 := Aside0.mk (Kd.R_over' HO_270003.out (Kd.R_typed HO_3.out) (by decide) hg); replace BK269 := Aside0.mk (blk_grown (g := gb269) (o := .cells #[.slice (some ad274) l0_0.length c0_0, .slice Ao2 l0_1.length co2, .slice Ao3 l0_2.length co3, .slice Ao4 l0_3.length co4, .int .i64 a0_4, .int .i64 a0_5] 32 (0, 0)) BK269.out hg (Kd.R_ne HO_3.out BK269.out (by decide))); replace BK270 := Aside0.mk (blk_grown (g := gb270) (o := .cells #[.slice none 0 0, .slice none 0 0, .slice none 0 0, .slice none 0 0, .int .i64 0, .int .i64 0] 32 (0, 0)) BK270.out hg (Kd.R_ne HO_3.out BK270.out (by decide))); replace HB := Aside0.mk (hb); replace HK := Aside0.mk (Kept.of_grown (S := (fun k_ => P0_1_ k_ ∨ P0_2_ k_ ∨ P0_3_ k_)) hg HK.out (fun k_ e_ => (HO_3.out.1 k_ e_))); clear HO_3; clear ho hb hg hat))
             repeat (go_quiet (first | ((with_reducible refine gate_builtin (b := .append) (xs := #[.tmp 60, .tmp 66]) rfl ?_); at_builtin; refine Kd.R_append k57 (w0 := w0) w0.heap.size rfl (.tmp 60) (.tmp 66) 29 57 (.agg #[(.int .i64 0), (.string ⟨#[]⟩), (.int .i64 0)]) 32 rfl Tryz.underlying29 info57 rfl (by decide) (by omega) u3 x3_1 (⟨(rd_T57 l0_0 x4_1).f0, (rd_T57 l0_0 x4_1).f1, (rd_T57 l0_0 x4_1).f2⟩ : S57) [.int .i64 ((rd_T57 l0_0 x4_1).f0), .string ((rd_T57 l0_0 x4_1).f1), .int .i64 ((rd_T57 l0_0 x4_1).f2)] (fun k_ => ((P0_1_ k_ ∨ P0_2_ k_ ∨ P0_3_ k_) ∨ w.heap.size ≤ k_)) (fun _ => False) rfl rfl ?aP (fun _ hk => hk.elim) ?aF ?aO ?aB ?aS ?aL ?_; (case aP => exact k57_mkM _ _ _ (⟨(rd_T57 l0_0 x4_1).f0, (rd_T57 l0_0 x4_1).f1, (rd_T57 l0_0 x4_1).f2⟩ : S57)); (case aB => exact (by repeat (first | (with_reducible first | exact HB.out | apply below_alloc | apply pw_below_drewN | apply below_drew1 | refine below_set ?_ GE269.out | refine below_set ?_ GE270.out) | exact HB.out))); (case aF => exact (fun k_ hk => (.inr (Nat.le_trans (by first | exact HK.out.1 | exact (show Kept w _ (fun k_ => P0_1_ k_ ∨ P0_2_ k_ ∨ P0_3_ k_) from by repeat (first | (with_reducible first | exact HK.out | apply Kept.alloc | apply Kept.drewN | apply Kept.drew | refine Kept.setCell ?_ (.inr GW269.out) _ | refine Kept.setCell ?_ (.inr GW270.out) _) | exact HK.out)).1) hk)))); (case aO => exact (by (with_reducible repeat (first | apply Kd.R_alloc | apply Kd.R_drewN | apply Kd.R_drew)); exact HO_3.out)); (case aS => exact (below_size (by repeat (first | (with_reducible first | exact HB.out | apply below_alloc | apply pw_below_drewN | apply below_drew1 | refine below_set ?_ GE269.out | refine below_set ?_ GE270.out) | exact HB.out)))); (case aL => have := LMc36.out; omega); intro v276 w39 ho hb hg hat; rw [← Ny275.out] at ho; have HO277 := Aside0.mk (ho); replace HO_270001 := Aside0.mk (Kd.R_over' (by (with_reducible repeat (first | apply Kd.R_alloc | apply Kd.R_drewN | apply Kd.R_drew)); exact HO_270001.out) (Kd.R_typed (by (with_reducible repeat (first | apply Kd.R_alloc | apply Kd.R_drewN | apply Kd.R_drew)); exact HO_3.out)) (by decide) hg); replace HO_270002 := Aside0.mk (Kd.R_over' (by (with_reducible repeat (first | apply Kd.R_alloc | apply Kd.R_drewN | apply Kd.R_drew)); exact HO_270002.out) (Kd.R_typed (by (with_reducible repeat (first | apply Kd.R_alloc | apply Kd.R_drewN | apply Kd.R_drew)); exact HO_3.out)) (by decide) hg); replace HO_270003 := Aside0.mk (Kd.R_over' (by (with_reducible repeat (first | apply Kd.R_alloc | apply Kd.R_drewN | apply Kd.R_drew)); exact HO_270003.out) (Kd.R_typed (by (with_reducible repeat (first | apply Kd.R_alloc | apply Kd.R_drewN | apply Kd.R_drew)); exact HO_3.out)) (by decide) hg); replace BK269 := Aside0.mk (blk_grown (g := gb269) (o := .cells #[.slice (some ad274) l0_0.length c0_0, .slice Ao2 l0_1.length co2, .slice Ao3 l0_2.length co3, .slice Ao4 l0_3.length co4, .int .i64 a0_4, .int .i64 a0_5] 32 (0, 0)) (by (with_reducible repeat (first | refine blk_drewN ?_ _ | refine blk_drew ?_ | refine blk_alloc ?_ _)); exact BK269.out) hg (Kd.R_ne HO_3.out BK269.out (by decide))); replace BK270 := Aside0.mk (blk_grown (g := gb270) (o := .cells #[.slice none 0 0, .slice none 0 0, .slice none 0 0, .slice none 0 0, .int .i64 0, .int .i64 0] 32 (0, 0)) (by (with_reducible repeat (first | refine blk_drewN ?_ _ | refine blk_drew ?_ | refine blk_alloc ?_ _)); exact BK270.out) hg (Kd.R_ne HO_3.out BK270.out (by decide))); replace HB := Aside0.mk (hb); replace HK := Aside0.mk (Kept.of_grown (S := (fun k_ => P0_1_ k_ ∨ P0_2_ k_ ∨ P0_3_ k_)) hg (by repeat (first | (with_reducible first | exact HK.out | apply Kept.alloc | apply Kept.drewN | apply Kept.drew | refine Kept.setCell ?_ (.inr GW269.out) _ | refine Kept.setCell ?_ (.inr GW270.out) _) | exact HK.out)) (fun k_ e_ => (HO_3.out.1 k_ e_))); clear HO_3; clear ho hb hg hat)); try go_wp2_with (first | ((with_reducible refine gate_builtin (b := .append) (xs := #[.tmp 60, .tmp 66]) rfl ?_); at_builtin; refine Kd.R_append k57 (w0 := w0) w0.heap.size rfl (.tmp 60) (.tmp 66) 29 57 (.agg #[(.int .i64 0), (.string ⟨#[]⟩), (.int .i64 0)]) 32 rfl Tryz.underlying29 info57 rfl (by decide) (by omega) u3 x3_1 (⟨(rd_T57 l0_0 x4_1).f0, (rd_T57 l0_0 x4_1).f1, (rd_T57 l0_0 x4_1).f2⟩ : S57) [.int .i64 ((rd_T57 l0_0 x4_1).f0), .string ((rd_T57 l0_0 x4_1).f1), .int .i64 ((rd_T57 l0_0 x4_1).f2)] (fun k_ => ((P0_1_ k_ ∨ P0_2_ k_ ∨ P0_3_ k_) ∨ w.heap.size ≤ k_)) (fun _ => False) rfl rfl ?aP (fun _ hk => hk.elim) ?aF ?aO ?aB ?aS ?aL ?_; (case aP => exact k57_mkM _ _ _ (⟨(rd_T57 l0_0 x4_1).f0, (rd_T57 l0_0 x4_1).f1, (rd_T57 l0_0 x4_1).f2⟩ : S57)); (case aB => exact (by repeat (first | (with_reducible first | exact HB.out | apply below_alloc | apply pw_below_drewN | apply below_drew1 | refine below_set ?_ GE269.out | refine below_set ?_ GE270.out) | exact HB.out))); (case aF => exact (fun k_ hk => (.inr (Nat.le_trans (by first | exact HK.out.1 | exact (show Kept w _ (fun k_ => P0_1_ k_ ∨ P0_2_ k_ ∨ P0_3_ k_) from by repeat (first | (with_reducible first | exact HK.out | apply Kept.alloc | apply Kept.drewN | apply Kept.drew | refine Kept.setCell ?_ (.inr GW269.out) _ | refine Kept.setCell ?_ (.inr GW270.out) _) | exact HK.out)).1) hk)))); (case aO => exact (by (with_reducible repeat (first | apply Kd.R_alloc | apply Kd.R_drewN | apply Kd.R_drew)); exact HO_3.out)); (case aS => exact (below_size (by repeat (first | (with_reducible first | exact HB.out | apply below_alloc | apply pw_below_drewN | apply below_drew1 | refine below_set ?_ GE269.out | refine below_set ?_ GE270.out) | exact HB.out)))); (case aL => have := LMc36.out; omega); intro v276 w39 ho hb hg hat; rw [← Ny275.out] at ho; have HO277 := Aside0.mk (ho); replace HO_270001 := Aside0.mk (Kd.R_over' (by (with_reducible repeat (first | apply Kd.R_alloc | apply Kd.R_drewN | apply Kd.R_drew)); exact HO_270001.out) (Kd.R_typed (by (with_reducible repeat (first | apply Kd.R_alloc | apply Kd.R_drewN | apply Kd.R_drew)); exact HO_3.out)) (by decide) hg); replace HO_270002 := Aside0.mk (Kd.R_over' (by (with_reducible repeat (first | apply Kd.R_alloc | apply Kd.R_drewN | apply Kd.R_drew)); exact HO_270002.out) (Kd.R_typed (by (with_reducible repeat (first | apply Kd.R_alloc | apply Kd.R_drewN | apply Kd.R_drew)); exact HO_3.out)) (by decide) hg); replace HO_270003 := Aside0.mk (Kd.R_over' (by (with_reducible repeat (first | apply Kd.R_alloc | apply Kd.R_drewN | apply Kd.R_drew)); exact HO_270003.out) (Kd.R_typed (by (with_reducible repeat (first | apply Kd.R_alloc | apply Kd.R_drewN | apply Kd.R_drew)); exact HO_3.out)) (by decide) hg); replace BK269 := Aside0.mk (blk_grown (g := gb269) (o := .cells #[.slice (some ad274) l0_0.length c0_0, .slice Ao2 l0_1.length co2, .slice Ao3 l0_2.length co3, .slice Ao4 l0_3.length co4, .int .i64 a0_4, .int .i64 a0_5] 32 (0, 0)) (by (with_reducible repeat (first | refine blk_drewN ?_ _ | refine blk_drew ?_ | refine blk_alloc ?_ _)); exact BK269.out) hg (Kd.R_ne HO_3.out BK269.out (by decide))); replace BK270 := Aside0.mk (blk_grown (g := gb270) (o := .cells #[.slice none 0 0, .slice none 0 0, .slice none 0 0, .slice none 0 0, .int .i64 0, .int .i64 0] 32 (0, 0)) (by (with_reducible repeat (first | refine blk_drewN ?_ _ | refine blk_drew ?_ | refine blk_alloc ?_ _)); exact BK270.out) hg (Kd.R_ne HO_3.out BK270.out (by decide))); replace HB := Aside0.mk (hb); replace HK := Aside0.mk (Kept.of_grown (S := (fun k_ => P0_1_ k_ ∨ P0_2_ k_ ∨ P0_3_ k_)) hg (by repeat (first | (with_reducible first | exact HK.out | apply Kept.alloc | apply Kept.drewN | apply Kept.drew | refine Kept.setCell ?_ (.inr GW269.out) _ | refine Kept.setCell ?_ (.inr GW270.out) _) | exact HK.out)) (fun k_ e_ => (HO_3.out.1 k_ e_))); clear HO_3; clear ho hb hg hat)))
             go_roundg kj11
             case measure => have := HK1.out; have := HK2.out; have := HJ11.out; omega
             case rel => exact ⟨(y275), (wrap64 (x4_1 + 1)), (by rfl), H', ⟨by have := HK1.out; have := HK2.out; have := HJ11.out; omega⟩, ⟨by exact HO277.out⟩, ⟨by exact HO_270001.out⟩, ⟨by exact HO_270002.out⟩, ⟨by exact HO_270003.out⟩, ⟨by exact BK269.out⟩, ⟨by exact BK270.out⟩, ⟨by repeat (with_reducible exact HK.out)⟩, ⟨by repeat (with_reducible exact HB.out)⟩⟩
            ·rw [if_neg c36] at H
             exact absurd H (by simp)
           ·rw [if_neg c35] at H
            exact absurd H (by simp)
          ·rw [if_neg c34] at H
           exact absurd H (by simp)
         ·replace c33 := Bool.eq_false_iff.mpr c33
          subst c33
          have H1 : (spec_l06Clean.l0 kj11 x3_1 (wrap64 (x4_1 + 1)) l0_0 l0_1 l0_2 l0_3 a0_4 a0_5) = some (r1, r2, r3, r4, r5, r6) := by rw [if_neg (show ¬ (false = true) by decide)] at H; exact H
          clear H
          have H := H1
          clear H1
          have H' := Aside0.mk H
          clear H
          go_wp2
          repeat (go_quiet (fail); try go_wp2)
          go_roundg kj11
          case measure => have := HK1.out; have := HK2.out; have := HJ11.out; omega
          case rel => exact ⟨(x3_1), (wrap64 (x4_1 + 1)), (by rfl), H', ⟨by have := HK1.out; have := HK2.out; have := HJ11.out; omega⟩, ⟨by exact HO_3.out⟩, ⟨by exact HO_270001.out⟩, ⟨by exact HO_270002.out⟩, ⟨by exact HO_270003.out⟩, ⟨by exact BK269.out⟩, ⟨by exact BK270.out⟩, ⟨by repeat (with_reducible exact HK.out)⟩, ⟨by repeat (with_reducible exact HB.out)⟩⟩
   ·rw [if_neg c9] at H
    have c9b0 : decide (x4_1 < (l0_0.length : Int)) = false := decide_eq_false c9
    clear c9
    simp only [Option.some.injEq, Prod.mk.injEq] at H
    obtain ⟨rfl, rfl, rfl, rfl, rfl, rfl⟩ := H
    have hnc40 := NB270_269.out
    obtain ⟨hcz41_0, hcz41_1, hcz41_2, hcz41_3, hcz41_4, hcz41_5⟩ := b6 BK269.out
    have hfz41_0 := blk_frozen BK269.out 0
    obtain ⟨Ao42, co42, eo42⟩ := Kd.R_slice HO_3.out
    subst eo42
    obtain ⟨hcz43_0, hcz43_1, hcz43_2, hcz43_3, hcz43_4, hcz43_5⟩ := b6 BK270.out
    obtain ⟨hfz43_0, hfz43_1, hfz43_2, hfz43_3, hfz43_4, hfz43_5⟩ := z6 BK270.out
    go_wp2
    repeat (go_quiet (fail); try go_wp2)
    refine bodyPost_ret (results_cell_row rfl _ _ gb270 32 #[.slice Ao42 x3_1.length co42, .slice Ao2 l0_1.length co2, .slice Ao3 l0_2.length co3, .slice Ao4 l0_3.length co4, .int .i64 a0_4, .int .i64 a0_5] (0, 0) _ rfl (by refine blk_put (cs := #[.slice Ao42 x3_1.length co42, .slice Ao2 l0_1.length co2, .slice Ao3 l0_2.length co3, .slice Ao4 l0_3.length co4, .int .i64 a0_4, .int .i64 0]) ?_ 5 _ rfl; refine blk_put (cs := #[.slice Ao42 x3_1.length co42, .slice Ao2 l0_1.length co2, .slice Ao3 l0_2.length co3, .slice Ao4 l0_3.length co4, .int .i64 0, .int .i64 0]) ?_ 4 _ rfl; refine blk_put (cs := #[.slice Ao42 x3_1.length co42, .slice Ao2 l0_1.length co2, .slice Ao3 l0_2.length co3, .slice none 0 0, .int .i64 0, .int .i64 0]) ?_ 3 _ rfl; refine blk_put (cs := #[.slice Ao42 x3_1.length co42, .slice Ao2 l0_1.length co2, .slice none 0 0, .slice none 0 0, .int .i64 0, .int .i64 0]) ?_ 2 _ rfl; refine blk_put (cs := #[.slice Ao42 x3_1.length co42, .slice none 0 0, .slice none 0 0, .slice none 0 0, .int .i64 0, .int .i64 0]) ?_ 1 _ rfl; refine blk_put (cs := #[.slice none 0 0, .slice none 0 0, .slice none 0 0, .slice none 0 0, .int .i64 0, .int .i64 0]) ?_ 0 _ rfl; refine blk_far ?_ NB270_269.out _; exact BK270.out) Tryz.underlying32 rfl (by kernel_rfl)) rfl ?_
    all_goals exact ⟨_, _, _, _, by rfl, by exact Kd.R_mono (R6 (Kd.R_far (p := ⟨gb269, 0, none⟩) (Kd.R_types (Kd.R_types HO_3.out BK269.out (by decide)) BK270.out (by decide)) (fun _ hk => hk.1.2) (.slice Ao42 x3_1.length co42)) (.slice Ao42 x3_1.length co42) (.slice Ao2 l0_1.length co2) (.slice Ao3 l0_2.length co3) (.slice Ao4 l0_3.length co4) (.int .i64 a0_4) (.int .i64 a0_5)) (fun _ hk => hk.1.1), by exact Kd.R_mono (R6 (Kd.R_far (p := ⟨gb269, 0, none⟩) (Kd.R_types (Kd.R_types HO_270001.out BK269.out (by decide)) BK270.out (by decide)) (fun _ hk => hk.1.2) (.slice Ao42 x3_1.length co42)) (.slice Ao42 x3_1.length co42) (.slice Ao2 l0_1.length co2) (.slice Ao3 l0_2.length co3) (.slice Ao4 l0_3.length co4) (.int .i64 a0_4) (.int .i64 a0_5)) (fun _ hk => ⟨hk.1.1.1, hk.1.1.2⟩), by exact Kd.R_mono (R6 (Kd.R_far (p := ⟨gb269, 0, none⟩) (Kd.R_types (Kd.R_types HO_270002.out BK269.out (by decide)) BK270.out (by decide)) (fun _ hk => hk.1.2) (.slice Ao42 x3_1.length co42)) (.slice Ao42 x3_1.length co42) (.slice Ao2 l0_1.length co2) (.slice Ao3 l0_2.length co3) (.slice Ao4 l0_3.length co4) (.int .i64 a0_4) (.int .i64 a0_5)) (fun _ hk => ⟨hk.1.1.1, hk.1.1.2⟩), by exact Kd.R_mono (R6 (Kd.R_far (p := ⟨gb269, 0, none⟩) (Kd.R_types (Kd.R_types HO_270003.out BK269.out (by decide)) BK270.out (by decide)) (fun _ hk => hk.1.2) (.slice Ao42 x3_1.length co42)) (.slice Ao42 x3_1.length co42) (.slice Ao2 l0_1.length co2) (.slice Ao3 l0_2.length co3) (.slice Ao4 l0_3.length co4) (.int .i64 a0_4) (.int .i64 a0_5)) (fun _ hk => hk.1.1), by repeat (with_reducible first | exact HB.out | refine below_set ?_ GE269.out | refine below_set ?_ GE270.out), by repeat ((with_reducible first | exact HK.out | refine Kept.setCell ?_ (.inr GW269.out) _ | refine Kept.setCell ?_ (.inr GW270.out) _))⟩

end Go.Proofs.YtbcidclclckgfaaGreatDoor.MFnExactCouldFall
