/- Each theorem here says that a call of one Go function answers what the Lean function beside it answers; its conditions stand in it. Written by a program of this session. -/
import Derived.Test.YtbcidclclckgfaaGreatDoorMFnExactRenameFilex0
import Derived.Test.YtbcidclclckgfaaGreatDoorMFnExactRenameFilex7
import Derived.Test.YtbcidclclckgfaaGreatDoorMFnExactRenameFilex8
import Derived.Test.YtbcidclclckgfaaGreatDoorMFnExactRenameFilex10
import Derived.Test.YtbcidclclckgfaaGreatDoorMFnExactRenameFilex11
namespace Go.Proofs.YtbcidclclckgfaaGreatDoor.MFnExactRenameFile
open Go.RowKit Go.Proofs.YtbcidclclckgfaaGreatDoorW.PrintWords Go.Proofs.YtbcidclclckgfaaGreatDoorW.PrintLast Go.Proofs.YtbcidclclckgfaaGreatDoorW.PrintMore
attribute [local go_sem] max2_int min2_int max_two min_two max_three min_three max_four min_four   -- for this text's walks alone
set_option linter.unusedVariables false
set_option linter.unusedSimpArgs false

/-! ### spec_l06Clean: function 97 -/
mutual
def spec_l06Clean.l0 : Nat → List (S57) → Int → List (S57) → List (S59) → List (S59) → List ByteArray → Int → Int → Option ((List (S57)) × (List (S59)) × (List (S59)) × List ByteArray × Int × Int)
 | 0, _, _, _, _, _, _, _, _ => none
 | k + 1, x3, x4, x305000, x305001, x305002, x305003, x305004, x305005 => if x4 < (x305000.length : Int) then (spec_l06Clean.l1 k x3 x4 false 0 x305000 x305001 x305002 x305003 x305004 x305005) else (some (x3, x305001, x305002, x305003, x305004, x305005))
def spec_l06Clean.l1 : Nat → List (S57) → Int → Bool → Int → List (S57) → List (S59) → List (S59) → List ByteArray → Int → Int → Option ((List (S57)) × (List (S59)) × (List (S59)) × List ByteArray × Int × Int)
 | 0, _, _, _, _, _, _, _, _, _, _ => none
 | k + 1, x3, x4, x5, x6, x305000, x305001, x305002, x305003, x305004, x305005 => if x6 ≤ (x305003.length : Int) then (spec_l06Clean.j2 k x3 x4 x5 x6 (!x5) x305000 x305001 x305002 x305003 x305004 x305005) else (spec_l06Clean.j2 k x3 x4 x5 x6 false x305000 x305001 x305002 x305003 x305004 x305005)
def spec_l06Clean.j2 : Nat → List (S57) → Int → Bool → Int → Bool → List (S57) → List (S59) → List (S59) → List ByteArray → Int → Int → Option ((List (S57)) × (List (S59)) × (List (S59)) × List ByteArray × Int × Int)
 | 0, _, _, _, _, _, _, _, _, _, _, _ => none
 | k + 1, x3, x4, x5, x6, x26, x305000, x305001, x305002, x305003, x305004, x305005 => if x26 = true then ((spec_StepsDone.f k x305002 x305003 x6).bind fun bt313 => (spec_l06Clean.l2 k x3 x4 x5 x6 bt313.1 0 x305000 x305001 x305002 x305003 x305004 x305005)) else (if x5 = true then (if 0 ≤ x4 then (if x4 < (x305000.length : Int) then (if x3.length < 4398046511104 then (spec_l06Clean.l0 k (x3 ++ [(⟨(rd_T57 x305000 x4).f0, (rd_T57 x305000 x4).f1, (rd_T57 x305000 x4).f2⟩ : S57)]) (wrap64 (x4 + 1)) x305000 x305001 x305002 x305003 x305004 x305005) else (none)) else (none)) else (none)) else (spec_l06Clean.l0 k x3 (wrap64 (x4 + 1)) x305000 x305001 x305002 x305003 x305004 x305005))
def spec_l06Clean.l2 : Nat → List (S57) → Int → Bool → Int → List (S59) → Int → List (S57) → List (S59) → List (S59) → List ByteArray → Int → Int → Option ((List (S57)) × (List (S59)) × (List (S59)) × List ByteArray × Int × Int)
 | 0, _, _, _, _, _, _, _, _, _, _, _, _ => none
 | k + 1, x3, x4, x5, x6, x7, x9, x305000, x305001, x305002, x305003, x305004, x305005 => if x9 < (x7.length : Int) then (if x5 = true then (spec_l06Clean.l2 k x3 x4 true x6 x7 (wrap64 (x9 + 1)) x305000 x305001 x305002 x305003 x305004 x305005) else (if 0 ≤ x9 then (if 0 ≤ x4 then (if x4 < (x305000.length : Int) then (spec_l06Clean.l2 k x3 x4 (((rd_T59 x7 x9).f1) == ((rd_T57 x305000 x4).f0)) x6 x7 (wrap64 (x9 + 1)) x305000 x305001 x305002 x305003 x305004 x305005) else (none)) else (none)) else (none))) else (spec_l06Clean.l1 k x3 x4 x5 (wrap64 (x6 + 1)) x305000 x305001 x305002 x305003 x305004 x305005)
end
def spec_l06Clean.f (k : Nat) (l0_0 : List (S57)) (l0_1 : List (S59)) (l0_2 : List (S59)) (l0_3 : List ByteArray) (a0_4 : Int) (a0_5 : Int) : Option ((List (S57)) × (List (S59)) × (List (S59)) × List ByteArray × Int × Int) := spec_l06Clean.l0 k (([] : List (S57))) 0 l0_0 l0_1 l0_2 l0_3 a0_4 a0_5
theorem spec_l06Clean.mono_l : ∀ k, (∀ y0 y1 y2 y3 y4 y5 y6 y7, LeO (spec_l06Clean.l0 k y0 y1 y2 y3 y4 y5 y6 y7) (spec_l06Clean.l0 (k + 1) y0 y1 y2 y3 y4 y5 y6 y7)) ∧ (∀ y0 y1 y2 y3 y4 y5 y6 y7 y8 y9, LeO (spec_l06Clean.l1 k y0 y1 y2 y3 y4 y5 y6 y7 y8 y9) (spec_l06Clean.l1 (k + 1) y0 y1 y2 y3 y4 y5 y6 y7 y8 y9)) ∧ (∀ y0 y1 y2 y3 y4 y5 y6 y7 y8 y9 y10, LeO (spec_l06Clean.j2 k y0 y1 y2 y3 y4 y5 y6 y7 y8 y9 y10) (spec_l06Clean.j2 (k + 1) y0 y1 y2 y3 y4 y5 y6 y7 y8 y9 y10)) ∧ (∀ y0 y1 y2 y3 y4 y5 y6 y7 y8 y9 y10 y11, LeO (spec_l06Clean.l2 k y0 y1 y2 y3 y4 y5 y6 y7 y8 y9 y10 y11) (spec_l06Clean.l2 (k + 1) y0 y1 y2 y3 y4 y5 y6 y7 y8 y9 y10 y11))
 | 0 => ⟨fun _ _ _ _ _ _ _ _ r h => by simp [spec_l06Clean.l0] at h, fun _ _ _ _ _ _ _ _ _ _ r h => by simp [spec_l06Clean.l1] at h, fun _ _ _ _ _ _ _ _ _ _ _ r h => by simp [spec_l06Clean.j2] at h, fun _ _ _ _ _ _ _ _ _ _ _ _ r h => by simp [spec_l06Clean.l2] at h⟩
 | k + 1 => by
  obtain ⟨ih0, ih1, ih2, ih3⟩ := spec_l06Clean.mono_l k
  refine ⟨?_, ?_, ?_, ?_⟩
  ·intro y0 y1 y2 y3 y4 y5 y6 y7
   unfold spec_l06Clean.l0
   repeat' first | (with_reducible exact ih1 _ _ _ _ _ _ _ _ _ _) | (with_reducible exact LeO.refl _) | (with_reducible refine LeO.ite ?_ ?_)
  ·intro y0 y1 y2 y3 y4 y5 y6 y7 y8 y9
   unfold spec_l06Clean.l1
   repeat' first | (with_reducible exact ih2 _ _ _ _ _ _ _ _ _ _ _) | (with_reducible refine LeO.ite ?_ ?_)
  ·intro y0 y1 y2 y3 y4 y5 y6 y7 y8 y9 y10
   unfold spec_l06Clean.j2
   repeat' first | (with_reducible exact ih0 _ _ _ _ _ _ _ _) | (with_reducible exact ih3 _ _ _ _ _ _ _ _ _ _ _ _) | (with_reducible exact spec_StepsDone.mono _ _ _ _) | (with_reducible exact LeO.refl _) | (with_reducible refine LeO.ite ?_ ?_) | (with_reducible refine LeO.bind ?_ (fun _ => ?_))
  ·intro y0 y1 y2 y3 y4 y5 y6 y7 y8 y9 y10 y11
   unfold spec_l06Clean.l2
   repeat' first | (with_reducible exact ih1 _ _ _ _ _ _ _ _ _ _) | (with_reducible exact ih3 _ _ _ _ _ _ _ _ _ _ _ _) | (with_reducible exact LeO.refl _) | (with_reducible refine LeO.ite ?_ ?_)
theorem spec_l06Clean.mono : ∀ a0 a1 a2 a3 a4 a5 k, LeO (spec_l06Clean.f k a0 a1 a2 a3 a4 a5) (spec_l06Clean.f (k + 1) a0 a1 a2 a3 a4 a5) := by
 intro a0 a1 a2 a3 a4 a5 k
 obtain ⟨ih0, ih1, ih2, ih3⟩ := spec_l06Clean.mono_l k
 unfold spec_l06Clean.f
 repeat' (with_reducible exact ih0 _ _ _ _ _ _ _ _)
set_option maxHeartbeats 8000000 in
set_option maxRecDepth 100000 in
theorem spec_l06Clean.calls (k : Nat) (A0_0 : Option Addr) (c0_0 : Nat) (l0_0 : List (S57)) (P0_1_ : Nat → Prop) (u9000_ : Value) (l0_1 : List (S59)) (P0_2_ : Nat → Prop) (u9001_ : Value) (l0_2 : List (S59)) (P0_3_ : Nat → Prop) (u9002_ : Value) (l0_3 : List ByteArray) (a0_4 : Int) (a0_5 : Int) (r1 : List (S57)) (r2 : List (S59)) (r3 : List (S59)) (r4 : List ByteArray) (r5 : Int) (r6 : Int) (w0 w : World) (hB : Below w0.heap.size w0 w) (hr0_0 : ∀ W_, Kept w W_ (fun k_ => P0_1_ k_ ∨ P0_2_ k_ ∨ P0_3_ k_) → Kd.C k57 W_ A0_0 l0_0.length l0_0) (hc0_0 : l0_0.length ≤ c0_0) (ho0_1 : Kd.R k59 59 w w0.heap.size P0_1_ u9000_ l0_1) (hp0_1_0_2 : ∀ k_, P0_1_ k_ → ¬ P0_2_ k_) (ho0_2 : Kd.R k59 59 w w0.heap.size P0_2_ u9001_ l0_2) (hp0_2_0_1 : ∀ k_, P0_2_ k_ → ¬ P0_1_ k_) (ho0_3 : Kd.R Kd.string 9 w w0.heap.size P0_3_ u9002_ l0_3) (h : spec_l06Clean.f k l0_0 l0_1 l0_2 l0_3 a0_4 a0_5 = some (r1, r2, r3, r4, r5, r6)) :
  Calls Tryz.prog 97 #[.agg #[.slice A0_0 l0_0.length c0_0, u9000_, u9001_, u9002_, .int .i64 a0_4, .int .i64 a0_5]] w fun e w' => ∃ v0_ v1_ v2_ v3_ : Value, e = .returned (.agg #[v0_, v1_, v2_, v3_, .int .i64 r5, .int .i64 r6]) ∧ Kd.R k57 57 w' w0.heap.size (fun k_ => ((P0_1_ k_ ∨ P0_2_ k_ ∨ P0_3_ k_) ∨ w.heap.size ≤ k_)) v0_ r1 ∧ Kd.R k59 59 w' w0.heap.size (fun k_ => ((P0_1_ k_ ∨ P0_2_ k_ ∨ P0_3_ k_) ∨ w.heap.size ≤ k_) ∧ some k_ ≠ (v2_ : Value).ownBlock) v1_ r2 ∧ Kd.R k59 59 w' w0.heap.size (fun k_ => ((P0_1_ k_ ∨ P0_2_ k_ ∨ P0_3_ k_) ∨ w.heap.size ≤ k_) ∧ some k_ ≠ (v1_ : Value).ownBlock) v2_ r3 ∧ Kd.R Kd.string 9 w' w0.heap.size (fun k_ => ((P0_1_ k_ ∨ P0_2_ k_ ∨ P0_3_ k_) ∨ w.heap.size ≤ k_)) v3_ r4 ∧ Below w0.heap.size w0 w' ∧ Kept w w' (fun k_ => P0_1_ k_ ∨ P0_2_ k_ ∨ P0_3_ k_) := by
 have HR0_0 := Aside0.mk hr0_0
 clear hr0_0 hc0_0
 have HO0_1 := Aside0.mk (show Kd.R k59 59 w w0.heap.size (fun k_ => ((P0_1_ k_ ∨ P0_2_ k_ ∨ P0_3_ k_) ∨ w.heap.size ≤ k_) ∧ some k_ ≠ (u9001_ : Value).ownBlock) u9000_ l0_1 from Kd.R_mono ho0_1 (fun k_ hk => ⟨(.inl (.inl hk)), fun e_ => hp0_1_0_2 k_ hk (ho0_2.1 k_ e_.symm)⟩))
 have HO0_2 := Aside0.mk (show Kd.R k59 59 w w0.heap.size (fun k_ => ((P0_1_ k_ ∨ P0_2_ k_ ∨ P0_3_ k_) ∨ w.heap.size ≤ k_) ∧ some k_ ≠ (u9000_ : Value).ownBlock) u9001_ l0_2 from Kd.R_mono ho0_2 (fun k_ hk => ⟨(.inl (.inr (.inl hk))), fun e_ => hp0_2_0_1 k_ hk (ho0_1.1 k_ e_.symm)⟩))
 have HO0_3 := Aside0.mk (show Kd.R Kd.string 9 w w0.heap.size (fun k_ => ((P0_1_ k_ ∨ P0_2_ k_ ∨ P0_3_ k_) ∨ w.heap.size ≤ k_)) u9002_ l0_3 from Kd.R_mono ho0_3 (fun k_ hk => (.inl (.inr (.inr hk)))))
 have HK := Aside0.mk (Kept.refl w (fun k_ => P0_1_ k_ ∨ P0_2_ k_ ∨ P0_3_ k_))
 have HB := Aside0.mk hB
 clear hB
 have H : (spec_l06Clean.l0 k (([] : List (S57))) 0 l0_0 l0_1 l0_2 l0_3 a0_4 a0_5) = some (r1, r2, r3, r4, r5, r6) := h
 clear h
 obtain ⟨y306, hy306⟩ : ∃ y_ : List (S57), y_ = (([] : List (S57))) := ⟨_, rfl⟩
 replace H : (spec_l06Clean.l0 k y306 0 l0_0 l0_1 l0_2 l0_3 a0_4 a0_5) = some (r1, r2, r3, r4, r5, r6) := by (rw [hy306]; with_reducible exact H)
 have Ny306 := Aside0.mk hy306
 clear hy306
 have H' := Aside0.mk H
 clear H
 obtain ⟨Ao2, co2, eo2⟩ := Kd.R_slice HO0_1.out
 subst eo2
 obtain ⟨Ao3, co3, eo3⟩ := Kd.R_slice HO0_2.out
 subst eo3
 obtain ⟨Ao4, co4, eo4⟩ := Kd.R_slice HO0_3.out
 subst eo4
 go_enter Tryz.func97, Tryz.ntmps97
 go_wp2_with (first | ((with_reducible refine gate_dst (N := 1) rfl ?_); refine box_event ?hg (N := 1) ?hd (cs := #[.slice A0_0 l0_0.length c0_0, .slice Ao2 l0_1.length co2, .slice Ao3 l0_2.length co3, .slice Ao4 l0_3.length co4, .int .i64 a0_4, .int .i64 a0_5]) (t := 32) ?hr ?_; (case hd => rfl); (case hg => rfl); (case hr => (go_simp; done)); intro gb304 hg w5 hbox hb; have BK304 := Aside0.mk (hbox); have GW304 := Aside0.mk (by rw [hg]; exact HK.out.1 : w.heap.size ≤ gb304); have GE304 := Aside0.mk ((by rw [hg]; exact (below_size HB.out) : w0.heap.size ≤ gb304)); replace HO0_1 := Aside0.mk (Kd.R_below HO0_1.out hb); replace HO0_2 := Aside0.mk (Kd.R_below HO0_2.out hb); replace HO0_3 := Aside0.mk (Kd.R_below HO0_3.out hb); replace HK := Aside0.mk (Kept.below (S := (fun k_ => P0_1_ k_ ∨ P0_2_ k_ ∨ P0_3_ k_)) HK.out hb); replace HB := Aside0.mk (below_step HB.out hb); clear hb hbox hg) | ((with_reducible refine gate_dst (N := 2) rfl ?_); refine box_event ?hg (N := 2) ?hd (cs := #[.slice none 0 0, .slice none 0 0, .slice none 0 0, .slice none 0 0, .int .i64 0, .int .i64 0]) (t := 32) ?hr ?_; (case hd => rfl); (case hg => rfl); (case hr => (go_simp; done)); intro gb305 hg w6 hbox hb; have BK305 := Aside0.mk (hbox); have GW305 := Aside0.mk (by rw [hg]; exact HK.out.1 : w.heap.size ≤ gb305); have GE305 := Aside0.mk ((by rw [hg]; exact (below_size HB.out) : w0.heap.size ≤ gb305)); have NB305_304 := Aside0.mk ((by rw [hg]; exact Nat.ne_of_gt (blk_lt BK304.out) : gb305 ≠ gb304)); replace HO0_1 := Aside0.mk (Kd.R_below HO0_1.out hb); replace HO0_2 := Aside0.mk (Kd.R_below HO0_2.out hb); replace HO0_3 := Aside0.mk (Kd.R_below HO0_3.out hb); replace BK304 := Aside0.mk (bB hb BK304.out); replace HK := Aside0.mk (Kept.below (S := (fun k_ => P0_1_ k_ ∨ P0_2_ k_ ∨ P0_3_ k_)) HK.out hb); replace HB := Aside0.mk (below_step HB.out hb); clear hb hbox hg) | ((with_reducible refine gate_dst (N := 10) rfl ?_); refine Kd.R_lit k57 _ 57 ?hg (N := 10) ?hd (xs := ([] : List (S57))) (inner := []) (ok := fun _ => True) (okp := fun _ => True) ?hr ?hp (fun _ hk => hk) trivial (Below.refl _ _) (Nat.le_refl _) (by simp) ?_; (case hd => rfl); (case hg => rfl); (case hr => (go_simp; done)); (case hp => exact (Reps.none _ _)); intro v307 w7 ho8 hb hg_ hnew_; clear hg_ hnew_; (rw [← Ny306.out] at ho8); have HO308 := Aside0.mk (Kd.R_lower (Kd.R_newM (M := fun k_ => ((P0_1_ k_ ∨ P0_2_ k_ ∨ P0_3_ k_) ∨ w.heap.size ≤ k_)) ho8 HK.out.1 (fun k_ h_ => .inr h_)) (below_size HB.out)); replace HO0_1 := Aside0.mk (Kd.R_below HO0_1.out hb); replace HO0_2 := Aside0.mk (Kd.R_below HO0_2.out hb); replace HO0_3 := Aside0.mk (Kd.R_below HO0_3.out hb); replace BK304 := Aside0.mk (bB hb BK304.out); replace BK305 := Aside0.mk (bB hb BK305.out); replace HK := Aside0.mk (Kept.below (S := (fun k_ => P0_1_ k_ ∨ P0_2_ k_ ∨ P0_3_ k_)) HK.out hb); replace HB := Aside0.mk (below_step HB.out hb); clear hb ho8))
 repeat (go_quiet (first | ((with_reducible refine gate_dst (N := 1) rfl ?_); refine box_event ?hg (N := 1) ?hd (cs := #[.slice A0_0 l0_0.length c0_0, .slice Ao2 l0_1.length co2, .slice Ao3 l0_2.length co3, .slice Ao4 l0_3.length co4, .int .i64 a0_4, .int .i64 a0_5]) (t := 32) ?hr ?_; (case hd => rfl); (case hg => rfl); (case hr => first | (go_simp; done) | (go_simp; rfl)); intro gb304 hg w5 hbox hb; have BK304 := Aside0.mk (hbox); have GW304 := Aside0.mk ((by rw [hg]; exact (by first | exact HK.out.1 | exact (show Kept w _ (fun k_ => P0_1_ k_ ∨ P0_2_ k_ ∨ P0_3_ k_) from by repeat (first | (with_reducible first | exact HK.out | apply Kept.alloc | apply Kept.drewN | apply Kept.drew) | exact HK.out)).1) : w.heap.size ≤ gb304)); have GE304 := Aside0.mk ((by rw [hg]; exact (below_size (by repeat (first | (with_reducible first | exact HB.out | apply below_alloc | apply pw_below_drewN | apply below_drew1) | exact HB.out))) : w0.heap.size ≤ gb304)); replace HO0_1 := Aside0.mk (Kd.R_below (by (with_reducible repeat (first | apply Kd.R_alloc | apply Kd.R_drewN | apply Kd.R_drew)); exact HO0_1.out) hb); replace HO0_2 := Aside0.mk (Kd.R_below (by (with_reducible repeat (first | apply Kd.R_alloc | apply Kd.R_drewN | apply Kd.R_drew)); exact HO0_2.out) hb); replace HO0_3 := Aside0.mk (Kd.R_below (by (with_reducible repeat (first | apply Kd.R_alloc | apply Kd.R_drewN | apply Kd.R_drew)); exact HO0_3.out) hb); replace HK := Aside0.mk (Kept.below (S := (fun k_ => P0_1_ k_ ∨ P0_2_ k_ ∨ P0_3_ k_)) (by repeat (first | (with_reducible first | exact HK.out | apply Kept.alloc | apply Kept.drewN | apply Kept.drew) | exact HK.out)) hb); replace HB := Aside0.mk (below_step (by repeat (first | (with_reducible first | exact HB.out | apply below_alloc | apply pw_below_drewN | apply below_drew1) | exact HB.out)) hb); clear hb hbox hg) | ((with_reducible refine gate_dst (N := 2) rfl ?_); refine box_event ?hg (N := 2) ?hd (cs := #[.slice none 0 0, .slice none 0 0, .slice none 0 0, .slice none 0 0, .int .i64 0, .int .i64 0]) (t := 32) ?hr ?_; (case hd => rfl); (case hg => rfl); (case hr => first | (go_simp; done) | (go_simp; rfl)); intro gb305 hg w6 hbox hb; have BK305 := Aside0.mk (hbox); have GW305 := Aside0.mk ((by rw [hg]; exact (by first | exact HK.out.1 | exact (show Kept w _ (fun k_ => P0_1_ k_ ∨ P0_2_ k_ ∨ P0_3_ k_) from by repeat (first | (with_reducible first | exact HK.out | apply Kept.alloc | apply Kept.drewN | apply Kept.drew | refine Kept.setCell ?_ (.inr GW304.out) _) | exact HK.out)).1) : w.heap.size ≤ gb305)); have GE305 := Aside0.mk ((by rw [hg]; exact (below_size (by repeat (first | (with_reducible first | exact HB.out | apply below_alloc | apply pw_below_drewN | apply below_drew1 | refine below_set ?_ GE304.out) | exact HB.out))) : w0.heap.size ≤ gb305)); have NB305_304 := Aside0.mk ((by rw [hg]; exact Nat.ne_of_gt (blk_lt (by (with_reducible repeat (first | refine blk_drewN ?_ _ | refine blk_drew ?_ | refine blk_alloc ?_ _)); exact BK304.out)) : gb305 ≠ gb304)); replace HO0_1 := Aside0.mk (Kd.R_below (by (with_reducible repeat (first | apply Kd.R_alloc | apply Kd.R_drewN | apply Kd.R_drew)); exact HO0_1.out) hb); replace HO0_2 := Aside0.mk (Kd.R_below (by (with_reducible repeat (first | apply Kd.R_alloc | apply Kd.R_drewN | apply Kd.R_drew)); exact HO0_2.out) hb); replace HO0_3 := Aside0.mk (Kd.R_below (by (with_reducible repeat (first | apply Kd.R_alloc | apply Kd.R_drewN | apply Kd.R_drew)); exact HO0_3.out) hb); replace BK304 := Aside0.mk (blk_below (g := gb304) (o := .cells #[.slice A0_0 l0_0.length c0_0, .slice Ao2 l0_1.length co2, .slice Ao3 l0_2.length co3, .slice Ao4 l0_3.length co4, .int .i64 a0_4, .int .i64 a0_5] 32 (0, 0)) (by (with_reducible repeat (first | refine blk_drewN ?_ _ | refine blk_drew ?_ | refine blk_alloc ?_ _)); exact BK304.out) hb); replace HK := Aside0.mk (Kept.below (S := (fun k_ => P0_1_ k_ ∨ P0_2_ k_ ∨ P0_3_ k_)) (by repeat (first | (with_reducible first | exact HK.out | apply Kept.alloc | apply Kept.drewN | apply Kept.drew | refine Kept.setCell ?_ (.inr GW304.out) _) | exact HK.out)) hb); replace HB := Aside0.mk (below_step (by repeat (first | (with_reducible first | exact HB.out | apply below_alloc | apply pw_below_drewN | apply below_drew1 | refine below_set ?_ GE304.out) | exact HB.out)) hb); clear hb hbox hg) | ((with_reducible refine gate_dst (N := 10) rfl ?_); refine Kd.R_lit k57 _ 57 ?hg (N := 10) ?hd (xs := ([] : List (S57))) (inner := []) (ok := fun _ => True) (okp := fun _ => True) ?hr ?hp (fun _ hk => hk) trivial (Below.refl _ _) (Nat.le_refl _) (by simp) ?_; (case hd => rfl); (case hg => rfl); (case hr => first | (go_simp; done) | (go_simp; rfl) | (simp only [ByteArray.size_append, Int.natCast_add]; go_simp; done) | (simp only [ByteArray.size_append, Int.natCast_add]; go_simp; unfold wrap64; (repeat (first | with_reducible rfl | omega | with_reducible congr 1)); done)); (case hp => exact (Reps.none _ _)); intro v307 w7 ho8 hb hg_ hnew_; clear hg_ hnew_; (first | rw [← Ny306.out] at ho8 | (simp only [Int.reduceToNat] at ho8; rw [← Ny306.out] at ho8)); have HO308 := Aside0.mk (Kd.R_lower (Kd.R_newM (M := fun k_ => ((P0_1_ k_ ∨ P0_2_ k_ ∨ P0_3_ k_) ∨ w.heap.size ≤ k_)) ho8 (by first | exact HK.out.1 | exact (show Kept w _ (fun k_ => P0_1_ k_ ∨ P0_2_ k_ ∨ P0_3_ k_) from by repeat (first | (with_reducible first | exact HK.out | apply Kept.alloc | apply Kept.drewN | apply Kept.drew | refine Kept.setCell ?_ (.inr GW304.out) _ | refine Kept.setCell ?_ (.inr GW305.out) _) | exact HK.out)).1) (fun k_ h_ => .inr h_)) (below_size (by repeat (first | (with_reducible first | exact HB.out | apply below_alloc | apply pw_below_drewN | apply below_drew1 | refine below_set ?_ GE304.out | refine below_set ?_ GE305.out) | exact HB.out)))); replace HO0_1 := Aside0.mk (Kd.R_below (by (with_reducible repeat (first | apply Kd.R_alloc | apply Kd.R_drewN | apply Kd.R_drew)); exact HO0_1.out) hb); replace HO0_2 := Aside0.mk (Kd.R_below (by (with_reducible repeat (first | apply Kd.R_alloc | apply Kd.R_drewN | apply Kd.R_drew)); exact HO0_2.out) hb); replace HO0_3 := Aside0.mk (Kd.R_below (by (with_reducible repeat (first | apply Kd.R_alloc | apply Kd.R_drewN | apply Kd.R_drew)); exact HO0_3.out) hb); replace BK304 := Aside0.mk (blk_below (g := gb304) (o := .cells #[.slice A0_0 l0_0.length c0_0, .slice Ao2 l0_1.length co2, .slice Ao3 l0_2.length co3, .slice Ao4 l0_3.length co4, .int .i64 a0_4, .int .i64 a0_5] 32 (0, 0)) (by (with_reducible repeat (first | refine blk_drewN ?_ _ | refine blk_drew ?_ | refine blk_alloc ?_ _)); exact BK304.out) hb); replace BK305 := Aside0.mk (blk_below (g := gb305) (o := .cells #[.slice none 0 0, .slice none 0 0, .slice none 0 0, .slice none 0 0, .int .i64 0, .int .i64 0] 32 (0, 0)) (by (with_reducible repeat (first | refine blk_drewN ?_ _ | refine blk_drew ?_ | refine blk_alloc ?_ _)); exact BK305.out) hb); replace HK := Aside0.mk (Kept.below (S := (fun k_ => P0_1_ k_ ∨ P0_2_ k_ ∨ P0_3_ k_)) (by repeat (first | (with_reducible first | exact HK.out | apply Kept.alloc | apply Kept.drewN | apply Kept.drew | refine Kept.setCell ?_ (.inr GW304.out) _ | refine Kept.setCell ?_ (.inr GW305.out) _) | exact HK.out)) hb); replace HB := Aside0.mk (below_step (by repeat (first | (with_reducible first | exact HB.out | apply below_alloc | apply pw_below_drewN | apply below_drew1 | refine below_set ?_ GE304.out | refine below_set ?_ GE305.out) | exact HB.out)) hb); clear hb ho8)); try go_wp2_with (first | ((with_reducible refine gate_dst (N := 1) rfl ?_); refine box_event ?hg (N := 1) ?hd (cs := #[.slice A0_0 l0_0.length c0_0, .slice Ao2 l0_1.length co2, .slice Ao3 l0_2.length co3, .slice Ao4 l0_3.length co4, .int .i64 a0_4, .int .i64 a0_5]) (t := 32) ?hr ?_; (case hd => rfl); (case hg => rfl); (case hr => first | (go_simp; done) | (go_simp; rfl)); intro gb304 hg w5 hbox hb; have BK304 := Aside0.mk (hbox); have GW304 := Aside0.mk ((by rw [hg]; exact (by first | exact HK.out.1 | exact (show Kept w _ (fun k_ => P0_1_ k_ ∨ P0_2_ k_ ∨ P0_3_ k_) from by repeat (first | (with_reducible first | exact HK.out | apply Kept.alloc | apply Kept.drewN | apply Kept.drew) | exact HK.out)).1) : w.heap.size ≤ gb304)); have GE304 := Aside0.mk ((by rw [hg]; exact (below_size (by repeat (first | (with_reducible first | exact HB.out | apply below_alloc | apply pw_below_drewN | apply below_drew1) | exact HB.out))) : w0.heap.size ≤ gb304)); replace HO0_1 := Aside0.mk (Kd.R_below (by (with_reducible repeat (first | apply Kd.R_alloc | apply Kd.R_drewN | apply Kd.R_drew)); exact HO0_1.out) hb); replace HO0_2 := Aside0.mk (Kd.R_below (by (with_reducible repeat (first | apply Kd.R_alloc | apply Kd.R_drewN | apply Kd.R_drew)); exact HO0_2.out) hb); replace HO0_3 := Aside0.mk (Kd.R_below (by (with_reducible repeat (first | apply Kd.R_alloc | apply Kd.R_drewN | apply Kd.R_drew)); exact HO0_3.out) hb); replace HK := Aside0.mk (Kept.below (S := (fun k_ => P0_1_ k_ ∨ P0_2_ k_ ∨ P0_3_ k_)) (by repeat (first | (with_reducible first | exact HK.out | apply Kept.alloc | apply Kept.drewN | apply Kept.drew) | exact HK.out)) hb); replace HB := Aside0.mk (below_step (by repeat (first | (with_reducible first | exact HB.out | apply below_alloc | apply pw_below_drewN | apply below_drew1) | exact HB.out)) hb); clear hb hbox hg) | ((with_reducible refine gate_dst (N := 2) rfl ?_); refine box_event ?hg (N := 2) ?hd (cs := #[.slice none 0 0, .slice none 0 0, .slice none 0 0, .slice none 0 0, .int .i64 0, .int .i64 0]) (t := 32) ?hr ?_; (case hd => rfl); (case hg => rfl); (case hr => first | (go_simp; done) | (go_simp; rfl)); intro gb305 hg w6 hbox hb; have BK305 := Aside0.mk (hbox); have GW305 := Aside0.mk ((by rw [hg]; exact (by first | exact HK.out.1 | exact (show Kept w _ (fun k_ => P0_1_ k_ ∨ P0_2_ k_ ∨ P0_3_ k_) from by repeat (first | (with_reducible first | exact HK.out | apply Kept.alloc | apply Kept.drewN | apply Kept.drew | refine Kept.setCell ?_ (.inr GW304.out) _) | exact HK.out)).1) : w.heap.size ≤ gb305)); have GE305 := Aside0.mk ((by rw [hg]; exact (below_size (by repeat (first | (with_reducible first | exact HB.out | apply below_alloc | apply pw_below_drewN | apply below_drew1 | refine below_set ?_ GE304.out) | exact HB.out))) : w0.heap.size ≤ gb305)); have NB305_304 := Aside0.mk ((by rw [hg]; exact Nat.ne_of_gt (blk_lt (by (with_reducible repeat (first | refine blk_drewN ?_ _ | refine blk_drew ?_ | refine blk_alloc ?_ _)); exact BK304.out)) : gb305 ≠ gb304)); replace HO0_1 := Aside0.mk (Kd.R_below (by (with_reducible repeat (first | apply Kd.R_alloc | apply Kd.R_drewN | apply Kd.R_drew)); exact HO0_1.out) hb); replace HO0_2 := Aside0.mk (Kd.R_below (by (with_reducible repeat (first | apply Kd.R_alloc | apply Kd.R_drewN | apply Kd.R_drew)); exact HO0_2.out) hb); replace HO0_3 := Aside0.mk (Kd.R_below (by (with_reducible repeat (first | apply Kd.R_alloc | apply Kd.R_drewN | apply Kd.R_drew)); exact HO0_3.out) hb); replace BK304 := Aside0.mk (blk_below (g := gb304) (o := .cells #[.slice A0_0 l0_0.length c0_0, .slice Ao2 l0_1.length co2, .slice Ao3 l0_2.length co3, .slice Ao4 l0_3.length co4, .int .i64 a0_4, .int .i64 a0_5] 32 (0, 0)) (by (with_reducible repeat (first | refine blk_drewN ?_ _ | refine blk_drew ?_ | refine blk_alloc ?_ _)); exact BK304.out) hb); replace HK := Aside0.mk (Kept.below (S := (fun k_ => P0_1_ k_ ∨ P0_2_ k_ ∨ P0_3_ k_)) (by repeat (first | (with_reducible first | exact HK.out | apply Kept.alloc | apply Kept.drewN | apply Kept.drew | refine Kept.setCell ?_ (.inr GW304.out) _) | exact HK.out)) hb); replace HB := Aside0.mk (below_step (by repeat (first | (with_reducible first | exact HB.out | apply below_alloc | apply pw_below_drewN | apply below_drew1 | refine below_set ?_ GE304.out) | exact HB.out)) hb); clear hb hbox hg) | ((with_reducible refine gate_dst (N := 10) rfl ?_); refine Kd.R_lit k57 _ 57 ?hg (N := 10) ?hd (xs := ([] : List (S57))) (inner := []) (ok := fun _ => True) (okp := fun _ => True) ?hr ?hp (fun _ hk => hk) trivial (Below.refl _ _) (Nat.le_refl _) (by simp) ?_; (case hd => rfl); (case hg => rfl); (case hr => first | (go_simp; done) | (go_simp; rfl) | (simp only [ByteArray.size_append, Int.natCast_add]; go_simp; done) | (simp only [ByteArray.size_append, Int.natCast_add]; go_simp; unfold wrap64; (repeat (first | with_reducible rfl | omega | with_reducible congr 1)); done)); (case hp => exact (Reps.none _ _)); intro v307 w7 ho8 hb hg_ hnew_; clear hg_ hnew_; (first | rw [← Ny306.out] at ho8 | (simp only [Int.reduceToNat] at ho8; rw [← Ny306.out] at ho8)); have HO308 := Aside0.mk (Kd.R_lower (Kd.R_newM (M := fun k_ => ((P0_1_ k_ ∨ P0_2_ k_ ∨ P0_3_ k_) ∨ w.heap.size ≤ k_)) ho8 (by first | exact HK.out.1 | exact (show Kept w _ (fun k_ => P0_1_ k_ ∨ P0_2_ k_ ∨ P0_3_ k_) from by repeat (first | (with_reducible first | exact HK.out | apply Kept.alloc | apply Kept.drewN | apply Kept.drew | refine Kept.setCell ?_ (.inr GW304.out) _ | refine Kept.setCell ?_ (.inr GW305.out) _) | exact HK.out)).1) (fun k_ h_ => .inr h_)) (below_size (by repeat (first | (with_reducible first | exact HB.out | apply below_alloc | apply pw_below_drewN | apply below_drew1 | refine below_set ?_ GE304.out | refine below_set ?_ GE305.out) | exact HB.out)))); replace HO0_1 := Aside0.mk (Kd.R_below (by (with_reducible repeat (first | apply Kd.R_alloc | apply Kd.R_drewN | apply Kd.R_drew)); exact HO0_1.out) hb); replace HO0_2 := Aside0.mk (Kd.R_below (by (with_reducible repeat (first | apply Kd.R_alloc | apply Kd.R_drewN | apply Kd.R_drew)); exact HO0_2.out) hb); replace HO0_3 := Aside0.mk (Kd.R_below (by (with_reducible repeat (first | apply Kd.R_alloc | apply Kd.R_drewN | apply Kd.R_drew)); exact HO0_3.out) hb); replace BK304 := Aside0.mk (blk_below (g := gb304) (o := .cells #[.slice A0_0 l0_0.length c0_0, .slice Ao2 l0_1.length co2, .slice Ao3 l0_2.length co3, .slice Ao4 l0_3.length co4, .int .i64 a0_4, .int .i64 a0_5] 32 (0, 0)) (by (with_reducible repeat (first | refine blk_drewN ?_ _ | refine blk_drew ?_ | refine blk_alloc ?_ _)); exact BK304.out) hb); replace BK305 := Aside0.mk (blk_below (g := gb305) (o := .cells #[.slice none 0 0, .slice none 0 0, .slice none 0 0, .slice none 0 0, .int .i64 0, .int .i64 0] 32 (0, 0)) (by (with_reducible repeat (first | refine blk_drewN ?_ _ | refine blk_drew ?_ | refine blk_alloc ?_ _)); exact BK305.out) hb); replace HK := Aside0.mk (Kept.below (S := (fun k_ => P0_1_ k_ ∨ P0_2_ k_ ∨ P0_3_ k_)) (by repeat (first | (with_reducible first | exact HK.out | apply Kept.alloc | apply Kept.drewN | apply Kept.drew | refine Kept.setCell ?_ (.inr GW304.out) _ | refine Kept.setCell ?_ (.inr GW305.out) _) | exact HK.out)) hb); replace HB := Aside0.mk (below_step (by repeat (first | (with_reducible first | exact HB.out | apply below_alloc | apply pw_below_drewN | apply below_drew1 | refine below_set ?_ GE304.out | refine below_set ?_ GE305.out) | exact HB.out)) hb); clear hb ho8)))
 go_loopg [3, 4] k (fun kq v3 v4 w' => ∃ (x3_1 : List (S57)) (x4_1 : Int), v4 = .int .i64 x4_1 ∧ Aside0 (spec_l06Clean.l0 kq x3_1 x4_1 l0_0 l0_1 l0_2 l0_3 a0_4 a0_5 = some (r1, r2, r3, r4, r5, r6)) ∧ Aside0 (kq ≤ k) ∧ Aside0 (Kd.R k57 57 w' w0.heap.size (fun k_ => ((P0_1_ k_ ∨ P0_2_ k_ ∨ P0_3_ k_) ∨ w.heap.size ≤ k_)) v3 x3_1) ∧ Aside0 (Kd.R k59 59 w' w0.heap.size (fun k_ => ((P0_1_ k_ ∨ P0_2_ k_ ∨ P0_3_ k_) ∨ w.heap.size ≤ k_) ∧ some k_ ≠ ((.slice Ao3 l0_2.length co3) : Value).ownBlock) (.slice Ao2 l0_1.length co2) l0_1) ∧ Aside0 (Kd.R k59 59 w' w0.heap.size (fun k_ => ((P0_1_ k_ ∨ P0_2_ k_ ∨ P0_3_ k_) ∨ w.heap.size ≤ k_) ∧ some k_ ≠ ((.slice Ao2 l0_1.length co2) : Value).ownBlock) (.slice Ao3 l0_2.length co3) l0_2) ∧ Aside0 (Kd.R Kd.string 9 w' w0.heap.size (fun k_ => ((P0_1_ k_ ∨ P0_2_ k_ ∨ P0_3_ k_) ∨ w.heap.size ≤ k_)) (.slice Ao4 l0_3.length co4) l0_3) ∧ Aside0 (w'.heap[gb304]? = some (.cells #[(.slice A0_0 l0_0.length c0_0), (.slice Ao2 l0_1.length co2), (.slice Ao3 l0_2.length co3), (.slice Ao4 l0_3.length co4), .int .i64 a0_4, .int .i64 a0_5] 32 (0, 0))) ∧ Aside0 (w'.heap[gb305]? = some (.cells #[(.slice none 0 0), (.slice none 0 0), (.slice none 0 0), (.slice none 0 0), .int .i64 0, .int .i64 0] 32 (0, 0))) ∧ Aside0 (Kept w w' (fun k_ => P0_1_ k_ ∨ P0_2_ k_ ∨ P0_3_ k_)) ∧ Aside0 (Below w0.heap.size w0 w'))
 case atStart => exact ⟨(y306), (0), (by rfl), H', ⟨Nat.le_refl _⟩, ⟨by exact Kd.R_mono HO308.out (fun _ hk => hk.1)⟩, ⟨by exact HO0_1.out⟩, ⟨by exact HO0_2.out⟩, ⟨by exact HO0_3.out⟩, ⟨by exact BK304.out⟩, ⟨by exact BK305.out⟩, ⟨by repeat (with_reducible exact HK.out)⟩, ⟨by repeat (with_reducible exact HB.out)⟩⟩
 case round =>
  clear H'
  try clear p2
  try clear p6
  obtain ⟨x3_1, x4_1, rfl, HA, HK1, HO_3, HO_305001, HO_305002, HO_305003, BK304, BK305, HK, HB⟩ := hrel
  cases gk with
  | zero => exact absurd HA.out (by simp [spec_l06Clean.l0])
  | succ k1 =>
   have H := HA.out
   clear HA
   simp only [spec_l06Clean.l0] at H
   by_cases c9 : x4_1 < (l0_0.length : Int)
   ·rw [if_pos c9] at H
    have c9b0 : decide (x4_1 < (l0_0.length : Int)) = true := decide_eq_true c9
    clear c9
    have H' := Aside0.mk H
    clear H
    have hcz11_0 : wr.cell? ⟨gb304, 0, none⟩ = some (.slice A0_0 l0_0.length c0_0) := (blk_cell BK304.out 0).trans rfl
    go_wp2
    repeat (go_quiet (fail); try go_wp2)
    go_loopg [5, 6] k1 (fun kq v5 v6 w' => ∃ (x5_2 : Bool) (x6_2 : Int), v5 = .bool x5_2 ∧ v6 = .int .i64 x6_2 ∧ Aside0 (spec_l06Clean.l1 kq x3_1 x4_1 x5_2 x6_2 l0_0 l0_1 l0_2 l0_3 a0_4 a0_5 = some (r1, r2, r3, r4, r5, r6)) ∧ Aside0 (kq ≤ k1) ∧ Aside0 (Kd.R k57 57 w' w0.heap.size (fun k_ => ((P0_1_ k_ ∨ P0_2_ k_ ∨ P0_3_ k_) ∨ w.heap.size ≤ k_)) u3 x3_1) ∧ Aside0 (Kd.R k59 59 w' w0.heap.size (fun k_ => ((P0_1_ k_ ∨ P0_2_ k_ ∨ P0_3_ k_) ∨ w.heap.size ≤ k_) ∧ some k_ ≠ ((.slice Ao3 l0_2.length co3) : Value).ownBlock) (.slice Ao2 l0_1.length co2) l0_1) ∧ Aside0 (Kd.R k59 59 w' w0.heap.size (fun k_ => ((P0_1_ k_ ∨ P0_2_ k_ ∨ P0_3_ k_) ∨ w.heap.size ≤ k_) ∧ some k_ ≠ ((.slice Ao2 l0_1.length co2) : Value).ownBlock) (.slice Ao3 l0_2.length co3) l0_2) ∧ Aside0 (Kd.R Kd.string 9 w' w0.heap.size (fun k_ => ((P0_1_ k_ ∨ P0_2_ k_ ∨ P0_3_ k_) ∨ w.heap.size ≤ k_)) (.slice Ao4 l0_3.length co4) l0_3) ∧ Aside0 (w'.heap[gb304]? = some (.cells #[(.slice A0_0 l0_0.length c0_0), (.slice Ao2 l0_1.length co2), (.slice Ao3 l0_2.length co3), (.slice Ao4 l0_3.length co4), .int .i64 a0_4, .int .i64 a0_5] 32 (0, 0))) ∧ Aside0 (w'.heap[gb305]? = some (.cells #[(.slice none 0 0), (.slice none 0 0), (.slice none 0 0), (.slice none 0 0), .int .i64 0, .int .i64 0] 32 (0, 0))) ∧ Aside0 (Kept w w' (fun k_ => P0_1_ k_ ∨ P0_2_ k_ ∨ P0_3_ k_)) ∧ Aside0 (Below w0.heap.size w0 w'))
    case atStart => exact ⟨(false), (0), (by rfl), (by rfl), H', ⟨Nat.le_refl _⟩, ⟨by exact HO_3.out⟩, ⟨by exact HO_305001.out⟩, ⟨by exact HO_305002.out⟩, ⟨by exact HO_305003.out⟩, ⟨by exact BK304.out⟩, ⟨by exact BK305.out⟩, ⟨by repeat (with_reducible exact HK.out)⟩, ⟨by repeat (with_reducible exact HB.out)⟩⟩
    case round =>
     clear H'
     try clear c1
     try clear p2
     try clear p6
     try clear c9
     try clear c9b0
     try clear c10
     try clear hcz11_0
     try skip
     try skip
     try skip
     try skip
     try skip
     try skip
     try skip
     try skip
     try skip
     try skip
     try skip
     try clear p2
     try clear p6
     obtain ⟨x5_2, x6_2, rfl, rfl, HA, HK2, HO_3, HO_305001, HO_305002, HO_305003, BK304, BK305, HK, HB⟩ := hrel
     cases gk with
     | zero => exact absurd HA.out (by simp [spec_l06Clean.l1])
     | succ k2 =>
      have H := HA.out
      clear HA
      simp only [spec_l06Clean.l1] at H
      have HC12 := Aside0.mk H
      clear H
      go_upto_region 7 with (fail)
      repeat (go_quiet (fail); go_upto_region 7 with (fail))
      go_cut [26] (fun v26 wc => ∃ (kq : Nat) (x26_11 : Bool), v26 = .bool x26_11 ∧ Aside0 (spec_l06Clean.j2 kq x3_1 x4_1 x5_2 x6_2 x26_11 l0_0 l0_1 l0_2 l0_3 a0_4 a0_5 = some (r1, r2, r3, r4, r5, r6)) ∧ Aside0 (kq ≤ k2) ∧ Aside0 (Kd.R k57 57 wc w0.heap.size (fun k_ => ((P0_1_ k_ ∨ P0_2_ k_ ∨ P0_3_ k_) ∨ w.heap.size ≤ k_)) u3 x3_1) ∧ Aside0 (Kd.R k59 59 wc w0.heap.size (fun k_ => ((P0_1_ k_ ∨ P0_2_ k_ ∨ P0_3_ k_) ∨ w.heap.size ≤ k_) ∧ some k_ ≠ ((.slice Ao3 l0_2.length co3) : Value).ownBlock) (.slice Ao2 l0_1.length co2) l0_1) ∧ Aside0 (Kd.R k59 59 wc w0.heap.size (fun k_ => ((P0_1_ k_ ∨ P0_2_ k_ ∨ P0_3_ k_) ∨ w.heap.size ≤ k_) ∧ some k_ ≠ ((.slice Ao2 l0_1.length co2) : Value).ownBlock) (.slice Ao3 l0_2.length co3) l0_2) ∧ Aside0 (Kd.R Kd.string 9 wc w0.heap.size (fun k_ => ((P0_1_ k_ ∨ P0_2_ k_ ∨ P0_3_ k_) ∨ w.heap.size ≤ k_)) (.slice Ao4 l0_3.length co4) l0_3) ∧ Aside0 (wc.heap[gb304]? = some (.cells #[(.slice A0_0 l0_0.length c0_0), (.slice Ao2 l0_1.length co2), (.slice Ao3 l0_2.length co3), (.slice Ao4 l0_3.length co4), .int .i64 a0_4, .int .i64 a0_5] 32 (0, 0))) ∧ Aside0 (wc.heap[gb305]? = some (.cells #[(.slice none 0 0), (.slice none 0 0), (.slice none 0 0), (.slice none 0 0), .int .i64 0, .int .i64 0] 32 (0, 0))) ∧ Aside0 (Kept w wc (fun k_ => P0_1_ k_ ∨ P0_2_ k_ ∨ P0_3_ k_)) ∧ Aside0 (Below w0.heap.size w0 wc))
      case first =>
       have H := HC12.out
       clear HC12
       by_cases c13 : x6_2 ≤ (l0_3.length : Int)
       ·rw [if_pos c13] at H
        have c13b0 : decide (x6_2 ≤ (l0_3.length : Int)) = true := decide_eq_true c13
        clear c13
        (skip)
        have H' := Aside0.mk H
        clear H
        have hcz15_3 : wr.cell? ⟨gb304, 3, none⟩ = some (.slice Ao4 l0_3.length co4) := (blk_cell BK304.out 3).trans rfl
        go_wp2
        repeat (go_quiet (fail); try go_wp2)
        go_meet
        case rel => exact ⟨_, (!x5_2), (by rfl), H', ⟨by have := HK1.out; have := HK2.out; omega⟩, ⟨by exact HO_3.out⟩, ⟨by exact HO_305001.out⟩, ⟨by exact HO_305002.out⟩, ⟨by exact HO_305003.out⟩, ⟨by exact BK304.out⟩, ⟨by exact BK305.out⟩, ⟨by repeat (with_reducible exact HK.out)⟩, ⟨by repeat (with_reducible exact HB.out)⟩⟩
       ·rw [if_neg c13] at H
        have c13b0 : decide (x6_2 ≤ (l0_3.length : Int)) = false := decide_eq_false c13
        clear c13
        (skip)
        have H' := Aside0.mk H
        clear H
        have hcz17_3 : wr.cell? ⟨gb304, 3, none⟩ = some (.slice Ao4 l0_3.length co4) := (blk_cell BK304.out 3).trans rfl
        go_wp2
        repeat (go_quiet (fail); try go_wp2)
        go_meet
        case rel => exact ⟨_, (false), (by rfl), H', ⟨by have := HK1.out; have := HK2.out; omega⟩, ⟨by exact HO_3.out⟩, ⟨by exact HO_305001.out⟩, ⟨by exact HO_305002.out⟩, ⟨by exact HO_305003.out⟩, ⟨by exact BK304.out⟩, ⟨by exact BK305.out⟩, ⟨by repeat (with_reducible exact HK.out)⟩, ⟨by repeat (with_reducible exact HB.out)⟩⟩
      case rest =>
       clear HC12
       try clear c1
       try clear p2
       try clear p6
       try clear c9
       try clear c9b0
       try clear c10
       try clear c13
       try clear c13b0
       try clear c14
       try clear c16
       try clear hcz11_0
       try skip
       try skip
       try skip
       try skip
       try skip
       try skip
       try skip
       try skip
       try clear hcz15_3
       try skip
       try skip
       try skip
       try skip
       try skip
       try clear hcz17_3
       try skip
       try skip
       try skip
       try skip
       try skip
       try skip
       try skip
       try skip
       try skip
       try skip
       try skip
       try skip
       try skip
       try skip
       try skip
       try skip
       try skip
       try skip
       try skip
       try skip
       try clear p2
       try clear p6
       obtain ⟨kq, x26_11, rfl, HA, HJ11, HO_3, HO_305001, HO_305002, HO_305003, BK304, BK305, HK, HB⟩ := hcut
       cases kq with
       | zero => exact absurd HA.out (by simp [spec_l06Clean.j2])
       | succ kj11 =>
        have H := HA.out
        clear HA
        simp only [spec_l06Clean.j2] at H
        by_cases c18 : x26_11 = true
        ·subst c18
         have H1 : ((spec_StepsDone.f kj11 l0_2 l0_3 x6_2).bind fun bt313 => (spec_l06Clean.l2 kj11 x3_1 x4_1 x5_2 x6_2 bt313.1 0 l0_0 l0_1 l0_2 l0_3 a0_4 a0_5)) = some (r1, r2, r3, r4, r5, r6) := by rw [if_pos rfl] at H; exact H
         clear H
         have H := H1
         clear H1
         replace H := Option.bind_eq_some_iff.mp H
         obtain ⟨⟨t313, t314⟩, A190, H⟩ := H
         replace H : (spec_l06Clean.l2 kj11 x3_1 x4_1 x5_2 x6_2 t313 0 l0_0 l0_1 l0_2 l0_3 a0_4 a0_5) = some (r1, r2, r3, r4, r5, r6) := H
         have A19 := Aside0.mk A190
         clear A190
         have H' := Aside0.mk H
         clear H
         have hcz21_2 : wc.cell? ⟨gb304, 2, none⟩ = some (.slice Ao3 l0_2.length co3) := (blk_cell BK304.out 2).trans rfl
         have hcz21_3 : wc.cell? ⟨gb304, 3, none⟩ = some (.slice Ao4 l0_3.length co4) := (blk_cell BK304.out 3).trans rfl
         go_wp2_with ((go_at_call 61; (with_reducible refine (spec_StepsDone.calls kj11 _ _ l0_2 _ _ l0_3 x6_2 t313 t314 _ ?side1 ?side2 ?side3 ?side4 A19.out).mono ?_); (case side1 => repeat (exact (Kd.R_reads' HO_305002.out).2.2)); (case side2 => exact (Kd.R_reads' HO_305002.out).2.1); (case side3 => repeat (exact (Kd.R_reads' HO_305003.out).2.2)); (case side4 => exact (Kd.R_reads' HO_305003.out).2.1); rintro e w22 ⟨v315, rfl, ho0, hb⟩; have HO316 := Aside0.mk (Kd.R_lower (Kd.R_new' (Kd.R_new' (Kd.R_newM (M := fun k_ => ((P0_1_ k_ ∨ P0_2_ k_ ∨ P0_3_ k_) ∨ w.heap.size ≤ k_)) ho0 HK.out.1 (fun k_ h_ => .inr h_)) (Kd.R_lt HO_305001.out)) (Kd.R_lt HO_305002.out)) (below_size HB.out)); replace HO_3 := Aside0.mk (Kd.R_below HO_3.out hb); replace HO_305001 := Aside0.mk (Kd.R_elder' HO_305001.out (Kd.R_base ho0) hb); replace HO_305002 := Aside0.mk (Kd.R_elder' HO_305002.out (Kd.R_base ho0) hb); replace HO_305003 := Aside0.mk (Kd.R_below HO_305003.out hb); replace BK304 := Aside0.mk (bB hb BK304.out); replace BK305 := Aside0.mk (bB hb BK305.out); replace HK := Aside0.mk (Kept.below (S := (fun k_ => P0_1_ k_ ∨ P0_2_ k_ ∨ P0_3_ k_)) HK.out hb); replace HB := Aside0.mk (below_step HB.out hb); (try clear hb); (try clear ho0)))
         repeat (go_quiet (first | (go_at_call 61; (with_reducible refine (spec_StepsDone.calls kj11 _ _ l0_2 _ _ l0_3 x6_2 t313 t314 _ ?side1 ?side2 ?side3 ?side4 A19.out).mono ?_); (case side1 => repeat (first | exact (Kd.R_reads' HO_305002.out).2.2 | (with_reducible refine Kd.C_alloc ?_ _) | (with_reducible refine Kd.C_drewN ?_ _) | (with_reducible refine Kd.C_drew ?_))); (case side2 => exact (Kd.R_reads' HO_305002.out).2.1); (case side3 => repeat (first | exact (Kd.R_reads' HO_305003.out).2.2 | (with_reducible refine Kd.C_alloc ?_ _) | (with_reducible refine Kd.C_drewN ?_ _) | (with_reducible refine Kd.C_drew ?_))); (case side4 => exact (Kd.R_reads' HO_305003.out).2.1); rintro e w22 ⟨v315, rfl, ho0, hb⟩; have HO316 := Aside0.mk (Kd.R_lower (Kd.R_new' (Kd.R_new' (Kd.R_newM (M := fun k_ => ((P0_1_ k_ ∨ P0_2_ k_ ∨ P0_3_ k_) ∨ w.heap.size ≤ k_)) ho0 (by first | exact HK.out.1 | exact (show Kept w _ (fun k_ => P0_1_ k_ ∨ P0_2_ k_ ∨ P0_3_ k_) from by repeat (first | (with_reducible first | exact HK.out | apply Kept.alloc | apply Kept.drewN | apply Kept.drew | refine Kept.setCell ?_ (.inr GW304.out) _ | refine Kept.setCell ?_ (.inr GW305.out) _) | exact HK.out)).1) (fun k_ h_ => .inr h_)) (Kd.R_lt (by (with_reducible repeat (first | apply Kd.R_alloc | apply Kd.R_drewN | apply Kd.R_drew)); exact HO_305001.out))) (Kd.R_lt (by (with_reducible repeat (first | apply Kd.R_alloc | apply Kd.R_drewN | apply Kd.R_drew)); exact HO_305002.out))) (below_size (by repeat (first | (with_reducible first | exact HB.out | apply below_alloc | apply pw_below_drewN | apply below_drew1 | refine below_set ?_ GE304.out | refine below_set ?_ GE305.out) | exact HB.out)))); replace HO_3 := Aside0.mk (Kd.R_below (by (with_reducible repeat (first | apply Kd.R_alloc | apply Kd.R_drewN | apply Kd.R_drew)); exact HO_3.out) hb); replace HO_305001 := Aside0.mk (Kd.R_elder' (by (with_reducible repeat (first | apply Kd.R_alloc | apply Kd.R_drewN | apply Kd.R_drew)); exact HO_305001.out) (Kd.R_base ho0) hb); replace HO_305002 := Aside0.mk (Kd.R_elder' (by (with_reducible repeat (first | apply Kd.R_alloc | apply Kd.R_drewN | apply Kd.R_drew)); exact HO_305002.out) (Kd.R_base ho0) hb); replace HO_305003 := Aside0.mk (Kd.R_below (by (with_reducible repeat (first | apply Kd.R_alloc | apply Kd.R_drewN | apply Kd.R_drew)); exact HO_305003.out) hb); replace BK304 := Aside0.mk (blk_below (g := gb304) (o := .cells #[.slice A0_0 l0_0.length c0_0, .slice Ao2 l0_1.length co2, .slice Ao3 l0_2.length co3, .slice Ao4 l0_3.length co4, .int .i64 a0_4, .int .i64 a0_5] 32 (0, 0)) (by (with_reducible repeat (first | refine blk_drewN ?_ _ | refine blk_drew ?_ | refine blk_alloc ?_ _)); exact BK304.out) hb); replace BK305 := Aside0.mk (blk_below (g := gb305) (o := .cells #[.slice none 0 0, .slice none 0 0, .slice none 0 0, .slice none 0 0, .int .i64 0, .int .i64 0] 32 (0, 0)) (by (with_reducible repeat (first | refine blk_drewN ?_ _ | refine blk_drew ?_ | refine blk_alloc ?_ _)); exact BK305.out) hb); replace HK := Aside0.mk (Kept.below (S := (fun k_ => P0_1_ k_ ∨ P0_2_ k_ ∨ P0_3_ k_)) (by repeat (first | (with_reducible first | exact HK.out | apply Kept.alloc | apply Kept.drewN | apply Kept.drew | refine Kept.setCell ?_ (.inr GW304.out) _ | refine Kept.setCell ?_ (.inr GW305.out) _) | exact HK.out)) hb); replace HB := Aside0.mk (below_step (by repeat (first | (with_reducible first | exact HB.out | apply below_alloc | apply pw_below_drewN | apply below_drew1 | refine below_set ?_ GE304.out | refine below_set ?_ GE305.out) | exact HB.out)) hb); (try clear hb); (try clear hb2); (try clear hk); (try clear hi); (try clear ho0))); try go_wp2_with (first | (go_at_call 61; (with_reducible refine (spec_StepsDone.calls kj11 _ _ l0_2 _ _ l0_3 x6_2 t313 t314 _ ?side1 ?side2 ?side3 ?side4 A19.out).mono ?_); (case side1 => repeat (first | exact (Kd.R_reads' HO_305002.out).2.2 | (with_reducible refine Kd.C_alloc ?_ _) | (with_reducible refine Kd.C_drewN ?_ _) | (with_reducible refine Kd.C_drew ?_))); (case side2 => exact (Kd.R_reads' HO_305002.out).2.1); (case side3 => repeat (first | exact (Kd.R_reads' HO_305003.out).2.2 | (with_reducible refine Kd.C_alloc ?_ _) | (with_reducible refine Kd.C_drewN ?_ _) | (with_reducible refine Kd.C_drew ?_))); (case side4 => exact (Kd.R_reads' HO_305003.out).2.1); rintro e w22 ⟨v315, rfl, ho0, hb⟩; have HO316 := Aside0.mk (Kd.R_lower (Kd.R_new' (Kd.R_new' (Kd.R_newM (M := fun k_ => ((P0_1_ k_ ∨ P0_2_ k_ ∨ P0_3_ k_) ∨ w.heap.size ≤ k_)) ho0 (by first | exact HK.out.1 | exact (show Kept w _ (fun k_ => P0_1_ k_ ∨ P0_2_ k_ ∨ P0_3_ k_) from by repeat (first | (with_reducible first | exact HK.out | apply Kept.alloc | apply Kept.drewN | apply Kept.drew | refine Kept.setCell ?_ (.inr GW304.out) _ | refine Kept.setCell ?_ (.inr GW305.out) _) | exact HK.out)).1) (fun k_ h_ => .inr h_)) (Kd.R_lt (by (with_reducible repeat (first | apply Kd.R_alloc | apply Kd.R_drewN | apply Kd.R_drew)); exact HO_305001.out))) (Kd.R_lt (by (with_reducible repeat (first | apply Kd.R_alloc | apply Kd.R_drewN | apply Kd.R_drew)); exact HO_305002.out))) (below_size (by repeat (first | (with_reducible first | exact HB.out | apply below_alloc | apply pw_below_drewN | apply below_drew1 | refine below_set ?_ GE304.out | refine below_set ?_ GE305.out) | exact HB.out)))); replace HO_3 := Aside0.mk (Kd.R_below (by (with_reducible repeat (first | apply Kd.R_alloc | apply Kd.R_drewN | apply Kd.R_drew)); exact HO_3.out) hb); replace HO_305001 := Aside0.mk (Kd.R_elder' (by (with_reducible repeat (first | apply Kd.R_alloc | apply Kd.R_drewN | apply Kd.R_drew)); exact HO_305001.out) (Kd.R_base ho0) hb); replace HO_305002 := Aside0.mk (Kd.R_elder' (by (with_reducible repeat (first | apply Kd.R_alloc | apply Kd.R_drewN | apply Kd.R_drew)); exact HO_305002.out) (Kd.R_base ho0) hb); replace HO_305003 := Aside0.mk (Kd.R_below (by (with_reducible repeat (first | apply Kd.R_alloc | apply Kd.R_drewN | apply Kd.R_drew)); exact HO_305003.out) hb); replace BK304 := Aside0.mk (blk_below (g := gb304) (o := .cells #[.slice A0_0 l0_0.length c0_0, .slice Ao2 l0_1.length co2, .slice Ao3 l0_2.length co3, .slice Ao4 l0_3.length co4, .int .i64 a0_4, .int .i64 a0_5] 32 (0, 0)) (by (with_reducible repeat (first | refine blk_drewN ?_ _ | refine blk_drew ?_ | refine blk_alloc ?_ _)); exact BK304.out) hb); replace BK305 := Aside0.mk (blk_below (g := gb305) (o := .cells #[.slice none 0 0, .slice none 0 0, .slice none 0 0, .slice none 0 0, .int .i64 0, .int .i64 0] 32 (0, 0)) (by (with_reducible repeat (first | refine blk_drewN ?_ _ | refine blk_drew ?_ | refine blk_alloc ?_ _)); exact BK305.out) hb); replace HK := Aside0.mk (Kept.below (S := (fun k_ => P0_1_ k_ ∨ P0_2_ k_ ∨ P0_3_ k_)) (by repeat (first | (with_reducible first | exact HK.out | apply Kept.alloc | apply Kept.drewN | apply Kept.drew | refine Kept.setCell ?_ (.inr GW304.out) _ | refine Kept.setCell ?_ (.inr GW305.out) _) | exact HK.out)) hb); replace HB := Aside0.mk (below_step (by repeat (first | (with_reducible first | exact HB.out | apply below_alloc | apply pw_below_drewN | apply below_drew1 | refine below_set ?_ GE304.out | refine below_set ?_ GE305.out) | exact HB.out)) hb); (try clear hb); (try clear hb2); (try clear hk); (try clear hi); (try clear ho0))))
         go_loopg [5, 9] kj11 (fun kq v5 v9 w' => ∃ (x5_4 : Bool) (x9_4 : Int), v5 = .bool x5_4 ∧ v9 = .int .i64 x9_4 ∧ Aside0 (spec_l06Clean.l2 kq x3_1 x4_1 x5_4 x6_2 t313 x9_4 l0_0 l0_1 l0_2 l0_3 a0_4 a0_5 = some (r1, r2, r3, r4, r5, r6)) ∧ Aside0 (kq ≤ kj11) ∧ Aside0 (Kd.R k57 57 w' w0.heap.size (fun k_ => ((P0_1_ k_ ∨ P0_2_ k_ ∨ P0_3_ k_) ∨ w.heap.size ≤ k_)) u3 x3_1) ∧ Aside0 (Kd.R k59 59 w' w0.heap.size (fun k_ => ((P0_1_ k_ ∨ P0_2_ k_ ∨ P0_3_ k_) ∨ w.heap.size ≤ k_) ∧ some k_ ≠ ((.slice Ao2 l0_1.length co2) : Value).ownBlock ∧ some k_ ≠ ((.slice Ao3 l0_2.length co3) : Value).ownBlock) v315 t313) ∧ Aside0 (Kd.R k59 59 w' w0.heap.size (fun k_ => ((P0_1_ k_ ∨ P0_2_ k_ ∨ P0_3_ k_) ∨ w.heap.size ≤ k_) ∧ some k_ ≠ (v315 : Value).ownBlock ∧ some k_ ≠ ((.slice Ao3 l0_2.length co3) : Value).ownBlock) (.slice Ao2 l0_1.length co2) l0_1) ∧ Aside0 (Kd.R k59 59 w' w0.heap.size (fun k_ => ((P0_1_ k_ ∨ P0_2_ k_ ∨ P0_3_ k_) ∨ w.heap.size ≤ k_) ∧ some k_ ≠ (v315 : Value).ownBlock ∧ some k_ ≠ ((.slice Ao2 l0_1.length co2) : Value).ownBlock) (.slice Ao3 l0_2.length co3) l0_2) ∧ Aside0 (Kd.R Kd.string 9 w' w0.heap.size (fun k_ => ((P0_1_ k_ ∨ P0_2_ k_ ∨ P0_3_ k_) ∨ w.heap.size ≤ k_)) (.slice Ao4 l0_3.length co4) l0_3) ∧ Aside0 (w'.heap[gb304]? = some (.cells #[(.slice A0_0 l0_0.length c0_0), (.slice Ao2 l0_1.length co2), (.slice Ao3 l0_2.length co3), (.slice Ao4 l0_3.length co4), .int .i64 a0_4, .int .i64 a0_5] 32 (0, 0))) ∧ Aside0 (w'.heap[gb305]? = some (.cells #[(.slice none 0 0), (.slice none 0 0), (.slice none 0 0), (.slice none 0 0), .int .i64 0, .int .i64 0] 32 (0, 0))) ∧ Aside0 (Kept w w' (fun k_ => P0_1_ k_ ∨ P0_2_ k_ ∨ P0_3_ k_)) ∧ Aside0 (Below w0.heap.size w0 w'))
         case atStart => exact ⟨(x5_2), (0), (by rfl), (by rfl), H', ⟨Nat.le_refl _⟩, ⟨by exact HO_3.out⟩, ⟨by exact Kd.R_mono HO316.out (fun _ hk => ⟨hk.1.1.1, ⟨hk.1.2, hk.2⟩⟩)⟩, ⟨by exact Kd.R_mono HO_305001.out (fun _ hk => ⟨hk.1.1, ⟨hk.2, hk.1.2⟩⟩)⟩, ⟨by exact Kd.R_mono HO_305002.out (fun _ hk => ⟨hk.1.1, ⟨hk.2, hk.1.2⟩⟩)⟩, ⟨by exact HO_305003.out⟩, ⟨by exact BK304.out⟩, ⟨by exact BK305.out⟩, ⟨by repeat (with_reducible exact HK.out)⟩, ⟨by repeat (with_reducible exact HB.out)⟩⟩
         case round =>
          clear H'
          try clear c1
          try clear c2
          try clear p2
          try clear p6
          try clear c9
          try clear c9b0
          try clear c10
          try clear c13
          try clear c13b0
          try clear c14
          try clear c16
          try clear c18
          try clear c20
          try clear hcz11_0
          try skip
          try skip
          try skip
          try skip
          try skip
          try skip
          try skip
          try skip
          try clear hcz15_3
          try skip
          try skip
          try skip
          try skip
          try skip
          try clear hcz17_3
          try skip
          try skip
          try skip
          try skip
          try clear hcz21_2
          try clear hcz21_3
          try skip
          try skip
          try skip
          try skip
          try skip
          try skip
          try skip
          try skip
          try skip
          try skip
          try skip
          try skip
          try skip
          try skip
          try skip
          try skip
          try skip
          try skip
          try skip
          try skip
          try skip
          try skip
          try skip
          try skip
          try skip
          try skip
          try clear p2
          try clear p6
          obtain ⟨x5_4, x9_4, rfl, rfl, HA, HK4, HO_3, HO_7, HO_305001, HO_305002, HO_305003, BK304, BK305, HK, HB⟩ := hrel
          cases gk with
          | zero => exact absurd HA.out (by simp [spec_l06Clean.l2])
          | succ k4 =>
           have H := HA.out
           clear HA
           simp only [spec_l06Clean.l2] at H
           by_cases c23 : x9_4 < (t313.length : Int)
           ·rw [if_pos c23] at H
            have c23b0 : decide (x9_4 < (t313.length : Int)) = true := decide_eq_true c23
            clear c23
            by_cases c24 : x5_4 = true
            ·subst c24
             have H1 : (spec_l06Clean.l2 k4 x3_1 x4_1 true x6_2 t313 (wrap64 (x9_4 + 1)) l0_0 l0_1 l0_2 l0_3 a0_4 a0_5) = some (r1, r2, r3, r4, r5, r6) := by rw [if_pos rfl] at H; exact H
             clear H
             have H := H1
             clear H1
             have H' := Aside0.mk H
             clear H
             obtain ⟨Ao25, co25, eo25⟩ := Kd.R_slice HO_7.out
             subst eo25
             go_wp2
             repeat (go_quiet (fail); try go_wp2)
             go_roundg k4
             case measure => have := HK1.out; have := HK2.out; have := HJ11.out; have := HK4.out; omega
             case rel => exact ⟨(true), (wrap64 (x9_4 + 1)), (by rfl), (by rfl), H', ⟨by have := HK1.out; have := HK2.out; have := HJ11.out; have := HK4.out; omega⟩, ⟨by (with_reducible repeat (apply Kd.R_drewN)); exact HO_3.out⟩, ⟨by (with_reducible repeat (apply Kd.R_drewN)); exact HO_7.out⟩, ⟨by (with_reducible repeat (apply Kd.R_drewN)); exact HO_305001.out⟩, ⟨by (with_reducible repeat (apply Kd.R_drewN)); exact HO_305002.out⟩, ⟨by (with_reducible repeat (apply Kd.R_drewN)); exact HO_305003.out⟩, ⟨by (with_reducible repeat (refine blk_drewN ?_ _)); exact BK304.out⟩, ⟨by (with_reducible repeat (refine blk_drewN ?_ _)); exact BK305.out⟩, ⟨by repeat (with_reducible first | exact HK.out | apply Kept.drewN)⟩, ⟨by repeat (with_reducible first | exact HB.out | apply pw_below_drewN)⟩⟩
            ·replace c24 := Bool.eq_false_iff.mpr c24
             subst c24
             have H1 : (if 0 ≤ x9_4 then (if 0 ≤ x4_1 then (if x4_1 < (l0_0.length : Int) then (spec_l06Clean.l2 k4 x3_1 x4_1 (((rd_T59 t313 x9_4).f1) == ((rd_T57 l0_0 x4_1).f0)) x6_2 t313 (wrap64 (x9_4 + 1)) l0_0 l0_1 l0_2 l0_3 a0_4 a0_5) else (none)) else (none)) else (none)) = some (r1, r2, r3, r4, r5, r6) := by rw [if_neg (show ¬ (false = true) by decide)] at H; exact H
             clear H
             have H := H1
             clear H1
             by_cases c26 : 0 ≤ x9_4
             ·rw [if_pos c26] at H
              have c26b0 : decide (0 ≤ x9_4) = true := decide_eq_true c26
              clear c26
              by_cases c27 : 0 ≤ x4_1
              ·rw [if_pos c27] at H
               have c27b0 : decide (0 ≤ x4_1) = true := decide_eq_true c27
               clear c27
               by_cases c28 : x4_1 < (l0_0.length : Int)
               ·rw [if_pos c28] at H
                have c28b0 : decide (x4_1 < (l0_0.length : Int)) = true := decide_eq_true c28
                clear c28
                have H' := Aside0.mk H
                clear H
                obtain ⟨Ao29, co29, eo29⟩ := Kd.R_slice HO_7.out
                subst eo29
                have p317 : 0 ≤ (x9_4 : Int) := of_decide_eq_true (by (with_reducible assumption))
                have q317 : x9_4 < (t313.length : Int) := of_decide_eq_true (by (with_reducible assumption))
                obtain ⟨ad317, e317, hx317_0, hx317_1⟩ := at_T59 (Kd.R_reads' HO_7.out).2.2 x9_4 p317 q317
                cases e317
                replace p317 := eq_true p317
                replace q317 := eq_true q317
                have hcz31_0 : wr.cell? ⟨gb304, 0, none⟩ = some (.slice A0_0 l0_0.length c0_0) := (blk_cell BK304.out 0).trans rfl
                have p318 : 0 ≤ (x4_1 : Int) := of_decide_eq_true (by (with_reducible assumption))
                have q318 : x4_1 < (l0_0.length : Int) := of_decide_eq_true (by (with_reducible assumption))
                obtain ⟨ad318, e318, hx318_0, hx318_1, hx318_2⟩ := at_T57 (Kd.C_kept_now HR0_0.out HK.out) x4_1 p318 q318
                cases e318
                replace p318 := eq_true p318
                replace q318 := eq_true q318
                go_wp2
                repeat (go_quiet (fail); try go_wp2)
                go_roundg k4
                case measure => have := HK1.out; have := HK2.out; have := HJ11.out; have := HK4.out; omega
                case rel => exact ⟨((((rd_T59 t313 x9_4).f1) == ((rd_T57 l0_0 x4_1).f0))), (wrap64 (x9_4 + 1)), (by rfl), (by rfl), H', ⟨by have := HK1.out; have := HK2.out; have := HJ11.out; have := HK4.out; omega⟩, ⟨by (with_reducible repeat (apply Kd.R_drewN)); exact HO_3.out⟩, ⟨by (with_reducible repeat (apply Kd.R_drewN)); exact HO_7.out⟩, ⟨by (with_reducible repeat (apply Kd.R_drewN)); exact HO_305001.out⟩, ⟨by (with_reducible repeat (apply Kd.R_drewN)); exact HO_305002.out⟩, ⟨by (with_reducible repeat (apply Kd.R_drewN)); exact HO_305003.out⟩, ⟨by (with_reducible repeat (refine blk_drewN ?_ _)); exact BK304.out⟩, ⟨by (with_reducible repeat (refine blk_drewN ?_ _)); exact BK305.out⟩, ⟨by repeat (with_reducible first | exact HK.out | apply Kept.drewN)⟩, ⟨by repeat (with_reducible first | exact HB.out | apply pw_below_drewN)⟩⟩
               ·rw [if_neg c28] at H
                exact absurd H (by simp)
              ·rw [if_neg c27] at H
               exact absurd H (by simp)
             ·rw [if_neg c26] at H
              exact absurd H (by simp)
           ·rw [if_neg c23] at H
            have c23b0 : decide (x9_4 < (t313.length : Int)) = false := decide_eq_false c23
            clear c23
            have H' := Aside0.mk H
            clear H
            obtain ⟨Ao32, co32, eo32⟩ := Kd.R_slice HO_7.out
            subst eo32
            go_wp2
            repeat (go_quiet (fail); try go_wp2)
            go_roundg k4
            case measure => have := HK1.out; have := HK2.out; have := HJ11.out; have := HK4.out; omega
            case rel => exact ⟨(x5_4), (wrap64 (x6_2 + 1)), (by rfl), (by rfl), H', ⟨by have := HK1.out; have := HK2.out; have := HJ11.out; have := HK4.out; omega⟩, ⟨by exact HO_3.out⟩, ⟨by exact Kd.R_mono HO_305001.out (fun _ hk => ⟨hk.1, hk.2.2⟩)⟩, ⟨by exact Kd.R_mono HO_305002.out (fun _ hk => ⟨hk.1, hk.2.2⟩)⟩, ⟨by exact HO_305003.out⟩, ⟨by exact BK304.out⟩, ⟨by exact BK305.out⟩, ⟨by repeat (with_reducible exact HK.out)⟩, ⟨by repeat (with_reducible exact HB.out)⟩⟩
        ·replace c18 := Bool.eq_false_iff.mpr c18
         subst c18
         have H1 : (if x5_2 = true then (if 0 ≤ x4_1 then (if x4_1 < (l0_0.length : Int) then (if x3_1.length < 4398046511104 then (spec_l06Clean.l0 kj11 (x3_1 ++ [(⟨(rd_T57 l0_0 x4_1).f0, (rd_T57 l0_0 x4_1).f1, (rd_T57 l0_0 x4_1).f2⟩ : S57)]) (wrap64 (x4_1 + 1)) l0_0 l0_1 l0_2 l0_3 a0_4 a0_5) else (none)) else (none)) else (none)) else (spec_l06Clean.l0 kj11 x3_1 (wrap64 (x4_1 + 1)) l0_0 l0_1 l0_2 l0_3 a0_4 a0_5)) = some (r1, r2, r3, r4, r5, r6) := by rw [if_neg (show ¬ (false = true) by decide)] at H; exact H
         clear H
         have H := H1
         clear H1
         by_cases c33 : x5_2 = true
         ·subst c33
          have H1 : (if 0 ≤ x4_1 then (if x4_1 < (l0_0.length : Int) then (if x3_1.length < 4398046511104 then (spec_l06Clean.l0 kj11 (x3_1 ++ [(⟨(rd_T57 l0_0 x4_1).f0, (rd_T57 l0_0 x4_1).f1, (rd_T57 l0_0 x4_1).f2⟩ : S57)]) (wrap64 (x4_1 + 1)) l0_0 l0_1 l0_2 l0_3 a0_4 a0_5) else (none)) else (none)) else (none)) = some (r1, r2, r3, r4, r5, r6) := by rw [if_pos rfl] at H; exact H
          clear H
          have H := H1
          clear H1
          by_cases c34 : 0 ≤ x4_1
          ·rw [if_pos c34] at H
           have c34b0 : decide (0 ≤ x4_1) = true := decide_eq_true c34
           clear c34
           by_cases c35 : x4_1 < (l0_0.length : Int)
           ·rw [if_pos c35] at H
            have c35b0 : decide (x4_1 < (l0_0.length : Int)) = true := decide_eq_true c35
            clear c35
            by_cases c36 : x3_1.length < 4398046511104
            ·rw [if_pos c36] at H
             have LMc36 := Aside0.mk c36
             clear c36
             obtain ⟨y310, hy310⟩ : ∃ y_ : List (S57), y_ = (x3_1 ++ [(⟨(rd_T57 l0_0 x4_1).f0, (rd_T57 l0_0 x4_1).f1, (rd_T57 l0_0 x4_1).f2⟩ : S57)]) := ⟨_, rfl⟩
             replace H : (spec_l06Clean.l0 kj11 y310 (wrap64 (x4_1 + 1)) l0_0 l0_1 l0_2 l0_3 a0_4 a0_5) = some (r1, r2, r3, r4, r5, r6) := by (rw [hy310]; with_reducible exact H)
             have Ny310 := Aside0.mk hy310
             clear hy310
             have H' := Aside0.mk H
             clear H
             have hcz38_0 : wc.cell? ⟨gb304, 0, none⟩ = some (.slice A0_0 l0_0.length c0_0) := (blk_cell BK304.out 0).trans rfl
             have p309 : 0 ≤ (x4_1 : Int) := of_decide_eq_true (by (with_reducible assumption))
             have q309 : x4_1 < (l0_0.length : Int) := of_decide_eq_true (by (with_reducible assumption))
             obtain ⟨ad309, e309, hx309_0, hx309_1, hx309_2⟩ := at_T57 (Kd.C_kept_now HR0_0.out HK.out) x4_1 p309 q309
             cases e309
             replace p309 := eq_true p309
             replace q309 := eq_true q309
             go_wp2_with (((with_reducible refine gate_builtin (b := .append) (xs := #[.tmp 60, .tmp 66]) rfl ?_); at_builtin; refine Kd.R_append k57 (w0 := w0) w0.heap.size rfl (.tmp 60) (.tmp 66) 29 57 (.agg #[(.int .i64 0), (.string ⟨#[]⟩), (.int .i64 0)]) 32 rfl Tryz.underlying29 info57 rfl (by decide) (by omega) u3 x3_1 (⟨(rd_T57 l0_0 x4_1).f0, (rd_T57 l0_0 x4_1).f1, (rd_T57 l0_0 x4_1).f2⟩ : S57) [.int .i64 ((rd_T57 l0_0 x4_1).f0), .string ((rd_T57 l0_0 x4_1).f1), .int .i64 ((rd_T57 l0_0 x4_1).f2)] (fun k_ => ((P0_1_ k_ ∨ P0_2_ k_ ∨ P0_3_ k_) ∨ w.heap.size ≤ k_)) (fun _ => False) rfl rfl ?aP (fun _ hk => hk.elim) ?aF ?aO ?aB ?aS ?aL ?_; (case aP => exact k57_mkM _ _ _ (⟨(rd_T57 l0_0 x4_1).f0, (rd_T57 l0_0 x4_1).f1, (rd_T57 l0_0 x4_1).f2⟩ : S57)); (case aB => exact HB.out); (case aF => exact (fun k_ hk => (.inr (Nat.le_trans HK.out.1 hk)))); (case aO => exact HO_3.out); (case aS => exact (below_size HB.out)); (case aL => have := LMc36.out; omega); intro v311 w39 ho hb hg hat; rw [← Ny310.out] at ho; have HO312 := Aside0.mk (ho); replace HO_305001 := Aside0.mk (Kd.R_over' HO_305001.out (Kd.R_typed HO_3.out) (by decide) hg); replace HO_305002 := Aside0.mk (Kd.R_over' HO_305002.out (Kd.R_typed HO_3.out) (by decide) hg); replace HO_305003 := Aside0.mk (Kd.R_over' HO_305003.out (Kd.R_typed HO_3.out) (by decide) hg); replace BK304 := Aside0.mk (blk_grown (g := gb304) (o := .cells #[.slice (some ad309) l0_0.length c0_0, .slice Ao2 l0_1.length co2, .slice Ao3 l0_2.length co3, .slice Ao4 l0_3.length co4, .int .i64 a0_4, .int .i64 a0_5] 32 (0, 0)) BK304.out hg (Kd.R_ne HO_3.out BK304.out (by decide))); replace BK305 := Aside0.mk (blk_grown (g := gb305) (o := .cells #[.slice none 0 0, .slice none 0 0, .slice none 0 0, .slice none 0 0, .int .i64 0, .int .i64 0] 32 (0, 0)) BK305.out hg (Kd.R_ne HO_3.out BK305.out (by decide))); replace HB := Aside0.mk (hb); replace HK := Aside0.mk (Kept.of_grown (S := (fun k_ => P0_1_ k_ ∨ P0_2_ k_ ∨ P0_3_ k_)) hg HK.out (fun k_ e_ => (HO_3.out.1 k_ e_))); clear HO_3; clear ho hb hg hat))
             repeat (go_quiet (first | ((with_reducible refine gate_builtin (b := .append) (xs := #[.tmp 60, .tmp 66]) rfl ?_); at_builtin; refine Kd.R_append k57 (w0 := w0) w0.heap.size rfl (.tmp 60) (.tmp 66) 29 57 (.agg #[(.int .i64 0), (.string ⟨#[]⟩), (.int .i64 0)]) 32 rfl Tryz.underlying29 info57 rfl (by decide) (by omega) u3 x3_1 (⟨(rd_T57 l0_0 x4_1).f0, (rd_T57 l0_0 x4_1).f1, (rd_T57 l0_0 x4_1).f2⟩ : S57) [.int .i64 ((rd_T57 l0_0 x4_1).f0), .string ((rd_T57 l0_0 x4_1).f1), .int .i64 ((rd_T57 l0_0 x4_1).f2)] (fun k_ => ((P0_1_ k_ ∨ P0_2_ k_ ∨ P0_3_ k_) ∨ w.heap.size ≤ k_)) (fun _ => False) rfl rfl ?aP (fun _ hk => hk.elim) ?aF ?aO ?aB ?aS ?aL ?_; (case aP => exact k57_mkM _ _ _ (⟨(rd_T57 l0_0 x4_1).f0, (rd_T57 l0_0 x4_1).f1, (rd_T57 l0_0 x4_1).f2⟩ : S57)); (case aB => exact (by repeat (first | (with_reducible first | exact HB.out | apply below_alloc | apply pw_below_drewN | apply below_drew1 | refine below_set ?_ GE304.out | refine below_set ?_ GE305.out) | exact HB.out))); (case aF => exact (fun k_ hk => (.inr (Nat.le_trans (by first | exact HK.out.1 | exact (show Kept w _ (fun k_ => P0_1_ k_ ∨ P0_2_ k_ ∨ P0_3_ k_) from by repeat (first | (with_reducible first | exact HK.out | apply Kept.alloc | apply Kept.drewN | apply Kept.drew | refine Kept.setCell ?_ (.inr GW304.out) _ | refine Kept.setCell ?_ (.inr GW305.out) _) | exact HK.out)).1) hk)))); (case aO => exact (by (with_reducible repeat (first | apply Kd.R_alloc | apply Kd.R_drewN | apply Kd.R_drew)); exact HO_3.out)); (case aS => exact (below_size (by repeat (first | (with_reducible first | exact HB.out | apply below_alloc | apply pw_below_drewN | apply below_drew1 | refine below_set ?_ GE304.out | refine below_set ?_ GE305.out) | exact HB.out)))); (case aL => have := LMc36.out; omega); intro v311 w39 ho hb hg hat; rw [← Ny310.out] at ho; have HO312 := Aside0.mk (ho); replace HO_305001 := Aside0.mk (Kd.R_over' (by (with_reducible repeat (first | apply Kd.R_alloc | apply Kd.R_drewN | apply Kd.R_drew)); exact HO_305001.out) (Kd.R_typed (by (with_reducible repeat (first | apply Kd.R_alloc | apply Kd.R_drewN | apply Kd.R_drew)); exact HO_3.out)) (by decide) hg); replace HO_305002 := Aside0.mk (Kd.R_over' (by (with_reducible repeat (first | apply Kd.R_alloc | apply Kd.R_drewN | apply Kd.R_drew)); exact HO_305002.out) (Kd.R_typed (by (with_reducible repeat (first | apply Kd.R_alloc | apply Kd.R_drewN | apply Kd.R_drew)); exact HO_3.out)) (by decide) hg); replace HO_305003 := Aside0.mk (Kd.R_over' (by (with_reducible repeat (first | apply Kd.R_alloc | apply Kd.R_drewN | apply Kd.R_drew)); exact HO_305003.out) (Kd.R_typed (by (with_reducible repeat (first | apply Kd.R_alloc | apply Kd.R_drewN | apply Kd.R_drew)); exact HO_3.out)) (by decide) hg); replace BK304 := Aside0.mk (blk_grown (g := gb304) (o := .cells #[.slice (some ad309) l0_0.length c0_0, .slice Ao2 l0_1.length co2, .slice Ao3 l0_2.length co3, .slice Ao4 l0_3.length co4, .int .i64 a0_4, .int .i64 a0_5] 32 (0, 0)) (by (with_reducible repeat (first | refine blk_drewN ?_ _ | refine blk_drew ?_ | refine blk_alloc ?_ _)); exact BK304.out) hg (Kd.R_ne HO_3.out BK304.out (by decide))); replace BK305 := Aside0.mk (blk_grown (g := gb305) (o := .cells #[.slice none 0 0, .slice none 0 0, .slice none 0 0, .slice none 0 0, .int .i64 0, .int .i64 0] 32 (0, 0)) (by (with_reducible repeat (first | refine blk_drewN ?_ _ | refine blk_drew ?_ | refine blk_alloc ?_ _)); exact BK305.out) hg (Kd.R_ne HO_3.out BK305.out (by decide))); replace HB := Aside0.mk (hb); replace HK := Aside0.mk (Kept.of_grown (S := (fun k_ => P0_1_ k_ ∨ P0_2_ k_ ∨ P0_3_ k_)) hg (by repeat (first | (with_reducible first | exact HK.out | apply Kept.alloc | apply Kept.drewN | apply Kept.drew | refine Kept.setCell ?_ (.inr GW304.out) _ | refine Kept.setCell ?_ (.inr GW305.out) _) | exact HK.out)) (fun k_ e_ => (HO_3.out.1 k_ e_))); clear HO_3; clear ho hb hg hat)); try go_wp2_with (first | ((with_reducible refine gate_builtin (b := .append) (xs := #[.tmp 60, .tmp 66]) rfl ?_); at_builtin; refine Kd.R_append k57 (w0 := w0) w0.heap.size rfl (.tmp 60) (.tmp 66) 29 57 (.agg #[(.int .i64 0), (.string ⟨#[]⟩), (.int .i64 0)]) 32 rfl Tryz.underlying29 info57 rfl (by decide) (by omega) u3 x3_1 (⟨(rd_T57 l0_0 x4_1).f0, (rd_T57 l0_0 x4_1).f1, (rd_T57 l0_0 x4_1).f2⟩ : S57) [.int .i64 ((rd_T57 l0_0 x4_1).f0), .string ((rd_T57 l0_0 x4_1).f1), .int .i64 ((rd_T57 l0_0 x4_1).f2)] (fun k_ => ((P0_1_ k_ ∨ P0_2_ k_ ∨ P0_3_ k_) ∨ w.heap.size ≤ k_)) (fun _ => False) rfl rfl ?aP (fun _ hk => hk.elim) ?aF ?aO ?aB ?aS ?aL ?_; (case aP => exact k57_mkM _ _ _ (⟨(rd_T57 l0_0 x4_1).f0, (rd_T57 l0_0 x4_1).f1, (rd_T57 l0_0 x4_1).f2⟩ : S57)); (case aB => exact (by repeat (first | (with_reducible first | exact HB.out | apply below_alloc | apply pw_below_drewN | apply below_drew1 | refine below_set ?_ GE304.out | refine below_set ?_ GE305.out) | exact HB.out))); (case aF => exact (fun k_ hk => (.inr (Nat.le_trans (by first | exact HK.out.1 | exact (show Kept w _ (fun k_ => P0_1_ k_ ∨ P0_2_ k_ ∨ P0_3_ k_) from by repeat (first | (with_reducible first | exact HK.out | apply Kept.alloc | apply Kept.drewN | apply Kept.drew | refine Kept.setCell ?_ (.inr GW304.out) _ | refine Kept.setCell ?_ (.inr GW305.out) _) | exact HK.out)).1) hk)))); (case aO => exact (by (with_reducible repeat (first | apply Kd.R_alloc | apply Kd.R_drewN | apply Kd.R_drew)); exact HO_3.out)); (case aS => exact (below_size (by repeat (first | (with_reducible first | exact HB.out | apply below_alloc | apply pw_below_drewN | apply below_drew1 | refine below_set ?_ GE304.out | refine below_set ?_ GE305.out) | exact HB.out)))); (case aL => have := LMc36.out; omega); intro v311 w39 ho hb hg hat; rw [← Ny310.out] at ho; have HO312 := Aside0.mk (ho); replace HO_305001 := Aside0.mk (Kd.R_over' (by (with_reducible repeat (first | apply Kd.R_alloc | apply Kd.R_drewN | apply Kd.R_drew)); exact HO_305001.out) (Kd.R_typed (by (with_reducible repeat (first | apply Kd.R_alloc | apply Kd.R_drewN | apply Kd.R_drew)); exact HO_3.out)) (by decide) hg); replace HO_305002 := Aside0.mk (Kd.R_over' (by (with_reducible repeat (first | apply Kd.R_alloc | apply Kd.R_drewN | apply Kd.R_drew)); exact HO_305002.out) (Kd.R_typed (by (with_reducible repeat (first | apply Kd.R_alloc | apply Kd.R_drewN | apply Kd.R_drew)); exact HO_3.out)) (by decide) hg); replace HO_305003 := Aside0.mk (Kd.R_over' (by (with_reducible repeat (first | apply Kd.R_alloc | apply Kd.R_drewN | apply Kd.R_drew)); exact HO_305003.out) (Kd.R_typed (by (with_reducible repeat (first | apply Kd.R_alloc | apply Kd.R_drewN | apply Kd.R_drew)); exact HO_3.out)) (by decide) hg); replace BK304 := Aside0.mk (blk_grown (g := gb304) (o := .cells #[.slice (some ad309) l0_0.length c0_0, .slice Ao2 l0_1.length co2, .slice Ao3 l0_2.length co3, .slice Ao4 l0_3.length co4, .int .i64 a0_4, .int .i64 a0_5] 32 (0, 0)) (by (with_reducible repeat (first | refine blk_drewN ?_ _ | refine blk_drew ?_ | refine blk_alloc ?_ _)); exact BK304.out) hg (Kd.R_ne HO_3.out BK304.out (by decide))); replace BK305 := Aside0.mk (blk_grown (g := gb305) (o := .cells #[.slice none 0 0, .slice none 0 0, .slice none 0 0, .slice none 0 0, .int .i64 0, .int .i64 0] 32 (0, 0)) (by (with_reducible repeat (first | refine blk_drewN ?_ _ | refine blk_drew ?_ | refine blk_alloc ?_ _)); exact BK305.out) hg (Kd.R_ne HO_3.out BK305.out (by decide))); replace HB := Aside0.mk (hb); replace HK := Aside0.mk (Kept.of_grown (S := (fun k_ => P0_1_ k_ ∨ P0_2_ k_ ∨ P0_3_ k_)) hg (by repeat (first | (with_reducible first | exact HK.out | apply Kept.alloc | apply Kept.drewN | apply Kept.drew | refine Kept.setCell ?_ (.inr GW304.out) _ | refine Kept.setCell ?_ (.inr GW305.out) _) | exact HK.out)) (fun k_ e_ => (HO_3.out.1 k_ e_))); clear HO_3; clear ho hb hg hat)))
             go_roundg kj11
             case measure => have := HK1.out; have := HK2.out; have := HJ11.out; omega
             case rel => exact ⟨(y310), (wrap64 (x4_1 + 1)), (by rfl), H', ⟨by have := HK1.out; have := HK2.out; have := HJ11.out; omega⟩, ⟨by exact HO312.out⟩, ⟨by exact HO_305001.out⟩, ⟨by exact HO_305002.out⟩, ⟨by exact HO_305003.out⟩, ⟨by exact BK304.out⟩, ⟨by exact BK305.out⟩, ⟨by repeat (with_reducible exact HK.out)⟩, ⟨by repeat (with_reducible exact HB.out)⟩⟩
            ·rw [if_neg c36] at H
             exact absurd H (by simp)
           ·rw [if_neg c35] at H
            exact absurd H (by simp)
          ·rw [if_neg c34] at H
           exact absurd H (by simp)
         ·replace c33 := Bool.eq_false_iff.mpr c33
          subst c33
          have H1 : (spec_l06Clean.l0 kj11 x3_1 (wrap64 (x4_1 + 1)) l0_0 l0_1 l0_2 l0_3 a0_4 a0_5) = some (r1, r2, r3, r4, r5, r6) := by rw [if_neg (show ¬ (false = true) by decide)] at H; exact H
          clear H
          have H := H1
          clear H1
          have H' := Aside0.mk H
          clear H
          go_wp2
          repeat (go_quiet (fail); try go_wp2)
          go_roundg kj11
          case measure => have := HK1.out; have := HK2.out; have := HJ11.out; omega
          case rel => exact ⟨(x3_1), (wrap64 (x4_1 + 1)), (by rfl), H', ⟨by have := HK1.out; have := HK2.out; have := HJ11.out; omega⟩, ⟨by exact HO_3.out⟩, ⟨by exact HO_305001.out⟩, ⟨by exact HO_305002.out⟩, ⟨by exact HO_305003.out⟩, ⟨by exact BK304.out⟩, ⟨by exact BK305.out⟩, ⟨by repeat (with_reducible exact HK.out)⟩, ⟨by repeat (with_reducible exact HB.out)⟩⟩
   ·rw [if_neg c9] at H
    have c9b0 : decide (x4_1 < (l0_0.length : Int)) = false := decide_eq_false c9
    clear c9
    simp only [Option.some.injEq, Prod.mk.injEq] at H
    obtain ⟨rfl, rfl, rfl, rfl, rfl, rfl⟩ := H
    have hnc40 := NB305_304.out
    have hcz41_0 : wr.cell? ⟨gb304, 0, none⟩ = some (.slice A0_0 l0_0.length c0_0) := (blk_cell BK304.out 0).trans rfl
    have hcz41_1 : wr.cell? ⟨gb304, 1, none⟩ = some (.slice Ao2 l0_1.length co2) := (blk_cell BK304.out 1).trans rfl
    have hcz41_2 : wr.cell? ⟨gb304, 2, none⟩ = some (.slice Ao3 l0_2.length co3) := (blk_cell BK304.out 2).trans rfl
    have hcz41_3 : wr.cell? ⟨gb304, 3, none⟩ = some (.slice Ao4 l0_3.length co4) := (blk_cell BK304.out 3).trans rfl
    have hcz41_4 : wr.cell? ⟨gb304, 4, none⟩ = some (.int .i64 a0_4) := (blk_cell BK304.out 4).trans rfl
    have hcz41_5 : wr.cell? ⟨gb304, 5, none⟩ = some (.int .i64 a0_5) := (blk_cell BK304.out 5).trans rfl
    have hfz41_0 := blk_frozen BK304.out 0
    obtain ⟨Ao42, co42, eo42⟩ := Kd.R_slice HO_3.out
    subst eo42
    have hcz43_0 : wr.cell? ⟨gb305, 0, none⟩ = some (.slice none 0 0) := (blk_cell BK305.out 0).trans rfl
    have hcz43_1 : wr.cell? ⟨gb305, 1, none⟩ = some (.slice none 0 0) := (blk_cell BK305.out 1).trans rfl
    have hcz43_2 : wr.cell? ⟨gb305, 2, none⟩ = some (.slice none 0 0) := (blk_cell BK305.out 2).trans rfl
    have hcz43_3 : wr.cell? ⟨gb305, 3, none⟩ = some (.slice none 0 0) := (blk_cell BK305.out 3).trans rfl
    have hcz43_4 : wr.cell? ⟨gb305, 4, none⟩ = some (.int .i64 0) := (blk_cell BK305.out 4).trans rfl
    have hcz43_5 : wr.cell? ⟨gb305, 5, none⟩ = some (.int .i64 0) := (blk_cell BK305.out 5).trans rfl
    have hfz43_0 := blk_frozen BK305.out 0
    have hfz43_1 := blk_frozen BK305.out 1
    have hfz43_2 := blk_frozen BK305.out 2
    have hfz43_3 := blk_frozen BK305.out 3
    have hfz43_4 := blk_frozen BK305.out 4
    have hfz43_5 := blk_frozen BK305.out 5
    go_wp2
    repeat (go_quiet (fail); try go_wp2)
    refine bodyPost_ret (results_cell_row rfl _ _ gb305 32 #[.slice Ao42 x3_1.length co42, .slice Ao2 l0_1.length co2, .slice Ao3 l0_2.length co3, .slice Ao4 l0_3.length co4, .int .i64 a0_4, .int .i64 a0_5] (0, 0) _ rfl (by refine blk_put (cs := #[.slice Ao42 x3_1.length co42, .slice Ao2 l0_1.length co2, .slice Ao3 l0_2.length co3, .slice Ao4 l0_3.length co4, .int .i64 a0_4, .int .i64 0]) ?_ 5 _ rfl; refine blk_put (cs := #[.slice Ao42 x3_1.length co42, .slice Ao2 l0_1.length co2, .slice Ao3 l0_2.length co3, .slice Ao4 l0_3.length co4, .int .i64 0, .int .i64 0]) ?_ 4 _ rfl; refine blk_put (cs := #[.slice Ao42 x3_1.length co42, .slice Ao2 l0_1.length co2, .slice Ao3 l0_2.length co3, .slice none 0 0, .int .i64 0, .int .i64 0]) ?_ 3 _ rfl; refine blk_put (cs := #[.slice Ao42 x3_1.length co42, .slice Ao2 l0_1.length co2, .slice none 0 0, .slice none 0 0, .int .i64 0, .int .i64 0]) ?_ 2 _ rfl; refine blk_put (cs := #[.slice Ao42 x3_1.length co42, .slice none 0 0, .slice none 0 0, .slice none 0 0, .int .i64 0, .int .i64 0]) ?_ 1 _ rfl; refine blk_put (cs := #[.slice none 0 0, .slice none 0 0, .slice none 0 0, .slice none 0 0, .int .i64 0, .int .i64 0]) ?_ 0 _ rfl; refine blk_far ?_ NB305_304.out _; exact BK305.out) Tryz.underlying32 rfl (by kernel_rfl)) rfl ?_
    all_goals exact ⟨_, _, _, _, by first | rfl | (simp [errW_none, errW_some] <;> rfl) | (simp [*, errW_none, errW_some] <;> rfl) | (exfalso; simp only [decide_eq_true_eq, decide_eq_false_iff_not] at *; omega), by exact Kd.R_mono (Kd.R_far (p := ⟨gb305, 5, none⟩) (Kd.R_far (p := ⟨gb305, 4, none⟩) (Kd.R_far (p := ⟨gb305, 3, none⟩) (Kd.R_far (p := ⟨gb305, 2, none⟩) (Kd.R_far (p := ⟨gb305, 1, none⟩) (Kd.R_far (p := ⟨gb305, 0, none⟩) (Kd.R_far (p := ⟨gb304, 0, none⟩) (Kd.R_types (Kd.R_types HO_3.out BK304.out (by decide)) BK305.out (by decide)) (fun _ hk => hk.1.2) (.slice Ao42 x3_1.length co42)) (fun _ hk => hk.2) (.slice Ao42 x3_1.length co42)) (fun _ hk => hk.2) (.slice Ao2 l0_1.length co2)) (fun _ hk => hk.2) (.slice Ao3 l0_2.length co3)) (fun _ hk => hk.2) (.slice Ao4 l0_3.length co4)) (fun _ hk => hk.2) (.int .i64 a0_4)) (fun _ hk => hk.2) (.int .i64 a0_5)) (fun _ hk => hk.1.1), by exact Kd.R_mono (Kd.R_far (p := ⟨gb305, 5, none⟩) (Kd.R_far (p := ⟨gb305, 4, none⟩) (Kd.R_far (p := ⟨gb305, 3, none⟩) (Kd.R_far (p := ⟨gb305, 2, none⟩) (Kd.R_far (p := ⟨gb305, 1, none⟩) (Kd.R_far (p := ⟨gb305, 0, none⟩) (Kd.R_far (p := ⟨gb304, 0, none⟩) (Kd.R_types (Kd.R_types HO_305001.out BK304.out (by decide)) BK305.out (by decide)) (fun _ hk => hk.1.2) (.slice Ao42 x3_1.length co42)) (fun _ hk => hk.2) (.slice Ao42 x3_1.length co42)) (fun _ hk => hk.2) (.slice Ao2 l0_1.length co2)) (fun _ hk => hk.2) (.slice Ao3 l0_2.length co3)) (fun _ hk => hk.2) (.slice Ao4 l0_3.length co4)) (fun _ hk => hk.2) (.int .i64 a0_4)) (fun _ hk => hk.2) (.int .i64 a0_5)) (fun _ hk => ⟨hk.1.1.1, hk.1.1.2⟩), by exact Kd.R_mono (Kd.R_far (p := ⟨gb305, 5, none⟩) (Kd.R_far (p := ⟨gb305, 4, none⟩) (Kd.R_far (p := ⟨gb305, 3, none⟩) (Kd.R_far (p := ⟨gb305, 2, none⟩) (Kd.R_far (p := ⟨gb305, 1, none⟩) (Kd.R_far (p := ⟨gb305, 0, none⟩) (Kd.R_far (p := ⟨gb304, 0, none⟩) (Kd.R_types (Kd.R_types HO_305002.out BK304.out (by decide)) BK305.out (by decide)) (fun _ hk => hk.1.2) (.slice Ao42 x3_1.length co42)) (fun _ hk => hk.2) (.slice Ao42 x3_1.length co42)) (fun _ hk => hk.2) (.slice Ao2 l0_1.length co2)) (fun _ hk => hk.2) (.slice Ao3 l0_2.length co3)) (fun _ hk => hk.2) (.slice Ao4 l0_3.length co4)) (fun _ hk => hk.2) (.int .i64 a0_4)) (fun _ hk => hk.2) (.int .i64 a0_5)) (fun _ hk => ⟨hk.1.1.1, hk.1.1.2⟩), by exact Kd.R_mono (Kd.R_far (p := ⟨gb305, 5, none⟩) (Kd.R_far (p := ⟨gb305, 4, none⟩) (Kd.R_far (p := ⟨gb305, 3, none⟩) (Kd.R_far (p := ⟨gb305, 2, none⟩) (Kd.R_far (p := ⟨gb305, 1, none⟩) (Kd.R_far (p := ⟨gb305, 0, none⟩) (Kd.R_far (p := ⟨gb304, 0, none⟩) (Kd.R_types (Kd.R_types HO_305003.out BK304.out (by decide)) BK305.out (by decide)) (fun _ hk => hk.1.2) (.slice Ao42 x3_1.length co42)) (fun _ hk => hk.2) (.slice Ao42 x3_1.length co42)) (fun _ hk => hk.2) (.slice Ao2 l0_1.length co2)) (fun _ hk => hk.2) (.slice Ao3 l0_2.length co3)) (fun _ hk => hk.2) (.slice Ao4 l0_3.length co4)) (fun _ hk => hk.2) (.int .i64 a0_4)) (fun _ hk => hk.2) (.int .i64 a0_5)) (fun _ hk => hk.1.1), by repeat (with_reducible first | exact HB.out | refine below_set ?_ GE304.out | refine below_set ?_ GE305.out), by repeat ((with_reducible first | exact HK.out | refine Kept.setCell ?_ (.inr GW304.out) _ | refine Kept.setCell ?_ (.inr GW305.out) _))⟩

/-! ### spec_RenameFile: function 41 -/
/-! ### Disks in memory that a law holds -/
theorem blk6 {w : World} {g : Nat} {t : TypeId} {a b c d e f : Value} (h : w.heap[g]? = some (.cells #[a, b, c, d, e, f] t (0, 0))) :
    w.cell? ⟨g, 0, none⟩ = some a ∧ w.cell? ⟨g, 1, none⟩ = some b ∧ w.cell? ⟨g, 2, none⟩ = some c ∧ w.cell? ⟨g, 3, none⟩ = some d ∧ w.cell? ⟨g, 4, none⟩ = some e ∧ w.cell? ⟨g, 5, none⟩ = some f :=
  ⟨(blk_cell h 0).trans rfl, (blk_cell h 1).trans rfl, (blk_cell h 2).trans rfl, (blk_cell h 3).trans rfl, (blk_cell h 4).trans rfl, (blk_cell h 5).trans rfl⟩
def ownD (v0 v1 v2 v3 : Value) (k : Nat) : Prop := some k = v0.ownBlock ∨ some k = v1.ownBlock ∨ some k = v2.ownBlock ∨ some k = v3.ownBlock
structure HasD (W : World) (base : Nat) (v0 v1 v2 v3 : Value) (a : List S57) (b c : List S59) (d : List ByteArray) : Prop where
  r0 : Kd.R k57 57 W base (fun k => some k = v0.ownBlock) v0 a
  r1 : Kd.R k59 59 W base (fun k => some k = v1.ownBlock) v1 b
  r2 : Kd.R k59 59 W base (fun k => some k = v2.ownBlock) v2 c
  r3 : Kd.R Kd.string 9 W base (fun k => some k = v3.ownBlock) v3 d
  ne : ∀ k, some k = v1.ownBlock → ¬ some k = v2.ownBlock
theorem HasD.of {W : World} {base : Nat} {v0 v1 v2 v3 : Value} {a : List S57} {b c : List S59} {d : List ByteArray} {p0 p2 p3 : Nat → Prop}
    (h0 : Kd.R k57 57 W base p0 v0 a) (h1 : Kd.R k59 59 W base (fun k_ => some k_ ≠ v2.ownBlock) v1 b) (h2 : Kd.R k59 59 W base p2 v2 c) (h3 : Kd.R Kd.string 9 W base p3 v3 d) : HasD W base v0 v1 v2 v3 a b c d :=
  ⟨Kd.R_tight rfl h0, Kd.R_tight rfl h1, Kd.R_tight rfl h2, Kd.R_tight rfl h3, fun k hk => h1.1 k hk.symm⟩
section
variable {W W' : World} {base : Nat} {v0 v1 v2 v3 : Value} {a : List S57} {b c : List S59} {d : List ByteArray}
theorem HasD.step (h : HasD W base v0 v1 v2 v3 a b c d) (hm : ∀ k, ownD v0 v1 v2 v3 k → k < W.heap.size → W'.heap[k]? = W.heap[k]?) : HasD W' base v0 v1 v2 v3 a b c d :=
  ⟨Kd.R_step h.r0 fun k hk hl => hm k (.inl hk) hl, Kd.R_step h.r1 fun k hk hl => hm k (.inr (.inl hk)) hl, Kd.R_step h.r2 fun k hk hl => hm k (.inr (.inr (.inl hk))) hl, Kd.R_step h.r3 fun k hk hl => hm k (.inr (.inr (.inr hk))) hl, h.ne⟩
theorem HasD.on (h : HasD W base v0 v1 v2 v3 a b c d) (hb : Below W.heap.size W W') : HasD W' base v0 v1 v2 v3 a b c d := h.step fun k _ hl => hb.block k hl
theorem HasD.kept (h : HasD W base v0 v1 v2 v3 a b c d) {S : Nat → Prop} (hk : Kept W W' S) (hne : ∀ k, ownD v0 v1 v2 v3 k → ¬ S k) : HasD W' base v0 v1 v2 v3 a b c d := h.step fun k ho hl => hk.2 k hl (hne k ho)
theorem HasD.lt (h : HasD W base v0 v1 v2 v3 a b c d) : ∀ k, ownD v0 v1 v2 v3 k → k < W.heap.size := fun k hk => by
  rcases hk with hk | hk | hk | hk
  · exact Kd.R_lt h.r0 k hk.symm
  · exact Kd.R_lt h.r1 k hk.symm
  · exact Kd.R_lt h.r2 k hk.symm
  · exact Kd.R_lt h.r3 k hk.symm
theorem HasD.ge (h : HasD W base v0 v1 v2 v3 a b c d) : ∀ k, ownD v0 v1 v2 v3 k → base ≤ k := fun k hk => by
  rcases hk with hk | hk | hk | hk
  · exact Kd.R_base h.r0 k hk.symm
  · exact Kd.R_base h.r1 k hk.symm
  · exact Kd.R_base h.r2 k hk.symm
  · exact Kd.R_base h.r3 k hk.symm
theorem HasD.lower (h : HasD W base v0 v1 v2 v3 a b c d) {base' : Nat} (hb : base' ≤ base) : HasD W base' v0 v1 v2 v3 a b c d := ⟨Kd.R_lower h.r0 hb, Kd.R_lower h.r1 hb, Kd.R_lower h.r2 hb, Kd.R_lower h.r3 hb, h.ne⟩
end
theorem HasD.nobox {W : World} {base : Nat} {v0 v1 v2 v3 : Value} {a : List S57} {b c : List S59} {d : List ByteArray} (h : HasD W base v0 v1 v2 v3 a b c d) {g t : Nat} {cs : Array Value} (hb : W.heap[g]? = some (.cells cs t (0, 0))) (hN : 57 ≠ t) (hE : 59 ≠ t) (hS : 9 ≠ t) : ¬ ownD v0 v1 v2 v3 g := fun hk => by
  rcases hk with hk | hk | hk | hk
  · exact Kd.R_ne h.r0 hb hN hk
  · exact Kd.R_ne h.r1 hb hE hk
  · exact Kd.R_ne h.r2 hb hE hk
  · exact Kd.R_ne h.r3 hb hS hk
/-! ### A disk's six cells laid one by one -/
section
variable {w : World} {g : Nat} {t : TypeId} {x0 x1 x2 x3 x4 x5 a b c d e f : Value}
theorem fill6_at (h : w.heap[g]? = some (.cells #[x0, x1, x2, x3, x4, x5] t (0, 0))) : ((((((w.setCell ⟨g, 0, none⟩ a).setCell ⟨g, 1, none⟩ b).setCell ⟨g, 2, none⟩ c).setCell ⟨g, 3, none⟩ d).setCell ⟨g, 4, none⟩ e).setCell ⟨g, 5, none⟩ f).heap[g]? = some (.cells #[a, b, c, d, e, f] t (0, 0)) :=
  blk_put (cs := #[a, b, c, d, e, x5]) (blk_put (cs := #[a, b, c, d, x4, x5]) (blk_put (cs := #[a, b, c, x3, x4, x5]) (blk_put (cs := #[a, b, x2, x3, x4, x5]) (blk_put (cs := #[a, x1, x2, x3, x4, x5]) (blk_put (cs := #[x0, x1, x2, x3, x4, x5]) h 0 _ rfl) 1 _ rfl) 2 _ rfl) 3 _ rfl) 4 _ rfl) 5 _ rfl
theorem fill6_far {j : Nat} (hj : j ≠ g) : ((((((w.setCell ⟨g, 0, none⟩ a).setCell ⟨g, 1, none⟩ b).setCell ⟨g, 2, none⟩ c).setCell ⟨g, 3, none⟩ d).setCell ⟨g, 4, none⟩ e).setCell ⟨g, 5, none⟩ f).heap[j]? = w.heap[j]? := by
  rw [Below.heap_setCell _ ⟨g, 5, none⟩ _ j hj, Below.heap_setCell _ ⟨g, 4, none⟩ _ j hj, Below.heap_setCell _ ⟨g, 3, none⟩ _ j hj, Below.heap_setCell _ ⟨g, 2, none⟩ _ j hj, Below.heap_setCell _ ⟨g, 1, none⟩ _ j hj, Below.heap_setCell _ ⟨g, 0, none⟩ _ j hj]
theorem fill6_below {w0 : World} (hb : Below w0.heap.size w0 w) (hg : w0.heap.size ≤ g) : Below w0.heap.size w0 ((((((w.setCell ⟨g, 0, none⟩ a).setCell ⟨g, 1, none⟩ b).setCell ⟨g, 2, none⟩ c).setCell ⟨g, 3, none⟩ d).setCell ⟨g, 4, none⟩ e).setCell ⟨g, 5, none⟩ f) :=
  below_set (below_set (below_set (below_set (below_set (below_set hb hg) hg) hg) hg) hg) hg
/-- A call behind such a laying: its world a letter. -/
theorem fill6_calls {P : Program} {F : FuncId} {args : Array Value} {Q : Ending → World → Prop} (h : w.heap[g]? = some (.cells #[x0, x1, x2, x3, x4, x5] t (0, 0)))
    (k : ∀ W, W.heap[g]? = some (.cells #[a, b, c, d, e, f] t (0, 0)) → (∀ {w0 : World}, Below w0.heap.size w0 w → w0.heap.size ≤ g → Below w0.heap.size w0 W) → (∀ j, j ≠ g → W.heap[j]? = w.heap[j]?) → Calls P F args W Q) : Calls P F args ((((((w.setCell ⟨g, 0, none⟩ a).setCell ⟨g, 1, none⟩ b).setCell ⟨g, 2, none⟩ c).setCell ⟨g, 3, none⟩ d).setCell ⟨g, 4, none⟩ e).setCell ⟨g, 5, none⟩ f) Q :=
  k _ (fill6_at h) (fun hb hg => fill6_below hb hg) (fun j hj => fill6_far hj)
end
def cellsN : List S57 → List Value
  | [] => []
  | x :: l => .int .i64 x.f0 :: .string x.f1 :: .int .i64 x.f2 :: cellsN l
theorem cellsN_length : ∀ l, (cellsN l).length = l.length * 3
  | [] => rfl
  | x :: l => by rw [cellsN, List.length_cons, List.length_cons, List.length_cons, cellsN_length l, List.length_cons]; omega
theorem cellsN_at : ∀ (l : List S57) (j : Nat) (x : S57), l[j]? = some x → ((cellsN l).drop (j * 3)).take 3 = [.int .i64 x.f0, .string x.f1, .int .i64 x.f2]
  | [], _, _, h => by cases h
  | y :: l, 0, x, h => by
    obtain rfl : y = x := Option.some.inj h
    rfl
  | y :: l, j + 1, x, h => by
    rw [cellsN, show (j + 1) * 3 = j * 3 + 1 + 1 + 1 by omega, List.drop_succ_cons, List.drop_succ_cons, List.drop_succ_cons]
    exact cellsN_at l j x h
theorem ownN {w : World} {base : Nat} {ok : Nat → Prop} {v : Value} {l : List S57} (h : Kd.R k57 57 w base ok v l) : w.ownsRow base 57 3 v l.length (cellsN l) := by
  obtain ⟨_, inner, ho, hl, hr⟩ := h
  have : inner = cellsN l := by
    have key : ∀ (l : List S57) (inner : List Value), inner.length = l.length * 3 → (∀ j p, l[j]? = some p → (inner.drop (j * 3)).take 3 = [.int .i64 p.f0, .string p.f1, .int .i64 p.f2]) → inner = cellsN l := by
      intro l
      induction l with
      | nil => intro inner h _; exact List.eq_nil_of_length_eq_zero (by simpa using h)
      | cons x l ih =>
        intro inner h hp
        match inner, h with
        | [], h => simp at h
        | [_], h => simp at h; omega
        | [_, _], h => simp at h; omega
        | a :: b :: c :: r, h =>
          have h0 := hp 0 x rfl
          rw [Nat.zero_mul, List.drop_zero, List.take_succ_cons, List.take_succ_cons, List.take_succ_cons, List.take_zero] at h0
          obtain ⟨rfl, h1⟩ := List.cons.inj h0
          obtain ⟨rfl, h2⟩ := List.cons.inj h1
          obtain ⟨rfl, _⟩ := List.cons.inj h2
          rw [cellsN, ih r (by simp only [List.length_cons] at h; omega) (fun j p hj => by
            have := hp (j + 1) p hj
            rwa [show (j + 1) * 3 = j * 3 + 1 + 1 + 1 by omega, List.drop_succ_cons, List.drop_succ_cons, List.drop_succ_cons] at this)]
    exact key l inner hl (fun j p hj => k57_openM (hr j p hj))
  rw [this] at ho
  exact ho
theorem R_ofN {w : World} {base : Nat} {v : Value} {l : List S57} (h : w.ownsRow base 57 3 v l.length (cellsN l)) : Kd.R k57 57 w base (fun _ => True) v l :=
  ⟨fun _ _ => trivial, cellsN l, h, cellsN_length l, fun j p hj => by
    show k57.M w base _ p (((cellsN l).drop (j * 3)).take 3)
    rw [cellsN_at l j p hj]; exact k57_mkM _ _ _ p⟩
theorem HasD.told {W : World} {base : Nat} {v0 v1 v2 v3 : Value} {a : List S57} {b c : List S59} {d : List ByteArray} (h : HasD W base v0 v1 v2 v3 a b c d) :
    Kd.R k57 57 W base (fun _ => True) v0 a ∧ Kd.R k59 59 W base (fun k_ => some k_ ≠ v2.ownBlock) v1 b ∧ Kd.R k59 59 W base (fun k_ => some k_ ≠ v1.ownBlock) v2 c ∧ Kd.R Kd.string 9 W base (fun _ => True) v3 d :=
  ⟨Kd.R_mono h.r0 fun _ _ => trivial, Kd.R_mono h.r1 fun k hk => h.ne k hk, Kd.R_mono h.r2 fun k hk hj => h.ne k hj hk, Kd.R_mono h.r3 fun _ _ => trivial⟩
theorem HasD.fill {w : World} {g : Nat} {base : Nat} {v0 v1 v2 v3 : Value} {a : List S57} {b c : List S59} {d : List ByteArray} {cs : Array Value} {W : World} (h : HasD w base v0 v1 v2 v3 a b c d) (hb : w.heap[g]? = some (.cells cs 32 (0, 0))) (hf : ∀ j, j ≠ g → W.heap[j]? = w.heap[j]?) : HasD W base v0 v1 v2 v3 a b c d :=
  h.step fun k hk _ => hf k fun e => h.nobox hb (by decide) (by decide) (by decide) (e ▸ hk)
/-- The nodes' row as a block, and a node's cells. -/
theorem HasD.row {W : World} {base : Nat} {A : Option Addr} {m c0 : Nat} {v1 v2 v3 : Value} {a : List S57} {b c : List S59} {d : List ByteArray} (h : HasD W base (.slice A m c0) v1 v2 v3 a b c d) (i : Nat) (hi : i < a.length) :
    ∃ g cur, A = some ⟨g, 0, none⟩ ∧ m = a.length ∧ base ≤ g ∧ W.heap[g]? = some (.cells cur 57 (0, 0)) ∧ W.cell? ⟨g, i * 3, none⟩ = some (.int .i64 (a[i]).f0) ∧ W.cell? ⟨g, i * 3 + 1, none⟩ = some (.string (a[i]).f1) ∧ W.cell? ⟨g, i * 3 + 2, none⟩ = some (.int .i64 (a[i]).f2) ∧ (∀ j, W.frozen? ⟨g, j, none⟩ = false) ∧
      (∀ (j : Nat) (u : Value) (a' : List S57), j < a.length * 3 → a'.length = a.length → (cellsN a).set j u = cellsN a' → HasD (W.setCell ⟨g, j, none⟩ u) base (.slice A m c0) v1 v2 v3 a' b c d) := by
  obtain ⟨_, ⟨_, hl0⟩ | ⟨g, cp, cur, hv, hbg, hg, hlc, hm, hsz, htk⟩⟩ := ownN h.r0
  · omega
  injection hv with h1 h2 h3
  subst h1 h2 h3
  have hat : ∀ j v, (cellsN a)[j]? = some v → W.cell? ⟨g, j, none⟩ = some v := fun j v hj => by
    rw [← htk, List.getElem?_take] at hj
    split at hj
    · rw [cell_of_row W g j cur _ _ hg]
      rw [Array.getElem?_toList] at hj
      exact hj
    · cases hj
  have hc := cellsN_at a i a[i] (List.getElem?_eq_getElem hi)
  have hget : ∀ q, q < 3 → (cellsN a)[i * 3 + q]? = ([.int .i64 (a[i]).f0, .string (a[i]).f1, .int .i64 (a[i]).f2] : List Value)[q]? := fun q hq => by
    rw [← hc, List.getElem?_take, if_pos hq, List.getElem?_drop]
  refine ⟨g, cur, rfl, rfl, hbg, hg, hat _ _ (hget 0 (by omega)), hat _ _ (hget 1 (by omega)), hat _ _ (hget 2 (by omega)), fun j => by simp [World.frozen?, hg], fun j u a' hj hla hcs => ?_⟩
  have hls : (cellsN a).length = a.length * 3 := cellsN_length a
  have hne1 : ∀ k, some k = v1.ownBlock → k ≠ g := fun k hk e => Kd.R_ne h.r1 hg (by decide) (by rw [← e]; exact hk)
  have hne2 : ∀ k, some k = v2.ownBlock → k ≠ g := fun k hk e => Kd.R_ne h.r2 hg (by decide) (by rw [← e]; exact hk)
  have hne3 : ∀ k, some k = v3.ownBlock → k ≠ g := fun k hk e => Kd.R_ne h.r3 hg (by decide) (by rw [← e]; exact hk)
  refine ⟨?_, Kd.R_step h.r1 fun k hk _ => Below.heap_setCell W ⟨g, j, none⟩ u k (hne1 k hk), Kd.R_step h.r2 fun k hk _ => Below.heap_setCell W ⟨g, j, none⟩ u k (hne2 k hk), Kd.R_step h.r3 fun k hk _ => Below.heap_setCell W ⟨g, j, none⟩ u k (hne3 k hk), h.ne⟩
  rw [setCell_eq_setRow W g j cur _ (0, 0) _ hg, ← hla]
  refine Kd.R_tight rfl (R_ofN ⟨cellsN_length _, .inr ⟨g, c0, _, rfl, hbg, setRow_heap W g cur _ _ _ hg, by rw [hla]; exact hlc, hm, by rw [Array.size_setIfInBounds]; exact hsz, ?_⟩⟩)
  rw [hla, Array.toList_setIfInBounds, List.take_set, htk, hcs]
/-! ### What a call may turn -/
structure Turned (w w' : World) (S : Nat → Prop) : Prop where
  os : w'.os = w.os
  tape : w'.tape = w.tape
  output : w'.output = w.output
  size : w.heap.size ≤ w'.heap.size
  block : ∀ k, k < w.heap.size → ¬ S k → w'.heap[k]? = w.heap[k]?
theorem Turned.refl (w : World) (S : Nat → Prop) : Turned w w S := ⟨rfl, rfl, rfl, Nat.le_refl _, fun _ _ _ => rfl⟩
theorem Turned.of {w w' : World} (h : Below w.heap.size w w') (S : Nat → Prop) : Turned w w' S := ⟨h.os, h.tape, h.output, h.size, fun k hk _ => h.block k hk⟩
theorem Turned.trans {a b c : World} {S : Nat → Prop} (h : Turned a b S) (k : Turned b c S) : Turned a c S :=
  ⟨k.os.trans h.os, k.tape.trans h.tape, k.output.trans h.output, Nat.le_trans h.size k.size, fun i hi hs => (k.block i (Nat.lt_of_lt_of_le hi h.size) hs).trans (h.block i hi hs)⟩
theorem Turned.mono {a b : World} {S S' : Nat → Prop} (h : Turned a b S) (hs : ∀ k, k < a.heap.size → S k → S' k) : Turned a b S' :=
  ⟨h.os, h.tape, h.output, h.size, fun i hi hn => h.block i hi fun hS => hn (hs i hi hS)⟩
/-- Two turnings, the second of which may turn what the first one has made. -/
theorem Turned.then {a b c : World} {S S' : Nat → Prop} (h : Turned a b S) (k : Turned b c S') (hs : ∀ i, S' i → S i ∨ a.heap.size ≤ i) : Turned a c S :=
  ⟨k.os.trans h.os, k.tape.trans h.tape, k.output.trans h.output, Nat.le_trans h.size k.size, fun i hi hn => (k.block i (Nat.lt_of_lt_of_le hi h.size) fun h' => (hs i h').elim hn (by omega)).trans (h.block i hi hn)⟩
theorem Turned.set {a b : World} {S : Nat → Prop} (h : Turned a b S) {p : Addr} (hp : S p.block ∨ a.heap.size ≤ p.block) (u : Value) : Turned a (b.setCell p u) S :=
  have hb := (Below.refl p.block b).setCell (Nat.le_refl _) (p := p) u
  ⟨hb.os.trans h.os, hb.tape.trans h.tape, hb.output.trans h.output, Nat.le_trans h.size hb.size, fun i hi hn => (Below.heap_setCell b p u i (fun e => hp.elim (fun hs => hn (e ▸ hs)) (fun hs => by omega))).trans (h.block i hi hn)⟩
theorem Turned.row {a b : World} {S : Nat → Prop} (h : Turned a b S) {g : Nat} (hg : S g ∨ a.heap.size ≤ g) (cs : Array Value) : Turned a (b.setRow g cs) S :=
  ⟨h.os, h.tape, h.output, Nat.le_trans h.size (by simp [World.setRow]), fun i hi hn => by
    have hi2 : i ≠ g := fun e => hg.elim (fun hs => hn (e ▸ hs)) (fun hs => by omega)
    rw [setRow_other b g i cs hi2]
    exact h.block i hi hn⟩
theorem Turned.below {w w' w0 : World} {S : Nat → Prop} {b : Nat} (h : Turned w w' S) (hb : Below b w0 w) (hs : ∀ k, S k → b ≤ k) (hw : b ≤ w.heap.size) : Below b w0 w' :=
  ⟨h.os.trans hb.os, h.tape.trans hb.tape, h.output.trans hb.output, Nat.le_trans hb.size h.size, fun k hk => (h.block k (by omega) fun hS => by have := hs k hS; omega).trans (hb.block k hk)⟩
section
variable {w w1 W : World} {base : Nat} {v0 v1 v2 v3 v0' v1' v2' v3' : Value} {a a' : List S57} {b c b' c' : List S59} {d d' : List ByteArray} {p : Nat → Prop}
theorem has_r3 (h : HasD w base v0 v1 v2 v3 a b c d) (hT : Turned w w1 (fun k => some k = v3.ownBlock)) (hR : Kd.R Kd.string 9 w1 base p v3' d') : HasD w1 base v0 v1 v2 v3' a b c d' := by
  have ty := Kd.R_typed h.r3
  refine ⟨Kd.R_step h.r0 fun k hk hl => hT.block k hl fun e => ?_, Kd.R_step h.r1 fun k hk hl => hT.block k hl fun e => ?_, Kd.R_step h.r2 fun k hk hl => hT.block k hl fun e => ?_, Kd.R_tight rfl hR, h.ne⟩
  · obtain ⟨z, hz⟩ := ty k e.symm
    exact Kd.R_ne h.r0 hz (by decide) hk
  · obtain ⟨z, hz⟩ := ty k e.symm
    exact Kd.R_ne h.r1 hz (by decide) hk
  · obtain ⟨z, hz⟩ := ty k e.symm
    exact Kd.R_ne h.r2 hz (by decide) hk
theorem has_r1 (h : HasD w base v0 v1 v2 v3 a b c d) (hb : Below w.heap.size w w1) (hw : base ≤ w.heap.size) (hR : Kd.R k59 59 w1 w.heap.size p v1' b') : HasD w1 base v0 v1' v2 v3 a b' c d := by
  have h2 := h.on hb
  refine ⟨h2.r0, Kd.R_tight rfl (Kd.R_lower hR hw), h2.r2, h2.r3, fun k hk hk2 => ?_⟩
  have := Kd.R_base hR k hk.symm
  have := Kd.R_lt h.r2 k hk2.symm
  omega
theorem has_slices (h : HasD w base v0 v1 v2 v3 a b c d) : ∃ A0 c0 A1 c1 A2 c2 A3 c3, v0 = .slice A0 a.length c0 ∧ v1 = .slice A1 b.length c1 ∧ v2 = .slice A2 c.length c2 ∧ v3 = .slice A3 d.length c3 := by
  obtain ⟨A0, c0, h0⟩ := Kd.R_slice h.r0
  obtain ⟨A1, c1, h1⟩ := Kd.R_slice h.r1
  obtain ⟨A2, c2, h2⟩ := Kd.R_slice h.r2
  obtain ⟨A3, c3, h3⟩ := Kd.R_slice h.r3
  exact ⟨A0, c0, A1, c1, A2, c2, A3, c3, h0, h1, h2, h3⟩
end
theorem cleanS_calls (k : Nat) {A0 : Option Addr} {c0 : Nat} {v1 v2 v3 : Value} {a : List S57} {b c : List S59} {d : List ByteArray} {e f : Int} {z1 : List S57} {z2 z3 : List S59} {z4 : List ByteArray} {z5 z6 : Int} (w0 w : World) (hB : Below w0.heap.size w0 w) (h : HasD w w0.heap.size (.slice A0 a.length c0) v1 v2 v3 a b c d)
    (hz : spec_l06Clean.f k a b c d e f = some (z1, z2, z3, z4, z5, z6)) : Calls Tryz.prog 97 #[.agg #[.slice A0 a.length c0, v1, v2, v3, .int .i64 e, .int .i64 f]] w fun e_ w' => ∃ u0 u1 u2 u3 : Value, e_ = .returned (.agg #[u0, u1, u2, u3, .int .i64 z5, .int .i64 z6]) ∧ HasD w' w0.heap.size u0 u1 u2 u3 z1 z2 z3 z4 ∧ Below w0.heap.size w0 w' ∧ Kept w w' (ownD (.slice A0 a.length c0) v1 v2 v3) := by
  have ty := Kd.R_typed h.r0
  refine (spec_l06Clean.calls k A0 c0 a (fun k => some k = v1.ownBlock) v1 b (fun k => some k = v2.ownBlock) v2 c (fun k => some k = v3.ownBlock) v3 d e f z1 z2 z3 z4 z5 z6 w0 w hB (Kd.C_kept_own h.r0 fun k hk hs => ?_) (Kd.R_reads' h.r0).2.1 h.r1 h.ne h.r2 (fun k h2 h1 => h.ne k h1 h2) h.r3 hz).mono ?_
  · obtain ⟨z, hzz⟩ := ty k hk.symm
    rcases hs with hs | hs | hs
    · exact Kd.R_ne h.r1 hzz (by decide) hs
    · exact Kd.R_ne h.r2 hzz (by decide) hs
    · exact Kd.R_ne h.r3 hzz (by decide) hs
  · rintro e_ w' ⟨u0, u1, u2, u3, rfl, p0, p1, p2, p3, hb, hk⟩
    exact ⟨u0, u1, u2, u3, rfl, HasD.of p0 (Kd.R_mono p1 fun _ hh => hh.2) p2 p3, hb, ⟨hk.1, fun i hi hn => hk.2 i hi fun hs => hn (.inr hs)⟩⟩
theorem filled_told {w1 : World} {g base : Nat} {v0 v1 v2 v3 : Value} (x4 x5 : Value) {a : List S57} {b c : List S59} {d : List ByteArray} {cs : Array Value} (h : HasD w1 base v0 v1 v2 v3 a b c d) (hb : w1.heap[g]? = some (.cells cs 32 (0, 0))) :
    Kd.R k57 57 ((((((w1.setCell ⟨g, 0, none⟩ v0).setCell ⟨g, 1, none⟩ v1).setCell ⟨g, 2, none⟩ v2).setCell ⟨g, 3, none⟩ v3).setCell ⟨g, 4, none⟩ x4).setCell ⟨g, 5, none⟩ x5) base (fun _ => True) v0 a ∧ Kd.R k59 59 ((((((w1.setCell ⟨g, 0, none⟩ v0).setCell ⟨g, 1, none⟩ v1).setCell ⟨g, 2, none⟩ v2).setCell ⟨g, 3, none⟩ v3).setCell ⟨g, 4, none⟩ x4).setCell ⟨g, 5, none⟩ x5) base (fun k_ => some k_ ≠ v2.ownBlock) v1 b ∧ Kd.R k59 59 ((((((w1.setCell ⟨g, 0, none⟩ v0).setCell ⟨g, 1, none⟩ v1).setCell ⟨g, 2, none⟩ v2).setCell ⟨g, 3, none⟩ v3).setCell ⟨g, 4, none⟩ x4).setCell ⟨g, 5, none⟩ x5) base (fun k_ => some k_ ≠ v1.ownBlock) v2 c ∧ Kd.R Kd.string 9 ((((((w1.setCell ⟨g, 0, none⟩ v0).setCell ⟨g, 1, none⟩ v1).setCell ⟨g, 2, none⟩ v2).setCell ⟨g, 3, none⟩ v3).setCell ⟨g, 4, none⟩ x4).setCell ⟨g, 5, none⟩ x5) base (fun _ => True) v3 d :=
  HasD.told (HasD.fill h hb (fun j hj => fill6_far hj))
def spec_RenameFile.f (k : Nat) (l0_0 : List S57) (l0_1 : List S59) (l0_2 : List S59) (l0_3 : List ByteArray) (a0_4 : Int) (a0_5 : Int) (a1 a2 : ByteArray) : Option (List (S57) × List (S59) × List (S59) × List ByteArray × Int × Int × Int) := (spec_l05Copy.f l0_0 l0_1 l0_2 l0_3 a0_4 a0_5).bind fun o => (spec_DiskOk.f k o.1 o.2.1 o.2.2.1 o.2.2.2.1 o.2.2.2.2.1 o.2.2.2.2.2).bind fun b => if b = true then (spec_l06Has.f k o.2.1 a1).bind fun hh => if hh = true then (spec_NameOk.f k a2).bind fun n => if n = true then (if (a1.toList == a2.toList) = true then some (o.1, o.2.1, o.2.2.1, o.2.2.2.1, o.2.2.2.2.1, o.2.2.2.2.2, 1) else (spec_EntryAt.f k o.2.1 a1).bind fun id => (spec_l06Drop.f k o.2.1 a1).bind fun q => (spec_l06Put.f k q a2 id).bind fun u => if (a1.size ≤ 70368744177664 ∧ a2.size ≤ 70368744177664) ∧ (o.2.2.2.1.length + 1) * 16 ≤ 140737488355328 then (spec_l06Clean.f k o.1 u o.2.2.1 (o.2.2.2.1 ++ [(((⟨#[62]⟩ : ByteArray) ++ a1 ++ ⟨#[58]⟩) ++ a2)]) o.2.2.2.2.1 o.2.2.2.2.2).bind fun z => some (z.1, z.2.1, z.2.2.1, z.2.2.2.1, z.2.2.2.2.1, z.2.2.2.2.2, 0) else none) else some (o.1, o.2.1, o.2.2.1, o.2.2.2.1, o.2.2.2.2.1, o.2.2.2.2.2, 1) else some (o.1, o.2.1, o.2.2.1, o.2.2.2.1, o.2.2.2.2.1, o.2.2.2.2.2, 3) else some (o.1, o.2.1, o.2.2.1, o.2.2.2.1, o.2.2.2.2.1, o.2.2.2.2.2, 3)
theorem spec_RenameFile.mono : ∀ l0_0 l0_1 l0_2 l0_3 a0_4 a0_5 a1 a2 k, LeO (spec_RenameFile.f k l0_0 l0_1 l0_2 l0_3 a0_4 a0_5 a1 a2) (spec_RenameFile.f (k + 1) l0_0 l0_1 l0_2 l0_3 a0_4 a0_5 a1 a2) := by
  intro l0_0 l0_1 l0_2 l0_3 a0_4 a0_5 a1 a2 k
  unfold spec_RenameFile.f
  repeat' first | (with_reducible exact LeO.refl _) | (with_reducible exact spec_l06Has.mono _ _ _) | (with_reducible exact spec_NameOk.mono _ _) | (with_reducible exact spec_EntryAt.mono _ _ _) | (with_reducible exact spec_l06Drop.mono _ _ _) | (with_reducible exact spec_l06Put.mono _ _ _ _) | (with_reducible exact spec_l06Clean.mono _ _ _ _ _ _ _) | (with_reducible exact spec_DiskOk.mono _ _ _ _ _ _ _) | (with_reducible refine LeO.ite ?_ ?_) | (with_reducible refine LeO.bind ?_ (fun _ => ?_))
set_option maxHeartbeats 4000000 in
set_option maxRecDepth 100000 in
theorem spec_RenameFile.calls (k : Nat) (A0_0 : Option Addr) (c0_0 : Nat) (l0_0 : List (S57)) (A0_1 : Option Addr) (c0_1 : Nat) (l0_1 : List (S59)) (A0_2 : Option Addr) (c0_2 : Nat) (l0_2 : List (S59)) (A0_3 : Option Addr) (c0_3 : Nat) (l0_3 : List ByteArray) (a0_4 : Int) (a0_5 : Int) (a1 a2 : ByteArray) (r1 : List S57) (r2 : List S59) (r3 : List S59) (r4 : List ByteArray) (r5 : Int) (r6 : Int) (r7 : Int) (w : World) (hr0_0 : Kd.C k57 w A0_0 l0_0.length l0_0) (hc0_0 : l0_0.length ≤ c0_0) (hr0_1 : Kd.C k59 w A0_1 l0_1.length l0_1) (hc0_1 : l0_1.length ≤ c0_1) (hr0_2 : Kd.C k59 w A0_2 l0_2.length l0_2) (hc0_2 : l0_2.length ≤ c0_2) (hr0_3 : Kd.C Kd.string w A0_3 l0_3.length l0_3) (hc0_3 : l0_3.length ≤ c0_3) (h : spec_RenameFile.f k l0_0 l0_1 l0_2 l0_3 a0_4 a0_5 a1 a2 = some (r1, r2, r3, r4, r5, r6, r7)) :
    Calls Tryz.prog 41 #[.agg #[.slice A0_0 l0_0.length c0_0, .slice A0_1 l0_1.length c0_1, .slice A0_2 l0_2.length c0_2, .slice A0_3 l0_3.length c0_3, .int .i64 a0_4, .int .i64 a0_5], .string a1, .string a2] w fun e w' => ∃ v0_ v1_ v2_ v3_ : Value, e = .returned (.tuple #[.agg #[v0_, v1_, v2_, v3_, .int .i64 r5, .int .i64 r6], .int .i64 r7]) ∧ Kd.R k57 57 w' w.heap.size (fun _ => True) v0_ r1 ∧ Kd.R k59 59 w' w.heap.size (fun k_ => some k_ ≠ (v2_ : Value).ownBlock) v1_ r2 ∧ Kd.R k59 59 w' w.heap.size (fun k_ => some k_ ≠ (v1_ : Value).ownBlock) v2_ r3 ∧ Kd.R Kd.string 9 w' w.heap.size (fun _ => True) v3_ r4 ∧ Below w.heap.size w w' := by
  unfold spec_RenameFile.f at h
  replace h := Option.bind_eq_some_iff.mp h
  obtain ⟨⟨o1, o2, o3, o4, o5, o6⟩, ho, h⟩ := h
  replace h := Option.bind_eq_some_iff.mp h
  obtain ⟨b, hbk, h⟩ := h
  dsimp only at h
  have CC := Aside0.mk (fun (w1 : World) (hb : Below w.heap.size w w1) => spec_l05Copy.calls A0_0 c0_0 l0_0 A0_1 c0_1 l0_1 A0_2 c0_2 l0_2 A0_3 c0_3 l0_3 a0_4 a0_5 o1 o2 o3 o4 o5 o6 w1 (Kd.C_below hr0_0 hb) hc0_0 (Kd.C_below hr0_1 hb) hc0_1 (Kd.C_below hr0_2 hb) hc0_2 (Kd.C_below hr0_3 hb) hc0_3 ho)
  have CD := Aside0.mk (fun (w1 : World) (A0 : Option Addr) (c0 : Nat) (A1 : Option Addr) (c1 : Nat) (A2 : Option Addr) (c2 : Nat) (A3 : Option Addr) (c3 : Nat) (h : HasD w1 w.heap.size (.slice A0 o1.length c0) (.slice A1 o2.length c1) (.slice A2 o3.length c2) (.slice A3 o4.length c3) o1 o2 o3 o4) => spec_DiskOk.calls k A0 c0 o1 A1 c1 o2 A2 c2 o3 A3 c3 o4 o5 o6 b w1 (Kd.R_reads' h.r0).2.2 (Kd.R_reads' h.r0).2.1 (Kd.R_reads' h.r1).2.2 (Kd.R_reads' h.r1).2.1 (Kd.R_reads' h.r2).2.2 (Kd.R_reads' h.r2).2.1 (Kd.R_reads' h.r3).2.2 (Kd.R_reads' h.r3).2.1 hbk)
  cases b
  (rw [if_neg (by decide)] at h; simp only [Option.some.injEq, Prod.mk.injEq] at h; obtain ⟨rfl, rfl, rfl, rfl, rfl, rfl, rfl⟩ := h; clear ho hbk hr0_0 hc0_0 hr0_1 hc0_1 hr0_2 hc0_2 hr0_3 hc0_3)
  (rotate_left 1; (rw [if_pos rfl] at h; replace h := Option.bind_eq_some_iff.mp h; obtain ⟨hh, hhh, h⟩ := h; have CH := Aside0.mk (fun (w1 : World) (A0 : Option Addr) (c0 : Nat) (A1 : Option Addr) (c1 : Nat) (A2 : Option Addr) (c2 : Nat) (A3 : Option Addr) (c3 : Nat) (h : HasD w1 w.heap.size (.slice A0 o1.length c0) (.slice A1 o2.length c1) (.slice A2 o3.length c2) (.slice A3 o4.length c3) o1 o2 o3 o4) => spec_l06Has.calls k A1 c1 o2 a1 hh w1 (Kd.R_reads' h.r1).2.2 (Kd.R_reads' h.r1).2.1 hhh); cases hh); rotate_right 1)
  (rotate_left 1; (rw [if_neg (by decide)] at h; simp only [Option.some.injEq, Prod.mk.injEq] at h; obtain ⟨rfl, rfl, rfl, rfl, rfl, rfl, rfl⟩ := h; clear ho hbk hhh hr0_0 hc0_0 hr0_1 hc0_1 hr0_2 hc0_2 hr0_3 hc0_3); rotate_right 1)
  (rotate_left 2; (rw [if_pos rfl] at h; replace h := Option.bind_eq_some_iff.mp h; obtain ⟨n, hn, h⟩ := h; have CN := Aside0.mk (fun (w1 : World) => spec_NameOk.calls k a2 n w1 hn); cases n); rotate_right 2)
  (rotate_left 2; (rw [if_neg (by decide)] at h; simp only [Option.some.injEq, Prod.mk.injEq] at h; obtain ⟨rfl, rfl, rfl, rfl, rfl, rfl, rfl⟩ := h; clear ho hbk hhh hn hr0_0 hc0_0 hr0_1 hc0_1 hr0_2 hc0_2 hr0_3 hc0_3); rotate_right 2)
  (rotate_left 3; (rw [if_pos rfl] at h; cases hqq : (a1.toList == a2.toList)); rotate_right 3)
  (rotate_left 4; (rw [hqq, if_pos rfl] at h; have hq2 : a1.toList = a2.toList := (by simpa using hqq); simp only [Option.some.injEq, Prod.mk.injEq] at h; obtain ⟨rfl, rfl, rfl, rfl, rfl, rfl, rfl⟩ := h; clear ho hbk hhh hn hr0_0 hc0_0 hr0_1 hc0_1 hr0_2 hc0_2 hr0_3 hc0_3); rotate_right 4)
  (rotate_left 3; (rw [hqq, if_neg (by decide)] at h; have hq2 : ¬ a1.toList = a2.toList := (by simpa using hqq); replace h := Option.bind_eq_some_iff.mp h; obtain ⟨id, hid, h⟩ := h; replace h := Option.bind_eq_some_iff.mp h; obtain ⟨q, hq, h⟩ := h; replace h := Option.bind_eq_some_iff.mp h; obtain ⟨u, hu, h⟩ := h; have CI := Aside0.mk (fun (w1 : World) (A0 : Option Addr) (c0 : Nat) (A1 : Option Addr) (c1 : Nat) (A2 : Option Addr) (c2 : Nat) (A3 : Option Addr) (c3 : Nat) (h : HasD w1 w.heap.size (.slice A0 o1.length c0) (.slice A1 o2.length c1) (.slice A2 o3.length c2) (.slice A3 o4.length c3) o1 o2 o3 o4) => spec_EntryAt.calls k A1 c1 o2 a1 id w1 (Kd.R_reads' h.r1).2.2 (Kd.R_reads' h.r1).2.1 hid); have CQ := Aside0.mk (fun (w1 : World) (A0 : Option Addr) (c0 : Nat) (A1 : Option Addr) (c1 : Nat) (A2 : Option Addr) (c2 : Nat) (A3 : Option Addr) (c3 : Nat) (h : HasD w1 w.heap.size (.slice A0 o1.length c0) (.slice A1 o2.length c1) (.slice A2 o3.length c2) (.slice A3 o4.length c3) o1 o2 o3 o4) => spec_l06Drop.calls k A1 c1 o2 a1 q w1 (Kd.R_reads' h.r1).2.2 (Kd.R_reads' h.r1).2.1 hq); have CU := Aside0.mk (fun (w1 : World) (B : Nat) (p : Nat → Prop) (A4 : Option Addr) (c4 : Nat) (h : Kd.R k59 59 w1 B p (.slice A4 q.length c4) q) => spec_l06Put.calls k A4 c4 q a2 id u w1 (Kd.R_reads' h).2.2 (Kd.R_reads' h).2.1 hu); by_cases hl : (a1.size ≤ 70368744177664 ∧ a2.size ≤ 70368744177664) ∧ (o4.length + 1) * 16 ≤ 140737488355328); rotate_right 3)
  (rotate_left 4; (rw [if_neg hl] at h; cases h); rotate_right 4)
  (rotate_left 3; (rw [if_pos hl] at h; obtain ⟨⟨hz1, hz2⟩, hl⟩ := hl; have HL := Aside0.mk hl; clear ho hbk hhh hn hid hq hu hl hr0_0 hc0_0 hr0_1 hc0_1 hr0_2 hc0_2 hr0_3 hc0_3; generalize hdl : (o4 ++ [(((⟨#[62]⟩ : ByteArray) ++ a1 ++ ⟨#[58]⟩) ++ a2)]) = dl at h; have HDL := Aside0.mk hdl; clear hdl; have hcat1 : ¬ 9223372036854775807 < (⟨#[62]⟩ : ByteArray).size + a1.size := (by show ¬ 9223372036854775807 < 1 + a1.size; omega); have hcat2 : ¬ 9223372036854775807 < ((⟨#[62]⟩ : ByteArray) ++ a1).size + (⟨#[58]⟩ : ByteArray).size := (by rw [ByteArray.size_append]; show ¬ 9223372036854775807 < 1 + a1.size + 1; omega); have hcat3 : ¬ 9223372036854775807 < ((⟨#[62]⟩ : ByteArray) ++ a1 ++ ⟨#[58]⟩).size + a2.size := (by rw [ByteArray.size_append, ByteArray.size_append]; show ¬ 9223372036854775807 < 1 + a1.size + 1 + a2.size; omega); replace h := Option.bind_eq_some_iff.mp h; obtain ⟨⟨z1, z2, z3, z4, z5, z6⟩, hz, h⟩ := h; dsimp only at h; have HZ := Aside0.mk hz; clear hz; generalize hs : (((⟨#[62]⟩ : ByteArray) ++ a1 ++ ⟨#[58]⟩) ++ a2) = s at HDL; simp only [Option.some.injEq, Prod.mk.injEq] at h; obtain ⟨rfl, rfl, rfl, rfl, rfl, rfl, rfl⟩ := h); rotate_right 3)
  all_goals (go_enter Tryz.func41, Tryz.ntmps41; go_wp2_with (first | ((with_reducible refine gate_dst (N := 3) rfl ?_); refine box_event ?hg (N := 3) ?hd (cs := #[.slice A0_0 l0_0.length c0_0, .slice A0_1 l0_1.length c0_1, .slice A0_2 l0_2.length c0_2, .slice A0_3 l0_3.length c0_3, .int .i64 a0_4, .int .i64 a0_5]) (t := 32) ?hr ?_; (case hd => rfl); (case hg => rfl); (case hr => first | (go_simp; done) | (go_simp; rfl)); intro gD hg w1 hbox hb; have GD := Aside0.mk (Nat.le_of_eq hg.symm); have BL := Aside0.mk hb; have BD := Aside0.mk hbox; clear hb; (try clear iD0 iD1 iD2 iD3 iD4 iD5); obtain ⟨iD0, iD1, iD2, iD3, iD4, iD5⟩ := blk6 BD.out; (try clear zD0 zD1 zD2 zD3 zD4 zD5); have zD0 := blk_frozen BD.out 0; have zD1 := blk_frozen BD.out 1; have zD2 := blk_frozen BD.out 2; have zD3 := blk_frozen BD.out 3; have zD4 := blk_frozen BD.out 4; have zD5 := blk_frozen BD.out 5; clear hg hbox) | ((with_reducible refine gate_dst (N := 6) rfl ?_); refine box_event ?hg (N := 6) ?hd (cs := #[.slice none 0 0, .slice none 0 0, .slice none 0 0, .slice none 0 0, .int .i64 0, .int .i64 0]) (t := 32) ?hr ?_; (case hd => rfl); (case hg => rfl); (case hr => first | (go_simp; done) | (go_simp; rfl)); intro gR hg w1 hbox hb; have GR := Aside0.mk (show w.heap.size ≤ gR by rw [hg]; exact BL.out.size); have RD := Aside0.mk (show gR ≠ gD by rw [hg]; exact Nat.ne_of_gt (blk_lt BD.out)); replace BL := Aside0.mk (BL.out.trans (hb.mono BL.out.size)); (try replace BD := Aside0.mk ((hb.block gD (blk_lt BD.out)).trans BD.out)); (try replace BR := Aside0.mk ((hb.block gR (blk_lt BR.out)).trans BR.out)); (try replace Do := Aside0.mk (Do.out.on hb)); have BR := Aside0.mk hbox; clear hb; (try clear iD0 iD1 iD2 iD3 iD4 iD5); obtain ⟨iD0, iD1, iD2, iD3, iD4, iD5⟩ := blk6 BD.out; (try clear iR0 iR1 iR2 iR3 iR4 iR5); obtain ⟨iR0, iR1, iR2, iR3, iR4, iR5⟩ := blk6 BR.out; (try clear zD0 zD1 zD2 zD3 zD4 zD5); have zD0 := blk_frozen BD.out 0; have zD1 := blk_frozen BD.out 1; have zD2 := blk_frozen BD.out 2; have zD3 := blk_frozen BD.out 3; have zD4 := blk_frozen BD.out 4; have zD5 := blk_frozen BD.out 5; (try clear zR0 zR1 zR2 zR3 zR4 zR5); have zR0 := blk_frozen BR.out 0; have zR1 := blk_frozen BR.out 1; have zR2 := blk_frozen BR.out 2; have zR3 := blk_frozen BR.out 3; have zR4 := blk_frozen BR.out 4; have zR5 := blk_frozen BR.out 5; clear hg hbox) | (go_at_call 78; have hbs := BL.out.size; (with_reducible refine (CC.out _ BL.out).mono ?_); rintro e w1 ⟨v0, v1, v2, v3, rfl, p0, p1, p2, p3, hb⟩; have hD := HasD.of p0 p1 p2 p3; replace BL := Aside0.mk (BL.out.trans (hb.mono BL.out.size)); (try replace BD := Aside0.mk ((hb.block gD (blk_lt BD.out)).trans BD.out)); (try replace BR := Aside0.mk ((hb.block gR (blk_lt BR.out)).trans BR.out)); (try replace Do := Aside0.mk (Do.out.on hb)); have Do := Aside0.mk (hD.lower hbs); obtain ⟨A0, c0, rfl⟩ := Kd.R_slice p0; obtain ⟨A1, c1, rfl⟩ := Kd.R_slice p1; obtain ⟨A2, c2, rfl⟩ := Kd.R_slice p2; obtain ⟨A3, c3, rfl⟩ := Kd.R_slice p3; clear hD hb hbs p0 p1 p2 p3; (try clear iD0 iD1 iD2 iD3 iD4 iD5); obtain ⟨iD0, iD1, iD2, iD3, iD4, iD5⟩ := blk6 BD.out; (try clear iR0 iR1 iR2 iR3 iR4 iR5); obtain ⟨iR0, iR1, iR2, iR3, iR4, iR5⟩ := blk6 BR.out; (try clear zD0 zD1 zD2 zD3 zD4 zD5); have zD0 := blk_frozen BD.out 0; have zD1 := blk_frozen BD.out 1; have zD2 := blk_frozen BD.out 2; have zD3 := blk_frozen BD.out 3; have zD4 := blk_frozen BD.out 4; have zD5 := blk_frozen BD.out 5; (try clear zR0 zR1 zR2 zR3 zR4 zR5); have zR0 := blk_frozen BR.out 0; have zR1 := blk_frozen BR.out 1; have zR2 := blk_frozen BR.out 2; have zR3 := blk_frozen BR.out 3; have zR4 := blk_frozen BR.out 4; have zR5 := blk_frozen BR.out 5) | (go_at_call 16; refine fill6_calls BD.out (fun W hO hk hs => ?_); replace Do := Aside0.mk (HasD.fill Do.out BD.out hs); replace BR := Aside0.mk ((hs gR RD.out).trans BR.out); replace BL := Aside0.mk (hk BL.out GD.out); replace BD := Aside0.mk hO; clear hO hk hs; (with_reducible refine (CD.out _ _ _ _ _ _ _ _ _ Do.out).mono ?_); rintro e w1 ⟨rfl, hb⟩; replace BL := Aside0.mk (BL.out.trans (hb.mono BL.out.size)); (try replace BD := Aside0.mk ((hb.block gD (blk_lt BD.out)).trans BD.out)); (try replace BR := Aside0.mk ((hb.block gR (blk_lt BR.out)).trans BR.out)); (try replace Do := Aside0.mk (Do.out.on hb)); clear hb; (try clear iD0 iD1 iD2 iD3 iD4 iD5); obtain ⟨iD0, iD1, iD2, iD3, iD4, iD5⟩ := blk6 BD.out; (try clear iR0 iR1 iR2 iR3 iR4 iR5); obtain ⟨iR0, iR1, iR2, iR3, iR4, iR5⟩ := blk6 BR.out; (try clear zD0 zD1 zD2 zD3 zD4 zD5); have zD0 := blk_frozen BD.out 0; have zD1 := blk_frozen BD.out 1; have zD2 := blk_frozen BD.out 2; have zD3 := blk_frozen BD.out 3; have zD4 := blk_frozen BD.out 4; have zD5 := blk_frozen BD.out 5; (try clear zR0 zR1 zR2 zR3 zR4 zR5); have zR0 := blk_frozen BR.out 0; have zR1 := blk_frozen BR.out 1; have zR2 := blk_frozen BR.out 2; have zR3 := blk_frozen BR.out 3; have zR4 := blk_frozen BR.out 4; have zR5 := blk_frozen BR.out 5) | (go_at_call 79; (with_reducible refine (CH.out _ _ _ _ _ _ _ _ _ Do.out).mono ?_); rintro e wq ⟨rfl, hq⟩; have hb : Below w1.heap.size w1 wq := (by obtain ⟨nd, hnd⟩ := hq; rw [hnd]; exact pw_below_drewN (Below.refl _ _) nd); clear hq; replace BL := Aside0.mk (BL.out.trans (hb.mono BL.out.size)); (try replace BD := Aside0.mk ((hb.block gD (blk_lt BD.out)).trans BD.out)); (try replace BR := Aside0.mk ((hb.block gR (blk_lt BR.out)).trans BR.out)); (try replace Do := Aside0.mk (Do.out.on hb)); clear hb; obtain ⟨w1, hw1⟩ : ∃ x, x = wq := ⟨_, rfl⟩; subst hw1; (try clear iD0 iD1 iD2 iD3 iD4 iD5); obtain ⟨iD0, iD1, iD2, iD3, iD4, iD5⟩ := blk6 BD.out; (try clear iR0 iR1 iR2 iR3 iR4 iR5); obtain ⟨iR0, iR1, iR2, iR3, iR4, iR5⟩ := blk6 BR.out; (try clear zD0 zD1 zD2 zD3 zD4 zD5); have zD0 := blk_frozen BD.out 0; have zD1 := blk_frozen BD.out 1; have zD2 := blk_frozen BD.out 2; have zD3 := blk_frozen BD.out 3; have zD4 := blk_frozen BD.out 4; have zD5 := blk_frozen BD.out 5; (try clear zR0 zR1 zR2 zR3 zR4 zR5); have zR0 := blk_frozen BR.out 0; have zR1 := blk_frozen BR.out 1; have zR2 := blk_frozen BR.out 2; have zR3 := blk_frozen BR.out 3; have zR4 := blk_frozen BR.out 4; have zR5 := blk_frozen BR.out 5) | (go_at_call 99; (with_reducible refine (CN.out _).mono ?_); rintro e wq ⟨rfl, hq⟩; have hb : Below w1.heap.size w1 wq := (by obtain ⟨nd, hnd⟩ := hq; rw [hnd]; exact pw_below_drewN (Below.refl _ _) nd); clear hq; replace BL := Aside0.mk (BL.out.trans (hb.mono BL.out.size)); (try replace BD := Aside0.mk ((hb.block gD (blk_lt BD.out)).trans BD.out)); (try replace BR := Aside0.mk ((hb.block gR (blk_lt BR.out)).trans BR.out)); (try replace Do := Aside0.mk (Do.out.on hb)); clear hb; obtain ⟨w1, hw1⟩ : ∃ x, x = wq := ⟨_, rfl⟩; subst hw1; (try clear iD0 iD1 iD2 iD3 iD4 iD5); obtain ⟨iD0, iD1, iD2, iD3, iD4, iD5⟩ := blk6 BD.out; (try clear iR0 iR1 iR2 iR3 iR4 iR5); obtain ⟨iR0, iR1, iR2, iR3, iR4, iR5⟩ := blk6 BR.out; (try clear zD0 zD1 zD2 zD3 zD4 zD5); have zD0 := blk_frozen BD.out 0; have zD1 := blk_frozen BD.out 1; have zD2 := blk_frozen BD.out 2; have zD3 := blk_frozen BD.out 3; have zD4 := blk_frozen BD.out 4; have zD5 := blk_frozen BD.out 5; (try clear zR0 zR1 zR2 zR3 zR4 zR5); have zR0 := blk_frozen BR.out 0; have zR1 := blk_frozen BR.out 1; have zR2 := blk_frozen BR.out 2; have zR3 := blk_frozen BR.out 3; have zR4 := blk_frozen BR.out 4; have zR5 := blk_frozen BR.out 5) | (go_at_call 81; (with_reducible refine (CI.out _ _ _ _ _ _ _ _ _ Do.out).mono ?_); rintro e wq ⟨rfl, hq⟩; have hb : Below w1.heap.size w1 wq := (by obtain ⟨nd, hnd⟩ := hq; rw [hnd]; exact pw_below_drewN (Below.refl _ _) nd); clear hq; replace BL := Aside0.mk (BL.out.trans (hb.mono BL.out.size)); (try replace BD := Aside0.mk ((hb.block gD (blk_lt BD.out)).trans BD.out)); (try replace BR := Aside0.mk ((hb.block gR (blk_lt BR.out)).trans BR.out)); (try replace Do := Aside0.mk (Do.out.on hb)); clear hb; obtain ⟨w1, hw1⟩ : ∃ x, x = wq := ⟨_, rfl⟩; subst hw1; (try clear iD0 iD1 iD2 iD3 iD4 iD5); obtain ⟨iD0, iD1, iD2, iD3, iD4, iD5⟩ := blk6 BD.out; (try clear iR0 iR1 iR2 iR3 iR4 iR5); obtain ⟨iR0, iR1, iR2, iR3, iR4, iR5⟩ := blk6 BR.out; (try clear zD0 zD1 zD2 zD3 zD4 zD5); have zD0 := blk_frozen BD.out 0; have zD1 := blk_frozen BD.out 1; have zD2 := blk_frozen BD.out 2; have zD3 := blk_frozen BD.out 3; have zD4 := blk_frozen BD.out 4; have zD5 := blk_frozen BD.out 5; (try clear zR0 zR1 zR2 zR3 zR4 zR5); have zR0 := blk_frozen BR.out 0; have zR1 := blk_frozen BR.out 1; have zR2 := blk_frozen BR.out 2; have zR3 := blk_frozen BR.out 3; have zR4 := blk_frozen BR.out 4; have zR5 := blk_frozen BR.out 5) | (go_at_call 106; have LW := BL.out.size; (with_reducible refine (CQ.out _ _ _ _ _ _ _ _ _ Do.out).mono ?_); rintro e w1 ⟨v4, rfl, hR4, hb⟩; obtain ⟨A4, c4, rfl⟩ := Kd.R_slice hR4; have R4 := Aside0.mk hR4; replace BL := Aside0.mk (BL.out.trans (hb.mono BL.out.size)); (try replace BD := Aside0.mk ((hb.block gD (blk_lt BD.out)).trans BD.out)); (try replace BR := Aside0.mk ((hb.block gR (blk_lt BR.out)).trans BR.out)); (try replace Do := Aside0.mk (Do.out.on hb)); clear hR4 hb LW; (try clear iD0 iD1 iD2 iD3 iD4 iD5); obtain ⟨iD0, iD1, iD2, iD3, iD4, iD5⟩ := blk6 BD.out; (try clear iR0 iR1 iR2 iR3 iR4 iR5); obtain ⟨iR0, iR1, iR2, iR3, iR4, iR5⟩ := blk6 BR.out; (try clear zD0 zD1 zD2 zD3 zD4 zD5); have zD0 := blk_frozen BD.out 0; have zD1 := blk_frozen BD.out 1; have zD2 := blk_frozen BD.out 2; have zD3 := blk_frozen BD.out 3; have zD4 := blk_frozen BD.out 4; have zD5 := blk_frozen BD.out 5; (try clear zR0 zR1 zR2 zR3 zR4 zR5); have zR0 := blk_frozen BR.out 0; have zR1 := blk_frozen BR.out 1; have zR2 := blk_frozen BR.out 2; have zR3 := blk_frozen BR.out 3; have zR4 := blk_frozen BR.out 4; have zR5 := blk_frozen BR.out 5) | (go_at_call 100; have LW := BL.out.size; (with_reducible refine (CU.out _ _ _ _ _ R4.out).mono ?_); rintro e w1 ⟨v4, rfl, hR4, hb⟩; obtain ⟨A6, c6, rfl⟩ := Kd.R_slice hR4; replace Do := Aside0.mk (has_r1 Do.out hb LW hR4); replace BL := Aside0.mk (BL.out.trans (hb.mono BL.out.size)); (try replace BD := Aside0.mk ((hb.block gD (blk_lt BD.out)).trans BD.out)); (try replace BR := Aside0.mk ((hb.block gR (blk_lt BR.out)).trans BR.out)); clear hR4 hb LW; (try clear iD0 iD1 iD2 iD3 iD4 iD5); obtain ⟨iD0, iD1, iD2, iD3, iD4, iD5⟩ := blk6 BD.out; (try clear iR0 iR1 iR2 iR3 iR4 iR5); obtain ⟨iR0, iR1, iR2, iR3, iR4, iR5⟩ := blk6 BR.out; (try clear zD0 zD1 zD2 zD3 zD4 zD5); have zD0 := blk_frozen BD.out 0; have zD1 := blk_frozen BD.out 1; have zD2 := blk_frozen BD.out 2; have zD3 := blk_frozen BD.out 3; have zD4 := blk_frozen BD.out 4; have zD5 := blk_frozen BD.out 5; (try clear zR0 zR1 zR2 zR3 zR4 zR5); have zR0 := blk_frozen BR.out 0; have zR1 := blk_frozen BR.out 1; have zR2 := blk_frozen BR.out 2; have zR3 := blk_frozen BR.out 3; have zR4 := blk_frozen BR.out 4; have zR5 := blk_frozen BR.out 5) | ((with_reducible refine gate_store (t := 30) (p := 43) rfl ?_); refine store_event (t := 30) (p := 43) (v := ?vo43) (w1 := w1.setCell ⟨gD, 1, none⟩ (.slice A6 u.length c6)) ?hg ?ho ?hn ?hr ?_; (case ho => rfl); (case hg => rfl); (case hn => rfl); (case hr => first | (go_simp; done) | (go_simp; rfl)); intro wz hw; have hs : ∀ j, j ≠ gD → wz.heap[j]? = w1.heap[j]? := (by rw [hw]; exact fun j hj => Below.heap_setCell w1 ⟨gD, 1, none⟩ _ j hj); have hbl : Below w.heap.size w wz := (by rw [hw]; exact below_set BL.out GD.out); have hG : wz.heap[gD]? = some (.cells #[.slice A0 o1.length c0, .slice A6 u.length c6, .slice A2 o3.length c2, .slice A3 o4.length c3, .int .i64 o5, .int .i64 o6] 32 (0, 0)) := (by rw [hw]; exact blk_put (cs := #[.slice A0 o1.length c0, .slice A1 o2.length c1, .slice A2 o3.length c2, .slice A3 o4.length c3, .int .i64 o5, .int .i64 o6]) BD.out 1 _ rfl); clear hw; replace Do := Aside0.mk (HasD.fill Do.out BD.out hs); replace BR := Aside0.mk ((hs gR RD.out).trans BR.out); clear BL BD; have BL := Aside0.mk hbl; have BD := Aside0.mk hG; clear hs hbl hG; obtain ⟨w1, hw1⟩ : ∃ x, x = wz := ⟨_, rfl⟩; subst hw1; (try clear iD0 iD1 iD2 iD3 iD4 iD5); obtain ⟨iD0, iD1, iD2, iD3, iD4, iD5⟩ := blk6 BD.out; (try clear iR0 iR1 iR2 iR3 iR4 iR5); obtain ⟨iR0, iR1, iR2, iR3, iR4, iR5⟩ := blk6 BR.out; (try clear zD0 zD1 zD2 zD3 zD4 zD5); have zD0 := blk_frozen BD.out 0; have zD1 := blk_frozen BD.out 1; have zD2 := blk_frozen BD.out 2; have zD3 := blk_frozen BD.out 3; have zD4 := blk_frozen BD.out 4; have zD5 := blk_frozen BD.out 5; (try clear zR0 zR1 zR2 zR3 zR4 zR5); have zR0 := blk_frozen BR.out 0; have zR1 := blk_frozen BR.out 1; have zR2 := blk_frozen BR.out 2; have zR3 := blk_frozen BR.out 3; have zR4 := blk_frozen BR.out 4; have zR5 := blk_frozen BR.out 5) | (at_builtin; refine Kd.R_append Kd.string (w0 := w) w.heap.size rfl (.tmp 45) (.tmp 51) 24 9 (.string ⟨#[]⟩) 16 rfl Tryz.underlying24 info9 rfl (by decide) (by decide) (.slice A3 o4.length c3) o4 s [.string s] _ (fun _ => False) rfl rfl rfl (fun _ h => h.elim) (fun k hk => .inr hk) (Kd.R_mono (ok' := fun k => some k = (Value.slice A3 o4.length c3).ownBlock ∨ _ ≤ k) Do.out.r3 fun k hk => .inl hk) BL.out BL.out.size HL.out ?_; intro v1 w1 hO1 hb1 hg1 hat1; rw [HDL.out] at hO1; obtain ⟨A5, c5, rfl⟩ := Kd.R_slice hO1; have hT : Turned _ w1 _ := ⟨hg1.os, hg1.tape, hg1.output, hg1.size, fun k hk hn => hg1.block k hk hn⟩; have hD := has_r3 Do.out hT hO1; replace BD := Aside0.mk ((hT.block gD (blk_lt BD.out) (fun e => Do.out.nobox BD.out (by decide) (by decide) (by decide) (.inr (.inr (.inr e))))).trans BD.out); replace BR := Aside0.mk ((hT.block gR (blk_lt BR.out) (fun e => Do.out.nobox BR.out (by decide) (by decide) (by decide) (.inr (.inr (.inr e))))).trans BR.out); clear BL Do; have BL := Aside0.mk hb1; have Do := Aside0.mk hD; clear hD hO1 hb1 hg1 hat1 hT; (try clear iD0 iD1 iD2 iD3 iD4 iD5); obtain ⟨iD0, iD1, iD2, iD3, iD4, iD5⟩ := blk6 BD.out; (try clear iR0 iR1 iR2 iR3 iR4 iR5); obtain ⟨iR0, iR1, iR2, iR3, iR4, iR5⟩ := blk6 BR.out; (try clear zD0 zD1 zD2 zD3 zD4 zD5); have zD0 := blk_frozen BD.out 0; have zD1 := blk_frozen BD.out 1; have zD2 := blk_frozen BD.out 2; have zD3 := blk_frozen BD.out 3; have zD4 := blk_frozen BD.out 4; have zD5 := blk_frozen BD.out 5; (try clear zR0 zR1 zR2 zR3 zR4 zR5); have zR0 := blk_frozen BR.out 0; have zR1 := blk_frozen BR.out 1; have zR2 := blk_frozen BR.out 2; have zR3 := blk_frozen BR.out 3; have zR4 := blk_frozen BR.out 4; have zR5 := blk_frozen BR.out 5) | ((with_reducible refine gate_store (t := 24) (p := 53) rfl ?_); refine store_event (t := 24) (p := 53) (v := ?vo53) (w1 := w1.setCell ⟨gD, 3, none⟩ (.slice A5 dl.length c5)) ?hg ?ho ?hn ?hr ?_; (case ho => rfl); (case hg => rfl); (case hn => rfl); (case hr => first | (go_simp; done) | (go_simp; rfl)); intro wz hw; have hs : ∀ j, j ≠ gD → wz.heap[j]? = w1.heap[j]? := (by rw [hw]; exact fun j hj => Below.heap_setCell w1 ⟨gD, 3, none⟩ _ j hj); have hbl : Below w.heap.size w wz := (by rw [hw]; exact below_set BL.out GD.out); have hG : wz.heap[gD]? = some (.cells #[.slice A0 o1.length c0, .slice A6 u.length c6, .slice A2 o3.length c2, .slice A5 dl.length c5, .int .i64 o5, .int .i64 o6] 32 (0, 0)) := (by rw [hw]; exact blk_put (cs := #[.slice A0 o1.length c0, .slice A6 u.length c6, .slice A2 o3.length c2, .slice A3 o4.length c3, .int .i64 o5, .int .i64 o6]) BD.out 3 _ rfl); clear hw; replace Do := Aside0.mk (HasD.fill Do.out BD.out hs); replace BR := Aside0.mk ((hs gR RD.out).trans BR.out); clear BL BD; have BL := Aside0.mk hbl; have BD := Aside0.mk hG; clear hs hbl hG; obtain ⟨w1, hw1⟩ : ∃ x, x = wz := ⟨_, rfl⟩; subst hw1; (try clear iD0 iD1 iD2 iD3 iD4 iD5); obtain ⟨iD0, iD1, iD2, iD3, iD4, iD5⟩ := blk6 BD.out; (try clear iR0 iR1 iR2 iR3 iR4 iR5); obtain ⟨iR0, iR1, iR2, iR3, iR4, iR5⟩ := blk6 BR.out; (try clear zD0 zD1 zD2 zD3 zD4 zD5); have zD0 := blk_frozen BD.out 0; have zD1 := blk_frozen BD.out 1; have zD2 := blk_frozen BD.out 2; have zD3 := blk_frozen BD.out 3; have zD4 := blk_frozen BD.out 4; have zD5 := blk_frozen BD.out 5; (try clear zR0 zR1 zR2 zR3 zR4 zR5); have zR0 := blk_frozen BR.out 0; have zR1 := blk_frozen BR.out 1; have zR2 := blk_frozen BR.out 2; have zR3 := blk_frozen BR.out 3; have zR4 := blk_frozen BR.out 4; have zR5 := blk_frozen BR.out 5) | (go_at_call 97; refine (cleanS_calls k w _ BL.out Do.out HZ.out).mono ?_; rintro e w2 ⟨u0, u1, u2, u3, rfl, hD, hb, hk⟩; have BR2 := Aside0.mk ((hk.2 gR (blk_lt BR.out) (Do.out.nobox BR.out (by decide) (by decide) (by decide))).trans BR.out); obtain ⟨B0, b0, B1, b1, B2, b2, B3, b3, rfl, rfl, rfl, rfl⟩ := has_slices hD; clear BR BL BD Do; have BR := BR2; have BL := Aside0.mk hb; have Do := Aside0.mk hD; clear BR2 hD hb hk; clear iD0 iD1 iD2 iD3 iD4 iD5 zD0 zD1 zD2 zD3 zD4 zD5; (try clear iR0 iR1 iR2 iR3 iR4 iR5); obtain ⟨iR0, iR1, iR2, iR3, iR4, iR5⟩ := blk6 BR.out; (try clear zR0 zR1 zR2 zR3 zR4 zR5); have zR0 := blk_frozen BR.out 0; have zR1 := blk_frozen BR.out 1; have zR2 := blk_frozen BR.out 2; have zR3 := blk_frozen BR.out 3; have zR4 := blk_frozen BR.out 4; have zR5 := blk_frozen BR.out 5)))
  iterate 3 (refine bodyPost_ret (results_ct rfl _ _ gR 32 #[.slice A0 o1.length c0, .slice A1 o2.length c1, .slice A2 o3.length c2, .slice A3 o4.length c3, .int .i64 o5, .int .i64 o6] (0, 0) _ rfl (fill6_at BR.out) Tryz.underlying32 rfl (by kernel_rfl)) rfl ?_; have hT := filled_told (.int .i64 o5) (.int .i64 o6) Do.out BR.out; exact ⟨_, _, _, _, rfl, hT.1, hT.2.1, hT.2.2.1, hT.2.2.2, fill6_below BL.out GR.out⟩)
  refine bodyPost_ret (results_ct rfl _ _ gR 32 #[.slice B0 z1.length b0, .slice B1 z2.length b1, .slice B2 z3.length b2, .slice B3 z4.length b3, .int .i64 z5, .int .i64 z6] (0, 0) _ rfl (fill6_at BR.out) Tryz.underlying32 rfl (by kernel_rfl)) rfl ?_
  have hT := filled_told (.int .i64 z5) (.int .i64 z6) Do.out BR.out
  exact ⟨_, _, _, _, rfl, hT.1, hT.2.1, hT.2.2.1, hT.2.2.2, fill6_below BL.out GR.out⟩
  refine bodyPost_ret (results_ct rfl _ _ gR 32 #[.slice A0 o1.length c0, .slice A1 o2.length c1, .slice A2 o3.length c2, .slice A3 o4.length c3, .int .i64 o5, .int .i64 o6] (0, 0) _ rfl (fill6_at BR.out) Tryz.underlying32 rfl (by kernel_rfl)) rfl ?_
  have hT := filled_told (.int .i64 o5) (.int .i64 o6) Do.out BR.out
  exact ⟨_, _, _, _, rfl, hT.1, hT.2.1, hT.2.2.1, hT.2.2.2, fill6_below BL.out GR.out⟩

end Go.Proofs.YtbcidclclckgfaaGreatDoor.MFnExactRenameFile
