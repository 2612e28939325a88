/- Each theorem here says that a call of one Go function answers what the Lean function beside it answers; its conditions stand in it. Written by a program of this session. -/
import Derived.Test.YtfnogfbmieoljaaDoorMFnNamesx0
import Derived.Test.YtfnogfbmieoljaaDoorMFnNamesx1
import Derived.Test.YtfnogfbmieoljaaDoorMFnNamesx2
import Derived.Test.YtfnogfbmieoljaaDoorMFnNamesx3
namespace Go.Proofs.YtfnogfbmieoljaaDoor.MFnNames
open Go.RowKit Go.Proofs.YtfnogfbmieoljaaDoorW.PrintWords Go.Proofs.YtfnogfbmieoljaaDoorW.PrintLast Go.Proofs.YtfnogfbmieoljaaDoorW.PrintMore
attribute [local go_sem] max2_int min2_int max_two min_two max_three min_three max_four min_four   -- for this text's walks alone
set_option linter.unusedVariables false
set_option linter.unusedSimpArgs false

/-! ### laws_FnNames: function 10 -/
mutual
def laws_FnNames.j0 : Nat → Int → ByteArray → ByteArray → Bool → Option (Bool)
  | 0, _, _, _, _ => none
  | k + 1, x3, x4, x5, x49 => if x49 = true then (some false) else (if x3 < 0 then (laws_FnNames.j1 k x3 x4 x5 true) else (laws_FnNames.j1 k x3 x4 x5 (decide (x3 > 1000000000))))
def laws_FnNames.j1 : Nat → Int → ByteArray → ByteArray → Bool → Option (Bool)
  | 0, _, _, _, _ => none
  | k + 1, x3, x4, x5, x55 => if x55 = true then (if x4.toList = ([] : List UInt8) then (if x5.toList = ([] : List UInt8) then ((impl_SegmentName.f 10).bind fun t205 => (some (t205.toList == ([115, 48, 48, 48, 48, 48, 48, 48, 97, 46, 115, 101, 103] : List UInt8)))) else (some false)) else (some false)) else ((impl_ReadName.f x4).bind fun bt206 => ((impl_ReadName.f x5).bind fun bt208 => (if bt206.1 = 1 then (if bt206.2 = x3 then (if bt208.1 = 2 then (if bt208.2 = x3 then ((impl_NameOk.f k x4).bind fun t210 => (if t210 = true then ((impl_NameOk.f k x5).bind fun t211 => (if t211 = true then (if (x4.size : Int) = 13 then ((impl_NextName.f 0 x3).bind fun t212 => (if t212.toList = x4.toList then ((impl_SegmentName.f 10).bind fun t213 => (some (t213.toList == ([115, 48, 48, 48, 48, 48, 48, 48, 97, 46, 115, 101, 103] : List UInt8)))) else (some false))) else (some false)) else (some false))) else (some false))) else (some false)) else (some false)) else (some false)) else (some false))))
end
def laws_FnNames.f (k : Nat) (l0 : List Int) : Option (Bool) := (laws_big.f l0).bind fun t194 => (if t194 = true then (some true) else ((spec_DrawSegmentName.f k l0).bind fun t195 => ((impl_SegmentName.f t195).bind fun t196 => ((impl_TempName.f t195).bind fun t197 => ((spec_DrawReadName.f k l0).bind fun t198 => ((impl_ReadName.f t198).bind fun bt199 => ((spec_ReadName.f k t198).bind fun bt201 => (if bt199.1 = bt201.1 then (if bt199.2 = bt201.2 then ((impl_NameOk.f k t198).bind fun t203 => ((spec_NameOk.f k t198).bind fun t204 => (laws_FnNames.j0 k t195 t196 t197 (t203 != t204)))) else (laws_FnNames.j0 k t195 t196 t197 true)) else (laws_FnNames.j0 k t195 t196 t197 true)))))))))
theorem laws_FnNames.mono_l : ∀ k, (∀ y0 y1 y2 y3, LeO (laws_FnNames.j0 k y0 y1 y2 y3) (laws_FnNames.j0 (k + 1) y0 y1 y2 y3)) ∧ (∀ y0 y1 y2 y3, LeO (laws_FnNames.j1 k y0 y1 y2 y3) (laws_FnNames.j1 (k + 1) y0 y1 y2 y3))
  | 0 => ⟨fun _ _ _ _ r h => by simp [laws_FnNames.j0] at h, fun _ _ _ _ r h => by simp [laws_FnNames.j1] at h⟩
  | k + 1 => by
    obtain ⟨ih0, ih1⟩ := laws_FnNames.mono_l k
    refine ⟨?_, ?_⟩
    · intro y0 y1 y2 y3
      unfold laws_FnNames.j0
      repeat' first
      | (with_reducible exact ih0 _ _ _ _)
      | (with_reducible exact ih1 _ _ _ _)
      | (with_reducible exact impl_NameOk.mono _ _)
      | (with_reducible exact spec_DrawReadName.mono _ _)
      | (with_reducible exact spec_DrawSegmentName.mono _ _)
      | (with_reducible exact spec_NameOk.mono _ _)
      | (with_reducible exact spec_ReadName.mono _ _)
      | (with_reducible exact LeO.refl _)
      | (with_reducible exact LeO.none _)
      | (with_reducible refine LeO.ite ?_ ?_)
      | (with_reducible refine LeO.bind ?_ (fun _ => ?_))
      | exact ih0 _ _ _ _
      | exact ih1 _ _ _ _
      | exact impl_NameOk.mono _ _
      | exact spec_DrawReadName.mono _ _
      | exact spec_DrawSegmentName.mono _ _
      | exact spec_NameOk.mono _ _
      | exact spec_ReadName.mono _ _
      | exact LeO.none _
      | refine LeO.ite ?_ ?_
      | refine LeO.bind ?_ (fun _ => ?_)
    · intro y0 y1 y2 y3
      unfold laws_FnNames.j1
      repeat' first
      | (with_reducible exact ih0 _ _ _ _)
      | (with_reducible exact ih1 _ _ _ _)
      | (with_reducible exact impl_NameOk.mono _ _)
      | (with_reducible exact spec_DrawReadName.mono _ _)
      | (with_reducible exact spec_DrawSegmentName.mono _ _)
      | (with_reducible exact spec_NameOk.mono _ _)
      | (with_reducible exact spec_ReadName.mono _ _)
      | (with_reducible exact LeO.refl _)
      | (with_reducible exact LeO.none _)
      | (with_reducible refine LeO.ite ?_ ?_)
      | (with_reducible refine LeO.bind ?_ (fun _ => ?_))
      | exact ih0 _ _ _ _
      | exact ih1 _ _ _ _
      | exact impl_NameOk.mono _ _
      | exact spec_DrawReadName.mono _ _
      | exact spec_DrawSegmentName.mono _ _
      | exact spec_NameOk.mono _ _
      | exact spec_ReadName.mono _ _
      | exact LeO.none _
      | refine LeO.ite ?_ ?_
      | refine LeO.bind ?_ (fun _ => ?_)
theorem laws_FnNames.mono : ∀ a0 k, LeO (laws_FnNames.f k a0) (laws_FnNames.f (k + 1) a0) := by
  intro a0 k
  obtain ⟨ih0, ih1⟩ := laws_FnNames.mono_l k
  unfold laws_FnNames.f
  repeat' first
      | (with_reducible exact ih0 _ _ _ _)
      | (with_reducible exact ih1 _ _ _ _)
      | (with_reducible exact impl_NameOk.mono _ _)
      | (with_reducible exact spec_DrawReadName.mono _ _)
      | (with_reducible exact spec_DrawSegmentName.mono _ _)
      | (with_reducible exact spec_NameOk.mono _ _)
      | (with_reducible exact spec_ReadName.mono _ _)
      | (with_reducible exact LeO.refl _)
      | (with_reducible exact LeO.none _)
      | (with_reducible refine LeO.ite ?_ ?_)
      | (with_reducible refine LeO.bind ?_ (fun _ => ?_))
      | exact ih0 _ _ _ _
      | exact ih1 _ _ _ _
      | exact impl_NameOk.mono _ _
      | exact spec_DrawReadName.mono _ _
      | exact spec_DrawSegmentName.mono _ _
      | exact spec_NameOk.mono _ _
      | exact spec_ReadName.mono _ _
      | exact LeO.none _
      | refine LeO.ite ?_ ?_
      | refine LeO.bind ?_ (fun _ => ?_)
set_option maxHeartbeats 8000000 in
set_option maxRecDepth 100000 in
theorem laws_FnNames.calls (k : Nat) (A0 : Option Addr) (c0 : Nat) (l0 : List Int) (r : Bool) (w : World) (hr0 : Kd.C (Kd.int .u8) w A0 l0.length l0) (hc0 : l0.length ≤ c0) (hTD : TabsD w) (hTE : TabsE w) (h : laws_FnNames.f k l0 = some r) (hr_ : Aside0 (r = true)) :
    Calls Tryd.prog 10 #[.slice A0 l0.length c0] w fun e w' => e = .returned (.bool r) ∧ Below w.heap.size w w' := by
  have HR0 := Aside0.mk hr0
  have HC0 := Aside0.mk hc0
  clear hr0 hc0
  have HTD := Aside0.mk hTD
  clear hTD
  have HTE := Aside0.mk hTE
  clear hTE
  have HB := Aside0.mk (Below.refl w.heap.size w)
  have H : ((laws_big.f l0).bind fun t194 => (if t194 = true then (some true) else ((spec_DrawSegmentName.f k l0).bind fun t195 => ((impl_SegmentName.f t195).bind fun t196 => ((impl_TempName.f t195).bind fun t197 => ((spec_DrawReadName.f k l0).bind fun t198 => ((impl_ReadName.f t198).bind fun bt199 => ((spec_ReadName.f k t198).bind fun bt201 => (if bt199.1 = bt201.1 then (if bt199.2 = bt201.2 then ((impl_NameOk.f k t198).bind fun t203 => ((spec_NameOk.f k t198).bind fun t204 => (laws_FnNames.j0 k t195 t196 t197 (t203 != t204)))) else (laws_FnNames.j0 k t195 t196 t197 true)) else (laws_FnNames.j0 k t195 t196 t197 true)))))))))) = some r := h
  clear h
  replace H := Option.bind_eq_some_iff.mp H
  obtain ⟨t194, A20, H⟩ := H
  replace H : (if t194 = true then (some true) else ((spec_DrawSegmentName.f k l0).bind fun t195 => ((impl_SegmentName.f t195).bind fun t196 => ((impl_TempName.f t195).bind fun t197 => ((spec_DrawReadName.f k l0).bind fun t198 => ((impl_ReadName.f t198).bind fun bt199 => ((spec_ReadName.f k t198).bind fun bt201 => (if bt199.1 = bt201.1 then (if bt199.2 = bt201.2 then ((impl_NameOk.f k t198).bind fun t203 => ((spec_NameOk.f k t198).bind fun t204 => (laws_FnNames.j0 k t195 t196 t197 (t203 != t204)))) else (laws_FnNames.j0 k t195 t196 t197 true)) else (laws_FnNames.j0 k t195 t196 t197 true))))))))) = some r := H
  have A2 := Aside0.mk A20
  clear A20
  by_cases c3 : t194 = true
  · subst c3
    have H1 : (some true) = some r := by rw [if_pos rfl] at H; exact H
    clear H
    have H := H1
    clear H1
    obtain rfl := Option.some.inj H
    go_enter Tryd.func10, Tryd.ntmps10
    go_wp2_with (first | ((with_reducible refine gate_callee (f := 21) rfl ?_); refine goesL_ (some 16) rfl rfl Tryd.func21 (by kernel_rfl) rfl #[.slice A0 l0.length c0] rfl (by (try simp only [List.map_toArray, List.map_cons, List.map_nil]); first | done | rfl | (simp only [List.length_drop, List.length_take]; rfl) | (go_simp; done) | (go_simp; unfold wrap64; (repeat (first | with_reducible rfl | omega | congr 1)); done)) ?_; (with_reducible refine (laws_big.calls _ _ l0 true _ ?side1 ?side2 A2.out).mono ?_); (case side1 => repeat (first | exact HR0.out | (with_reducible refine Kd.C_alloc ?_ _) | (with_reducible refine Kd.C_drewN ?_ _) | (with_reducible refine Kd.C_drew ?_))); (case side2 => exact HC0.out); rintro e w' ⟨rfl, ⟨nd, rfl⟩⟩; refine ⟨_, rfl, ?_⟩))
    all_goals (first | go_ret | (exfalso; simp only [decide_eq_true_eq, decide_eq_false_iff_not] at *; omega))
    all_goals exact ⟨by first | rfl | (simp [errW_none, errW_some] <;> rfl) | (simp [*, errW_none, errW_some] <;> rfl) | (exfalso; simp only [decide_eq_true_eq, decide_eq_false_iff_not] at *; omega), by repeat (first | (with_reducible first | exact HB.out | apply below_alloc | apply pw_below_drewN | apply below_drew1) | exact HB.out)⟩
  · replace c3 := Bool.eq_false_iff.mpr c3
    subst c3
    have H1 : ((spec_DrawSegmentName.f k l0).bind fun t195 => ((impl_SegmentName.f t195).bind fun t196 => ((impl_TempName.f t195).bind fun t197 => ((spec_DrawReadName.f k l0).bind fun t198 => ((impl_ReadName.f t198).bind fun bt199 => ((spec_ReadName.f k t198).bind fun bt201 => (if bt199.1 = bt201.1 then (if bt199.2 = bt201.2 then ((impl_NameOk.f k t198).bind fun t203 => ((spec_NameOk.f k t198).bind fun t204 => (laws_FnNames.j0 k t195 t196 t197 (t203 != t204)))) else (laws_FnNames.j0 k t195 t196 t197 true)) else (laws_FnNames.j0 k t195 t196 t197 true)))))))) = some r := by rw [if_neg (show ¬ (false = true) by decide)] at H; exact H
    clear H
    have H := H1
    clear H1
    replace H := Option.bind_eq_some_iff.mp H
    obtain ⟨t195, A40, H⟩ := H
    replace H : ((impl_SegmentName.f t195).bind fun t196 => ((impl_TempName.f t195).bind fun t197 => ((spec_DrawReadName.f k l0).bind fun t198 => ((impl_ReadName.f t198).bind fun bt199 => ((spec_ReadName.f k t198).bind fun bt201 => (if bt199.1 = bt201.1 then (if bt199.2 = bt201.2 then ((impl_NameOk.f k t198).bind fun t203 => ((spec_NameOk.f k t198).bind fun t204 => (laws_FnNames.j0 k t195 t196 t197 (t203 != t204)))) else (laws_FnNames.j0 k t195 t196 t197 true)) else (laws_FnNames.j0 k t195 t196 t197 true))))))) = some r := H
    have A4 := Aside0.mk A40
    clear A40
    replace H := Option.bind_eq_some_iff.mp H
    obtain ⟨t196, A50, H⟩ := H
    replace H : ((impl_TempName.f t195).bind fun t197 => ((spec_DrawReadName.f k l0).bind fun t198 => ((impl_ReadName.f t198).bind fun bt199 => ((spec_ReadName.f k t198).bind fun bt201 => (if bt199.1 = bt201.1 then (if bt199.2 = bt201.2 then ((impl_NameOk.f k t198).bind fun t203 => ((spec_NameOk.f k t198).bind fun t204 => (laws_FnNames.j0 k t195 t196 t197 (t203 != t204)))) else (laws_FnNames.j0 k t195 t196 t197 true)) else (laws_FnNames.j0 k t195 t196 t197 true)))))) = some r := H
    have A5 := Aside0.mk A50
    clear A50
    replace H := Option.bind_eq_some_iff.mp H
    obtain ⟨t197, A60, H⟩ := H
    replace H : ((spec_DrawReadName.f k l0).bind fun t198 => ((impl_ReadName.f t198).bind fun bt199 => ((spec_ReadName.f k t198).bind fun bt201 => (if bt199.1 = bt201.1 then (if bt199.2 = bt201.2 then ((impl_NameOk.f k t198).bind fun t203 => ((spec_NameOk.f k t198).bind fun t204 => (laws_FnNames.j0 k t195 t196 t197 (t203 != t204)))) else (laws_FnNames.j0 k t195 t196 t197 true)) else (laws_FnNames.j0 k t195 t196 t197 true))))) = some r := H
    have A6 := Aside0.mk A60
    clear A60
    replace H := Option.bind_eq_some_iff.mp H
    obtain ⟨t198, A70, H⟩ := H
    replace H : ((impl_ReadName.f t198).bind fun bt199 => ((spec_ReadName.f k t198).bind fun bt201 => (if bt199.1 = bt201.1 then (if bt199.2 = bt201.2 then ((impl_NameOk.f k t198).bind fun t203 => ((spec_NameOk.f k t198).bind fun t204 => (laws_FnNames.j0 k t195 t196 t197 (t203 != t204)))) else (laws_FnNames.j0 k t195 t196 t197 true)) else (laws_FnNames.j0 k t195 t196 t197 true)))) = some r := H
    have A7 := Aside0.mk A70
    clear A70
    replace H := Option.bind_eq_some_iff.mp H
    obtain ⟨⟨t199, t200⟩, A80, H⟩ := H
    replace H : ((spec_ReadName.f k t198).bind fun bt201 => (if t199 = bt201.1 then (if t200 = bt201.2 then ((impl_NameOk.f k t198).bind fun t203 => ((spec_NameOk.f k t198).bind fun t204 => (laws_FnNames.j0 k t195 t196 t197 (t203 != t204)))) else (laws_FnNames.j0 k t195 t196 t197 true)) else (laws_FnNames.j0 k t195 t196 t197 true))) = some r := H
    have A8 := Aside0.mk A80
    clear A80
    replace H := Option.bind_eq_some_iff.mp H
    obtain ⟨⟨t201, t202⟩, A90, H⟩ := H
    replace H : (if t199 = t201 then (if t200 = t202 then ((impl_NameOk.f k t198).bind fun t203 => ((spec_NameOk.f k t198).bind fun t204 => (laws_FnNames.j0 k t195 t196 t197 (t203 != t204)))) else (laws_FnNames.j0 k t195 t196 t197 true)) else (laws_FnNames.j0 k t195 t196 t197 true)) = some r := H
    have A9 := Aside0.mk A90
    clear A90
    have HC10 := Aside0.mk H
    clear H
    go_enter Tryd.func10, Tryd.ntmps10
    go_upto_region 9 with (first | ((with_reducible refine gate_callee (f := 21) rfl ?_); refine goesL_ (some 16) rfl rfl Tryd.func21 (by kernel_rfl) rfl #[.slice A0 l0.length c0] rfl (by (try simp only [List.map_toArray, List.map_cons, List.map_nil]); first | done | rfl | (simp only [List.length_drop, List.length_take]; rfl) | (go_simp; done) | (go_simp; unfold wrap64; (repeat (first | with_reducible rfl | omega | congr 1)); done)) ?_; (with_reducible refine (laws_big.calls _ _ l0 false _ ?side1 ?side2 A2.out).mono ?_); (case side1 => repeat (first | exact HR0.out | (with_reducible refine Kd.C_alloc ?_ _) | (with_reducible refine Kd.C_drewN ?_ _) | (with_reducible refine Kd.C_drew ?_))); (case side2 => exact HC0.out); rintro e w' ⟨rfl, ⟨nd, rfl⟩⟩; refine ⟨_, rfl, ?_⟩) | ((with_reducible refine gate_callee (f := 28) rfl ?_); refine goesL_ (some 18) rfl rfl Tryd.func28 (by kernel_rfl) rfl #[.slice A0 l0.length c0] rfl (by (try simp only [List.map_toArray, List.map_cons, List.map_nil]); first | done | rfl | (simp only [List.length_drop, List.length_take]; rfl) | (go_simp; done) | (go_simp; unfold wrap64; (repeat (first | with_reducible rfl | omega | congr 1)); done)) ?_; (with_reducible refine (spec_DrawSegmentName.calls k _ _ l0 t195 _ ?side1 ?side2 A4.out).mono ?_); (case side1 => repeat (first | exact HR0.out | (with_reducible refine Kd.C_alloc ?_ _) | (with_reducible refine Kd.C_drewN ?_ _) | (with_reducible refine Kd.C_drew ?_))); (case side2 => exact HC0.out); rintro e w11 ⟨rfl, hb⟩; refine ⟨_, rfl, ?_⟩; have n0_ := Aside0.mk (below_step (by repeat (first | (with_reducible first | exact HB.out | apply below_alloc | apply pw_below_drewN | apply below_drew1) | exact HB.out)) hb); clear HB; have HB := n0_; clear n0_; (try clear hb); (try clear hb2); (try clear hk); (try clear hi)) | ((with_reducible refine gate_callee (f := 14) rfl ?_); refine goesL_ (some 20) rfl rfl Tryd.func14 (by kernel_rfl) rfl #[.int .i64 t195] rfl (by (try simp only [List.map_toArray, List.map_cons, List.map_nil]); first | done | rfl | (simp only [List.length_drop, List.length_take]; rfl) | (go_simp; done) | (go_simp; unfold wrap64; (repeat (first | with_reducible rfl | omega | congr 1)); done)) ?_; (with_reducible refine (impl_SegmentName.calls t195 t196 _ ?side1 A5.out).mono ?_); (case side1 => first | exact HTD.out | exact TabsD.below HTD.out (by repeat (first | (with_reducible first | exact HB.out | apply below_alloc | apply pw_below_drewN | apply below_drew1) | exact HB.out))); rintro e w12 ⟨rfl, hb⟩; refine ⟨_, rfl, ?_⟩; have n0_ := Aside0.mk (below_step (by repeat (first | (with_reducible first | exact HB.out | apply below_alloc | apply pw_below_drewN | apply below_drew1) | exact HB.out)) hb); clear HB; have HB := n0_; clear n0_; (try clear hb); (try clear hb2); (try clear hk); (try clear hi)) | ((with_reducible refine gate_callee (f := 18) rfl ?_); refine goesL_ (some 22) rfl rfl Tryd.func18 (by kernel_rfl) rfl #[.int .i64 t195] rfl (by (try simp only [List.map_toArray, List.map_cons, List.map_nil]); first | done | rfl | (simp only [List.length_drop, List.length_take]; rfl) | (go_simp; done) | (go_simp; unfold wrap64; (repeat (first | with_reducible rfl | omega | congr 1)); done)) ?_; (with_reducible refine (impl_TempName.calls t195 t197 _ ?side1 A6.out).mono ?_); (case side1 => first | exact HTD.out | exact TabsD.below HTD.out (by repeat (first | (with_reducible first | exact HB.out | apply below_alloc | apply pw_below_drewN | apply below_drew1) | exact HB.out))); rintro e w13 ⟨rfl, hb⟩; refine ⟨_, rfl, ?_⟩; have n0_ := Aside0.mk (below_step (by repeat (first | (with_reducible first | exact HB.out | apply below_alloc | apply pw_below_drewN | apply below_drew1) | exact HB.out)) hb); clear HB; have HB := n0_; clear n0_; (try clear hb); (try clear hb2); (try clear hk); (try clear hi)) | ((with_reducible refine gate_callee (f := 29) rfl ?_); refine goesL_ (some 24) rfl rfl Tryd.func29 (by kernel_rfl) rfl #[.slice A0 l0.length c0] rfl (by (try simp only [List.map_toArray, List.map_cons, List.map_nil]); first | done | rfl | (simp only [List.length_drop, List.length_take]; rfl) | (go_simp; done) | (go_simp; unfold wrap64; (repeat (first | with_reducible rfl | omega | congr 1)); done)) ?_; (with_reducible refine (spec_DrawReadName.calls k _ _ l0 t198 _ ?side1 ?side2 A7.out).mono ?_); (case side1 => repeat (first | exact (Kd.C_below HR0.out HB.out) | (with_reducible refine Kd.C_alloc ?_ _) | (with_reducible refine Kd.C_drewN ?_ _) | (with_reducible refine Kd.C_drew ?_))); (case side2 => exact HC0.out); rintro e w14 ⟨rfl, hb⟩; refine ⟨_, rfl, ?_⟩; have n0_ := Aside0.mk (below_step (by repeat (first | (with_reducible first | exact HB.out | apply below_alloc | apply pw_below_drewN | apply below_drew1) | exact HB.out)) hb); clear HB; have HB := n0_; clear n0_; (try clear hb); (try clear hb2); (try clear hk); (try clear hi)) | ((with_reducible refine gate_callee (f := 27) rfl ?_); refine goesL_ (some 27) rfl rfl Tryd.func27 (by kernel_rfl) rfl #[.string t198] rfl (by (try simp only [List.map_toArray, List.map_cons, List.map_nil]); first | done | rfl | (simp only [List.length_drop, List.length_take]; rfl) | (go_simp; done) | (go_simp; unfold wrap64; (repeat (first | with_reducible rfl | omega | congr 1)); done)) ?_; (with_reducible refine (impl_ReadName.calls t198 t199 t200 _ ?side1 ?side2 A8.out).mono ?_); (case side1 => first | exact HTD.out | exact TabsD.below HTD.out (by repeat (first | (with_reducible first | exact HB.out | apply below_alloc | apply pw_below_drewN | apply below_drew1) | exact HB.out))); (case side2 => first | exact HTE.out | exact TabsE.below HTE.out (by repeat (first | (with_reducible first | exact HB.out | apply below_alloc | apply pw_below_drewN | apply below_drew1) | exact HB.out))); rintro e w15 ⟨rfl, hb⟩; refine ⟨_, rfl, ?_⟩; have n0_ := Aside0.mk (below_step (by repeat (first | (with_reducible first | exact HB.out | apply below_alloc | apply pw_below_drewN | apply below_drew1) | exact HB.out)) hb); clear HB; have HB := n0_; clear n0_; (try clear hb); (try clear hb2); (try clear hk); (try clear hi)) | ((with_reducible refine gate_callee (f := 26) rfl ?_); refine goesL_ (some 32) rfl rfl Tryd.func26 (by kernel_rfl) rfl #[.string t198] rfl (by (try simp only [List.map_toArray, List.map_cons, List.map_nil]); first | done | rfl | (simp only [List.length_drop, List.length_take]; rfl) | (go_simp; done) | (go_simp; unfold wrap64; (repeat (first | with_reducible rfl | omega | congr 1)); done)) ?_; (with_reducible refine (spec_ReadName.calls k t198 t201 t202 _ A9.out).mono ?_); rintro e w16 ⟨rfl, hb⟩; refine ⟨_, rfl, ?_⟩; have n0_ := Aside0.mk (below_step (by repeat (first | (with_reducible first | exact HB.out | apply below_alloc | apply pw_below_drewN | apply below_drew1) | exact HB.out)) hb); clear HB; have HB := n0_; clear n0_; (try clear hb); (try clear hb2); (try clear hk); (try clear hi)))
    (try simp only [Act.put, List.setIfInBounds_toArray, List.set_cons_zero, List.set_cons_succ])
    go_cut [49] (fun v49 wc => ∃ (kq : Nat) (x49_9 : Bool), v49 = .bool x49_9 ∧ Aside0 (laws_FnNames.j0 kq t195 t196 t197 x49_9 = some r) ∧ Aside0 (kq ≤ k) ∧ Aside0 (Below w.heap.size w wc))
    case first =>
      have H := HC10.out
      clear HC10
      by_cases c17 : t199 = t201
      · rw [if_pos c17] at H
        have c17b0 : (t199 == t201) = true := beq_iff_eq.mpr c17
        have c17b1 : (t199 != t201) = false := bne_eq_false_iff_eq.mpr c17
        clear c17
        (first | rw [c17b0] | (simp only [i64_w, i32_w]; rw [c17b0]) | skip)
        by_cases c18 : t200 = t202
        · rw [if_pos c18] at H
          have c18b0 : (t200 == t202) = true := beq_iff_eq.mpr c18
          have c18b1 : (t200 != t202) = false := bne_eq_false_iff_eq.mpr c18
          clear c18
          replace H := Option.bind_eq_some_iff.mp H
          obtain ⟨t203, A190, H⟩ := H
          replace H : ((spec_NameOk.f k t198).bind fun t204 => (laws_FnNames.j0 k t195 t196 t197 (t203 != t204))) = some r := H
          have A19 := Aside0.mk A190
          clear A190
          replace H := Option.bind_eq_some_iff.mp H
          obtain ⟨t204, A200, H⟩ := H
          replace H : (laws_FnNames.j0 k t195 t196 t197 (t203 != t204)) = some r := H
          have A20 := Aside0.mk A200
          clear A200
          have H' := Aside0.mk H
          clear H
          go_wp2_with (first | (go_at_call 30; (with_reducible refine (impl_NameOk.calls k t198 t203 _ A19.out).mono ?_); rintro e w' ⟨rfl, ⟨nd, rfl⟩⟩) | (go_at_call 31; (with_reducible refine (spec_NameOk.calls k t198 t204 _ A20.out).mono ?_); rintro e w' ⟨rfl, ⟨nd, rfl⟩⟩))
          go_meet
          case rel => exact ⟨_, ((t203 != t204)), (by first | rfl | (simp; done) | (simp [*]; done)), H', ⟨by first | omega | exact Nat.le_refl _⟩, ⟨by repeat (first | (with_reducible first | exact HB.out | apply below_alloc | apply pw_below_drewN | apply below_drew1) | exact HB.out)⟩⟩
        · rw [if_neg c18] at H
          have c18b0 : (t200 == t202) = false := beq_eq_false_iff_ne.mpr c18
          have c18b1 : (t200 != t202) = true := bne_iff_ne.mpr c18
          have H' := Aside0.mk H
          clear H
          go_wp2
          go_meet
          case rel => exact ⟨_, (true), (by first | rfl | (simp; done) | (simp [*]; done)), H', ⟨by first | omega | exact Nat.le_refl _⟩, ⟨by repeat (first | (with_reducible first | exact HB.out | apply below_alloc | apply pw_below_drewN | apply below_drew1) | exact HB.out)⟩⟩
      · rw [if_neg c17] at H
        have c17b0 : (t199 == t201) = false := beq_eq_false_iff_ne.mpr c17
        have c17b1 : (t199 != t201) = true := bne_iff_ne.mpr c17
        (first | rw [c17b0] | (simp only [i64_w, i32_w]; rw [c17b0]) | skip)
        have H' := Aside0.mk H
        clear H
        go_wp2
        go_meet
        case rel => exact ⟨_, (true), (by first | rfl | (simp; done) | (simp [*]; done)), H', ⟨by first | omega | exact Nat.le_refl _⟩, ⟨by repeat (first | (with_reducible first | exact HB.out | apply below_alloc | apply pw_below_drewN | apply below_drew1) | exact HB.out)⟩⟩
    case rest =>
      clear HC10
      try clear c1
      try clear c2
      try clear p2
      try clear c3
      try clear p6
      try clear c10
      try clear c14
      try clear c17
      try clear c17b0
      try clear c17b1
      try clear c18
      try clear c18b0
      try clear c18b1
      obtain ⟨kq, x49_9, rfl, HA, HJ9, HB⟩ := hcut
      cases kq with
      | zero => exact absurd HA.out (by simp [laws_FnNames.j0])
      | succ kj9 =>
        have H := HA.out
        clear HA
        simp only [laws_FnNames.j0] at H
        by_cases c21 : x49_9 = true
        · subst c21
          have H1 : (some false) = some r := by rw [if_pos rfl] at H; exact H
          clear H
          have H := H1
          clear H1
          exact absurd ((Option.some.inj H).trans hr_.out) (by decide)
        · replace c21 := Bool.eq_false_iff.mpr c21
          subst c21
          have H1 : (if t195 < 0 then (laws_FnNames.j1 kj9 t195 t196 t197 true) else (laws_FnNames.j1 kj9 t195 t196 t197 (decide (t195 > 1000000000)))) = some r := by rw [if_neg (show ¬ (false = true) by decide)] at H; exact H
          clear H
          have H := H1
          clear H1
          have HC22 := Aside0.mk H
          clear H
          go_upto_region 11 with (fail)
          go_cut [55] (fun v55 wc => ∃ (kq : Nat) (x55_21 : Bool), v55 = .bool x55_21 ∧ Aside0 (laws_FnNames.j1 kq t195 t196 t197 x55_21 = some r) ∧ Aside0 (kq ≤ kj9) ∧ Aside0 (Below w.heap.size w wc))
          case first =>
            have H := HC22.out
            clear HC22
            by_cases c23 : t195 < 0
            · rw [if_pos c23] at H
              have c23b0 : decide (t195 < 0) = true := decide_eq_true c23
              clear c23
              (first | rw [c23b0] | (simp only [i64_w, i32_w]; rw [c23b0]) | skip)
              have H' := Aside0.mk H
              clear H
              go_wp2
              go_meet
              case rel => exact ⟨_, (true), (by first | rfl | (simp; done) | (simp [*]; done)), H', ⟨by have := HJ9.out; first | omega | exact Nat.le_refl _⟩, ⟨by repeat (first | (with_reducible first | exact HB.out | apply below_alloc | apply pw_below_drewN | apply below_drew1) | exact HB.out)⟩⟩
            · rw [if_neg c23] at H
              have c23b0 : decide (t195 < 0) = false := decide_eq_false c23
              clear c23
              (first | rw [c23b0] | (simp only [i64_w, i32_w]; rw [c23b0]) | skip)
              have H' := Aside0.mk H
              clear H
              go_wp2
              go_meet
              case rel => exact ⟨_, (decide (t195 > 1000000000)), (by first | rfl | (simp; done) | (simp [*]; done)), H', ⟨by have := HJ9.out; first | omega | exact Nat.le_refl _⟩, ⟨by repeat (first | (with_reducible first | exact HB.out | apply below_alloc | apply pw_below_drewN | apply below_drew1) | exact HB.out)⟩⟩
          case rest =>
            clear HC22
            try clear c1
            try clear c2
            try clear p2
            try clear c3
            try clear p6
            try clear c10
            try clear c14
            try clear c17
            try clear c17b0
            try clear c17b1
            try clear c18
            try clear c18b0
            try clear c18b1
            try clear c21
            try clear c23
            try clear c23b0
            try clear p2
            try clear p6
            obtain ⟨kq, x55_21, rfl, HA, HJ21, HB⟩ := hcut
            cases kq with
            | zero => exact absurd HA.out (by simp [laws_FnNames.j1])
            | succ kj21 =>
              have H := HA.out
              clear HA
              simp only [laws_FnNames.j1] at H
              by_cases c24 : x55_21 = true
              · subst c24
                have H1 : (if t196.toList = ([] : List UInt8) then (if t197.toList = ([] : List UInt8) then ((impl_SegmentName.f 10).bind fun t205 => (some (t205.toList == ([115, 48, 48, 48, 48, 48, 48, 48, 97, 46, 115, 101, 103] : List UInt8)))) else (some false)) else (some false)) = some r := by rw [if_pos rfl] at H; exact H
                clear H
                have H := H1
                clear H1
                by_cases c25 : t196.toList = ([] : List UInt8)
                · rw [if_pos c25] at H
                  have c25b0 : (t196.toList == ([] : List UInt8)) = true := beq_iff_eq.mpr c25
                  have c25b1 : (t196.toList != ([] : List UInt8)) = false := bne_eq_false_iff_eq.mpr c25
                  clear c25
                  by_cases c26 : t197.toList = ([] : List UInt8)
                  · rw [if_pos c26] at H
                    have c26b0 : (t197.toList == ([] : List UInt8)) = true := beq_iff_eq.mpr c26
                    have c26b1 : (t197.toList != ([] : List UInt8)) = false := bne_eq_false_iff_eq.mpr c26
                    clear c26
                    replace H := Option.bind_eq_some_iff.mp H
                    obtain ⟨t205, A270, H⟩ := H
                    replace H : (some (t205.toList == ([115, 48, 48, 48, 48, 48, 48, 48, 97, 46, 115, 101, 103] : List UInt8))) = some r := H
                    have A27 := Aside0.mk A270
                    clear A270
                    obtain rfl := Option.some.inj H
                    go_wp2_with (first | (go_at_call 14; (with_reducible refine (impl_SegmentName.calls 10 t205 _ ?side1 A27.out).mono ?_); (case side1 => first | exact HTD.out | exact TabsD.below HTD.out (by repeat (first | (with_reducible first | exact HB.out | apply below_alloc | apply pw_below_drewN | apply below_drew1) | exact HB.out))); rintro e w28 ⟨rfl, hb⟩; have n0_ := Aside0.mk (below_step (by repeat (first | (with_reducible first | exact HB.out | apply below_alloc | apply pw_below_drewN | apply below_drew1) | exact HB.out)) hb); clear HB; have HB := n0_; clear n0_; (try clear hb); (try clear hb2); (try clear hk); (try clear hi)))
                    all_goals (first | go_ret | (exfalso; simp only [decide_eq_true_eq, decide_eq_false_iff_not] at *; omega))
                    all_goals exact ⟨by first | rfl | (simp [errW_none, errW_some] <;> rfl) | (simp [*, errW_none, errW_some] <;> rfl) | (exfalso; simp only [decide_eq_true_eq, decide_eq_false_iff_not] at *; omega), by repeat (first | (with_reducible first | exact HB.out | apply below_alloc | apply pw_below_drewN | apply below_drew1) | exact HB.out)⟩
                  · rw [if_neg c26] at H
                    have c26b0 : (t197.toList == ([] : List UInt8)) = false := beq_eq_false_iff_ne.mpr c26
                    have c26b1 : (t197.toList != ([] : List UInt8)) = true := bne_iff_ne.mpr c26
                    exact absurd ((Option.some.inj H).trans hr_.out) (by decide)
                · rw [if_neg c25] at H
                  have c25b0 : (t196.toList == ([] : List UInt8)) = false := beq_eq_false_iff_ne.mpr c25
                  have c25b1 : (t196.toList != ([] : List UInt8)) = true := bne_iff_ne.mpr c25
                  exact absurd ((Option.some.inj H).trans hr_.out) (by decide)
              · replace c24 := Bool.eq_false_iff.mpr c24
                subst c24
                have H1 : ((impl_ReadName.f t196).bind fun bt206 => ((impl_ReadName.f t197).bind fun bt208 => (if bt206.1 = 1 then (if bt206.2 = t195 then (if bt208.1 = 2 then (if bt208.2 = t195 then ((impl_NameOk.f kj21 t196).bind fun t210 => (if t210 = true then ((impl_NameOk.f kj21 t197).bind fun t211 => (if t211 = true then (if (t196.size : Int) = 13 then ((impl_NextName.f 0 t195).bind fun t212 => (if t212.toList = t196.toList then ((impl_SegmentName.f 10).bind fun t213 => (some (t213.toList == ([115, 48, 48, 48, 48, 48, 48, 48, 97, 46, 115, 101, 103] : List UInt8)))) else (some false))) else (some false)) else (some false))) else (some false))) else (some false)) else (some false)) else (some false)) else (some false)))) = some r := by rw [if_neg (show ¬ (false = true) by decide)] at H; exact H
                clear H
                have H := H1
                clear H1
                replace H := Option.bind_eq_some_iff.mp H
                obtain ⟨⟨t206, t207⟩, A290, H⟩ := H
                replace H : ((impl_ReadName.f t197).bind fun bt208 => (if t206 = 1 then (if t207 = t195 then (if bt208.1 = 2 then (if bt208.2 = t195 then ((impl_NameOk.f kj21 t196).bind fun t210 => (if t210 = true then ((impl_NameOk.f kj21 t197).bind fun t211 => (if t211 = true then (if (t196.size : Int) = 13 then ((impl_NextName.f 0 t195).bind fun t212 => (if t212.toList = t196.toList then ((impl_SegmentName.f 10).bind fun t213 => (some (t213.toList == ([115, 48, 48, 48, 48, 48, 48, 48, 97, 46, 115, 101, 103] : List UInt8)))) else (some false))) else (some false)) else (some false))) else (some false))) else (some false)) else (some false)) else (some false)) else (some false))) = some r := H
                have A29 := Aside0.mk A290
                clear A290
                replace H := Option.bind_eq_some_iff.mp H
                obtain ⟨⟨t208, t209⟩, A300, H⟩ := H
                replace H : (if t206 = 1 then (if t207 = t195 then (if t208 = 2 then (if t209 = t195 then ((impl_NameOk.f kj21 t196).bind fun t210 => (if t210 = true then ((impl_NameOk.f kj21 t197).bind fun t211 => (if t211 = true then (if (t196.size : Int) = 13 then ((impl_NextName.f 0 t195).bind fun t212 => (if t212.toList = t196.toList then ((impl_SegmentName.f 10).bind fun t213 => (some (t213.toList == ([115, 48, 48, 48, 48, 48, 48, 48, 97, 46, 115, 101, 103] : List UInt8)))) else (some false))) else (some false)) else (some false))) else (some false))) else (some false)) else (some false)) else (some false)) else (some false)) = some r := H
                have A30 := Aside0.mk A300
                clear A300
                by_cases c31 : t206 = 1
                · rw [if_pos c31] at H
                  have c31b0 : (t206 == 1) = true := beq_iff_eq.mpr c31
                  have c31b1 : (t206 != 1) = false := bne_eq_false_iff_eq.mpr c31
                  clear c31
                  by_cases c32 : t207 = t195
                  · rw [if_pos c32] at H
                    have c32b0 : (t207 == t195) = true := beq_iff_eq.mpr c32
                    have c32b1 : (t207 != t195) = false := bne_eq_false_iff_eq.mpr c32
                    clear c32
                    by_cases c33 : t208 = 2
                    · rw [if_pos c33] at H
                      have c33b0 : (t208 == 2) = true := beq_iff_eq.mpr c33
                      have c33b1 : (t208 != 2) = false := bne_eq_false_iff_eq.mpr c33
                      clear c33
                      by_cases c34 : t209 = t195
                      · rw [if_pos c34] at H
                        have c34b0 : (t209 == t195) = true := beq_iff_eq.mpr c34
                        have c34b1 : (t209 != t195) = false := bne_eq_false_iff_eq.mpr c34
                        clear c34
                        replace H := Option.bind_eq_some_iff.mp H
                        obtain ⟨t210, A350, H⟩ := H
                        replace H : (if t210 = true then ((impl_NameOk.f kj21 t197).bind fun t211 => (if t211 = true then (if (t196.size : Int) = 13 then ((impl_NextName.f 0 t195).bind fun t212 => (if t212.toList = t196.toList then ((impl_SegmentName.f 10).bind fun t213 => (some (t213.toList == ([115, 48, 48, 48, 48, 48, 48, 48, 97, 46, 115, 101, 103] : List UInt8)))) else (some false))) else (some false)) else (some false))) else (some false)) = some r := H
                        have A35 := Aside0.mk A350
                        clear A350
                        by_cases c36 : t210 = true
                        · subst c36
                          have H1 : ((impl_NameOk.f kj21 t197).bind fun t211 => (if t211 = true then (if (t196.size : Int) = 13 then ((impl_NextName.f 0 t195).bind fun t212 => (if t212.toList = t196.toList then ((impl_SegmentName.f 10).bind fun t213 => (some (t213.toList == ([115, 48, 48, 48, 48, 48, 48, 48, 97, 46, 115, 101, 103] : List UInt8)))) else (some false))) else (some false)) else (some false))) = some r := by rw [if_pos rfl] at H; exact H
                          clear H
                          have H := H1
                          clear H1
                          replace H := Option.bind_eq_some_iff.mp H
                          obtain ⟨t211, A370, H⟩ := H
                          replace H : (if t211 = true then (if (t196.size : Int) = 13 then ((impl_NextName.f 0 t195).bind fun t212 => (if t212.toList = t196.toList then ((impl_SegmentName.f 10).bind fun t213 => (some (t213.toList == ([115, 48, 48, 48, 48, 48, 48, 48, 97, 46, 115, 101, 103] : List UInt8)))) else (some false))) else (some false)) else (some false)) = some r := H
                          have A37 := Aside0.mk A370
                          clear A370
                          by_cases c38 : t211 = true
                          · subst c38
                            have H1 : (if (t196.size : Int) = 13 then ((impl_NextName.f 0 t195).bind fun t212 => (if t212.toList = t196.toList then ((impl_SegmentName.f 10).bind fun t213 => (some (t213.toList == ([115, 48, 48, 48, 48, 48, 48, 48, 97, 46, 115, 101, 103] : List UInt8)))) else (some false))) else (some false)) = some r := by rw [if_pos rfl] at H; exact H
                            clear H
                            have H := H1
                            clear H1
                            by_cases c39 : (t196.size : Int) = 13
                            · rw [if_pos c39] at H
                              have c39b0 : ((t196.size : Int) == 13) = true := beq_iff_eq.mpr c39
                              have c39b1 : ((t196.size : Int) != 13) = false := bne_eq_false_iff_eq.mpr c39
                              clear c39
                              replace H := Option.bind_eq_some_iff.mp H
                              obtain ⟨t212, A400, H⟩ := H
                              replace H : (if t212.toList = t196.toList then ((impl_SegmentName.f 10).bind fun t213 => (some (t213.toList == ([115, 48, 48, 48, 48, 48, 48, 48, 97, 46, 115, 101, 103] : List UInt8)))) else (some false)) = some r := H
                              have A40 := Aside0.mk A400
                              clear A400
                              by_cases c41 : t212.toList = t196.toList
                              · rw [if_pos c41] at H
                                have c41b0 : (t212.toList == t196.toList) = true := beq_iff_eq.mpr c41
                                have c41b1 : (t212.toList != t196.toList) = false := bne_eq_false_iff_eq.mpr c41
                                clear c41
                                replace H := Option.bind_eq_some_iff.mp H
                                obtain ⟨t213, A420, H⟩ := H
                                replace H : (some (t213.toList == ([115, 48, 48, 48, 48, 48, 48, 48, 97, 46, 115, 101, 103] : List UInt8))) = some r := H
                                have A42 := Aside0.mk A420
                                clear A420
                                obtain rfl := Option.some.inj H
                                go_wp2_with (first | ((with_reducible refine gate_callee (f := 27) rfl ?_); refine goesL_ (some 68) rfl rfl Tryd.func27 (by kernel_rfl) rfl #[.string t196] rfl (by (try simp only [List.map_toArray, List.map_cons, List.map_nil]); first | done | rfl | (simp only [List.length_drop, List.length_take]; rfl) | (go_simp; done) | (go_simp; unfold wrap64; (repeat (first | with_reducible rfl | omega | congr 1)); done)) ?_; (with_reducible refine (impl_ReadName.calls t196 t206 t207 _ ?side1 ?side2 A29.out).mono ?_); (case side1 => first | exact HTD.out | exact TabsD.below HTD.out (by repeat (first | (with_reducible first | exact HB.out | apply below_alloc | apply pw_below_drewN | apply below_drew1) | exact HB.out))); (case side2 => first | exact HTE.out | exact TabsE.below HTE.out (by repeat (first | (with_reducible first | exact HB.out | apply below_alloc | apply pw_below_drewN | apply below_drew1) | exact HB.out))); rintro e w43 ⟨rfl, hb⟩; refine ⟨_, rfl, ?_⟩; have n0_ := Aside0.mk (below_step (by repeat (first | (with_reducible first | exact HB.out | apply below_alloc | apply pw_below_drewN | apply below_drew1) | exact HB.out)) hb); clear HB; have HB := n0_; clear n0_; (try clear hb); (try clear hb2); (try clear hk); (try clear hi)) | ((with_reducible refine gate_callee (f := 27) rfl ?_); refine goesL_ (some 73) rfl rfl Tryd.func27 (by kernel_rfl) rfl #[.string t197] rfl (by (try simp only [List.map_toArray, List.map_cons, List.map_nil]); first | done | rfl | (simp only [List.length_drop, List.length_take]; rfl) | (go_simp; done) | (go_simp; unfold wrap64; (repeat (first | with_reducible rfl | omega | congr 1)); done)) ?_; (with_reducible refine (impl_ReadName.calls t197 t208 t209 _ ?side1 ?side2 A30.out).mono ?_); (case side1 => first | exact HTD.out | exact TabsD.below HTD.out (by repeat (first | (with_reducible first | exact HB.out | apply below_alloc | apply pw_below_drewN | apply below_drew1) | exact HB.out))); (case side2 => first | exact HTE.out | exact TabsE.below HTE.out (by repeat (first | (with_reducible first | exact HB.out | apply below_alloc | apply pw_below_drewN | apply below_drew1) | exact HB.out))); rintro e w44 ⟨rfl, hb⟩; refine ⟨_, rfl, ?_⟩; have n0_ := Aside0.mk (below_step (by repeat (first | (with_reducible first | exact HB.out | apply below_alloc | apply pw_below_drewN | apply below_drew1) | exact HB.out)) hb); clear HB; have HB := n0_; clear n0_; (try clear hb); (try clear hb2); (try clear hk); (try clear hi)) | (go_at_call 30; (with_reducible refine (impl_NameOk.calls kj21 t196 true _ A35.out).mono ?_); rintro e w' ⟨rfl, ⟨nd, rfl⟩⟩) | (go_at_call 30; (with_reducible refine (impl_NameOk.calls kj21 t197 true _ A37.out).mono ?_); rintro e w' ⟨rfl, ⟨nd, rfl⟩⟩) | (go_at_call 16; (with_reducible refine (impl_NextName.calls 0 t195 t212 _ ?side1 A40.out).mono ?_); (case side1 => first | exact HTD.out | exact TabsD.below HTD.out (by repeat (first | (with_reducible first | exact HB.out | apply below_alloc | apply pw_below_drewN | apply below_drew1) | exact HB.out))); rintro e w45 ⟨rfl, hb⟩; have n0_ := Aside0.mk (below_step (by repeat (first | (with_reducible first | exact HB.out | apply below_alloc | apply pw_below_drewN | apply below_drew1) | exact HB.out)) hb); clear HB; have HB := n0_; clear n0_; (try clear hb); (try clear hb2); (try clear hk); (try clear hi)) | (go_at_call 14; (with_reducible refine (impl_SegmentName.calls 10 t213 _ ?side1 A42.out).mono ?_); (case side1 => first | exact HTD.out | exact TabsD.below HTD.out (by repeat (first | (with_reducible first | exact HB.out | apply below_alloc | apply pw_below_drewN | apply below_drew1) | exact HB.out))); rintro e w46 ⟨rfl, hb⟩; have n0_ := Aside0.mk (below_step (by repeat (first | (with_reducible first | exact HB.out | apply below_alloc | apply pw_below_drewN | apply below_drew1) | exact HB.out)) hb); clear HB; have HB := n0_; clear n0_; (try clear hb); (try clear hb2); (try clear hk); (try clear hi)))
                                all_goals (first | go_ret | (exfalso; simp only [decide_eq_true_eq, decide_eq_false_iff_not] at *; omega))
                                all_goals exact ⟨by first | rfl | (simp [errW_none, errW_some] <;> rfl) | (simp [*, errW_none, errW_some] <;> rfl) | (exfalso; simp only [decide_eq_true_eq, decide_eq_false_iff_not] at *; omega), by repeat (first | (with_reducible first | exact HB.out | apply below_alloc | apply pw_below_drewN | apply below_drew1) | exact HB.out)⟩
                              · rw [if_neg c41] at H
                                have c41b0 : (t212.toList == t196.toList) = false := beq_eq_false_iff_ne.mpr c41
                                have c41b1 : (t212.toList != t196.toList) = true := bne_iff_ne.mpr c41
                                exact absurd ((Option.some.inj H).trans hr_.out) (by decide)
                            · rw [if_neg c39] at H
                              have c39b0 : ((t196.size : Int) == 13) = false := beq_eq_false_iff_ne.mpr c39
                              have c39b1 : ((t196.size : Int) != 13) = true := bne_iff_ne.mpr c39
                              exact absurd ((Option.some.inj H).trans hr_.out) (by decide)
                          · replace c38 := Bool.eq_false_iff.mpr c38
                            subst c38
                            have H1 : (some false) = some r := by rw [if_neg (show ¬ (false = true) by decide)] at H; exact H
                            clear H
                            have H := H1
                            clear H1
                            exact absurd ((Option.some.inj H).trans hr_.out) (by decide)
                        · replace c36 := Bool.eq_false_iff.mpr c36
                          subst c36
                          have H1 : (some false) = some r := by rw [if_neg (show ¬ (false = true) by decide)] at H; exact H
                          clear H
                          have H := H1
                          clear H1
                          exact absurd ((Option.some.inj H).trans hr_.out) (by decide)
                      · rw [if_neg c34] at H
                        have c34b0 : (t209 == t195) = false := beq_eq_false_iff_ne.mpr c34
                        have c34b1 : (t209 != t195) = true := bne_iff_ne.mpr c34
                        exact absurd ((Option.some.inj H).trans hr_.out) (by decide)
                    · rw [if_neg c33] at H
                      have c33b0 : (t208 == 2) = false := beq_eq_false_iff_ne.mpr c33
                      have c33b1 : (t208 != 2) = true := bne_iff_ne.mpr c33
                      exact absurd ((Option.some.inj H).trans hr_.out) (by decide)
                  · rw [if_neg c32] at H
                    have c32b0 : (t207 == t195) = false := beq_eq_false_iff_ne.mpr c32
                    have c32b1 : (t207 != t195) = true := bne_iff_ne.mpr c32
                    exact absurd ((Option.some.inj H).trans hr_.out) (by decide)
                · rw [if_neg c31] at H
                  have c31b0 : (t206 == 1) = false := beq_eq_false_iff_ne.mpr c31
                  have c31b1 : (t206 != 1) = true := bne_iff_ne.mpr c31
                  exact absurd ((Option.some.inj H).trans hr_.out) (by decide)

/-- THE ONE PURE STATEMENT of laws_FnNames: yours. -/
def laws_FnNames.Pure : Prop := ∀ (l0 : List Int), l0.length ≤ maxLen → l0.length * 1 ≤ 140737488351232 → (∀ x ∈ l0, (Lit.int .u8 x).wf = true) → ∃ k, laws_FnNames.f k l0 = some true
theorem laws_FnNames.walk (P : laws_FnNames.Pure) (a0 : Option Addr) (len0 cap0 : Nat) (z0 : List Int) (w : World) (w0 : (a0 = none ∧ len0 = 0 ∧ cap0 = 0 ∧ z0 = []) ∨ ∃ x, a0 = some x ∧ len0 ≤ cap0 ∧ cap0 ≤ maxLen ∧ z0.length = cap0 ∧ (∀ i, i < z0.length → w.cell? (x.add i) = some (.int .u8 (z0.getD i 0))) ∧ ∀ n ∈ z0, (Lit.int .u8 n).wf = true) (y0 : len0 * 1 ≤ 140737488351232) (hTD : TabsD w) (hTE : TabsE w) :
    Calls Tryd.prog 10 #[.slice a0 len0 cap0] w fun e w' => e = .returned (.bool true) ∧ Below w.heap.size w w' := by
  obtain ⟨l0, rfl, hr0, hm0, hw0, hc0⟩ := ReadsInt.ofRowC w0
  obtain ⟨k, h⟩ := P l0 hm0 y0 hw0
  refine (laws_FnNames.calls k _ _ l0 true w (Kd.C_of_reads (d := (0 : Int)) (h1 := fun _ => rfl) hr0) hc0 hTD hTE h ⟨rfl⟩).mono ?_
  rintro e w' ⟨rfl, hd⟩
  exact ⟨rfl, hd⟩

end Go.Proofs.YtfnogfbmieoljaaDoor.MFnNames
