/- Each theorem here says that a call of one Go function answers what the Lean function beside it answers; its conditions stand in it. Written by a program of this session. -/
import Derived.Test.YtdjgnooacaoomaaRows
import Derived.Test.YtdjgnooacaoomaaMFnExactSameFilesx7
import Derived.Test.YtdjgnooacaoomaaPureFnExactSameFiles
import Derived.Test.YtdjgnooacaoomaaOpn
import Derived.WalkKit
import Derived.ProofKit
import Derived.OpenShut
import Derived.ShutString
import Derived.ChangeOld
import Derived.Below
import Derived.SizedLaws
namespace Go.Proofs.Ytdjgnooacaoomaa.fnExactSameFiles
open Go.ChangeShapes Go.WideShapes Go.ChangeAt Go.RowKit Go.Proofs.Ytdjgnooacaoomaa.MFnExactSameFiles Go.Proofs.Ytdjgnooacaoomaa.Opn Go.Proofs.YtdjgnooacaoomaaW.PrintWords
open Go.ChangeMaps (open_string shut_string)
set_option linter.unusedVariables false
theorem own : ownKnob Try.prog.godebug = none := by kernel_rfl
theorem laidOut : laidOutB Try.prog = true := by kernel_rfl
theorem opn_k118 {H : Type} {enc : TypeId × Value → H} {w : World} {base : Nat} {spare : Nat → Bool} {held : Bool} : Opn enc Try.prog w base spare held 118 k118 (fun x => ((Lit.int .i64 x.f0).wf = true ∧ x.f1.size ≤ 9223372036854775807 ∧ (Lit.int .i64 x.f2).wf = true)) := by
  intro fuel cs x h
  obtain ⟨xs, n, rfl, _, hl, hxl, hx⟩ := DataW.trod_struct Try.underlying118 h
  obtain ⟨f0, K0, Q0⟩ := opn_field (f := 3) 0 hx hxl 0 rfl rfl rfl (by kernel_rfl) (opn_int Try.underlying3)
  obtain ⟨f1, K1, Q1⟩ := opn_field (f := 9) 1 hx hxl 1 rfl rfl rfl (by kernel_rfl) (opn_string Try.underlying9)
  obtain ⟨f2, K2, Q2⟩ := opn_field (f := 3) 2 hx hxl 2 rfl rfl rfl (by kernel_rfl) (opn_int Try.underlying3)
  rw [show Try.prog.cellsOf 118 = 3 from by kernel_rfl] at hl
  obtain ⟨c0, c1, c2, rfl⟩ := three _ hl
  have e0 : [c0] = [.int .i64 f0] := K0
  obtain rfl := (List.cons.inj e0).1
  have e1 : [c1] = [.string f1] := K1
  obtain rfl := (List.cons.inj e1).1
  have e2 : [c2] = [.int .i64 f2] := K2
  obtain rfl := (List.cons.inj e2).1
  exact ⟨⟨f0, f1, f2⟩, k118_mk _ _, Q0, Q1, Q2⟩
theorem opn_k106 {H : Type} {enc : TypeId × Value → H} {w : World} {base : Nat} {spare : Nat → Bool} {held : Bool} : Opn enc Try.prog w base spare held 106 k106 (fun x => (x.f0.size ≤ 9223372036854775807 ∧ (Lit.int .i64 x.f1).wf = true)) := by
  intro fuel cs x h
  obtain ⟨xs, n, rfl, _, hl, hxl, hx⟩ := DataW.trod_struct Try.underlying106 h
  obtain ⟨f0, K0, Q0⟩ := opn_field (f := 9) 0 hx hxl 0 rfl rfl rfl (by kernel_rfl) (opn_string Try.underlying9)
  obtain ⟨f1, K1, Q1⟩ := opn_field (f := 3) 1 hx hxl 1 rfl rfl rfl (by kernel_rfl) (opn_int Try.underlying3)
  rw [show Try.prog.cellsOf 106 = 2 from by kernel_rfl] at hl
  obtain ⟨c0, c1, rfl⟩ := two _ hl
  have e0 : [c0] = [.string f0] := K0
  obtain rfl := (List.cons.inj e0).1
  have e1 : [c1] = [.int .i64 f1] := K1
  obtain rfl := (List.cons.inj e1).1
  exact ⟨⟨f0, f1⟩, k106_mk _ _, Q0, Q1⟩
set_option maxRecDepth 100000 in
theorem lifted (os : Os) (started : os.Started) (H : Type) (enc : TypeId × Value → H) :
    ReturnsInHanded {} Try.checked os 13 .any (Rows.fnExactSameFilesSpec.pre6 enc Try.prog Try.f13 Rows.fnExactSameFilesRow.domain false) (Rows.fnExactSameFilesSpec.post enc Try.prog Try.f13 false true false false) := by
  refine returnsInHanded_of_change_sized (C := Try.checked) own started (by kernel_rfl) Try.func13
    (ChangeSpec.witness6 (enc := enc) (C := Try.checked) false ⟨#[], #[.agg #[.slice none 0 0, .slice none 0 0, .slice none 0 0, .slice none 0 0, .int .i64 0, .int .i64 0], .agg #[.slice none 0 0, .slice none 0 0, .slice none 0 0, .slice none 0 0, .int .i64 0, .int .i64 0]], []⟩ 8 (by kernel_rfl) (by kernel_rfl) (by kernel_rfl) (by kernel_rfl)) ?_
  intro W base args ds gs before hval0 hW hcnd hsz0 _
  have hsz : (DataW.weightsEach Try.prog (Try.f13.params.toList ++ Rows.fnExactSameFilesSpec.plain.varTypes Try.prog) (ds ++ gs)).all (· ≤ reachBytes) = true := hsz0
  have hval : ∀ (j : Nat) t v, Try.f13.params[j]? = some t → args[j]? = some v → Value.okWide Try.prog W .any base t v := hval0
  have hW' := hW
  obtain ⟨p, q, hA0, hV, rfl, hfz, hnd⟩ := hW
  have hA : DataW.TrodAll enc Try.prog W 0 (fun _ => true) true Try.f13.params.toList args.toList ds p := hA0
  rw [Try.params13] at hA hval hsz
  obtain ⟨v0, vs0, d0, ds0, p0, u0, hargs, rfl, rfl, h0, r0⟩ := trodAll_cons hA
  obtain ⟨v1, vs1, d1, ds1, p1, u1, rfl, rfl, rfl, h1, r1⟩ := trodAll_cons r0
  obtain ⟨rfl, rfl, rfl⟩ := trodAll_nil r1
  obtain rfl : args = #[v0, v1] := by cases args; simp_all
  obtain ⟨rfl, rfl⟩ := trodVars_none hV
  have k0 := h0
  have lt0 : ∀ x ∈ p0, x.block < W.heap.size := by obtain ⟨m, hm⟩ := k0; exact DataW.trod_lt m _ _ _ hm
  obtain ⟨arr0, rfl, _⟩ := okWide_struct Try.underlying55 (hval 0 55 v0 rfl rfl)
  obtain ⟨ll0, rfl⟩ : ∃ l_ : List Value, arr0 = l_.toArray := ⟨arr0.toList, (Array.toArray_toList).symm⟩
  obtain ⟨fuel0, hf0⟩ := h0
  obtain ⟨xs0, n0, rfl, _, hl0, hxl0, hx0⟩ := DataW.trod_struct Try.underlying55 hf0
  obtain ⟨l0_0, K0_0, q0_0⟩ := opn_field (f := 52) 0 hx0 hxl0 0 rfl rfl rfl (by kernel_rfl) (opn_slice Try.underlying52 (by kernel_rfl) (opn_k118))
  obtain ⟨l0_1, K0_1, q0_1⟩ := opn_field (f := 53) 1 hx0 hxl0 1 rfl rfl rfl (by kernel_rfl) (opn_slice Try.underlying53 (by kernel_rfl) (opn_k106))
  obtain ⟨l0_2, K0_2, q0_2⟩ := opn_field (f := 53) 2 hx0 hxl0 2 rfl rfl rfl (by kernel_rfl) (opn_slice Try.underlying53 (by kernel_rfl) (opn_k106))
  obtain ⟨l0_3, K0_3, q0_3⟩ := opn_field (f := 45) 3 hx0 hxl0 3 rfl rfl rfl (by kernel_rfl) (opn_slice Try.underlying45 (by kernel_rfl) (opn_string Try.underlying9))
  obtain ⟨a0_4, K0_4, q0_4⟩ := opn_field (f := 3) 4 hx0 hxl0 4 rfl rfl rfl (by kernel_rfl) (opn_int Try.underlying3)
  obtain ⟨a0_5, K0_5, q0_5⟩ := opn_field (f := 3) 5 hx0 hxl0 5 rfl rfl rfl (by kernel_rfl) (opn_int Try.underlying3)
  rw [show Try.prog.cellsOf 55 = 6 from by kernel_rfl] at hl0
  obtain ⟨c0__0, c0__1, c0__2, c0__3, c0__4, c0__5, rfl⟩ := six ll0 hl0
  obtain ⟨A0_0, c0_0, e0_0, hc0_0, hr0_0⟩ := K0_0
  have e0_0' : [c0__0] = [.slice A0_0 l0_0.length c0_0] := e0_0
  obtain rfl := (List.cons.inj e0_0').1
  obtain ⟨A0_1, c0_1, e0_1, hc0_1, hr0_1⟩ := K0_1
  have e0_1' : [c0__1] = [.slice A0_1 l0_1.length c0_1] := e0_1
  obtain rfl := (List.cons.inj e0_1').1
  obtain ⟨A0_2, c0_2, e0_2, hc0_2, hr0_2⟩ := K0_2
  have e0_2' : [c0__2] = [.slice A0_2 l0_2.length c0_2] := e0_2
  obtain rfl := (List.cons.inj e0_2').1
  obtain ⟨A0_3, c0_3, e0_3, hc0_3, hr0_3⟩ := K0_3
  have e0_3' : [c0__3] = [.slice A0_3 l0_3.length c0_3] := e0_3
  obtain rfl := (List.cons.inj e0_3').1
  have e0_4' : [c0__4] = [.int .i64 a0_4] := K0_4
  obtain rfl := (List.cons.inj e0_4').1
  have e0_5' : [c0__5] = [.int .i64 a0_5] := K0_5
  obtain rfl := (List.cons.inj e0_5').1
  have k1 := h1
  have lt1 : ∀ x ∈ p1, x.block < W.heap.size := by obtain ⟨m, hm⟩ := k1; exact DataW.trod_lt m _ _ _ hm
  obtain ⟨arr1, rfl, _⟩ := okWide_struct Try.underlying55 (hval 1 55 v1 rfl rfl)
  obtain ⟨ll1, rfl⟩ : ∃ l_ : List Value, arr1 = l_.toArray := ⟨arr1.toList, (Array.toArray_toList).symm⟩
  obtain ⟨fuel1, hf1⟩ := h1
  obtain ⟨xs1, n1, rfl, _, hl1, hxl1, hx1⟩ := DataW.trod_struct Try.underlying55 hf1
  obtain ⟨l1_0, K1_0, q1_0⟩ := opn_field (f := 52) 0 hx1 hxl1 0 rfl rfl rfl (by kernel_rfl) (opn_slice Try.underlying52 (by kernel_rfl) (opn_k118))
  obtain ⟨l1_1, K1_1, q1_1⟩ := opn_field (f := 53) 1 hx1 hxl1 1 rfl rfl rfl (by kernel_rfl) (opn_slice Try.underlying53 (by kernel_rfl) (opn_k106))
  obtain ⟨l1_2, K1_2, q1_2⟩ := opn_field (f := 53) 2 hx1 hxl1 2 rfl rfl rfl (by kernel_rfl) (opn_slice Try.underlying53 (by kernel_rfl) (opn_k106))
  obtain ⟨l1_3, K1_3, q1_3⟩ := opn_field (f := 45) 3 hx1 hxl1 3 rfl rfl rfl (by kernel_rfl) (opn_slice Try.underlying45 (by kernel_rfl) (opn_string Try.underlying9))
  obtain ⟨a1_4, K1_4, q1_4⟩ := opn_field (f := 3) 4 hx1 hxl1 4 rfl rfl rfl (by kernel_rfl) (opn_int Try.underlying3)
  obtain ⟨a1_5, K1_5, q1_5⟩ := opn_field (f := 3) 5 hx1 hxl1 5 rfl rfl rfl (by kernel_rfl) (opn_int Try.underlying3)
  rw [show Try.prog.cellsOf 55 = 6 from by kernel_rfl] at hl1
  obtain ⟨c1__0, c1__1, c1__2, c1__3, c1__4, c1__5, rfl⟩ := six ll1 hl1
  obtain ⟨A1_0, c1_0, e1_0, hc1_0, hr1_0⟩ := K1_0
  have e1_0' : [c1__0] = [.slice A1_0 l1_0.length c1_0] := e1_0
  obtain rfl := (List.cons.inj e1_0').1
  obtain ⟨A1_1, c1_1, e1_1, hc1_1, hr1_1⟩ := K1_1
  have e1_1' : [c1__1] = [.slice A1_1 l1_1.length c1_1] := e1_1
  obtain rfl := (List.cons.inj e1_1').1
  obtain ⟨A1_2, c1_2, e1_2, hc1_2, hr1_2⟩ := K1_2
  have e1_2' : [c1__2] = [.slice A1_2 l1_2.length c1_2] := e1_2
  obtain rfl := (List.cons.inj e1_2').1
  obtain ⟨A1_3, c1_3, e1_3, hc1_3, hr1_3⟩ := K1_3
  have e1_3' : [c1__3] = [.slice A1_3 l1_3.length c1_3] := e1_3
  obtain rfl := (List.cons.inj e1_3').1
  have e1_4' : [c1__4] = [.int .i64 a1_4] := K1_4
  obtain rfl := (List.cons.inj e1_4').1
  have e1_5' : [c1__5] = [.int .i64 a1_5] := K1_5
  obtain rfl := (List.cons.inj e1_5').1
  clear hA0 hval0 hsz0 hsz
  refine (MFnExactSameFiles.laws_FnExactSameFiles.walk Pure.FnExactSameFiles A0_0 c0_0 l0_0 A0_1 c0_1 l0_1 A0_2 c0_2 l0_2 A0_3 c0_3 l0_3 a0_4 a0_5 A1_0 c1_0 l1_0 A1_1 c1_1 l1_1 A1_2 c1_2 l1_2 A1_3 c1_3 l1_3 a1_4 a1_5 W hr0_0 hc0_0 hr0_1 hc0_1 hr0_2 hc0_2 hr0_3 hc0_3 hr1_0 hc1_0 hr1_1 hc1_1 hr1_2 hc1_2 hr1_3 hc1_3 q0_0 q0_1 q0_2 q0_3 q0_4 q0_5 q1_0 q1_1 q1_2 q1_3 q1_4 q1_5).mono fun e W' ⟨he, bel⟩ => ?_
  subst he
  exact ⟨_, rfl, _, _, _, [], _, [], hW', trodAll_mk1 (shut_bool Try.underlying4 _), (trodAll_cons_mk (Below.trod laidOut (by kernel_rfl) (of_decide_eq_true (by kernel_rfl)) k0 bel lt0) (trodAll_cons_mk (Below.trod laidOut (by kernel_rfl) (of_decide_eq_true (by kernel_rfl)) k1 bel lt1) trodAll_mk0)), rfl, bel.frame _, fun h => by cases h⟩
theorem over : Rows.fnExactSameFilesRow.holds Try.pinned (OpenSpec.ofChange Rows.fnExactSameFilesSpec) :=
  OpenClaim.holds_of_wide 13 Try.f13 rfl rfl rfl rfl rfl rfl rfl ⟨rfl, rfl, rfl, rfl, rfl⟩ rfl rfl rfl rfl rfl (by kernel_rfl) Try.func13 (by kernel_rfl)
    (of_decide_eq_true (by kernel_rfl)) (by unfold Func.isWrapper; first | (rw [if_pos (by decide +kernel)]; kernel_rfl) | (rw [if_neg (by decide +kernel)]; exact ⟨rfl, rfl⟩))
    (fun os started H enc _ => lifted os started H enc)
theorem proved : Rows.FnExactSameFilesSaid := over
#print axioms proved
end Go.Proofs.Ytdjgnooacaoomaa.fnExactSameFiles
namespace Go.Proofs.Ytdjgnooacaoomaa
/-- The row, under a short name, for the claim. -/
theorem fnExactSameFiles_holds : Rows.FnExactSameFilesSaid := fnExactSameFiles.proved
end Go.Proofs.Ytdjgnooacaoomaa
