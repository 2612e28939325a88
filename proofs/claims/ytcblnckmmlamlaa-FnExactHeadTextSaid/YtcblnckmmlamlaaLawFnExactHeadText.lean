/- Each theorem here says that a call of one Go function answers what the Lean function beside it answers; its conditions stand in it. Written by a program of this session. -/
import Derived.Test.YtcblnckmmlamlaaRows
import Derived.Test.YtcblnckmmlamlaaMFnExactHeadTextx3
import Derived.Test.YtcblnckmmlamlaaPureFnExactHeadText
import Derived.Test.YtcblnckmmlamlaaOpn
import Derived.WalkKit
import Derived.ProofKit
import Derived.OpenShut
import Derived.ShutString
import Derived.ChangeOld
import Derived.Below
import Derived.SizedLaws
namespace Go.Proofs.Ytcblnckmmlamlaa.fnExactHeadText
open Go.ChangeShapes Go.WideShapes Go.ChangeAt Go.RowKit Go.Proofs.Ytcblnckmmlamlaa.MFnExactHeadText Go.Proofs.Ytcblnckmmlamlaa.Opn Go.Proofs.YtcblnckmmlamlaaW.PrintWords
open Go.ChangeMaps (open_string shut_string)
set_option linter.unusedVariables false
theorem own : ownKnob Try.prog.godebug = none := by kernel_rfl
theorem laidOut : laidOutB Try.prog = true := by kernel_rfl
set_option maxRecDepth 100000 in
theorem lifted (os : Os) (started : os.Started) (H : Type) (enc : TypeId × Value → H) :
    ReturnsInHanded {} Try.checked os 10 .any (Rows.fnExactHeadTextSpec.pre6 enc Try.prog Try.f10 Rows.fnExactHeadTextRow.domain false) (Rows.fnExactHeadTextSpec.post enc Try.prog Try.f10 false true false false) := by
  refine returnsInHanded_of_change_sized (C := Try.checked) own started (by kernel_rfl) Try.func10
    (ChangeSpec.witness6 (enc := enc) (C := Try.checked) false ⟨#[], #[.agg #[.int .i64 0, .int .i64 0, .int .i64 0, .int .i64 0]], []⟩ 8 (by kernel_rfl) (by kernel_rfl) (by kernel_rfl) (by kernel_rfl)) ?_
  intro W base args ds gs before hval0 hW hcnd hsz0 _
  have hsz : (DataW.weightsEach Try.prog (Try.f10.params.toList ++ Rows.fnExactHeadTextSpec.plain.varTypes Try.prog) (ds ++ gs)).all (· ≤ reachBytes) = true := hsz0
  have hval : ∀ (j : Nat) t v, Try.f10.params[j]? = some t → args[j]? = some v → Value.okWide Try.prog W .any base t v := hval0
  have hW' := hW
  obtain ⟨p, q, hA0, hV, rfl, hfz, hnd⟩ := hW
  have hA : DataW.TrodAll enc Try.prog W 0 (fun _ => true) true Try.f10.params.toList args.toList ds p := hA0
  rw [Try.params10] at hA hval hsz
  obtain ⟨v0, vs0, d0, ds0, p0, u0, hargs, rfl, rfl, h0, r0⟩ := trodAll_cons hA
  obtain ⟨rfl, rfl, rfl⟩ := trodAll_nil r0
  obtain rfl : args = #[v0] := by cases args; simp_all
  obtain ⟨rfl, rfl⟩ := trodVars_none hV
  have k0 := h0
  have lt0 : ∀ x ∈ p0, x.block < W.heap.size := by obtain ⟨m, hm⟩ := k0; exact DataW.trod_lt m _ _ _ hm
  obtain ⟨arr0, rfl, _⟩ := okWide_struct Try.underlying36 (hval 0 36 v0 rfl rfl)
  obtain ⟨ll0, rfl⟩ : ∃ l_ : List Value, arr0 = l_.toArray := ⟨arr0.toList, (Array.toArray_toList).symm⟩
  obtain ⟨fuel0, hf0⟩ := h0
  obtain ⟨xs0, n0, rfl, _, hl0, hxl0, hx0⟩ := DataW.trod_struct Try.underlying36 hf0
  obtain ⟨a0_0, K0_0, q0_0⟩ := opn_field (f := 3) 0 hx0 hxl0 0 rfl rfl rfl (by kernel_rfl) (opn_int Try.underlying3)
  obtain ⟨a0_1, K0_1, q0_1⟩ := opn_field (f := 3) 1 hx0 hxl0 1 rfl rfl rfl (by kernel_rfl) (opn_int Try.underlying3)
  obtain ⟨a0_2, K0_2, q0_2⟩ := opn_field (f := 3) 2 hx0 hxl0 2 rfl rfl rfl (by kernel_rfl) (opn_int Try.underlying3)
  obtain ⟨a0_3, K0_3, q0_3⟩ := opn_field (f := 3) 3 hx0 hxl0 3 rfl rfl rfl (by kernel_rfl) (opn_int Try.underlying3)
  rw [show Try.prog.cellsOf 36 = 4 from by kernel_rfl] at hl0
  obtain ⟨c0__0, c0__1, c0__2, c0__3, rfl⟩ := four ll0 hl0
  have e0_0' : [c0__0] = [.int .i64 a0_0] := K0_0
  obtain rfl := (List.cons.inj e0_0').1
  have e0_1' : [c0__1] = [.int .i64 a0_1] := K0_1
  obtain rfl := (List.cons.inj e0_1').1
  have e0_2' : [c0__2] = [.int .i64 a0_2] := K0_2
  obtain rfl := (List.cons.inj e0_2').1
  have e0_3' : [c0__3] = [.int .i64 a0_3] := K0_3
  obtain rfl := (List.cons.inj e0_3').1
  clear hA0 hval0 hsz0 hsz
  refine (MFnExactHeadText.laws_FnExactHeadText.walk Pure.FnExactHeadText a0_0 a0_1 a0_2 a0_3 W  q0_0 q0_1 q0_2 q0_3).mono fun e W' ⟨he, bel⟩ => ?_
  subst he
  exact ⟨_, rfl, _, _, _, [], _, [], hW', trodAll_mk1 (shut_bool Try.underlying4 _), (trodAll_cons_mk (Below.trod laidOut (by kernel_rfl) (of_decide_eq_true (by kernel_rfl)) k0 bel lt0) trodAll_mk0), rfl, bel.frame _, fun h => by cases h⟩
theorem over : Rows.fnExactHeadTextRow.holds Try.pinned (OpenSpec.ofChange Rows.fnExactHeadTextSpec) :=
  OpenClaim.holds_of_wide 10 Try.f10 rfl rfl rfl rfl rfl rfl rfl ⟨rfl, rfl, rfl, rfl, rfl⟩ rfl rfl rfl rfl rfl (by kernel_rfl) Try.func10 (by kernel_rfl)
    (of_decide_eq_true (by kernel_rfl)) (by unfold Func.isWrapper; first | (rw [if_pos (by decide +kernel)]; kernel_rfl) | (rw [if_neg (by decide +kernel)]; exact ⟨rfl, rfl⟩))
    (fun os started H enc _ => lifted os started H enc)
theorem proved : Rows.FnExactHeadTextSaid := over
#print axioms proved
end Go.Proofs.Ytcblnckmmlamlaa.fnExactHeadText
namespace Go.Proofs.Ytcblnckmmlamlaa
/-- The row, under a short name, for the claim. -/
theorem fnExactHeadText_holds : Rows.FnExactHeadTextSaid := fnExactHeadText.proved
end Go.Proofs.Ytcblnckmmlamlaa
