/- Each theorem here says that a call of one Go function answers what the Lean function beside it answers; its conditions stand in it. Written by a program of this session. -/
import Derived.Test.YtbcidclclckgfaaGreatDoorRows
import Derived.Test.YtbcidclclckgfaaGreatDoorMFnExactCouldFallx19
import Derived.Test.YtbcidclclckgfaaGreatDoorPureFnExactCouldFall
import Derived.Test.YtbcidclclckgfaaGreatDoorOpn
import Derived.WalkKit
import Derived.ProofKit
import Derived.OpenShut
import Derived.ShutString
import Derived.ChangeOld
import Derived.Below
import Derived.SizedLaws
import Derived.Test.YtbcidclclckgfaaGreatDoorCards
import Derived.Test.YtbcidclclckgfaaGreatDoorTie
import Derived.SevenTiedAt
import Derived.Lay
import Derived.MakeChecks
import Derived.Lib.LaidTab
import Derived.Stop.LaidErr
namespace Go.Proofs.YtbcidclclckgfaaGreatDoor.fnExactCouldFall
open Go.ChangeShapes Go.WideShapes Go.ChangeAt Go.RowKit Go.Proofs.YtbcidclclckgfaaGreatDoor.MFnExactCouldFall Go.Proofs.YtbcidclclckgfaaGreatDoor.Opn Go.Proofs.YtbcidclclckgfaaGreatDoorW.PrintWords
open Go.ChangeMaps (open_string shut_string)
set_option linter.unusedVariables false
theorem own : ownKnob Tryz.prog.godebug = none := by kernel_rfl
theorem laidOut : laidOutB Tryz.prog = true := by kernel_rfl
theorem opn_k110 {H : Type} {enc : TypeId × Value → H} {w : World} {base : Nat} {spare : Nat → Bool} {held : Bool} : Opn enc Tryz.prog w base spare held 110 k110 (fun x => ((Lit.int .i64 x.f0).wf = true ∧ x.f1.size ≤ 9223372036854775807 ∧ (Lit.int .i64 x.f2).wf = true)) := by
  intro fuel cs x h
  obtain ⟨xs, n, rfl, _, hl, hxl, hx⟩ := DataW.trod_struct Tryz.underlying110 h
  obtain ⟨f0, K0, Q0⟩ := opn_field (f := 3) 0 hx hxl 0 rfl rfl rfl (by kernel_rfl) (opn_int Tryz.underlying3)
  obtain ⟨f1, K1, Q1⟩ := opn_field (f := 9) 1 hx hxl 1 rfl rfl rfl (by kernel_rfl) (opn_string Tryz.underlying9)
  obtain ⟨f2, K2, Q2⟩ := opn_field (f := 3) 2 hx hxl 2 rfl rfl rfl (by kernel_rfl) (opn_int Tryz.underlying3)
  rw [show Tryz.prog.cellsOf 110 = 3 from by kernel_rfl] at hl
  obtain ⟨c0, c1, c2, rfl⟩ := three _ hl
  have e0 : [c0] = [.int .i64 f0] := K0
  obtain rfl := (List.cons.inj e0).1
  have e1 : [c1] = [.string f1] := K1
  obtain rfl := (List.cons.inj e1).1
  have e2 : [c2] = [.int .i64 f2] := K2
  obtain rfl := (List.cons.inj e2).1
  exact ⟨⟨f0, f1, f2⟩, k110_mk _ _, Q0, Q1, Q2⟩
theorem opn_k112 {H : Type} {enc : TypeId × Value → H} {w : World} {base : Nat} {spare : Nat → Bool} {held : Bool} : Opn enc Tryz.prog w base spare held 112 k112 (fun x => (x.f0.size ≤ 9223372036854775807 ∧ (Lit.int .i64 x.f1).wf = true)) := by
  intro fuel cs x h
  obtain ⟨xs, n, rfl, _, hl, hxl, hx⟩ := DataW.trod_struct Tryz.underlying112 h
  obtain ⟨f0, K0, Q0⟩ := opn_field (f := 9) 0 hx hxl 0 rfl rfl rfl (by kernel_rfl) (opn_string Tryz.underlying9)
  obtain ⟨f1, K1, Q1⟩ := opn_field (f := 3) 1 hx hxl 1 rfl rfl rfl (by kernel_rfl) (opn_int Tryz.underlying3)
  rw [show Tryz.prog.cellsOf 112 = 2 from by kernel_rfl] at hl
  obtain ⟨c0, c1, rfl⟩ := two _ hl
  have e0 : [c0] = [.string f0] := K0
  obtain rfl := (List.cons.inj e0).1
  have e1 : [c1] = [.int .i64 f1] := K1
  obtain rfl := (List.cons.inj e1).1
  exact ⟨⟨f0, f1⟩, k112_mk _ _, Q0, Q1⟩
set_option maxRecDepth 100000 in
theorem lifted (os : Os) (started : os.Started) (H : Type) (enc : TypeId × Value → H) :
    ReturnsInHanded {} Tryz.checked os 8 .any (fun w args => (Rows.fnExactCouldFallSpec.pre enc Tryz.prog Tryz.f8 [] false w args ∧ laidMetH Tryz.prog Rows.fnExactCouldFallRow.laid w) ∧ sizedMet enc Tryz.prog Tryz.f8 (OpenSpec.ofChange Rows.fnExactCouldFallSpec) false w args) (Rows.fnExactCouldFallSpec.post enc Tryz.prog Tryz.f8 false true false false) := by
  refine returnsInHanded_of_change_and (C := Tryz.checked) (X := fun w _ => laidMetH Tryz.prog Rows.fnExactCouldFallRow.laid w) (fun _ _ _ hh h => h.of_heap hh) own started (by kernel_rfl) Tryz.func8
    (ChangeSpec.witness_shaped (enc := enc) (C := Tryz.checked) (os := os) (X := fun w _ => laidMetH Tryz.prog Rows.fnExactCouldFallRow.laid w) false (World.laidAll Tryz.prog os Rows.fnExactCouldFallRow.laid) #[.agg #[.slice none 0 0, .slice none 0 0, .slice none 0 0, .slice none 0 0, .int .i64 0, .int .i64 0], .agg #[.slice none 0 0, .slice none 0 0, .slice none 0 0, .slice none 0 0, .int .i64 0, .int .i64 0]] 8 (World.laidAll_os _ _ _)
      (World.shaped_of_ZipB (by kernel_rfl) (by kernel_rfl)) (by kernel_rfl) (by kernel_rfl) (by kernel_rfl)
      (by rw [MakeChecks.laidMetH_plain _ _ _ (by kernel_rfl)]; exact laidMet_laidAll _ (by kernel_rfl) (by kernel_rfl))) ?_
  intro W base args ds gs before hval0 hW hcnd hsz0 hL0 _
  have hsz : (DataW.weightsEach Tryz.prog (Tryz.f8.params.toList ++ Rows.fnExactCouldFallSpec.plain.varTypes Tryz.prog) (ds ++ gs)).all (· ≤ reachBytes) = true := hsz0
  have hval : ∀ (j : Nat) t v, Tryz.f8.params[j]? = some t → args[j]? = some v → Value.okWide Tryz.prog W .any base t v := hval0
  have hW' := hW
  obtain ⟨p, q, hA0, hV, rfl, hfz, hnd⟩ := hW
  have hA : DataW.TrodAll enc Tryz.prog W 0 (fun _ => true) true Tryz.f8.params.toList args.toList ds p := hA0
  rw [Tryz.params8] at hA hval hsz
  obtain ⟨v0, vs0, d0, ds0, p0, u0, hargs, rfl, rfl, h0, r0⟩ := trodAll_cons hA
  obtain ⟨v1, vs1, d1, ds1, p1, u1, rfl, rfl, rfl, h1, r1⟩ := trodAll_cons r0
  obtain ⟨rfl, rfl, rfl⟩ := trodAll_nil r1
  obtain rfl : args = #[v0, v1] := by cases args; simp_all
  obtain ⟨rfl, rfl⟩ := trodVars_none hV
  have k0 := h0
  have lt0 : ∀ x ∈ p0, x.block < W.heap.size := by obtain ⟨m, hm⟩ := k0; exact DataW.trod_lt m _ _ _ hm
  obtain ⟨arr0, rfl, _⟩ := okWide_struct Tryz.underlying26 (hval 0 26 v0 rfl rfl)
  obtain ⟨ll0, rfl⟩ : ∃ l_ : List Value, arr0 = l_.toArray := ⟨arr0.toList, (Array.toArray_toList).symm⟩
  obtain ⟨fuel0, hf0⟩ := h0
  obtain ⟨xs0, n0, rfl, _, hl0, hxl0, hx0⟩ := DataW.trod_struct Tryz.underlying26 hf0
  obtain ⟨l0_0, K0_0, q0_0⟩ := opn_field (f := 22) 0 hx0 hxl0 0 rfl rfl rfl (by kernel_rfl) (opn_slice Tryz.underlying22 (by kernel_rfl) (opn_k110))
  obtain ⟨l0_1, K0_1, q0_1⟩ := opn_field (f := 23) 1 hx0 hxl0 1 rfl rfl rfl (by kernel_rfl) (opn_slice Tryz.underlying23 (by kernel_rfl) (opn_k112))
  obtain ⟨l0_2, K0_2, q0_2⟩ := opn_field (f := 23) 2 hx0 hxl0 2 rfl rfl rfl (by kernel_rfl) (opn_slice Tryz.underlying23 (by kernel_rfl) (opn_k112))
  obtain ⟨l0_3, K0_3, q0_3⟩ := opn_field (f := 24) 3 hx0 hxl0 3 rfl rfl rfl (by kernel_rfl) (opn_slice Tryz.underlying24 (by kernel_rfl) (opn_string Tryz.underlying9))
  obtain ⟨a0_4, K0_4, q0_4⟩ := opn_field (f := 3) 4 hx0 hxl0 4 rfl rfl rfl (by kernel_rfl) (opn_int Tryz.underlying3)
  obtain ⟨a0_5, K0_5, q0_5⟩ := opn_field (f := 3) 5 hx0 hxl0 5 rfl rfl rfl (by kernel_rfl) (opn_int Tryz.underlying3)
  rw [show Tryz.prog.cellsOf 26 = 6 from by kernel_rfl] at hl0
  obtain ⟨c0__0, c0__1, c0__2, c0__3, c0__4, c0__5, rfl⟩ := six ll0 hl0
  obtain ⟨A0_0, c0_0, e0_0, hc0_0, hr0_0⟩ := K0_0
  have e0_0' : [c0__0] = [.slice A0_0 l0_0.length c0_0] := e0_0
  obtain rfl := (List.cons.inj e0_0').1
  obtain ⟨A0_1, c0_1, e0_1, hc0_1, hr0_1⟩ := K0_1
  have e0_1' : [c0__1] = [.slice A0_1 l0_1.length c0_1] := e0_1
  obtain rfl := (List.cons.inj e0_1').1
  obtain ⟨A0_2, c0_2, e0_2, hc0_2, hr0_2⟩ := K0_2
  have e0_2' : [c0__2] = [.slice A0_2 l0_2.length c0_2] := e0_2
  obtain rfl := (List.cons.inj e0_2').1
  obtain ⟨A0_3, c0_3, e0_3, hc0_3, hr0_3⟩ := K0_3
  have e0_3' : [c0__3] = [.slice A0_3 l0_3.length c0_3] := e0_3
  obtain rfl := (List.cons.inj e0_3').1
  have e0_4' : [c0__4] = [.int .i64 a0_4] := K0_4
  obtain rfl := (List.cons.inj e0_4').1
  have e0_5' : [c0__5] = [.int .i64 a0_5] := K0_5
  obtain rfl := (List.cons.inj e0_5').1
  have k1 := h1
  have lt1 : ∀ x ∈ p1, x.block < W.heap.size := by obtain ⟨m, hm⟩ := k1; exact DataW.trod_lt m _ _ _ hm
  obtain ⟨arr1, rfl, _⟩ := okWide_struct Tryz.underlying26 (hval 1 26 v1 rfl rfl)
  obtain ⟨ll1, rfl⟩ : ∃ l_ : List Value, arr1 = l_.toArray := ⟨arr1.toList, (Array.toArray_toList).symm⟩
  obtain ⟨fuel1, hf1⟩ := h1
  obtain ⟨xs1, n1, rfl, _, hl1, hxl1, hx1⟩ := DataW.trod_struct Tryz.underlying26 hf1
  obtain ⟨l1_0, K1_0, q1_0⟩ := opn_field (f := 22) 0 hx1 hxl1 0 rfl rfl rfl (by kernel_rfl) (opn_slice Tryz.underlying22 (by kernel_rfl) (opn_k110))
  obtain ⟨l1_1, K1_1, q1_1⟩ := opn_field (f := 23) 1 hx1 hxl1 1 rfl rfl rfl (by kernel_rfl) (opn_slice Tryz.underlying23 (by kernel_rfl) (opn_k112))
  obtain ⟨l1_2, K1_2, q1_2⟩ := opn_field (f := 23) 2 hx1 hxl1 2 rfl rfl rfl (by kernel_rfl) (opn_slice Tryz.underlying23 (by kernel_rfl) (opn_k112))
  obtain ⟨l1_3, K1_3, q1_3⟩ := opn_field (f := 24) 3 hx1 hxl1 3 rfl rfl rfl (by kernel_rfl) (opn_slice Tryz.underlying24 (by kernel_rfl) (opn_string Tryz.underlying9))
  obtain ⟨a1_4, K1_4, q1_4⟩ := opn_field (f := 3) 4 hx1 hxl1 4 rfl rfl rfl (by kernel_rfl) (opn_int Tryz.underlying3)
  obtain ⟨a1_5, K1_5, q1_5⟩ := opn_field (f := 3) 5 hx1 hxl1 5 rfl rfl rfl (by kernel_rfl) (opn_int Tryz.underlying3)
  rw [show Tryz.prog.cellsOf 26 = 6 from by kernel_rfl] at hl1
  obtain ⟨c1__0, c1__1, c1__2, c1__3, c1__4, c1__5, rfl⟩ := six ll1 hl1
  obtain ⟨A1_0, c1_0, e1_0, hc1_0, hr1_0⟩ := K1_0
  have e1_0' : [c1__0] = [.slice A1_0 l1_0.length c1_0] := e1_0
  obtain rfl := (List.cons.inj e1_0').1
  obtain ⟨A1_1, c1_1, e1_1, hc1_1, hr1_1⟩ := K1_1
  have e1_1' : [c1__1] = [.slice A1_1 l1_1.length c1_1] := e1_1
  obtain rfl := (List.cons.inj e1_1').1
  obtain ⟨A1_2, c1_2, e1_2, hc1_2, hr1_2⟩ := K1_2
  have e1_2' : [c1__2] = [.slice A1_2 l1_2.length c1_2] := e1_2
  obtain rfl := (List.cons.inj e1_2').1
  obtain ⟨A1_3, c1_3, e1_3, hc1_3, hr1_3⟩ := K1_3
  have e1_3' : [c1__3] = [.slice A1_3 l1_3.length c1_3] := e1_3
  obtain rfl := (List.cons.inj e1_3').1
  have e1_4' : [c1__4] = [.int .i64 a1_4] := K1_4
  obtain rfl := (List.cons.inj e1_4').1
  have e1_5' : [c1__5] = [.int .i64 a1_5] := K1_5
  obtain rfl := (List.cons.inj e1_5').1
  have hL := hL0
  rw [MakeChecks.laidMetH_plain _ _ _ (by kernel_rfl)] at hL
  have hTE : MFnExactCouldFall.TabsE W := by
    obtain ⟨a0_, s0_, v0_, -, -, -⟩ := laid_sentinel (g := 2) hL.tail.tail.tail (by kernel_rfl) (by kernel_rfl) Tryz.underlying136 (fun u h => typeName_ptr_named (nm := "errors.errorString") (by kernel_rfl) (by kernel_rfl) (by decide) u (h.trans (by kernel_rfl))) Tryz.underlying176 Tryz.underlying178 rfl rfl Tryz.underlying9 (by kernel_rfl) (by kernel_rfl)
    obtain ⟨a1_, s1_, v1_, -, -, -⟩ := laid_sentinel (g := 1) hL.tail.tail.tail.tail (by kernel_rfl) (by kernel_rfl) Tryz.underlying136 (fun u h => typeName_ptr_named (nm := "errors.errorString") (by kernel_rfl) (by kernel_rfl) (by decide) u (h.trans (by kernel_rfl))) Tryz.underlying176 Tryz.underlying178 rfl rfl Tryz.underlying9 (by kernel_rfl) (by kernel_rfl)
    exact ⟨⟨_, _, v1_⟩, ⟨_, _, v0_⟩⟩
  have hTP : MFnExactCouldFall.TabsP W := MFnExactCouldFall.TabsP.of (by kernel_rfl) (Lib.tabIs_of_head (g := 3) (by kernel_rfl) (by kernel_rfl) Tryz.underlying171 Tryz.underlying155 (by kernel_rfl) (by kernel_rfl) hL.tail.tail)
  clear hA0 hval0 hsz0 hsz
  refine (MFnExactCouldFall.laws_FnExactCouldFall.walk Pure.FnExactCouldFall A0_0 c0_0 l0_0 A0_1 c0_1 l0_1 A0_2 c0_2 l0_2 A0_3 c0_3 l0_3 a0_4 a0_5 A1_0 c1_0 l1_0 A1_1 c1_1 l1_1 A1_2 c1_2 l1_2 A1_3 c1_3 l1_3 a1_4 a1_5 W hr0_0 hc0_0 hr0_1 hc0_1 hr0_2 hc0_2 hr0_3 hc0_3 hr1_0 hc1_0 hr1_1 hc1_1 hr1_2 hc1_2 hr1_3 hc1_3 q0_0 q0_1 q0_2 q0_3 q0_4 q0_5 q1_0 q1_1 q1_2 q1_3 q1_4 q1_5 hTE hTP).mono fun e W' ⟨he, bel⟩ => ?_
  subst he
  exact ⟨_, rfl, _, _, _, [], _, [], hW', trodAll_mk1 (shut_bool Tryz.underlying4 _), (trodAll_cons_mk (Below.trod laidOut (by kernel_rfl) (of_decide_eq_true (by kernel_rfl)) k0 bel lt0) (trodAll_cons_mk (Below.trod laidOut (by kernel_rfl) (of_decide_eq_true (by kernel_rfl)) k1 bel lt1) trodAll_mk0)), rfl, bel.frame _, fun h => by cases h⟩
theorem and_ {a b : Bool} (h : a = true) (k : b = true) : (a && b) = true := by rw [h, k]; rfl
theorem part0_ : (fun (P : Program) (f : FuncId) (fn : Func) (s : ChangeSpec) (c : OpenClaim) => c.wf (OpenSpec.ofChange s)) Tryz.prog 8 Tryz.f8 Rows.fnExactCouldFallSpec Rows.fnExactCouldFallRow = true := by kernel_rfl
theorem part1_ : (fun (P : Program) (f : FuncId) (fn : Func) (s : ChangeSpec) (c : OpenClaim) => laidOutB P) Tryz.prog 8 Tryz.f8 Rows.fnExactCouldFallSpec Rows.fnExactCouldFallRow = true := by kernel_rfl
theorem part2_ : (fun (P : Program) (f : FuncId) (fn : Func) (s : ChangeSpec) (c : OpenClaim) => mapsRowed P) Tryz.prog 8 Tryz.f8 Rows.fnExactCouldFallSpec Rows.fnExactCouldFallRow = true := by kernel_rfl
theorem part3_ : (fun (P : Program) (f : FuncId) (fn : Func) (s : ChangeSpec) (c : OpenClaim) => fn.params.all (P.readableRec ·)) Tryz.prog 8 Tryz.f8 Rows.fnExactCouldFallSpec Rows.fnExactCouldFallRow = true := by kernel_rfl
theorem part4_ : (fun (P : Program) (f : FuncId) (fn : Func) (s : ChangeSpec) (c : OpenClaim) => namedTie P c.named s.vars) Tryz.prog 8 Tryz.f8 Rows.fnExactCouldFallSpec Rows.fnExactCouldFallRow = true := by kernel_rfl
theorem part5_ : (fun (P : Program) (f : FuncId) (fn : Func) (s : ChangeSpec) (c : OpenClaim) => c.stops == []) Tryz.prog 8 Tryz.f8 Rows.fnExactCouldFallSpec Rows.fnExactCouldFallRow = true := by kernel_rfl
theorem part6_ : (fun (P : Program) (f : FuncId) (fn : Func) (s : ChangeSpec) (c : OpenClaim) => P.stops == []) Tryz.prog 8 Tryz.f8 Rows.fnExactCouldFallSpec Rows.fnExactCouldFallRow = true := by kernel_rfl
theorem part7_ : (fun (P : Program) (f : FuncId) (fn : Func) (s : ChangeSpec) (c : OpenClaim) => c.knobs == []) Tryz.prog 8 Tryz.f8 Rows.fnExactCouldFallSpec Rows.fnExactCouldFallRow = true := by kernel_rfl
theorem part8_ : (fun (P : Program) (f : FuncId) (fn : Func) (s : ChangeSpec) (c : OpenClaim) => P.stopKnobs == []) Tryz.prog 8 Tryz.f8 Rows.fnExactCouldFallSpec Rows.fnExactCouldFallRow = true := by kernel_rfl
theorem part9_ : (fun (P : Program) (f : FuncId) (fn : Func) (s : ChangeSpec) (c : OpenClaim) => c.inPlace == P.inPlace f) Tryz.prog 8 Tryz.f8 Rows.fnExactCouldFallSpec Rows.fnExactCouldFallRow = true := by kernel_rfl
theorem part10_ : (fun (P : Program) (f : FuncId) (fn : Func) (s : ChangeSpec) (c : OpenClaim) => c.unfollowed == P.unfollowed f) Tryz.prog 8 Tryz.f8 Rows.fnExactCouldFallSpec Rows.fnExactCouldFallRow = true := by kernel_rfl
theorem part11_ : (fun (P : Program) (f : FuncId) (fn : Func) (s : ChangeSpec) (c : OpenClaim) => c.recurses == P.recurses f) Tryz.prog 8 Tryz.f8 Rows.fnExactCouldFallSpec Rows.fnExactCouldFallRow = true := by kernel_rfl
theorem part12_ : (fun (P : Program) (f : FuncId) (fn : Func) (s : ChangeSpec) (c : OpenClaim) => c.named == P.varsNamed f) Tryz.prog 8 Tryz.f8 Rows.fnExactCouldFallSpec Rows.fnExactCouldFallRow = true := by kernel_rfl
theorem part13_ : (fun (P : Program) (f : FuncId) (fn : Func) (s : ChangeSpec) (c : OpenClaim) => c.maps == (fn.params.toList ++ s.plain.varTypes P).any (P.mapsRec ·)) Tryz.prog 8 Tryz.f8 Rows.fnExactCouldFallSpec Rows.fnExactCouldFallRow = true := by kernel_rfl
theorem part14_ : (fun (P : Program) (f : FuncId) (fn : Func) (s : ChangeSpec) (c : OpenClaim) => c.ifaces == (fn.params.toList ++ s.plain.varTypes P).any (P.ifacesRec ·)) Tryz.prog 8 Tryz.f8 Rows.fnExactCouldFallSpec Rows.fnExactCouldFallRow = true := by kernel_rfl
theorem part15_ : (fun (P : Program) (f : FuncId) (fn : Func) (s : ChangeSpec) (c : OpenClaim) => c.mapsOut == P.mapsAmong fn.resultTypes.toList) Tryz.prog 8 Tryz.f8 Rows.fnExactCouldFallSpec Rows.fnExactCouldFallRow = true := by kernel_rfl
theorem part16_ : (fun (P : Program) (f : FuncId) (fn : Func) (s : ChangeSpec) (c : OpenClaim) => c.loops == (fn.params.toList ++ s.plain.varTypes P).any (P.loopsFrom ·)) Tryz.prog 8 Tryz.f8 Rows.fnExactCouldFallSpec Rows.fnExactCouldFallRow = true := by kernel_rfl
theorem part17_ : (fun (P : Program) (f : FuncId) (fn : Func) (s : ChangeSpec) (c : OpenClaim) => c.wideKeys == (fn.params.toList ++ s.plain.varTypes P ++ fn.resultTypes.toList).any (P.wideKeysFrom ·)) Tryz.prog 8 Tryz.f8 Rows.fnExactCouldFallSpec Rows.fnExactCouldFallRow = true := by kernel_rfl
theorem part18_ : (fun (P : Program) (f : FuncId) (fn : Func) (s : ChangeSpec) (c : OpenClaim) => s.vars.all (P.varReadable ·)) Tryz.prog 8 Tryz.f8 Rows.fnExactCouldFallSpec Rows.fnExactCouldFallRow = true := by kernel_rfl
theorem part19_ : (fun (P : Program) (f : FuncId) (fn : Func) (s : ChangeSpec) (c : OpenClaim) => fn.resultTypes.all (fun t => P.readableRec t && decide (t < P.types.size))) Tryz.prog 8 Tryz.f8 Rows.fnExactCouldFallSpec Rows.fnExactCouldFallRow = true := by kernel_rfl
theorem part20_ : (fun (P : Program) (f : FuncId) (fn : Func) (s : ChangeSpec) (c : OpenClaim) => c.ifacesOut == fn.resultTypes.toList.any (P.ifacesRec ·)) Tryz.prog 8 Tryz.f8 Rows.fnExactCouldFallSpec Rows.fnExactCouldFallRow = true := by kernel_rfl
theorem part21_ : (fun (P : Program) (f : FuncId) (fn : Func) (s : ChangeSpec) (c : OpenClaim) => c.loopsOut == fn.resultTypes.toList.any (P.loopsFrom ·)) Tryz.prog 8 Tryz.f8 Rows.fnExactCouldFallSpec Rows.fnExactCouldFallRow = true := by kernel_rfl
theorem part22_ : (fun (P : Program) (f : FuncId) (fn : Func) (s : ChangeSpec) (c : OpenClaim) => c.plainKeys == P.plainKeys) Tryz.prog 8 Tryz.f8 Rows.fnExactCouldFallSpec Rows.fnExactCouldFallRow = true := by kernel_rfl
theorem part23_ : (fun (P : Program) (f : FuncId) (fn : Func) (s : ChangeSpec) (c : OpenClaim) => c.shortTexts.isNone) Tryz.prog 8 Tryz.f8 Rows.fnExactCouldFallSpec Rows.fnExactCouldFallRow = true := by kernel_rfl
theorem part24_ : (fun (P : Program) (f : FuncId) (fn : Func) (s : ChangeSpec) (c : OpenClaim) => P.stopsHeard) Tryz.prog 8 Tryz.f8 Rows.fnExactCouldFallSpec Rows.fnExactCouldFallRow = true := by kernel_rfl
theorem part25_ : (fun (P : Program) (f : FuncId) (fn : Func) (s : ChangeSpec) (c : OpenClaim) => P.mayEnter) Tryz.prog 8 Tryz.f8 Rows.fnExactCouldFallSpec Rows.fnExactCouldFallRow = true := by kernel_rfl
theorem part26_ : (fun (P : Program) (f : FuncId) (fn : Func) (s : ChangeSpec) (c : OpenClaim) => c.lifted == P.liftsFinal) Tryz.prog 8 Tryz.f8 Rows.fnExactCouldFallSpec Rows.fnExactCouldFallRow = true := by kernel_rfl
theorem part27_ : (fun (P : Program) (f : FuncId) (fn : Func) (s : ChangeSpec) (c : OpenClaim) => P.make == some c.make) Tryz.prog 8 Tryz.f8 Rows.fnExactCouldFallSpec Rows.fnExactCouldFallRow = true := by kernel_rfl
theorem part28_ : (fun (P : Program) (f : FuncId) (fn : Func) (s : ChangeSpec) (c : OpenClaim) => c.kinds == (if c.domain.isEmpty then [] else fn.params.toList.map fun t => match P.underlying t with | some (.int k) => some k | _ => none)) Tryz.prog 8 Tryz.f8 Rows.fnExactCouldFallSpec Rows.fnExactCouldFallRow = true := by kernel_rfl
theorem part29_ : (fun (P : Program) (f : FuncId) (fn : Func) (s : ChangeSpec) (c : OpenClaim) => c.pinned == c.pinnedBy) Tryz.prog 8 Tryz.f8 Rows.fnExactCouldFallSpec Rows.fnExactCouldFallRow = true := by kernel_rfl
theorem part30_ : (fun (P : Program) (f : FuncId) (fn : Func) (s : ChangeSpec) (c : OpenClaim) => c.veiled == (fn.params.toList ++ s.plain.varTypes P ++ fn.resultTypes.toList).any (P.veiledRec ·)) Tryz.prog 8 Tryz.f8 Rows.fnExactCouldFallSpec Rows.fnExactCouldFallRow = true := by kernel_rfl
theorem part31_ : (fun (P : Program) (f : FuncId) (fn : Func) (s : ChangeSpec) (c : OpenClaim) => c.veiledFits P fn.params.toList (fn.params.toList ++ s.plain.varTypes P ++ fn.resultTypes.toList)) Tryz.prog 8 Tryz.f8 Rows.fnExactCouldFallSpec Rows.fnExactCouldFallRow = true := by kernel_rfl
set_option maxRecDepth 100000 in
theorem closed_ : joinedFacts Tryz.prog 8 Tryz.f8 Rows.fnExactCouldFallSpec Rows.fnExactCouldFallRow = true := by
  unfold joinedFacts
  exact (and_ (and_ (and_ (and_ (and_ (and_ (and_ (and_ (and_ (and_ (and_ (and_ (and_ (and_ (and_ (and_ (and_ (and_ (and_ (and_ (and_ (and_ (and_ (and_ (and_ (and_ (and_ (and_ (and_ (and_ (and_ part0_ part1_) part2_) part3_) part4_) part5_) part6_) part7_) part8_) part9_) part10_) part11_) part12_) part13_) part14_) part15_) part16_) part17_) part18_) part19_) part20_) part21_) part22_) part23_) part24_) part25_) part26_) part27_) part28_) part29_) part30_) part31_)
theorem named_ : Tryz.prog.funcNamed Rows.fnExactCouldFallRow.func = some 8 := by kernel_rfl
theorem over : Rows.fnExactCouldFallRow.holds Tryz.pinned (OpenSpec.ofChange Rows.fnExactCouldFallSpec) :=
  OpenClaim.holds_of_wide 8 Tryz.f8 rfl rfl rfl rfl rfl rfl rfl ⟨rfl, rfl, rfl, rfl, rfl⟩ rfl rfl rfl rfl rfl named_ Tryz.func8 closed_
    (of_decide_eq_true (by kernel_rfl)) (by unfold Func.isWrapper; first | (rw [if_pos (by decide +kernel)]; kernel_rfl) | (rw [if_neg (by decide +kernel)]; exact ⟨rfl, rfl⟩))
    (fun os started H enc _ => lifted os started H enc)
theorem wft_ : Rows.fnExactCouldFallRow.wfByText (OpenSpec.ofChange Rows.fnExactCouldFallSpec) = true := by kernel_rfl
theorem main_ : Tryz.prog.mainIs = some ((true, "71727d440b8b3ac2e68e0cdad8b68b4e7833456c2bf516e17de97ba2005e6989").1, (true, "71727d440b8b3ac2e68e0cdad8b68b4e7833456c2bf516e17de97ba2005e6989").2.toList) := by kernel_rfl
theorem looks_ : true = Tryz.prog.looks [] := by kernel_rfl
theorem stands_ : (Tryz.f8.params.all fun u => !Tryz.prog.wantsStandIn u) = true := by kernel_rfl
theorem goes_ : false = Rows.fnExactCouldFallRow.goesBy Tryz.prog := by kernel_rfl
theorem proved : Rows.FnExactCouldFallCardSaid :=
  Claim7.holds_tied_plain_at .later [] [.data, .data, .data, .sentinel, .sentinel] true (true, "71727d440b8b3ac2e68e0cdad8b68b4e7833456c2bf516e17de97ba2005e6989") true over (fun _ h => by cases h) wft_ (fun _ h => by cases h) fnExactCouldFall_row_tie rfl ⟨rfl, rfl⟩ main_ rfl
    (fun f fn hf hfn => by
      obtain rfl : f = 8 := Option.some.inj (named_.symm.trans hf) |>.symm
      obtain rfl : fn = Tryz.f8 := (Option.some.inj (Tryz.func8.symm.trans hfn)).symm
      exact ⟨looks_, fun j t ht => by
        rw [Tryz.params8] at ht
        have hm := Array.mem_of_getElem? ht
        have hall := stands_
        rw [Tryz.params8] at hall
        have this := (Array.all_eq_true_iff_forall_mem.1 hall) t hm
        exact (show Tryz.prog.wantsStandIn t = false by simpa using this)⟩)
    goes_
#print axioms proved
end Go.Proofs.YtbcidclclckgfaaGreatDoor.fnExactCouldFall
namespace Go.Proofs.YtbcidclclckgfaaGreatDoor
/-- The row, under a short name, for the claim. -/
theorem fnExactCouldFall_holds : Rows.FnExactCouldFallCardSaid := fnExactCouldFall.proved
end Go.Proofs.YtbcidclclckgfaaGreatDoor
