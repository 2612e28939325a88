/- Each theorem here says that a call of one Go function answers what the Lean function beside it answers; its conditions stand in it. Written by a program of this session. -/
import Derived.Test.YtokcccejijmkmaaGreatDoorRows
import Derived.Test.YtokcccejijmkmaaGreatDoorMFnDeedsx21
import Derived.Test.YtokcccejijmkmaaGreatDoorPureFnDeeds
import Derived.WalkKit
import Derived.ProofKit
import Derived.OpenShut
import Derived.ShutString
import Derived.ChangeOld
import Derived.Below
import Derived.SizedLaws
import Derived.Test.YtokcccejijmkmaaGreatDoorCards
import Derived.Test.YtokcccejijmkmaaGreatDoorTie
import Derived.SevenTiedAt
import Derived.Lay
import Derived.MakeChecks
import Derived.Lib.LaidTab
import Derived.Stop.LaidErr
import Derived.Test.YtokcccejijmkmaaGreatDoorWSized
namespace Go.Proofs.YtokcccejijmkmaaGreatDoor.fnDeeds
open Go.ChangeShapes Go.WideShapes Go.ChangeAt Go.RowKit
open Go.ChangeMaps (open_string shut_string)
set_option linter.unusedVariables false
theorem own : ownKnob Tryz.prog.godebug = none := by kernel_rfl
theorem laidOut : laidOutB Tryz.prog = true := by kernel_rfl
def IsRow (k : IntKind) (w : World) (a : Option Addr) (len cap : Nat) (zs : List Int) : Prop :=
  (a = none ∧ len = 0 ∧ cap = 0 ∧ zs = []) ∨
  ∃ x, a = some x ∧ len ≤ cap ∧ cap ≤ maxLen ∧ zs.length = cap ∧ (∀ i, i < zs.length → w.cell? (x.add i) = some (.int k (zs.getD i 0))) ∧ ∀ n ∈ zs, (Lit.int k n).wf = true
set_option maxRecDepth 100000 in
theorem lifted (os : Os) (started : os.Started) (H : Type) (enc : TypeId × Value → H) :
    ReturnsInHanded {} Tryz.checked os 3 .any (fun w args => (Rows.fnDeedsSpec.pre enc Tryz.prog Tryz.f3 [] false w args ∧ laidMetH Tryz.prog Rows.fnDeedsRow.laid w) ∧ sizedMet enc Tryz.prog Tryz.f3 (OpenSpec.ofChange Rows.fnDeedsSpec) false w args) (Rows.fnDeedsSpec.post enc Tryz.prog Tryz.f3 false true false false) := by
  refine returnsInHanded_of_change_and (C := Tryz.checked) (X := fun w _ => laidMetH Tryz.prog Rows.fnDeedsRow.laid w) (fun _ _ _ hh h => h.of_heap hh) own started (by kernel_rfl) Tryz.func3
    (ChangeSpec.witness_shaped (enc := enc) (C := Tryz.checked) (os := os) (X := fun w _ => laidMetH Tryz.prog Rows.fnDeedsRow.laid w) false (World.laidAll Tryz.prog os Rows.fnDeedsRow.laid) #[.slice none 0 0] 8 (World.laidAll_os _ _ _)
      (World.shaped_of_ZipB (by kernel_rfl) (by kernel_rfl)) (by kernel_rfl) (by kernel_rfl) (by kernel_rfl)
      (by rw [MakeChecks.laidMetH_plain _ _ _ (by kernel_rfl)]; exact laidMet_laidAll _ (by kernel_rfl) (by kernel_rfl))) ?_
  intro W base args ds gs before hval0 hW hcnd hsz0 hL0 _
  have hsz : (DataW.weightsEach Tryz.prog (Tryz.f3.params.toList ++ Rows.fnDeedsSpec.plain.varTypes Tryz.prog) (ds ++ gs)).all (· ≤ reachBytes) = true := hsz0
  have hval : ∀ (j : Nat) t v, Tryz.f3.params[j]? = some t → args[j]? = some v → Value.okWide Tryz.prog W .any base t v := hval0
  have hW' := hW
  obtain ⟨p, q, hA0, hV, rfl, hfz, hnd⟩ := hW
  have hA : DataW.TrodAll enc Tryz.prog W 0 (fun _ => true) true Tryz.f3.params.toList args.toList ds p := hA0
  rw [Tryz.params3] at hA hval hsz
  obtain ⟨v0, vs0, d0, ds0, p0, q0, hargs, rfl, rfl, h0, r0⟩ := trodAll_cons hA
  obtain ⟨rfl, rfl, rfl⟩ := trodAll_nil r0
  obtain rfl : args = #[v0] := by cases args; simp_all
  obtain ⟨rfl, rfl⟩ := trodVars_none hV
  obtain ⟨a0, len0, cap0, rfl⟩ := okWide_slice Tryz.underlying22 (hval 0 22 v0 rfl rfl)
  have k0 := h0
  have lt0 : ∀ x ∈ p0, x.block < W.heap.size := by obtain ⟨m, hm⟩ := k0; exact DataW.trod_lt m _ _ _ hm
  obtain ⟨z0, w0⟩ : ∃ zs, IsRow .u8 W a0 len0 cap0 zs := by
    obtain ⟨fuel, hf⟩ := h0
    rcases open_ints Tryz.underlying22 Tryz.underlying5 (by kernel_rfl) hf with ⟨hcs, _⟩ | ⟨x, l, c, zs, hcs, _, hl, hm, hz, _, hcell, hwz⟩
    · simp [Value.cells] at hcs
      obtain ⟨rfl, rfl, rfl⟩ := hcs
      exact ⟨[], .inl ⟨rfl, rfl, rfl, rfl⟩⟩
    · simp [Value.cells] at hcs
      obtain ⟨rfl, rfl, rfl⟩ := hcs
      exact ⟨zs, .inr ⟨_, rfl, hl, hm, by simpa using hz, hcell, hwz⟩⟩
  have y0 : len0 * 1 ≤ 140737488351232 := Go.Proofs.YtokcccejijmkmaaGreatDoorW.PrintWords.sized_ints hsz (j := 0) (t := 22) rfl rfl Tryz.underlying22 Tryz.underlying5 (by kernel_rfl) (by kernel_rfl) h0
  have hL := hL0
  rw [MakeChecks.laidMetH_plain _ _ _ (by kernel_rfl)] at hL
  have hTE : MFnDeeds.TabsE W := by
    obtain ⟨a0_, s0_, v0_, -, -, -⟩ := laid_sentinel (g := 3) hL.tail.tail.tail (by kernel_rfl) (by kernel_rfl) Tryz.underlying114 (fun u h => typeName_ptr_named (nm := "errors.errorString") (by kernel_rfl) (by kernel_rfl) (by decide) u (h.trans (by kernel_rfl))) Tryz.underlying153 Tryz.underlying155 rfl rfl Tryz.underlying9 (by kernel_rfl) (by kernel_rfl)
    obtain ⟨a1_, s1_, v1_, -, -, -⟩ := laid_sentinel (g := 2) hL.tail.tail.tail.tail (by kernel_rfl) (by kernel_rfl) Tryz.underlying114 (fun u h => typeName_ptr_named (nm := "errors.errorString") (by kernel_rfl) (by kernel_rfl) (by decide) u (h.trans (by kernel_rfl))) Tryz.underlying153 Tryz.underlying155 rfl rfl Tryz.underlying9 (by kernel_rfl) (by kernel_rfl)
    exact ⟨⟨_, _, v1_⟩, ⟨_, _, v0_⟩⟩
  have hTP : MFnDeeds.TabsP W := MFnDeeds.TabsP.of (by kernel_rfl) (Lib.tabIs_of_head (g := 1) (by kernel_rfl) (by kernel_rfl) Tryz.underlying137 Tryz.underlying124 (by kernel_rfl) (by kernel_rfl) hL.tail.tail)
  clear hA0 hval0 hsz0 hsz
  refine (MFnDeeds.laws_FnDeeds.walk Pure.FnDeeds a0 len0 cap0 z0 W w0 y0 hTE hTP).mono fun e W' ⟨he, bel⟩ => ?_
  subst he
  exact ⟨_, rfl, _, _, _, [], _, [], hW', trodAll_mk1 (shut_bool Tryz.underlying4 _), (trodAll_cons_mk (Below.trod laidOut (by kernel_rfl) (of_decide_eq_true (by kernel_rfl)) k0 bel lt0) trodAll_mk0), rfl, bel.frame _, fun h => by cases h⟩
theorem and_ {a b : Bool} (h : a = true) (k : b = true) : (a && b) = true := by rw [h, k]; rfl
theorem part0_ : (fun (P : Program) (f : FuncId) (fn : Func) (s : ChangeSpec) (c : OpenClaim) => c.wf (OpenSpec.ofChange s)) Tryz.prog 3 Tryz.f3 Rows.fnDeedsSpec Rows.fnDeedsRow = true := by kernel_rfl
theorem part1_ : (fun (P : Program) (f : FuncId) (fn : Func) (s : ChangeSpec) (c : OpenClaim) => laidOutB P) Tryz.prog 3 Tryz.f3 Rows.fnDeedsSpec Rows.fnDeedsRow = true := by kernel_rfl
theorem part2_ : (fun (P : Program) (f : FuncId) (fn : Func) (s : ChangeSpec) (c : OpenClaim) => mapsRowed P) Tryz.prog 3 Tryz.f3 Rows.fnDeedsSpec Rows.fnDeedsRow = true := by kernel_rfl
theorem part3_ : (fun (P : Program) (f : FuncId) (fn : Func) (s : ChangeSpec) (c : OpenClaim) => fn.params.all (P.readableRec ·)) Tryz.prog 3 Tryz.f3 Rows.fnDeedsSpec Rows.fnDeedsRow = true := by kernel_rfl
theorem part4_ : (fun (P : Program) (f : FuncId) (fn : Func) (s : ChangeSpec) (c : OpenClaim) => namedTie P c.named s.vars) Tryz.prog 3 Tryz.f3 Rows.fnDeedsSpec Rows.fnDeedsRow = true := by kernel_rfl
theorem part5_ : (fun (P : Program) (f : FuncId) (fn : Func) (s : ChangeSpec) (c : OpenClaim) => c.stops == []) Tryz.prog 3 Tryz.f3 Rows.fnDeedsSpec Rows.fnDeedsRow = true := by kernel_rfl
theorem part6_ : (fun (P : Program) (f : FuncId) (fn : Func) (s : ChangeSpec) (c : OpenClaim) => P.stops == []) Tryz.prog 3 Tryz.f3 Rows.fnDeedsSpec Rows.fnDeedsRow = true := by kernel_rfl
theorem part7_ : (fun (P : Program) (f : FuncId) (fn : Func) (s : ChangeSpec) (c : OpenClaim) => c.knobs == []) Tryz.prog 3 Tryz.f3 Rows.fnDeedsSpec Rows.fnDeedsRow = true := by kernel_rfl
theorem part8_ : (fun (P : Program) (f : FuncId) (fn : Func) (s : ChangeSpec) (c : OpenClaim) => P.stopKnobs == []) Tryz.prog 3 Tryz.f3 Rows.fnDeedsSpec Rows.fnDeedsRow = true := by kernel_rfl
theorem part9_ : (fun (P : Program) (f : FuncId) (fn : Func) (s : ChangeSpec) (c : OpenClaim) => c.inPlace == P.inPlace f) Tryz.prog 3 Tryz.f3 Rows.fnDeedsSpec Rows.fnDeedsRow = true := by kernel_rfl
theorem part10_ : (fun (P : Program) (f : FuncId) (fn : Func) (s : ChangeSpec) (c : OpenClaim) => c.unfollowed == P.unfollowed f) Tryz.prog 3 Tryz.f3 Rows.fnDeedsSpec Rows.fnDeedsRow = true := by kernel_rfl
theorem part11_ : (fun (P : Program) (f : FuncId) (fn : Func) (s : ChangeSpec) (c : OpenClaim) => c.recurses == P.recurses f) Tryz.prog 3 Tryz.f3 Rows.fnDeedsSpec Rows.fnDeedsRow = true := by kernel_rfl
theorem part12_ : (fun (P : Program) (f : FuncId) (fn : Func) (s : ChangeSpec) (c : OpenClaim) => c.named == P.varsNamed f) Tryz.prog 3 Tryz.f3 Rows.fnDeedsSpec Rows.fnDeedsRow = true := by kernel_rfl
theorem part13_ : (fun (P : Program) (f : FuncId) (fn : Func) (s : ChangeSpec) (c : OpenClaim) => c.maps == (fn.params.toList ++ s.plain.varTypes P).any (P.mapsRec ·)) Tryz.prog 3 Tryz.f3 Rows.fnDeedsSpec Rows.fnDeedsRow = true := by kernel_rfl
theorem part14_ : (fun (P : Program) (f : FuncId) (fn : Func) (s : ChangeSpec) (c : OpenClaim) => c.ifaces == (fn.params.toList ++ s.plain.varTypes P).any (P.ifacesRec ·)) Tryz.prog 3 Tryz.f3 Rows.fnDeedsSpec Rows.fnDeedsRow = true := by kernel_rfl
theorem part15_ : (fun (P : Program) (f : FuncId) (fn : Func) (s : ChangeSpec) (c : OpenClaim) => c.mapsOut == P.mapsAmong fn.resultTypes.toList) Tryz.prog 3 Tryz.f3 Rows.fnDeedsSpec Rows.fnDeedsRow = true := by kernel_rfl
theorem part16_ : (fun (P : Program) (f : FuncId) (fn : Func) (s : ChangeSpec) (c : OpenClaim) => c.loops == (fn.params.toList ++ s.plain.varTypes P).any (P.loopsFrom ·)) Tryz.prog 3 Tryz.f3 Rows.fnDeedsSpec Rows.fnDeedsRow = true := by kernel_rfl
theorem part17_ : (fun (P : Program) (f : FuncId) (fn : Func) (s : ChangeSpec) (c : OpenClaim) => c.wideKeys == (fn.params.toList ++ s.plain.varTypes P ++ fn.resultTypes.toList).any (P.wideKeysFrom ·)) Tryz.prog 3 Tryz.f3 Rows.fnDeedsSpec Rows.fnDeedsRow = true := by kernel_rfl
theorem part18_ : (fun (P : Program) (f : FuncId) (fn : Func) (s : ChangeSpec) (c : OpenClaim) => s.vars.all (P.varReadable ·)) Tryz.prog 3 Tryz.f3 Rows.fnDeedsSpec Rows.fnDeedsRow = true := by kernel_rfl
theorem part19_ : (fun (P : Program) (f : FuncId) (fn : Func) (s : ChangeSpec) (c : OpenClaim) => fn.resultTypes.all (fun t => P.readableRec t && decide (t < P.types.size))) Tryz.prog 3 Tryz.f3 Rows.fnDeedsSpec Rows.fnDeedsRow = true := by kernel_rfl
theorem part20_ : (fun (P : Program) (f : FuncId) (fn : Func) (s : ChangeSpec) (c : OpenClaim) => c.ifacesOut == fn.resultTypes.toList.any (P.ifacesRec ·)) Tryz.prog 3 Tryz.f3 Rows.fnDeedsSpec Rows.fnDeedsRow = true := by kernel_rfl
theorem part21_ : (fun (P : Program) (f : FuncId) (fn : Func) (s : ChangeSpec) (c : OpenClaim) => c.loopsOut == fn.resultTypes.toList.any (P.loopsFrom ·)) Tryz.prog 3 Tryz.f3 Rows.fnDeedsSpec Rows.fnDeedsRow = true := by kernel_rfl
theorem part22_ : (fun (P : Program) (f : FuncId) (fn : Func) (s : ChangeSpec) (c : OpenClaim) => c.plainKeys == P.plainKeys) Tryz.prog 3 Tryz.f3 Rows.fnDeedsSpec Rows.fnDeedsRow = true := by kernel_rfl
theorem part23_ : (fun (P : Program) (f : FuncId) (fn : Func) (s : ChangeSpec) (c : OpenClaim) => c.shortTexts.isNone) Tryz.prog 3 Tryz.f3 Rows.fnDeedsSpec Rows.fnDeedsRow = true := by kernel_rfl
theorem part24_ : (fun (P : Program) (f : FuncId) (fn : Func) (s : ChangeSpec) (c : OpenClaim) => P.stopsHeard) Tryz.prog 3 Tryz.f3 Rows.fnDeedsSpec Rows.fnDeedsRow = true := by kernel_rfl
theorem part25_ : (fun (P : Program) (f : FuncId) (fn : Func) (s : ChangeSpec) (c : OpenClaim) => P.mayEnter) Tryz.prog 3 Tryz.f3 Rows.fnDeedsSpec Rows.fnDeedsRow = true := by kernel_rfl
theorem part26_ : (fun (P : Program) (f : FuncId) (fn : Func) (s : ChangeSpec) (c : OpenClaim) => c.lifted == P.liftsFinal) Tryz.prog 3 Tryz.f3 Rows.fnDeedsSpec Rows.fnDeedsRow = true := by kernel_rfl
theorem part27_ : (fun (P : Program) (f : FuncId) (fn : Func) (s : ChangeSpec) (c : OpenClaim) => P.make == some c.make) Tryz.prog 3 Tryz.f3 Rows.fnDeedsSpec Rows.fnDeedsRow = true := by kernel_rfl
theorem part28_ : (fun (P : Program) (f : FuncId) (fn : Func) (s : ChangeSpec) (c : OpenClaim) => c.kinds == (if c.domain.isEmpty then [] else fn.params.toList.map fun t => match P.underlying t with | some (.int k) => some k | _ => none)) Tryz.prog 3 Tryz.f3 Rows.fnDeedsSpec Rows.fnDeedsRow = true := by kernel_rfl
theorem part29_ : (fun (P : Program) (f : FuncId) (fn : Func) (s : ChangeSpec) (c : OpenClaim) => c.pinned == c.pinnedBy) Tryz.prog 3 Tryz.f3 Rows.fnDeedsSpec Rows.fnDeedsRow = true := by kernel_rfl
theorem part30_ : (fun (P : Program) (f : FuncId) (fn : Func) (s : ChangeSpec) (c : OpenClaim) => c.veiled == (fn.params.toList ++ s.plain.varTypes P ++ fn.resultTypes.toList).any (P.veiledRec ·)) Tryz.prog 3 Tryz.f3 Rows.fnDeedsSpec Rows.fnDeedsRow = true := by kernel_rfl
theorem part31_ : (fun (P : Program) (f : FuncId) (fn : Func) (s : ChangeSpec) (c : OpenClaim) => c.veiledFits P fn.params.toList (fn.params.toList ++ s.plain.varTypes P ++ fn.resultTypes.toList)) Tryz.prog 3 Tryz.f3 Rows.fnDeedsSpec Rows.fnDeedsRow = true := by kernel_rfl
set_option maxRecDepth 100000 in
theorem closed_ : joinedFacts Tryz.prog 3 Tryz.f3 Rows.fnDeedsSpec Rows.fnDeedsRow = true := by
  unfold joinedFacts
  exact (and_ (and_ (and_ (and_ (and_ (and_ (and_ (and_ (and_ (and_ (and_ (and_ (and_ (and_ (and_ (and_ (and_ (and_ (and_ (and_ (and_ (and_ (and_ (and_ (and_ (and_ (and_ (and_ (and_ (and_ (and_ part0_ part1_) part2_) part3_) part4_) part5_) part6_) part7_) part8_) part9_) part10_) part11_) part12_) part13_) part14_) part15_) part16_) part17_) part18_) part19_) part20_) part21_) part22_) part23_) part24_) part25_) part26_) part27_) part28_) part29_) part30_) part31_)
theorem named_ : Tryz.prog.funcNamed Rows.fnDeedsRow.func = some 3 := by kernel_rfl
theorem over : Rows.fnDeedsRow.holds Tryz.pinned (OpenSpec.ofChange Rows.fnDeedsSpec) :=
  OpenClaim.holds_of_wide 3 Tryz.f3 rfl rfl rfl rfl rfl rfl rfl ⟨rfl, rfl, rfl, rfl, rfl⟩ rfl rfl rfl rfl rfl named_ Tryz.func3 closed_
    (of_decide_eq_true (by kernel_rfl)) (by unfold Func.isWrapper; first | (rw [if_pos (by decide +kernel)]; kernel_rfl) | (rw [if_neg (by decide +kernel)]; exact ⟨rfl, rfl⟩))
    (fun os started H enc _ => lifted os started H enc)
theorem wft_ : Rows.fnDeedsRow.wfByText (OpenSpec.ofChange Rows.fnDeedsSpec) = true := by kernel_rfl
theorem main_ : Tryz.prog.mainIs = some ((true, "c4b2a44bebc481432b816d5b7e94a386b8fa6d2f37dc90ef3d9beb98b8b24b09").1, (true, "c4b2a44bebc481432b816d5b7e94a386b8fa6d2f37dc90ef3d9beb98b8b24b09").2.toList) := by kernel_rfl
theorem looks_ : true = Tryz.prog.looks [] := by kernel_rfl
theorem stands_ : (Tryz.f3.params.all fun u => !Tryz.prog.wantsStandIn u) = true := by kernel_rfl
theorem goes_ : false = Rows.fnDeedsRow.goesBy Tryz.prog := by kernel_rfl
theorem proved : Rows.FnDeedsCardSaid :=
  Claim7.holds_tied_plain_at .later [] [.data, .data, .data, .sentinel, .sentinel] true (true, "c4b2a44bebc481432b816d5b7e94a386b8fa6d2f37dc90ef3d9beb98b8b24b09") true over (fun _ h => by cases h) wft_ (fun _ h => by cases h) fnDeeds_row_tie rfl ⟨rfl, rfl⟩ main_ rfl
    (fun f fn hf hfn => by
      obtain rfl : f = 3 := Option.some.inj (named_.symm.trans hf) |>.symm
      obtain rfl : fn = Tryz.f3 := (Option.some.inj (Tryz.func3.symm.trans hfn)).symm
      exact ⟨looks_, fun j t ht => by
        rw [Tryz.params3] at ht
        have hm := Array.mem_of_getElem? ht
        have hall := stands_
        rw [Tryz.params3] at hall
        have this := (Array.all_eq_true_iff_forall_mem.1 hall) t hm
        exact (show Tryz.prog.wantsStandIn t = false by simpa using this)⟩)
    goes_
#print axioms proved
end Go.Proofs.YtokcccejijmkmaaGreatDoor.fnDeeds
namespace Go.Proofs.YtokcccejijmkmaaGreatDoor
/-- The row, under a short name, for the claim. -/
theorem fnDeeds_holds : Rows.FnDeedsCardSaid := fnDeeds.proved
end Go.Proofs.YtokcccejijmkmaaGreatDoor
