/- Each theorem here says that a call of one Go function answers what the Lean function beside it answers; its conditions stand in it. Written by a program of this session. -/
import Derived.Test.YthbffdjjmapaaaaGreatDoorMFnDisksx0
import Derived.Test.YthbffdjjmapaaaaGreatDoorMFnDisksx2
import Derived.Test.YthbffdjjmapaaaaGreatDoorMFnDisksx7
import Derived.Test.YthbffdjjmapaaaaGreatDoorMFnDisksx12
import Derived.Test.YthbffdjjmapaaaaGreatDoorMFnDisksx13
import Derived.Test.YthbffdjjmapaaaaGreatDoorMFnDisksx14
import Derived.Test.YthbffdjjmapaaaaGreatDoorMFnDisksx16
import Derived.Test.YthbffdjjmapaaaaGreatDoorMFnDisksx17
import Derived.Test.YthbffdjjmapaaaaGreatDoorMFnDisksx18
import Derived.Test.YthbffdjjmapaaaaGreatDoorMFnDisksx19
namespace Go.Proofs.YthbffdjjmapaaaaGreatDoor.MFnDisks
open Go.RowKit Go.Proofs.YthbffdjjmapaaaaGreatDoorW.PrintWords Go.Proofs.YthbffdjjmapaaaaGreatDoorW.PrintLast Go.Proofs.YthbffdjjmapaaaaGreatDoorW.PrintMore
attribute [local go_sem] max2_int min2_int max_two min_two max_three min_three max_four min_four   -- for this text's walks alone
set_option linter.unusedVariables false
set_option linter.unusedSimpArgs false

/-! ### laws_FnDisks: function 3 -/
def laws_FnDisks.f (k : Nat) (l0 : List Int) : Option Bool := (laws_big.f l0).bind fun t => if t = true then some true else (spec_DrawDiskOk.f k l0).bind fun D => (impl_DiskOk.f k D.1 D.2.1 D.2.2.1 D.2.2.2.1 D.2.2.2.2.1 D.2.2.2.2.2).bind fun p => (spec_DiskOk.f k D.1 D.2.1 D.2.2.1 D.2.2.2.1 D.2.2.2.2.1 D.2.2.2.2.2).bind fun q => (spec_DrawReadFile.f k l0).bind fun E => (impl_DiskNew.f 50).bind fun X => (impl_ReadFile.f D.1 D.2.1 D.2.2.1 D.2.2.2.1 D.2.2.2.2.1 D.2.2.2.2.2 E.2.2.2.2.2.2).bind fun a => (spec_ReadFile.f k D.1 D.2.1 D.2.2.1 D.2.2.2.1 D.2.2.2.2.1 D.2.2.2.2.2 E.2.2.2.2.2.2).bind fun b => (impl_FileNames.f k D.1 D.2.1 D.2.2.1 D.2.2.2.1 D.2.2.2.2.1 D.2.2.2.2.2).bind fun n => (impl_NodeAt.f D.1 D.2.1 D.2.2.1 D.2.2.2.1 D.2.2.2.2.1 D.2.2.2.2.2 E.2.2.2.2.2.2).bind fun m => (spec_FileNames.f k D.1 D.2.1 D.2.2.1 D.2.2.2.1 D.2.2.2.2.1 D.2.2.2.2.2).bind fun n2 => (laws_sameTexts.f k n n2).bind fun st => (impl_EntryAt.f D.2.1 E.2.2.2.2.2.2).bind fun en => (impl_UsedOn.f k D.1 D.2.1 D.2.2.1 D.2.2.2.1 D.2.2.2.2.1 D.2.2.2.2.2).bind fun u => (spec_UsedOn.f k D.1 D.2.1 D.2.2.1 D.2.2.2.1 D.2.2.2.2.1 D.2.2.2.2.2).bind fun u2 => (spec_DiskOk.f k X.1 X.2.1 X.2.2.1 X.2.2.2.1 X.2.2.2.2.1 X.2.2.2.2.2).bind fun xk => if q = p ∧ b = a ∧ st = true ∧ m.2.2.2 = a.2 ∧ m.2.1 = a.1 ∧ (a.2 = true → m.1 = en) ∧ u2 = u ∧ xk = true ∧ X.2.2.2.2.1 = 50 ∧ X.2.2.2.2.2 = 1 then some true else none
theorem ite_yes {c : Prop} [Decidable c] (h : (if c then some true else none) = some true) : c := by
  by_cases q : c
  · exact q
  · rw [if_neg q] at h; cases h
set_option maxHeartbeats 40000000 in
set_option maxRecDepth 100000 in
theorem laws_FnDisks.calls (k : Nat) (A0 : Option Addr) (c0 : Nat) (l0 : List Int) (r : Bool) (w : World) (hr0 : Kd.C (Kd.int .u8) w A0 l0.length l0) (hc0 : l0.length ≤ c0) (hTE : TabsE w) (hTP : TabsP w) (h : laws_FnDisks.f k l0 = some r) (hr_ : Aside0 (r = true)) :
    Calls Tryz.prog 3 #[.slice A0 l0.length c0] w fun e w' => e = .returned (.bool r) ∧ Below w.heap.size w w' := by
  unfold laws_FnDisks.f at h
  obtain rfl := hr_.out
  replace h := Option.bind_eq_some_iff.mp h
  obtain ⟨t, hbig, h⟩ := h
  have BL := Aside0.mk (Below.refl w.heap.size w)
  have CB := Aside0.mk (fun (w1 : World) (hb : Below w.heap.size w w1) => laws_big.calls A0 c0 l0 t w1 (Kd.C_below hr0 hb) hc0 hbig)
  clear hbig
  cases t
  (rotate_left 1; (clear h); rotate_right 1)
  (rw [if_neg (by decide)] at h; replace h := Option.bind_eq_some_iff.mp h; obtain ⟨⟨d1, d2, d3, d4, d5, d6⟩, hD, h⟩ := h; replace h := Option.bind_eq_some_iff.mp h; obtain ⟨p, hp, h⟩ := h; replace h := Option.bind_eq_some_iff.mp h; obtain ⟨q, hq, h⟩ := h; replace h := Option.bind_eq_some_iff.mp h; obtain ⟨⟨e1, e2, e3, e4, e5, e6, nm⟩, hE, h⟩ := h; replace h := Option.bind_eq_some_iff.mp h; obtain ⟨⟨x1, x2, x3, x4, x5, x6⟩, hX, h⟩ := h; replace h := Option.bind_eq_some_iff.mp h; obtain ⟨⟨a1, a2⟩, ha, h⟩ := h; replace h := Option.bind_eq_some_iff.mp h; obtain ⟨⟨b1, b2⟩, hb_, h⟩ := h; replace h := Option.bind_eq_some_iff.mp h; obtain ⟨n, hn, h⟩ := h; replace h := Option.bind_eq_some_iff.mp h; obtain ⟨⟨m1, m2, m3, m4⟩, hm, h⟩ := h; replace h := Option.bind_eq_some_iff.mp h; obtain ⟨n2, hn2, h⟩ := h; replace h := Option.bind_eq_some_iff.mp h; obtain ⟨st, hst, h⟩ := h; replace h := Option.bind_eq_some_iff.mp h; obtain ⟨en, hen, h⟩ := h; replace h := Option.bind_eq_some_iff.mp h; obtain ⟨u, hu, h⟩ := h; replace h := Option.bind_eq_some_iff.mp h; obtain ⟨u2, hu2, h⟩ := h; replace h := Option.bind_eq_some_iff.mp h; obtain ⟨xk, hxk, h⟩ := h; dsimp only at h hp hq ha hb_ hn hm hn2 hen hu hu2 hxk; have hc := ite_yes h; obtain ⟨c1, c2, c3, c4, c5, c6, c7, c8, c9, c10⟩ := hc; injection c2 with c2 c2'; subst c1 c2 c2' c3 c4 c5 c7 c8 c9 c10; clear h; have CDr := Aside0.mk (fun (w1 : World) (hb : Below w.heap.size w w1) => spec_DrawDiskOk.calls k A0 c0 l0 d1 d2 d3 d4 d5 d6 w1 (Kd.C_below hr0 hb) hc0 hD); have CI := Aside0.mk (fun (w1 : World) (A0 : Option Addr) (a0 : Nat) (A1 : Option Addr) (a1 : Nat) (A2 : Option Addr) (a2 : Nat) (A3 : Option Addr) (a3 : Nat) (h : HasD w1 w.heap.size (.slice A0 d1.length a0) (.slice A1 d2.length a1) (.slice A2 d3.length a2) (.slice A3 d4.length a3) d1 d2 d3 d4) (hb : Below w.heap.size w w1) => impl_DiskOk.calls k A0 a0 d1 A1 a1 d2 A2 a2 d3 A3 a3 d4 d5 d6 q w1 (Kd.R_reads' h.r0).2.2 (Kd.R_reads' h.r0).2.1 (Kd.R_reads' h.r1).2.2 (Kd.R_reads' h.r1).2.1 (Kd.R_reads' h.r2).2.2 (Kd.R_reads' h.r2).2.1 (Kd.R_reads' h.r3).2.2 (Kd.R_reads' h.r3).2.1 (hTE.below hb) (hTP.below hb) hp); have CS := Aside0.mk (fun (w1 : World) (A0 : Option Addr) (a0 : Nat) (A1 : Option Addr) (a1 : Nat) (A2 : Option Addr) (a2 : Nat) (A3 : Option Addr) (a3 : Nat) (h : HasD w1 w.heap.size (.slice A0 d1.length a0) (.slice A1 d2.length a1) (.slice A2 d3.length a2) (.slice A3 d4.length a3) d1 d2 d3 d4) => spec_DiskOk.calls k A0 a0 d1 A1 a1 d2 A2 a2 d3 A3 a3 d4 d5 d6 q w1 (Kd.R_reads' h.r0).2.2 (Kd.R_reads' h.r0).2.1 (Kd.R_reads' h.r1).2.2 (Kd.R_reads' h.r1).2.1 (Kd.R_reads' h.r2).2.2 (Kd.R_reads' h.r2).2.1 (Kd.R_reads' h.r3).2.2 (Kd.R_reads' h.r3).2.1 hq); have CDF := Aside0.mk (fun (w1 : World) (hb : Below w.heap.size w w1) => spec_DrawReadFile.calls k A0 c0 l0 e1 e2 e3 e4 e5 e6 nm w1 (Kd.C_below hr0 hb) hc0 hE); have CX := Aside0.mk (fun (w1 : World) => impl_DiskNew.calls 50 x1 x2 x3 x4 50 1 w1 hX); have CR1 := Aside0.mk (fun (w1 : World) (A0 : Option Addr) (a0 : Nat) (A1 : Option Addr) (a1 : Nat) (A2 : Option Addr) (a2 : Nat) (A3 : Option Addr) (a3 : Nat) (h : HasD w1 w.heap.size (.slice A0 d1.length a0) (.slice A1 d2.length a1) (.slice A2 d3.length a2) (.slice A3 d4.length a3) d1 d2 d3 d4) => impl_ReadFile.calls A0 a0 d1 A1 a1 d2 A2 a2 d3 A3 a3 d4 d5 d6 nm m2 m4 w1 (Kd.R_reads' h.r0).2.2 (Kd.R_reads' h.r0).2.1 (Kd.R_reads' h.r1).2.2 (Kd.R_reads' h.r1).2.1 (Kd.R_reads' h.r2).2.2 (Kd.R_reads' h.r2).2.1 (Kd.R_reads' h.r3).2.2 (Kd.R_reads' h.r3).2.1 ha); have CR2 := Aside0.mk (fun (w1 : World) (A0 : Option Addr) (a0 : Nat) (A1 : Option Addr) (a1 : Nat) (A2 : Option Addr) (a2 : Nat) (A3 : Option Addr) (a3 : Nat) (h : HasD w1 w.heap.size (.slice A0 d1.length a0) (.slice A1 d2.length a1) (.slice A2 d3.length a2) (.slice A3 d4.length a3) d1 d2 d3 d4) => spec_ReadFile.calls k A0 a0 d1 A1 a1 d2 A2 a2 d3 A3 a3 d4 d5 d6 nm m2 m4 w1 (Kd.R_reads' h.r0).2.2 (Kd.R_reads' h.r0).2.1 (Kd.R_reads' h.r1).2.2 (Kd.R_reads' h.r1).2.1 (Kd.R_reads' h.r2).2.2 (Kd.R_reads' h.r2).2.1 (Kd.R_reads' h.r3).2.2 (Kd.R_reads' h.r3).2.1 hb_); have CF1 := Aside0.mk (fun (w1 : World) (A0 : Option Addr) (a0 : Nat) (A1 : Option Addr) (a1 : Nat) (A2 : Option Addr) (a2 : Nat) (A3 : Option Addr) (a3 : Nat) (h : HasD w1 w.heap.size (.slice A0 d1.length a0) (.slice A1 d2.length a1) (.slice A2 d3.length a2) (.slice A3 d4.length a3) d1 d2 d3 d4) => impl_FileNames.calls k A0 a0 d1 A1 a1 d2 A2 a2 d3 A3 a3 d4 d5 d6 n w1 (Kd.R_reads' h.r0).2.2 (Kd.R_reads' h.r0).2.1 (Kd.R_reads' h.r1).2.2 (Kd.R_reads' h.r1).2.1 (Kd.R_reads' h.r2).2.2 (Kd.R_reads' h.r2).2.1 (Kd.R_reads' h.r3).2.2 (Kd.R_reads' h.r3).2.1 hn); have CN := Aside0.mk (fun (w1 : World) (A0 : Option Addr) (a0 : Nat) (A1 : Option Addr) (a1 : Nat) (A2 : Option Addr) (a2 : Nat) (A3 : Option Addr) (a3 : Nat) (h : HasD w1 w.heap.size (.slice A0 d1.length a0) (.slice A1 d2.length a1) (.slice A2 d3.length a2) (.slice A3 d4.length a3) d1 d2 d3 d4) => impl_NodeAt.calls A0 a0 d1 A1 a1 d2 A2 a2 d3 A3 a3 d4 d5 d6 nm m1 m2 m3 m4 w1 (Kd.R_reads' h.r0).2.2 (Kd.R_reads' h.r0).2.1 (Kd.R_reads' h.r1).2.2 (Kd.R_reads' h.r1).2.1 (Kd.R_reads' h.r2).2.2 (Kd.R_reads' h.r2).2.1 (Kd.R_reads' h.r3).2.2 (Kd.R_reads' h.r3).2.1 hm); have CF2 := Aside0.mk (fun (w1 : World) (A0 : Option Addr) (a0 : Nat) (A1 : Option Addr) (a1 : Nat) (A2 : Option Addr) (a2 : Nat) (A3 : Option Addr) (a3 : Nat) (h : HasD w1 w.heap.size (.slice A0 d1.length a0) (.slice A1 d2.length a1) (.slice A2 d3.length a2) (.slice A3 d4.length a3) d1 d2 d3 d4) => spec_FileNames.calls k A0 a0 d1 A1 a1 d2 A2 a2 d3 A3 a3 d4 d5 d6 n2 w1 (Kd.R_reads' h.r0).2.2 (Kd.R_reads' h.r0).2.1 (Kd.R_reads' h.r1).2.2 (Kd.R_reads' h.r1).2.1 (Kd.R_reads' h.r2).2.2 (Kd.R_reads' h.r2).2.1 (Kd.R_reads' h.r3).2.2 (Kd.R_reads' h.r3).2.1 hn2); have CT := Aside0.mk (fun (w1 : World) (B B' : Nat) (p p' : Nat → Prop) (G G' : Option Addr) (g g' : Nat) (h : Kd.R Kd.string 9 w1 B p (.slice G n.length g) n) (h' : Kd.R Kd.string 9 w1 B' p' (.slice G' n2.length g') n2) => laws_sameTexts.calls k G g n G' g' n2 true w1 (Kd.R_reads' h).2.2 (Kd.R_reads' h).2.1 (Kd.R_reads' h').2.2 (Kd.R_reads' h').2.1 hst); have CEn := Aside0.mk (fun (w1 : World) (B : Nat) (p : Nat → Prop) (G : Option Addr) (g : Nat) (h : Kd.R k64 64 w1 B p (.slice G d2.length g) d2) => impl_EntryAt.calls G g d2 nm en w1 (Kd.R_reads' h).2.2 (Kd.R_reads' h).2.1 hen); have CU1 := Aside0.mk (fun (w1 : World) (A0 : Option Addr) (a0 : Nat) (A1 : Option Addr) (a1 : Nat) (A2 : Option Addr) (a2 : Nat) (A3 : Option Addr) (a3 : Nat) (h : HasD w1 w.heap.size (.slice A0 d1.length a0) (.slice A1 d2.length a1) (.slice A2 d3.length a2) (.slice A3 d4.length a3) d1 d2 d3 d4) => impl_UsedOn.calls k A0 a0 d1 A1 a1 d2 A2 a2 d3 A3 a3 d4 d5 d6 u2 w1 (Kd.R_reads' h.r0).2.2 (Kd.R_reads' h.r0).2.1 (Kd.R_reads' h.r1).2.2 (Kd.R_reads' h.r1).2.1 (Kd.R_reads' h.r2).2.2 (Kd.R_reads' h.r2).2.1 (Kd.R_reads' h.r3).2.2 (Kd.R_reads' h.r3).2.1 hu); have CU2 := Aside0.mk (fun (w1 : World) (A0 : Option Addr) (a0 : Nat) (A1 : Option Addr) (a1 : Nat) (A2 : Option Addr) (a2 : Nat) (A3 : Option Addr) (a3 : Nat) (h : HasD w1 w.heap.size (.slice A0 d1.length a0) (.slice A1 d2.length a1) (.slice A2 d3.length a2) (.slice A3 d4.length a3) d1 d2 d3 d4) => spec_UsedOn.calls k A0 a0 d1 A1 a1 d2 A2 a2 d3 A3 a3 d4 d5 d6 u2 w1 (Kd.R_reads' h.r0).2.2 (Kd.R_reads' h.r0).2.1 (Kd.R_reads' h.r1).2.2 (Kd.R_reads' h.r1).2.1 (Kd.R_reads' h.r2).2.2 (Kd.R_reads' h.r2).2.1 (Kd.R_reads' h.r3).2.2 (Kd.R_reads' h.r3).2.1 hu2); have CS2 := Aside0.mk (fun (w1 : World) (X0 : Option Addr) (y0 : Nat) (X1 : Option Addr) (y1 : Nat) (X2 : Option Addr) (y2 : Nat) (X3 : Option Addr) (y3 : Nat) (h : HasD w1 w.heap.size (.slice X0 x1.length y0) (.slice X1 x2.length y1) (.slice X2 x3.length y2) (.slice X3 x4.length y3) x1 x2 x3 x4) => spec_DiskOk.calls k X0 y0 x1 X1 y1 x2 X2 y2 x3 X3 y3 x4 50 1 true w1 (Kd.R_reads' h.r0).2.2 (Kd.R_reads' h.r0).2.1 (Kd.R_reads' h.r1).2.2 (Kd.R_reads' h.r1).2.1 (Kd.R_reads' h.r2).2.2 (Kd.R_reads' h.r2).2.1 (Kd.R_reads' h.r3).2.2 (Kd.R_reads' h.r3).2.1 hxk); have C6 := Aside0.mk c6; clear hD hp hq hE hX ha hb_ hn hm hn2 hst hen hu hu2 hxk c6)
  all_goals (go_enter Tryz.func3, Tryz.ntmps3; go_wp2_with (first | (go_at_call 6; (with_reducible refine (CB.out _ BL.out).mono ?_); rintro e wq ⟨rfl, hq⟩; have hb : Below w.heap.size w wq := (by obtain ⟨nd, hnd⟩ := hq; rw [hnd]; exact pw_below_drewN (Below.refl _ _) nd); clear hq; replace BL := Aside0.mk (BL.out.trans (hb.mono BL.out.size)); (try replace BD := Aside0.mk ((hb.block gD (blk_lt BD.out)).trans BD.out)); (try replace BX := Aside0.mk ((hb.block gX (blk_lt BX.out)).trans BX.out)); (try replace BN := Aside0.mk ((hb.block gN (blk_lt BN.out)).trans BN.out)); (try replace Do := Aside0.mk (Do.out.on hb)); (try replace DX := Aside0.mk (DX.out.on hb)); (try replace RN := Aside0.mk (Kd.R_below RN.out hb)); clear hb; obtain ⟨w1, hw1⟩ : ∃ x, x = wq := ⟨_, rfl⟩; subst hw1) | (go_at_call 7; have hbs := BL.out.size; (with_reducible refine (CDr.out _ BL.out).mono ?_); rintro e w1 ⟨u0, u1, u2, u3, rfl, p0, p1, p2, p3, hb⟩; have hD := HasD.of p0 p1 p2 p3; replace BL := Aside0.mk (BL.out.trans (hb.mono BL.out.size)); (try replace BD := Aside0.mk ((hb.block gD (blk_lt BD.out)).trans BD.out)); (try replace BX := Aside0.mk ((hb.block gX (blk_lt BX.out)).trans BX.out)); (try replace BN := Aside0.mk ((hb.block gN (blk_lt BN.out)).trans BN.out)); (try replace Do := Aside0.mk (Do.out.on hb)); (try replace DX := Aside0.mk (DX.out.on hb)); (try replace RN := Aside0.mk (Kd.R_below RN.out hb)); have Do := Aside0.mk (hD.lower hbs); obtain ⟨A0, a0, rfl⟩ := Kd.R_slice p0; obtain ⟨A1, a1, rfl⟩ := Kd.R_slice p1; obtain ⟨A2, a2, rfl⟩ := Kd.R_slice p2; obtain ⟨A3, a3, rfl⟩ := Kd.R_slice p3; clear hD hb hbs p0 p1 p2 p3; (try replace iD := blk6 BD.out)) | ((with_reducible refine gate_store (t := 28) (p := 3) rfl ?_); refine store_event (t := 28) (p := 3) (w1 := w1.alloc (.cells #[.slice A0 d1.length a0, .slice A1 d2.length a1, .slice A2 d3.length a2, .slice A3 d4.length a3, .int .i64 d5, .int .i64 d6] 28 (0, 0))) rfl rfl rfl ?hr ?_; (case hr => first | (go_simp; done) | (go_simp; rfl)); intro wz hw; have hb : Below w1.heap.size w1 wz := (by rw [hw]; exact below_alloc (Below.refl _ _) _); have hbox := (by rw [hw]; exact blk_new w1 _ : wz.heap[w1.heap.size]? = some (.cells #[.slice A0 d1.length a0, .slice A1 d2.length a1, .slice A2 d3.length a2, .slice A3 d4.length a3, .int .i64 d5, .int .i64 d6] 28 (0, 0))); clear hw; obtain ⟨gD, hg⟩ : ∃ g, g = w1.heap.size := ⟨_, rfl⟩; rw [← hg] at hbox; (try rw [← hg]); clear hg; replace BL := Aside0.mk (BL.out.trans (hb.mono BL.out.size)); (try replace BD := Aside0.mk ((hb.block gD (blk_lt BD.out)).trans BD.out)); (try replace BX := Aside0.mk ((hb.block gX (blk_lt BX.out)).trans BX.out)); (try replace BN := Aside0.mk ((hb.block gN (blk_lt BN.out)).trans BN.out)); (try replace Do := Aside0.mk (Do.out.on hb)); (try replace DX := Aside0.mk (DX.out.on hb)); (try replace RN := Aside0.mk (Kd.R_below RN.out hb)); have BD := Aside0.mk hbox; clear hb hbox; obtain ⟨w1, hw1⟩ : ∃ x, x = wz := ⟨_, rfl⟩; subst hw1; (try replace iD := blk6 BD.out)) | (go_at_call 10; have hbs := BL.out.size; (with_reducible refine (CDF.out _ BL.out).mono ?_); rintro e w1 ⟨u0, u1, u2, u3, rfl, p0, p1, p2, p3, hb⟩; have hD := HasD.of p0 p1 p2 p3; replace BL := Aside0.mk (BL.out.trans (hb.mono BL.out.size)); (try replace BD := Aside0.mk ((hb.block gD (blk_lt BD.out)).trans BD.out)); (try replace BX := Aside0.mk ((hb.block gX (blk_lt BX.out)).trans BX.out)); (try replace BN := Aside0.mk ((hb.block gN (blk_lt BN.out)).trans BN.out)); (try replace Do := Aside0.mk (Do.out.on hb)); (try replace DX := Aside0.mk (DX.out.on hb)); (try replace RN := Aside0.mk (Kd.R_below RN.out hb)); have DE := Aside0.mk (hD.lower hbs); obtain ⟨E0, f0, rfl⟩ := Kd.R_slice p0; obtain ⟨E1, f1, rfl⟩ := Kd.R_slice p1; obtain ⟨E2, f2, rfl⟩ := Kd.R_slice p2; obtain ⟨E3, f3, rfl⟩ := Kd.R_slice p3; clear hD hb hbs p0 p1 p2 p3; (try replace iD := blk6 BD.out)) | ((with_reducible refine gate_store (t := 28) (p := 4) rfl ?_); refine store_event (t := 28) (p := 4) (w1 := w1.alloc (.cells #[.slice E0 e1.length f0, .slice E1 e2.length f1, .slice E2 e3.length f2, .slice E3 e4.length f3, .int .i64 e5, .int .i64 e6] 28 (0, 0))) rfl rfl rfl ?hr ?_; (case hr => first | (go_simp; done) | (go_simp; rfl)); intro wz hw; have hb : Below w1.heap.size w1 wz := (by rw [hw]; exact below_alloc (Below.refl _ _) _); have hbox := (by rw [hw]; exact blk_new w1 _ : wz.heap[w1.heap.size]? = some (.cells #[.slice E0 e1.length f0, .slice E1 e2.length f1, .slice E2 e3.length f2, .slice E3 e4.length f3, .int .i64 e5, .int .i64 e6] 28 (0, 0))); clear hw; obtain ⟨gE, hg⟩ : ∃ g, g = w1.heap.size := ⟨_, rfl⟩; rw [← hg] at hbox; (try rw [← hg]); clear hg; replace BL := Aside0.mk (BL.out.trans (hb.mono BL.out.size)); (try replace BD := Aside0.mk ((hb.block gD (blk_lt BD.out)).trans BD.out)); (try replace BX := Aside0.mk ((hb.block gX (blk_lt BX.out)).trans BX.out)); (try replace BN := Aside0.mk ((hb.block gN (blk_lt BN.out)).trans BN.out)); (try replace Do := Aside0.mk (Do.out.on hb)); (try replace DX := Aside0.mk (DX.out.on hb)); (try replace RN := Aside0.mk (Kd.R_below RN.out hb)); have BE := Aside0.mk hbox; clear hb hbox; obtain ⟨w1, hw1⟩ : ∃ x, x = wz := ⟨_, rfl⟩; subst hw1; (try replace iD := blk6 BD.out)) | (go_at_call 11; have hbs := BL.out.size; (with_reducible refine (CX.out _).mono ?_); rintro e w1 ⟨u0, u1, u2, u3, rfl, p0, p1, p2, p3, hb⟩; have hD := HasD.of p0 p1 p2 p3; replace BL := Aside0.mk (BL.out.trans (hb.mono BL.out.size)); (try replace BD := Aside0.mk ((hb.block gD (blk_lt BD.out)).trans BD.out)); (try replace BX := Aside0.mk ((hb.block gX (blk_lt BX.out)).trans BX.out)); (try replace BN := Aside0.mk ((hb.block gN (blk_lt BN.out)).trans BN.out)); (try replace Do := Aside0.mk (Do.out.on hb)); (try replace DX := Aside0.mk (DX.out.on hb)); (try replace RN := Aside0.mk (Kd.R_below RN.out hb)); have DX := Aside0.mk (hD.lower hbs); obtain ⟨X0, y0, rfl⟩ := Kd.R_slice p0; obtain ⟨X1, y1, rfl⟩ := Kd.R_slice p1; obtain ⟨X2, y2, rfl⟩ := Kd.R_slice p2; obtain ⟨X3, y3, rfl⟩ := Kd.R_slice p3; clear hD hb hbs p0 p1 p2 p3; (try replace iD := blk6 BD.out)) | ((with_reducible refine gate_store (t := 28) (p := 6) rfl ?_); refine store_event (t := 28) (p := 6) (w1 := w1.alloc (.cells #[.slice X0 x1.length y0, .slice X1 x2.length y1, .slice X2 x3.length y2, .slice X3 x4.length y3, .int .i64 50, .int .i64 1] 28 (0, 0))) rfl rfl rfl ?hr ?_; (case hr => first | (go_simp; done) | (go_simp; rfl)); intro wz hw; have hb : Below w1.heap.size w1 wz := (by rw [hw]; exact below_alloc (Below.refl _ _) _); have hbox := (by rw [hw]; exact blk_new w1 _ : wz.heap[w1.heap.size]? = some (.cells #[.slice X0 x1.length y0, .slice X1 x2.length y1, .slice X2 x3.length y2, .slice X3 x4.length y3, .int .i64 50, .int .i64 1] 28 (0, 0))); clear hw; obtain ⟨gX, hg⟩ : ∃ g, g = w1.heap.size := ⟨_, rfl⟩; rw [← hg] at hbox; (try rw [← hg]); clear hg; replace BL := Aside0.mk (BL.out.trans (hb.mono BL.out.size)); (try replace BD := Aside0.mk ((hb.block gD (blk_lt BD.out)).trans BD.out)); (try replace BX := Aside0.mk ((hb.block gX (blk_lt BX.out)).trans BX.out)); (try replace BN := Aside0.mk ((hb.block gN (blk_lt BN.out)).trans BN.out)); (try replace Do := Aside0.mk (Do.out.on hb)); (try replace DX := Aside0.mk (DX.out.on hb)); (try replace RN := Aside0.mk (Kd.R_below RN.out hb)); have BX := Aside0.mk hbox; clear hb hbox; obtain ⟨w1, hw1⟩ : ∃ x, x = wz := ⟨_, rfl⟩; subst hw1; (try replace iD := blk6 BD.out)) | (go_at_call 12; (with_reducible refine (CR1.out _ _ _ _ _ _ _ _ _ Do.out).mono ?_); rintro e w1 ⟨rfl, hb⟩; replace BL := Aside0.mk (BL.out.trans (hb.mono BL.out.size)); (try replace BD := Aside0.mk ((hb.block gD (blk_lt BD.out)).trans BD.out)); (try replace BX := Aside0.mk ((hb.block gX (blk_lt BX.out)).trans BX.out)); (try replace BN := Aside0.mk ((hb.block gN (blk_lt BN.out)).trans BN.out)); (try replace Do := Aside0.mk (Do.out.on hb)); (try replace DX := Aside0.mk (DX.out.on hb)); (try replace RN := Aside0.mk (Kd.R_below RN.out hb)); clear hb; (try replace iD := blk6 BD.out)) | (go_at_call 13; (with_reducible refine (CR2.out _ _ _ _ _ _ _ _ _ Do.out).mono ?_); rintro e w1 ⟨rfl, hb⟩; replace BL := Aside0.mk (BL.out.trans (hb.mono BL.out.size)); (try replace BD := Aside0.mk ((hb.block gD (blk_lt BD.out)).trans BD.out)); (try replace BX := Aside0.mk ((hb.block gX (blk_lt BX.out)).trans BX.out)); (try replace BN := Aside0.mk ((hb.block gN (blk_lt BN.out)).trans BN.out)); (try replace Do := Aside0.mk (Do.out.on hb)); (try replace DX := Aside0.mk (DX.out.on hb)); (try replace RN := Aside0.mk (Kd.R_below RN.out hb)); clear hb; (try replace iD := blk6 BD.out)) | (go_at_call 14; have hbs := BL.out.size; (with_reducible refine (CF1.out _ _ _ _ _ _ _ _ _ Do.out).mono ?_); rintro e w1 ⟨u0, rfl, p0, hb⟩; replace BL := Aside0.mk (BL.out.trans (hb.mono BL.out.size)); (try replace BD := Aside0.mk ((hb.block gD (blk_lt BD.out)).trans BD.out)); (try replace BX := Aside0.mk ((hb.block gX (blk_lt BX.out)).trans BX.out)); (try replace BN := Aside0.mk ((hb.block gN (blk_lt BN.out)).trans BN.out)); (try replace Do := Aside0.mk (Do.out.on hb)); (try replace DX := Aside0.mk (DX.out.on hb)); (try replace RN := Aside0.mk (Kd.R_below RN.out hb)); have RN := Aside0.mk p0; obtain ⟨G, g, rfl⟩ := Kd.R_slice p0; clear hb hbs p0; (try replace iD := blk6 BD.out)) | (go_at_call 15; (with_reducible refine (CN.out _ _ _ _ _ _ _ _ _ Do.out).mono ?_); rintro e w1 ⟨rfl, hb⟩; replace BL := Aside0.mk (BL.out.trans (hb.mono BL.out.size)); (try replace BD := Aside0.mk ((hb.block gD (blk_lt BD.out)).trans BD.out)); (try replace BX := Aside0.mk ((hb.block gX (blk_lt BX.out)).trans BX.out)); (try replace BN := Aside0.mk ((hb.block gN (blk_lt BN.out)).trans BN.out)); (try replace Do := Aside0.mk (Do.out.on hb)); (try replace DX := Aside0.mk (DX.out.on hb)); (try replace RN := Aside0.mk (Kd.R_below RN.out hb)); clear hb; (try replace iD := blk6 BD.out)) | ((with_reducible refine gate_store (t := 38) (p := 12) rfl ?_); refine store_event (t := 38) (p := 12) (w1 := w1.alloc (.cells #[.int .i64 m1, .string m2, .int .i64 m3] 38 (0, 0))) rfl rfl rfl ?hr ?_; (case hr => first | (go_simp; done) | (go_simp; rfl)); intro wz hw; have hb : Below w1.heap.size w1 wz := (by rw [hw]; exact below_alloc (Below.refl _ _) _); have hbox := (by rw [hw]; exact blk_new w1 _ : wz.heap[w1.heap.size]? = some (.cells #[.int .i64 m1, .string m2, .int .i64 m3] 38 (0, 0))); clear hw; obtain ⟨gN, hg⟩ : ∃ g, g = w1.heap.size := ⟨_, rfl⟩; rw [← hg] at hbox; (try rw [← hg]); clear hg; replace BL := Aside0.mk (BL.out.trans (hb.mono BL.out.size)); (try replace BD := Aside0.mk ((hb.block gD (blk_lt BD.out)).trans BD.out)); (try replace BX := Aside0.mk ((hb.block gX (blk_lt BX.out)).trans BX.out)); (try replace BN := Aside0.mk ((hb.block gN (blk_lt BN.out)).trans BN.out)); (try replace Do := Aside0.mk (Do.out.on hb)); (try replace DX := Aside0.mk (DX.out.on hb)); (try replace RN := Aside0.mk (Kd.R_below RN.out hb)); have BN := Aside0.mk hbox; clear hb hbox; obtain ⟨w1, hw1⟩ : ∃ x, x = wz := ⟨_, rfl⟩; subst hw1; (try replace iD := blk6 BD.out))))
  (rotate_left 1; (go_ret; exact ⟨rfl, BL.out⟩); rotate_right 1)
  have BN0 := Aside0.mk (Below.refl w1.heap.size w1)
  have CI2 := Aside0.mk (fun (W : World) (hb : Below w1.heap.size w1 W) => CI.out W _ _ _ _ _ _ _ _ (Do.out.on hb) (BL.out.trans (hb.mono BL.out.size)))
  have CS3 := Aside0.mk (fun (W : World) (hb : Below w1.heap.size w1 W) => CS.out W _ _ _ _ _ _ _ _ (Do.out.on hb))
  have sq0_ : ∀ p_ : LaidBy w1, p_.W.cell? ⟨gD, 0, none⟩ = some (.slice A0 d1.length a0) := fun p_ => p_.cell (iD.1)
  have sq1_ : ∀ p_ : LaidBy w1, p_.W.cell? ⟨gD, 1, none⟩ = some (.slice A1 d2.length a1) := fun p_ => p_.cell (iD.2.1)
  have sq2_ : ∀ p_ : LaidBy w1, p_.W.cell? ⟨gD, 2, none⟩ = some (.slice A2 d3.length a2) := fun p_ => p_.cell (iD.2.2.1)
  have sq3_ : ∀ p_ : LaidBy w1, p_.W.cell? ⟨gD, 3, none⟩ = some (.slice A3 d4.length a3) := fun p_ => p_.cell (iD.2.2.2.1)
  have sq4_ : ∀ p_ : LaidBy w1, p_.W.cell? ⟨gD, 4, none⟩ = some (.int .i64 d5) := fun p_ => p_.cell (iD.2.2.2.2.1)
  have sq5_ : ∀ p_ : LaidBy w1, p_.W.cell? ⟨gD, 5, none⟩ = some (.int .i64 d6) := fun p_ => p_.cell (iD.2.2.2.2.2)
  refine wp_region_laid (by kernel_rfl) (by kernel_rfl) ?_
  repeat (go_big_quiet_step (first | (go_at_call 8; with_reducible exact laid_of _ (CI2.out _ (LaidBy.below _ BN0.out))) | (go_at_call 9; with_reducible exact laid_of _ (CS3.out _ (LaidBy.below _ BN0.out)))))
  refine wpQuiet_nil ?_
  rintro w9 ⟨p_, hp_⟩
  have hq_ : Below w1.heap.size w1 w9 := hp_ ▸ p_.ok
  clear hp_ p_ sq0_ sq1_ sq2_ sq3_ sq4_ sq5_
  have hb := hq_
  clear BN0 CI2 CS3 CI CS
  replace BL := Aside0.mk (BL.out.trans (hb.mono BL.out.size)); (try replace BD := Aside0.mk ((hb.block gD (blk_lt BD.out)).trans BD.out)); (try replace BX := Aside0.mk ((hb.block gX (blk_lt BX.out)).trans BX.out)); (try replace BN := Aside0.mk ((hb.block gN (blk_lt BN.out)).trans BN.out)); (try replace Do := Aside0.mk (Do.out.on hb)); (try replace DX := Aside0.mk (DX.out.on hb)); (try replace RN := Aside0.mk (Kd.R_below RN.out hb))
  clear hb hq_
  obtain ⟨w1, hw1⟩ : ∃ x, x = w9 := ⟨_, rfl⟩
  subst hw1
  (try replace iD := blk6 BD.out)
  go_wp2_with (first | (go_at_call 10; have hbs := BL.out.size; (with_reducible refine (CDF.out _ BL.out).mono ?_); rintro e w1 ⟨u0, u1, u2, u3, rfl, p0, p1, p2, p3, hb⟩; have hD := HasD.of p0 p1 p2 p3; replace BL := Aside0.mk (BL.out.trans (hb.mono BL.out.size)); (try replace BD := Aside0.mk ((hb.block gD (blk_lt BD.out)).trans BD.out)); (try replace BX := Aside0.mk ((hb.block gX (blk_lt BX.out)).trans BX.out)); (try replace BN := Aside0.mk ((hb.block gN (blk_lt BN.out)).trans BN.out)); (try replace Do := Aside0.mk (Do.out.on hb)); (try replace DX := Aside0.mk (DX.out.on hb)); (try replace RN := Aside0.mk (Kd.R_below RN.out hb)); have DE := Aside0.mk (hD.lower hbs); obtain ⟨E0, f0, rfl⟩ := Kd.R_slice p0; obtain ⟨E1, f1, rfl⟩ := Kd.R_slice p1; obtain ⟨E2, f2, rfl⟩ := Kd.R_slice p2; obtain ⟨E3, f3, rfl⟩ := Kd.R_slice p3; clear hD hb hbs p0 p1 p2 p3; (try replace iD := blk6 BD.out)) | ((with_reducible refine gate_store (t := 28) (p := 4) rfl ?_); refine store_event (t := 28) (p := 4) (w1 := w1.alloc (.cells #[.slice E0 e1.length f0, .slice E1 e2.length f1, .slice E2 e3.length f2, .slice E3 e4.length f3, .int .i64 e5, .int .i64 e6] 28 (0, 0))) rfl rfl rfl ?hr ?_; (case hr => first | (go_simp; done) | (go_simp; rfl)); intro wz hw; have hb : Below w1.heap.size w1 wz := (by rw [hw]; exact below_alloc (Below.refl _ _) _); have hbox := (by rw [hw]; exact blk_new w1 _ : wz.heap[w1.heap.size]? = some (.cells #[.slice E0 e1.length f0, .slice E1 e2.length f1, .slice E2 e3.length f2, .slice E3 e4.length f3, .int .i64 e5, .int .i64 e6] 28 (0, 0))); clear hw; obtain ⟨gE, hg⟩ : ∃ g, g = w1.heap.size := ⟨_, rfl⟩; rw [← hg] at hbox; (try rw [← hg]); clear hg; replace BL := Aside0.mk (BL.out.trans (hb.mono BL.out.size)); (try replace BD := Aside0.mk ((hb.block gD (blk_lt BD.out)).trans BD.out)); (try replace BX := Aside0.mk ((hb.block gX (blk_lt BX.out)).trans BX.out)); (try replace BN := Aside0.mk ((hb.block gN (blk_lt BN.out)).trans BN.out)); (try replace Do := Aside0.mk (Do.out.on hb)); (try replace DX := Aside0.mk (DX.out.on hb)); (try replace RN := Aside0.mk (Kd.R_below RN.out hb)); have BE := Aside0.mk hbox; clear hb hbox; obtain ⟨w1, hw1⟩ : ∃ x, x = wz := ⟨_, rfl⟩; subst hw1; (try replace iD := blk6 BD.out)) | (go_at_call 11; have hbs := BL.out.size; (with_reducible refine (CX.out _).mono ?_); rintro e w1 ⟨u0, u1, u2, u3, rfl, p0, p1, p2, p3, hb⟩; have hD := HasD.of p0 p1 p2 p3; replace BL := Aside0.mk (BL.out.trans (hb.mono BL.out.size)); (try replace BD := Aside0.mk ((hb.block gD (blk_lt BD.out)).trans BD.out)); (try replace BX := Aside0.mk ((hb.block gX (blk_lt BX.out)).trans BX.out)); (try replace BN := Aside0.mk ((hb.block gN (blk_lt BN.out)).trans BN.out)); (try replace Do := Aside0.mk (Do.out.on hb)); (try replace DX := Aside0.mk (DX.out.on hb)); (try replace RN := Aside0.mk (Kd.R_below RN.out hb)); have DX := Aside0.mk (hD.lower hbs); obtain ⟨X0, y0, rfl⟩ := Kd.R_slice p0; obtain ⟨X1, y1, rfl⟩ := Kd.R_slice p1; obtain ⟨X2, y2, rfl⟩ := Kd.R_slice p2; obtain ⟨X3, y3, rfl⟩ := Kd.R_slice p3; clear hD hb hbs p0 p1 p2 p3; (try replace iD := blk6 BD.out)) | ((with_reducible refine gate_store (t := 28) (p := 6) rfl ?_); refine store_event (t := 28) (p := 6) (w1 := w1.alloc (.cells #[.slice X0 x1.length y0, .slice X1 x2.length y1, .slice X2 x3.length y2, .slice X3 x4.length y3, .int .i64 50, .int .i64 1] 28 (0, 0))) rfl rfl rfl ?hr ?_; (case hr => first | (go_simp; done) | (go_simp; rfl)); intro wz hw; have hb : Below w1.heap.size w1 wz := (by rw [hw]; exact below_alloc (Below.refl _ _) _); have hbox := (by rw [hw]; exact blk_new w1 _ : wz.heap[w1.heap.size]? = some (.cells #[.slice X0 x1.length y0, .slice X1 x2.length y1, .slice X2 x3.length y2, .slice X3 x4.length y3, .int .i64 50, .int .i64 1] 28 (0, 0))); clear hw; obtain ⟨gX, hg⟩ : ∃ g, g = w1.heap.size := ⟨_, rfl⟩; rw [← hg] at hbox; (try rw [← hg]); clear hg; replace BL := Aside0.mk (BL.out.trans (hb.mono BL.out.size)); (try replace BD := Aside0.mk ((hb.block gD (blk_lt BD.out)).trans BD.out)); (try replace BX := Aside0.mk ((hb.block gX (blk_lt BX.out)).trans BX.out)); (try replace BN := Aside0.mk ((hb.block gN (blk_lt BN.out)).trans BN.out)); (try replace Do := Aside0.mk (Do.out.on hb)); (try replace DX := Aside0.mk (DX.out.on hb)); (try replace RN := Aside0.mk (Kd.R_below RN.out hb)); have BX := Aside0.mk hbox; clear hb hbox; obtain ⟨w1, hw1⟩ : ∃ x, x = wz := ⟨_, rfl⟩; subst hw1; (try replace iD := blk6 BD.out)) | (go_at_call 12; (with_reducible refine (CR1.out _ _ _ _ _ _ _ _ _ Do.out).mono ?_); rintro e w1 ⟨rfl, hb⟩; replace BL := Aside0.mk (BL.out.trans (hb.mono BL.out.size)); (try replace BD := Aside0.mk ((hb.block gD (blk_lt BD.out)).trans BD.out)); (try replace BX := Aside0.mk ((hb.block gX (blk_lt BX.out)).trans BX.out)); (try replace BN := Aside0.mk ((hb.block gN (blk_lt BN.out)).trans BN.out)); (try replace Do := Aside0.mk (Do.out.on hb)); (try replace DX := Aside0.mk (DX.out.on hb)); (try replace RN := Aside0.mk (Kd.R_below RN.out hb)); clear hb; (try replace iD := blk6 BD.out)) | (go_at_call 13; (with_reducible refine (CR2.out _ _ _ _ _ _ _ _ _ Do.out).mono ?_); rintro e w1 ⟨rfl, hb⟩; replace BL := Aside0.mk (BL.out.trans (hb.mono BL.out.size)); (try replace BD := Aside0.mk ((hb.block gD (blk_lt BD.out)).trans BD.out)); (try replace BX := Aside0.mk ((hb.block gX (blk_lt BX.out)).trans BX.out)); (try replace BN := Aside0.mk ((hb.block gN (blk_lt BN.out)).trans BN.out)); (try replace Do := Aside0.mk (Do.out.on hb)); (try replace DX := Aside0.mk (DX.out.on hb)); (try replace RN := Aside0.mk (Kd.R_below RN.out hb)); clear hb; (try replace iD := blk6 BD.out)) | (go_at_call 14; have hbs := BL.out.size; (with_reducible refine (CF1.out _ _ _ _ _ _ _ _ _ Do.out).mono ?_); rintro e w1 ⟨u0, rfl, p0, hb⟩; replace BL := Aside0.mk (BL.out.trans (hb.mono BL.out.size)); (try replace BD := Aside0.mk ((hb.block gD (blk_lt BD.out)).trans BD.out)); (try replace BX := Aside0.mk ((hb.block gX (blk_lt BX.out)).trans BX.out)); (try replace BN := Aside0.mk ((hb.block gN (blk_lt BN.out)).trans BN.out)); (try replace Do := Aside0.mk (Do.out.on hb)); (try replace DX := Aside0.mk (DX.out.on hb)); (try replace RN := Aside0.mk (Kd.R_below RN.out hb)); have RN := Aside0.mk p0; obtain ⟨G, g, rfl⟩ := Kd.R_slice p0; clear hb hbs p0; (try replace iD := blk6 BD.out)) | (go_at_call 15; (with_reducible refine (CN.out _ _ _ _ _ _ _ _ _ Do.out).mono ?_); rintro e w1 ⟨rfl, hb⟩; replace BL := Aside0.mk (BL.out.trans (hb.mono BL.out.size)); (try replace BD := Aside0.mk ((hb.block gD (blk_lt BD.out)).trans BD.out)); (try replace BX := Aside0.mk ((hb.block gX (blk_lt BX.out)).trans BX.out)); (try replace BN := Aside0.mk ((hb.block gN (blk_lt BN.out)).trans BN.out)); (try replace Do := Aside0.mk (Do.out.on hb)); (try replace DX := Aside0.mk (DX.out.on hb)); (try replace RN := Aside0.mk (Kd.R_below RN.out hb)); clear hb; (try replace iD := blk6 BD.out)) | ((with_reducible refine gate_store (t := 38) (p := 12) rfl ?_); refine store_event (t := 38) (p := 12) (w1 := w1.alloc (.cells #[.int .i64 m1, .string m2, .int .i64 m3] 38 (0, 0))) rfl rfl rfl ?hr ?_; (case hr => first | (go_simp; done) | (go_simp; rfl)); intro wz hw; have hb : Below w1.heap.size w1 wz := (by rw [hw]; exact below_alloc (Below.refl _ _) _); have hbox := (by rw [hw]; exact blk_new w1 _ : wz.heap[w1.heap.size]? = some (.cells #[.int .i64 m1, .string m2, .int .i64 m3] 38 (0, 0))); clear hw; obtain ⟨gN, hg⟩ : ∃ g, g = w1.heap.size := ⟨_, rfl⟩; rw [← hg] at hbox; (try rw [← hg]); clear hg; replace BL := Aside0.mk (BL.out.trans (hb.mono BL.out.size)); (try replace BD := Aside0.mk ((hb.block gD (blk_lt BD.out)).trans BD.out)); (try replace BX := Aside0.mk ((hb.block gX (blk_lt BX.out)).trans BX.out)); (try replace BN := Aside0.mk ((hb.block gN (blk_lt BN.out)).trans BN.out)); (try replace Do := Aside0.mk (Do.out.on hb)); (try replace DX := Aside0.mk (DX.out.on hb)); (try replace RN := Aside0.mk (Kd.R_below RN.out hb)); have BN := Aside0.mk hbox; clear hb hbox; obtain ⟨w1, hw1⟩ : ∃ x, x = wz := ⟨_, rfl⟩; subst hw1; (try replace iD := blk6 BD.out)))
  (try clear iD)
  have hb := below_drew (Below.refl w1.heap.size w1)
  replace BL := Aside0.mk (BL.out.trans (hb.mono BL.out.size)); (try replace BD := Aside0.mk ((hb.block gD (blk_lt BD.out)).trans BD.out)); (try replace BX := Aside0.mk ((hb.block gX (blk_lt BX.out)).trans BX.out)); (try replace BN := Aside0.mk ((hb.block gN (blk_lt BN.out)).trans BN.out)); (try replace Do := Aside0.mk (Do.out.on hb)); (try replace DX := Aside0.mk (DX.out.on hb)); (try replace RN := Aside0.mk (Kd.R_below RN.out hb))
  clear hb
  refine start_ (n := 60) (S := fun w' => w'.cell? ⟨gD, 0, none⟩ = some (.slice A0 d1.length a0) ∧ w'.cell? ⟨gD, 1, none⟩ = some (.slice A1 d2.length a1) ∧ w'.cell? ⟨gD, 2, none⟩ = some (.slice A2 d3.length a2) ∧ w'.cell? ⟨gD, 3, none⟩ = some (.slice A3 d4.length a3) ∧ w'.cell? ⟨gD, 4, none⟩ = some (.int .i64 d5) ∧ w'.cell? ⟨gD, 5, none⟩ = some (.int .i64 d6) ∧ w'.cell? ⟨gX, 0, none⟩ = some (.slice X0 x1.length y0) ∧ w'.cell? ⟨gX, 1, none⟩ = some (.slice X1 x2.length y1) ∧ w'.cell? ⟨gX, 2, none⟩ = some (.slice X2 x3.length y2) ∧ w'.cell? ⟨gX, 3, none⟩ = some (.slice X3 x4.length y3) ∧ w'.cell? ⟨gX, 4, none⟩ = some (.int .i64 50) ∧ w'.cell? ⟨gX, 5, none⟩ = some (.int .i64 1) ∧ w'.cell? ⟨gN, 0, none⟩ = some (.int .i64 m1) ∧ w'.cell? ⟨gN, 1, none⟩ = some (.string m2)) (ds := []) (marks 60 0) (by kernel_rfl) rfl (by kernel_rfl) ⟨(blk_cell BD.out 0).trans rfl, (blk_cell BD.out 1).trans rfl, (blk_cell BD.out 2).trans rfl, (blk_cell BD.out 3).trans rfl, (blk_cell BD.out 4).trans rfl, (blk_cell BD.out 5).trans rfl, (blk_cell BX.out 0).trans rfl, (blk_cell BX.out 1).trans rfl, (blk_cell BX.out 2).trans rfl, (blk_cell BX.out 3).trans rfl, (blk_cell BX.out 4).trans rfl, (blk_cell BX.out 5).trans rfl, (blk_cell BN.out 0).trans rfl, (blk_cell BN.out 1).trans rfl⟩ (fun hHeld => ?_)
  generalize w1.drew = w2 at BL BD BX BN Do DX RN hHeld ⊢
  refine pure_ (i := 0) (N := some 49) (v := ?_) (a' := ?_) (marks 60 1) rfl rfl (by kernel_rfl) (fun _ _ _ h => h) (Or.inl ⟨by rfl, ?_⟩) ?_ ?_
  rotate_left
  · intro w'
    go_simp
    with_reducible rfl
  rotate_left
  · simp only [Act.put, List.setIfInBounds_toArray, List.set_cons_zero, List.set_cons_succ, i64_w, i32_w]
    rfl
  refine pure_ (i := 1) (N := some 50) (v := ?_) (a' := ?_) (marks 60 3) rfl rfl (by kernel_rfl) (fun _ _ _ h => h) (Or.inl ⟨by rfl, ?_⟩) ?_ ?_
  rotate_left
  · intro w'
    go_simp
    with_reducible rfl
  rotate_left
  · simp only [Act.put, List.setIfInBounds_toArray, List.set_cons_zero, List.set_cons_succ, i64_w, i32_w]
    rfl
  refine pure_ (i := 2) (N := some 51) (v := ?_) (a' := ?_) (marks 60 7) rfl rfl (by kernel_rfl) (fun _ _ _ h => h) (Or.inl ⟨by rfl, ?_⟩) ?_ ?_
  rotate_left
  · intro w'
    go_simp
    with_reducible rfl
  rotate_left
  · simp only [Act.put, List.setIfInBounds_toArray, List.set_cons_zero, List.set_cons_succ, i64_w, i32_w]
    rfl
  refine pure_ (i := 3) (N := some 52) (v := ?_) (a' := ?_) (marks 60 15) rfl rfl (by kernel_rfl) (fun _ _ _ h => h) (Or.inl ⟨by rfl, ?_⟩) ?_ ?_
  rotate_left
  · intro w'
    go_simp
    with_reducible rfl
  rotate_left
  · simp only [Act.put, List.setIfInBounds_toArray, List.set_cons_zero, List.set_cons_succ, i64_w, i32_w]
    rfl
  refine pure_ (i := 4) (N := some 53) (v := ?_) (a' := ?_) (marks 60 31) rfl rfl (by kernel_rfl) (fun _ _ _ h => h) (Or.inl ⟨by rfl, ?_⟩) ?_ ?_
  rotate_left
  · intro w'
    go_simp
    with_reducible rfl
  rotate_left
  · simp only [Act.put, List.setIfInBounds_toArray, List.set_cons_zero, List.set_cons_succ, i64_w, i32_w]
    rfl
  refine pure_ (i := 5) (N := some 54) (v := ?_) (a' := ?_) (marks 60 63) rfl rfl (by kernel_rfl) (fun _ _ _ h => h) (Or.inl ⟨by rfl, ?_⟩) ?_ ?_
  rotate_left
  · intro w'
    go_simp
    with_reducible rfl
  rotate_left
  · simp only [Act.put, List.setIfInBounds_toArray, List.set_cons_zero, List.set_cons_succ, i64_w, i32_w]
    rfl
  refine pure_ (i := 6) (N := some 55) (v := ?_) (a' := ?_) (marks 60 127) rfl rfl (by kernel_rfl) (fun _ _ _ h => h) (Or.inl ⟨by rfl, ?_⟩) ?_ ?_
  rotate_left
  · intro w'
    go_simp
    with_reducible rfl
  rotate_left
  · simp only [Act.put, List.setIfInBounds_toArray, List.set_cons_zero, List.set_cons_succ, i64_w, i32_w]
    rfl
  refine pure_ (i := 7) (N := some 56) (v := ?_) (a' := ?_) (marks 60 255) rfl rfl (by kernel_rfl) (fun _ _ _ h => h) (Or.inl ⟨by rfl, ?_⟩) ?_ ?_
  rotate_left
  · intro w'
    go_simp
    with_reducible rfl
  rotate_left
  · simp only [Act.put, List.setIfInBounds_toArray, List.set_cons_zero, List.set_cons_succ, i64_w, i32_w]
    rfl
  refine pure_ (i := 8) (N := some 57) (v := ?_) (a' := ?_) (marks 60 511) rfl rfl (by kernel_rfl) (fun _ _ _ h => h) (Or.inl ⟨by rfl, ?_⟩) ?_ ?_
  rotate_left
  · intro w'
    go_simp
    with_reducible rfl
  rotate_left
  · simp only [Act.put, List.setIfInBounds_toArray, List.set_cons_zero, List.set_cons_succ, i64_w, i32_w]
    rfl
  refine pure_ (i := 9) (N := some 58) (v := ?_) (a' := ?_) (marks 60 1023) rfl rfl (by kernel_rfl) (fun _ _ _ h => h) (Or.inl ⟨by rfl, ?_⟩) ?_ ?_
  rotate_left
  · intro w'
    go_simp
    with_reducible rfl
  rotate_left
  · simp only [Act.put, List.setIfInBounds_toArray, List.set_cons_zero, List.set_cons_succ, i64_w, i32_w]
    rfl
  refine take_ (i := 10) (N := some 59) (v := ?_) (a' := ?_) (marks 60 2047) rfl rfl (by kernel_rfl) (fun _ _ _ h => h) (Or.inl ⟨by rfl, ?_⟩) hHeld ?_ ?_
  rotate_left
  · rintro w' ⟨s0, s1, s2, s3, s4, s5, s6, s7, s8, s9, s10, s11, s12, s13⟩
    go_simp
    with_reducible rfl
  rotate_left
  · simp only [Act.put, List.setIfInBounds_toArray, List.set_cons_zero, List.set_cons_succ, i64_w, i32_w]
    rfl
  refine one_ (i := 11) (N := some 60) (marks 60 4095) rfl rfl (by kernel_rfl) (by decide) (fun K hK => ?_)
  refine goes_ Tryz.func17 (by kernel_rfl) rfl #[.agg #[.slice A0 d1.length a0, .slice A1 d2.length a1, .slice A2 d3.length a2, .slice A3 d4.length a3, .int .i64 d5, .int .i64 d6]] (by rfl) rfl rfl (by (try simp only [List.map_toArray, List.map_cons, List.map_nil]); first | done | rfl | (go_simp; done)) ?_
  with_reducible refine (CF2.out _ _ _ _ _ _ _ _ _ Do.out).mono ?_
  rintro e w1 ⟨u0, rfl, p0, hb⟩
  refine ⟨_, rfl, ?_⟩
  replace BL := Aside0.mk (BL.out.trans (hb.mono BL.out.size)); (try replace BD := Aside0.mk ((hb.block gD (blk_lt BD.out)).trans BD.out)); (try replace BX := Aside0.mk ((hb.block gX (blk_lt BX.out)).trans BX.out)); (try replace BN := Aside0.mk ((hb.block gN (blk_lt BN.out)).trans BN.out)); (try replace Do := Aside0.mk (Do.out.on hb)); (try replace DX := Aside0.mk (DX.out.on hb)); (try replace RN := Aside0.mk (Kd.R_below RN.out hb))
  have RM := Aside0.mk p0
  obtain ⟨G2, g2, rfl⟩ := Kd.R_slice p0
  clear hb p0
  refine hK.out _ _ ⟨(blk_cell BD.out 0).trans rfl, (blk_cell BD.out 1).trans rfl, (blk_cell BD.out 2).trans rfl, (blk_cell BD.out 3).trans rfl, (blk_cell BD.out 4).trans rfl, (blk_cell BD.out 5).trans rfl, (blk_cell BX.out 0).trans rfl, (blk_cell BX.out 1).trans rfl, (blk_cell BX.out 2).trans rfl, (blk_cell BX.out 3).trans rfl, (blk_cell BX.out 4).trans rfl, (blk_cell BX.out 5).trans rfl, (blk_cell BN.out 0).trans rfl, (blk_cell BN.out 1).trans rfl⟩ (fun hHeld => ?_)
  clear hK K
  refine norm_ (a' := ?_) ?_ ?_
  rotate_left
  · show Act.put _ (some 60) _ = _
    simp only [Act.put, List.setIfInBounds_toArray, List.set_cons_zero, List.set_cons_succ, i64_w, i32_w]
    rfl
  refine one_ (i := 12) (N := some 61) (marks 60 8191) rfl rfl (by kernel_rfl) (by decide) (fun K hK => ?_)
  refine goes_ Tryz.func16 (by kernel_rfl) rfl #[.slice G n.length g, .slice G2 n2.length g2] (by rfl) rfl rfl (by (try simp only [List.map_toArray, List.map_cons, List.map_nil]); first | done | rfl | (go_simp; done)) ?_
  with_reducible refine (CT.out _ _ _ _ _ _ _ _ _ RN.out RM.out).mono ?_
  rintro e wq ⟨rfl, hq⟩
  have hb : Below w1.heap.size w1 wq := (by obtain ⟨nd, hnd⟩ := hq; rw [hnd]; exact pw_below_drewN (Below.refl _ _) nd)
  refine ⟨_, rfl, ?_⟩
  clear hq RM RN
  replace BL := Aside0.mk (BL.out.trans (hb.mono BL.out.size)); (try replace BD := Aside0.mk ((hb.block gD (blk_lt BD.out)).trans BD.out)); (try replace BX := Aside0.mk ((hb.block gX (blk_lt BX.out)).trans BX.out)); (try replace BN := Aside0.mk ((hb.block gN (blk_lt BN.out)).trans BN.out)); (try replace Do := Aside0.mk (Do.out.on hb)); (try replace DX := Aside0.mk (DX.out.on hb)); (try replace RN := Aside0.mk (Kd.R_below RN.out hb))
  clear hb
  obtain ⟨w1, hw1⟩ : ∃ x, x = wq := ⟨_, rfl⟩
  subst hw1
  refine hK.out _ _ ⟨(blk_cell BD.out 0).trans rfl, (blk_cell BD.out 1).trans rfl, (blk_cell BD.out 2).trans rfl, (blk_cell BD.out 3).trans rfl, (blk_cell BD.out 4).trans rfl, (blk_cell BD.out 5).trans rfl, (blk_cell BX.out 0).trans rfl, (blk_cell BX.out 1).trans rfl, (blk_cell BX.out 2).trans rfl, (blk_cell BX.out 3).trans rfl, (blk_cell BX.out 4).trans rfl, (blk_cell BX.out 5).trans rfl, (blk_cell BN.out 0).trans rfl, (blk_cell BN.out 1).trans rfl⟩ (fun hHeld => ?_)
  clear hK K
  refine norm_ (a' := ?_) ?_ ?_
  rotate_left
  · show Act.put _ (some 61) _ = _
    simp only [Act.put, List.setIfInBounds_toArray, List.set_cons_zero, List.set_cons_succ, i64_w, i32_w]
    rfl
  refine pure_ (i := 13) (N := some 62) (v := ?_) (a' := ?_) (marks 60 16383) rfl rfl (by kernel_rfl) (fun _ _ _ h => h) (Or.inl ⟨by rfl, ?_⟩) ?_ ?_
  rotate_left
  · intro w'
    go_simp
    with_reducible rfl
  rotate_left
  · simp only [Act.put, List.setIfInBounds_toArray, List.set_cons_zero, List.set_cons_succ, i64_w, i32_w]
    rfl
  refine pure_ (i := 14) (N := some 63) (v := ?_) (a' := ?_) (marks 60 32767) rfl rfl (by kernel_rfl) (fun _ _ _ h => h) (Or.inl ⟨by rfl, ?_⟩) ?_ ?_
  rotate_left
  · intro w'
    go_simp
    with_reducible rfl
  rotate_left
  · simp only [Act.put, List.setIfInBounds_toArray, List.set_cons_zero, List.set_cons_succ, i64_w, i32_w]
    rfl
  refine pure_ (i := 15) (N := some 64) (v := ?_) (a' := ?_) (marks 60 65535) rfl rfl (by kernel_rfl) (fun _ _ _ h => h) (Or.inl ⟨by rfl, ?_⟩) ?_ ?_
  rotate_left
  · intro w'
    go_simp
    with_reducible rfl
  rotate_left
  · simp only [Act.put, List.setIfInBounds_toArray, List.set_cons_zero, List.set_cons_succ, i64_w, i32_w]
    rfl
  refine pure_ (i := 16) (N := some 65) (v := ?_) (a' := ?_) (marks 60 131071) rfl rfl (by kernel_rfl) (fun _ _ _ h => h) (Or.inl ⟨by rfl, ?_⟩) ?_ ?_
  rotate_left
  · intro w'
    go_simp
    with_reducible rfl
  rotate_left
  · simp only [Act.put, List.setIfInBounds_toArray, List.set_cons_zero, List.set_cons_succ, i64_w, i32_w]
    rfl
  refine pure_ (i := 17) (N := some 66) (v := ?_) (a' := ?_) (marks 60 262143) rfl rfl (by kernel_rfl) (fun _ _ _ h => h) (Or.inl ⟨by rfl, ?_⟩) ?_ ?_
  rotate_left
  · intro w'
    go_simp
    with_reducible rfl
  rotate_left
  · simp only [Act.put, List.setIfInBounds_toArray, List.set_cons_zero, List.set_cons_succ, i64_w, i32_w]
    rfl
  refine pure_ (i := 18) (N := some 67) (v := ?_) (a' := ?_) (marks 60 524287) rfl rfl (by kernel_rfl) (fun _ _ _ h => h) (Or.inl ⟨by rfl, ?_⟩) ?_ ?_
  rotate_left
  · intro w'
    go_simp
    with_reducible rfl
  rotate_left
  · simp only [Act.put, List.setIfInBounds_toArray, List.set_cons_zero, List.set_cons_succ, i64_w, i32_w]
    rfl
  refine pure_ (i := 19) (N := some 68) (v := ?_) (a' := ?_) (marks 60 1048575) rfl rfl (by kernel_rfl) (fun _ _ _ h => h) (Or.inl ⟨by rfl, ?_⟩) ?_ ?_
  rotate_left
  · intro w'
    go_simp
    with_reducible rfl
  rotate_left
  · simp only [Act.put, List.setIfInBounds_toArray, List.set_cons_zero, List.set_cons_succ, i64_w, i32_w]
    rfl
  refine pure_ (i := 20) (N := some 69) (v := ?_) (a' := ?_) (marks 60 2097151) rfl rfl (by kernel_rfl) (fun _ _ _ h => h) (Or.inl ⟨by rfl, ?_⟩) ?_ ?_
  rotate_left
  · intro w'
    go_simp
    with_reducible rfl
  rotate_left
  · simp only [Act.put, List.setIfInBounds_toArray, List.set_cons_zero, List.set_cons_succ, i64_w, i32_w]
    rfl
  refine take_ (i := 21) (N := some 70) (v := ?_) (a' := ?_) (marks 60 4194303) rfl rfl (by kernel_rfl) (fun _ _ _ h => h) (Or.inl ⟨by rfl, ?_⟩) hHeld ?_ ?_
  rotate_left
  · rintro w' ⟨s0, s1, s2, s3, s4, s5, s6, s7, s8, s9, s10, s11, s12, s13⟩
    go_simp
    with_reducible rfl
  rotate_left
  · simp only [Act.put, List.setIfInBounds_toArray, List.set_cons_zero, List.set_cons_succ, i64_w, i32_w]
    rfl
  refine pure_ (i := 22) (N := some 71) (v := ?_) (a' := ?_) (marks 60 8388607) rfl rfl (by kernel_rfl) (fun _ _ _ h => h) (Or.inl ⟨by rfl, ?_⟩) ?_ ?_
  rotate_left
  · intro w'
    go_simp
    with_reducible rfl
  rotate_left
  · simp only [Act.put, List.setIfInBounds_toArray, List.set_cons_zero, List.set_cons_succ, i64_w, i32_w]
    rfl
  refine pure_ (i := 23) (N := some 72) (v := ?_) (a' := ?_) (marks 60 16777215) rfl rfl (by kernel_rfl) (fun _ _ _ h => h) (Or.inl ⟨by rfl, ?_⟩) ?_ ?_
  rotate_left
  · intro w'
    go_simp
    with_reducible rfl
  rotate_left
  · simp only [Act.put, List.setIfInBounds_toArray, List.set_cons_zero, List.set_cons_succ, i64_w, i32_w]
    rfl
  refine pure_ (i := 24) (N := some 73) (v := ?_) (a' := ?_) (marks 60 33554431) rfl rfl (by kernel_rfl) (fun _ _ _ h => h) (Or.inl ⟨by rfl, ?_⟩) ?_ ?_
  rotate_left
  · intro w'
    go_simp
    with_reducible rfl
  rotate_left
  · simp only [Act.put, List.setIfInBounds_toArray, List.set_cons_zero, List.set_cons_succ, i64_w, i32_w]
    rfl
  refine pure_ (i := 25) (N := some 74) (v := ?_) (a' := ?_) (marks 60 67108863) rfl rfl (by kernel_rfl) (fun _ _ _ h => h) (Or.inl ⟨by rfl, ?_⟩) ?_ ?_
  rotate_left
  · intro w'
    go_simp
    with_reducible rfl
  rotate_left
  · simp only [Act.put, List.setIfInBounds_toArray, List.set_cons_zero, List.set_cons_succ, i64_w, i32_w]
    rfl
  refine pure_ (i := 26) (N := some 75) (v := ?_) (a' := ?_) (marks 60 134217727) rfl rfl (by kernel_rfl) (fun _ _ _ h => h) (Or.inl ⟨by rfl, ?_⟩) ?_ ?_
  rotate_left
  · intro w'
    go_simp
    with_reducible rfl
  rotate_left
  · simp only [Act.put, List.setIfInBounds_toArray, List.set_cons_zero, List.set_cons_succ, i64_w, i32_w]
    rfl
  refine pure_ (i := 27) (N := some 76) (v := ?_) (a' := ?_) (marks 60 268435455) rfl rfl (by kernel_rfl) (fun _ _ _ h => h) (Or.inl ⟨by rfl, ?_⟩) ?_ ?_
  rotate_left
  · intro w'
    go_simp
    with_reducible rfl
  rotate_left
  · simp only [Act.put, List.setIfInBounds_toArray, List.set_cons_zero, List.set_cons_succ, i64_w, i32_w]
    rfl
  refine pure_ (i := 28) (N := some 77) (v := ?_) (a' := ?_) (marks 60 536870911) rfl rfl (by kernel_rfl) (fun _ _ _ h => h) (Or.inl ⟨by rfl, ?_⟩) ?_ ?_
  rotate_left
  · intro w'
    go_simp
    with_reducible rfl
  rotate_left
  · simp only [Act.put, List.setIfInBounds_toArray, List.set_cons_zero, List.set_cons_succ, i64_w, i32_w]
    rfl
  have c6 := C6.out
  clear C6
  cases m4
  case' false =>
    refine pure_ (i := 29) (N := some 78) (v := undef) (a' := ?_) (marks 60 1073741823) rfl rfl (by kernel_rfl) (fun _ _ _ h => h) (Or.inr ⟨by rfl, rfl⟩) ?_ ?_
    rotate_left
    · simp only [Act.put, List.setIfInBounds_toArray, List.set_cons_zero, List.set_cons_succ, i64_w, i32_w]
      rfl
    refine pure_ (i := 30) (N := some 79) (v := undef) (a' := ?_) (marks 60 2147483647) rfl rfl (by kernel_rfl) (fun _ _ _ h => h) (Or.inr ⟨by rfl, rfl⟩) ?_ ?_
    rotate_left
    · simp only [Act.put, List.setIfInBounds_toArray, List.set_cons_zero, List.set_cons_succ, i64_w, i32_w]
      rfl
    refine pure_ (i := 31) (N := some 80) (v := undef) (a' := ?_) (marks 60 4294967295) rfl rfl (by kernel_rfl) (fun _ _ _ h => h) (Or.inr ⟨by rfl, rfl⟩) ?_ ?_
    rotate_left
    · simp only [Act.put, List.setIfInBounds_toArray, List.set_cons_zero, List.set_cons_succ, i64_w, i32_w]
      rfl
    refine pure_ (i := 32) (N := some 81) (v := undef) (a' := ?_) (marks 60 8589934591) rfl rfl (by kernel_rfl) (fun _ _ _ h => h) (Or.inr ⟨by rfl, rfl⟩) ?_ ?_
    rotate_left
    · simp only [Act.put, List.setIfInBounds_toArray, List.set_cons_zero, List.set_cons_succ, i64_w, i32_w]
      rfl
    refine pure_ (i := 33) (N := some 82) (v := undef) (a' := ?_) (marks 60 17179869183) rfl rfl (by kernel_rfl) (fun _ _ _ h => h) (Or.inr ⟨by rfl, rfl⟩) ?_ ?_
    rotate_left
    · simp only [Act.put, List.setIfInBounds_toArray, List.set_cons_zero, List.set_cons_succ, i64_w, i32_w]
      rfl
    refine pure_ (i := 34) (N := some 83) (v := undef) (a' := ?_) (marks 60 34359738367) rfl rfl (by kernel_rfl) (fun _ _ _ h => h) (Or.inr ⟨by rfl, rfl⟩) ?_ ?_
    rotate_left
    · simp only [Act.put, List.setIfInBounds_toArray, List.set_cons_zero, List.set_cons_succ, i64_w, i32_w]
      rfl
    refine pure_ (i := 35) (N := some 84) (v := undef) (a' := ?_) (marks 60 68719476735) rfl rfl (by kernel_rfl) (fun _ _ _ h => h) (Or.inr ⟨by rfl, rfl⟩) ?_ ?_
    rotate_left
    · simp only [Act.put, List.setIfInBounds_toArray, List.set_cons_zero, List.set_cons_succ, i64_w, i32_w]
      rfl
    refine pure_ (i := 36) (N := some 85) (v := ?_) (a' := ?_) (marks 60 137438953471) rfl rfl (by kernel_rfl) (fun _ _ _ h => h) (Or.inl ⟨by rfl, ?_⟩) ?_ ?_
    rotate_left
    · intro w'
      go_simp
      with_reducible rfl
    rotate_left
    · simp only [Act.put, List.setIfInBounds_toArray, List.set_cons_zero, List.set_cons_succ, i64_w, i32_w]
      rfl
  case' true =>
    obtain rfl := c6 rfl
    refine pure_ (i := 29) (N := some 78) (v := ?_) (a' := ?_) (marks 60 1073741823) rfl rfl (by kernel_rfl) (fun _ _ _ h => h) (Or.inl ⟨by rfl, ?_⟩) ?_ ?_
    rotate_left
    · intro w'
      go_simp
      with_reducible rfl
    rotate_left
    · simp only [Act.put, List.setIfInBounds_toArray, List.set_cons_zero, List.set_cons_succ, i64_w, i32_w]
      rfl
    refine take_ (i := 30) (N := some 79) (v := ?_) (a' := ?_) (marks 60 2147483647) rfl rfl (by kernel_rfl) (fun _ _ _ h => h) (Or.inl ⟨by rfl, ?_⟩) hHeld ?_ ?_
    rotate_left
    · rintro w' ⟨s0, s1, s2, s3, s4, s5, s6, s7, s8, s9, s10, s11, s12, s13⟩
      go_simp
      with_reducible rfl
    rotate_left
    · simp only [Act.put, List.setIfInBounds_toArray, List.set_cons_zero, List.set_cons_succ, i64_w, i32_w]
      rfl
    refine pure_ (i := 31) (N := some 80) (v := ?_) (a' := ?_) (marks 60 4294967295) rfl rfl (by kernel_rfl) (fun _ _ _ h => h) (Or.inl ⟨by rfl, ?_⟩) ?_ ?_
    rotate_left
    · intro w'
      go_simp
      with_reducible rfl
    rotate_left
    · simp only [Act.put, List.setIfInBounds_toArray, List.set_cons_zero, List.set_cons_succ, i64_w, i32_w]
      rfl
    refine pure_ (i := 33) (N := some 82) (v := ?_) (a' := ?_) (marks 60 12884901887) rfl rfl (by kernel_rfl) (fun _ _ _ h => h) (Or.inl ⟨by rfl, ?_⟩) ?_ ?_
    rotate_left
    · intro w'
      go_simp
      with_reducible rfl
    rotate_left
    · simp only [Act.put, List.setIfInBounds_toArray, List.set_cons_zero, List.set_cons_succ, i64_w, i32_w]
      rfl
    refine take_ (i := 34) (N := some 83) (v := ?_) (a' := ?_) (marks 60 30064771071) rfl rfl (by kernel_rfl) (fun _ _ _ h => h) (Or.inl ⟨by rfl, ?_⟩) hHeld ?_ ?_
    rotate_left
    · rintro w' ⟨s0, s1, s2, s3, s4, s5, s6, s7, s8, s9, s10, s11, s12, s13⟩
      go_simp
      with_reducible rfl
    rotate_left
    · simp only [Act.put, List.setIfInBounds_toArray, List.set_cons_zero, List.set_cons_succ, i64_w, i32_w]
      rfl
    refine one_ (i := 32) (N := some 81) (marks 60 34359738367) rfl rfl (by kernel_rfl) (by decide) (fun K hK => ?_)
    refine goes_ Tryz.func18 (by kernel_rfl) rfl #[.slice A1 d2.length a1, .string nm] (by rfl) rfl rfl (by (try simp only [List.map_toArray, List.map_cons, List.map_nil]); first | done | rfl | (go_simp; done)) ?_
    with_reducible refine (CEn.out _ _ _ _ _ Do.out.r1).mono ?_
    rintro e w1 ⟨rfl, hb⟩
    refine ⟨_, rfl, ?_⟩
    replace BL := Aside0.mk (BL.out.trans (hb.mono BL.out.size)); (try replace BD := Aside0.mk ((hb.block gD (blk_lt BD.out)).trans BD.out)); (try replace BX := Aside0.mk ((hb.block gX (blk_lt BX.out)).trans BX.out)); (try replace BN := Aside0.mk ((hb.block gN (blk_lt BN.out)).trans BN.out)); (try replace Do := Aside0.mk (Do.out.on hb)); (try replace DX := Aside0.mk (DX.out.on hb)); (try replace RN := Aside0.mk (Kd.R_below RN.out hb))
    clear hb
    refine hK.out _ _ ⟨(blk_cell BD.out 0).trans rfl, (blk_cell BD.out 1).trans rfl, (blk_cell BD.out 2).trans rfl, (blk_cell BD.out 3).trans rfl, (blk_cell BD.out 4).trans rfl, (blk_cell BD.out 5).trans rfl, (blk_cell BX.out 0).trans rfl, (blk_cell BX.out 1).trans rfl, (blk_cell BX.out 2).trans rfl, (blk_cell BX.out 3).trans rfl, (blk_cell BX.out 4).trans rfl, (blk_cell BX.out 5).trans rfl, (blk_cell BN.out 0).trans rfl, (blk_cell BN.out 1).trans rfl⟩ (fun hHeld => ?_)
    clear hK K
    refine norm_ (a' := ?_) ?_ ?_
    rotate_left
    · show Act.put _ (some 81) _ = _
      simp only [Act.put, List.setIfInBounds_toArray, List.set_cons_zero, List.set_cons_succ, i64_w, i32_w]
      rfl
    refine pure_ (i := 35) (N := some 84) (v := ?_) (a' := ?_) (marks 60 68719476735) rfl rfl (by kernel_rfl) (fun _ _ _ h => h) (Or.inl ⟨by rfl, ?_⟩) ?_ ?_
    rotate_left
    · intro w'
      go_simp
      with_reducible rfl
    rotate_left
    · simp only [Act.put, List.setIfInBounds_toArray, List.set_cons_zero, List.set_cons_succ, i64_w, i32_w]
      rfl
    refine pure_ (i := 36) (N := some 85) (v := ?_) (a' := ?_) (marks 60 137438953471) rfl rfl (by kernel_rfl) (fun _ _ _ h => h) (Or.inl ⟨by rfl, ?_⟩) ?_ ?_
    rotate_left
    · intro w'
      go_simp
      with_reducible rfl
    rotate_left
    · simp only [Act.put, List.setIfInBounds_toArray, List.set_cons_zero, List.set_cons_succ, i64_w, i32_w]
      rfl
  all_goals
    refine pure_ (i := 37) (N := some 86) (v := ?_) (a' := ?_) (marks 60 274877906943) rfl rfl (by kernel_rfl) (fun _ _ _ h => h) (Or.inl ⟨by rfl, ?_⟩) ?_ ?_
    rotate_left
    · intro w'
      go_simp
      with_reducible rfl
    rotate_left
    · simp only [Act.put, List.setIfInBounds_toArray, List.set_cons_zero, List.set_cons_succ, i64_w, i32_w]
      rfl
    refine pure_ (i := 38) (N := some 87) (v := ?_) (a' := ?_) (marks 60 549755813887) rfl rfl (by kernel_rfl) (fun _ _ _ h => h) (Or.inl ⟨by rfl, ?_⟩) ?_ ?_
    rotate_left
    · intro w'
      go_simp
      with_reducible rfl
    rotate_left
    · simp only [Act.put, List.setIfInBounds_toArray, List.set_cons_zero, List.set_cons_succ, i64_w, i32_w]
      rfl
    refine take_ (i := 39) (N := some 88) (v := ?_) (a' := ?_) (marks 60 1099511627775) rfl rfl (by kernel_rfl) (fun _ _ _ h => h) (Or.inl ⟨by rfl, ?_⟩) hHeld ?_ ?_
    rotate_left
    · rintro w' ⟨s0, s1, s2, s3, s4, s5, s6, s7, s8, s9, s10, s11, s12, s13⟩
      go_simp
      with_reducible rfl
    rotate_left
    · simp only [Act.put, List.setIfInBounds_toArray, List.set_cons_zero, List.set_cons_succ, i64_w, i32_w]
      rfl
    refine take_ (i := 41) (N := some 90) (v := ?_) (a' := ?_) (marks 60 3298534883327) rfl rfl (by kernel_rfl) (fun _ _ _ h => h) (Or.inl ⟨by rfl, ?_⟩) hHeld ?_ ?_
    rotate_left
    · rintro w' ⟨s0, s1, s2, s3, s4, s5, s6, s7, s8, s9, s10, s11, s12, s13⟩
      go_simp
      with_reducible rfl
    rotate_left
    · simp only [Act.put, List.setIfInBounds_toArray, List.set_cons_zero, List.set_cons_succ, i64_w, i32_w]
      rfl
    refine one_ (i := 40) (N := some 89) (marks 60 4398046511103) rfl rfl (by kernel_rfl) (by decide) (fun K hK => ?_)
    refine goes_ Tryz.func19 (by kernel_rfl) rfl #[.agg #[.slice A0 d1.length a0, .slice A1 d2.length a1, .slice A2 d3.length a2, .slice A3 d4.length a3, .int .i64 d5, .int .i64 d6]] (by rfl) rfl rfl (by (try simp only [List.map_toArray, List.map_cons, List.map_nil]); first | done | rfl | (go_simp; done)) ?_
    with_reducible refine (CU1.out _ _ _ _ _ _ _ _ _ Do.out).mono ?_
    rintro e w1 ⟨rfl, hb⟩
    refine ⟨_, rfl, ?_⟩
    replace BL := Aside0.mk (BL.out.trans (hb.mono BL.out.size)); (try replace BD := Aside0.mk ((hb.block gD (blk_lt BD.out)).trans BD.out)); (try replace BX := Aside0.mk ((hb.block gX (blk_lt BX.out)).trans BX.out)); (try replace BN := Aside0.mk ((hb.block gN (blk_lt BN.out)).trans BN.out)); (try replace Do := Aside0.mk (Do.out.on hb)); (try replace DX := Aside0.mk (DX.out.on hb)); (try replace RN := Aside0.mk (Kd.R_below RN.out hb))
    clear hb
    refine hK.out _ _ ⟨(blk_cell BD.out 0).trans rfl, (blk_cell BD.out 1).trans rfl, (blk_cell BD.out 2).trans rfl, (blk_cell BD.out 3).trans rfl, (blk_cell BD.out 4).trans rfl, (blk_cell BD.out 5).trans rfl, (blk_cell BX.out 0).trans rfl, (blk_cell BX.out 1).trans rfl, (blk_cell BX.out 2).trans rfl, (blk_cell BX.out 3).trans rfl, (blk_cell BX.out 4).trans rfl, (blk_cell BX.out 5).trans rfl, (blk_cell BN.out 0).trans rfl, (blk_cell BN.out 1).trans rfl⟩ (fun hHeld => ?_)
    clear hK K
    refine norm_ (a' := ?_) ?_ ?_
    rotate_left
    · show Act.put _ (some 89) _ = _
      simp only [Act.put, List.setIfInBounds_toArray, List.set_cons_zero, List.set_cons_succ, i64_w, i32_w]
      rfl
    refine one_ (i := 42) (N := some 91) (marks 60 8796093022207) rfl rfl (by kernel_rfl) (by decide) (fun K hK => ?_)
    refine goes_ Tryz.func20 (by kernel_rfl) rfl #[.agg #[.slice A0 d1.length a0, .slice A1 d2.length a1, .slice A2 d3.length a2, .slice A3 d4.length a3, .int .i64 d5, .int .i64 d6]] (by rfl) rfl rfl (by (try simp only [List.map_toArray, List.map_cons, List.map_nil]); first | done | rfl | (go_simp; done)) ?_
    with_reducible refine (CU2.out _ _ _ _ _ _ _ _ _ Do.out).mono ?_
    rintro e w1 ⟨rfl, hb⟩
    refine ⟨_, rfl, ?_⟩
    replace BL := Aside0.mk (BL.out.trans (hb.mono BL.out.size)); (try replace BD := Aside0.mk ((hb.block gD (blk_lt BD.out)).trans BD.out)); (try replace BX := Aside0.mk ((hb.block gX (blk_lt BX.out)).trans BX.out)); (try replace BN := Aside0.mk ((hb.block gN (blk_lt BN.out)).trans BN.out)); (try replace Do := Aside0.mk (Do.out.on hb)); (try replace DX := Aside0.mk (DX.out.on hb)); (try replace RN := Aside0.mk (Kd.R_below RN.out hb))
    clear hb
    refine hK.out _ _ ⟨(blk_cell BD.out 0).trans rfl, (blk_cell BD.out 1).trans rfl, (blk_cell BD.out 2).trans rfl, (blk_cell BD.out 3).trans rfl, (blk_cell BD.out 4).trans rfl, (blk_cell BD.out 5).trans rfl, (blk_cell BX.out 0).trans rfl, (blk_cell BX.out 1).trans rfl, (blk_cell BX.out 2).trans rfl, (blk_cell BX.out 3).trans rfl, (blk_cell BX.out 4).trans rfl, (blk_cell BX.out 5).trans rfl, (blk_cell BN.out 0).trans rfl, (blk_cell BN.out 1).trans rfl⟩ (fun hHeld => ?_)
    clear hK K
    refine norm_ (a' := ?_) ?_ ?_
    rotate_left
    · show Act.put _ (some 91) _ = _
      simp only [Act.put, List.setIfInBounds_toArray, List.set_cons_zero, List.set_cons_succ, i64_w, i32_w]
      rfl
    refine pure_ (i := 43) (N := some 92) (v := ?_) (a' := ?_) (marks 60 17592186044415) rfl rfl (by kernel_rfl) (fun _ _ _ h => h) (Or.inl ⟨by rfl, ?_⟩) ?_ ?_
    rotate_left
    · intro w'
      go_simp
      with_reducible rfl
    rotate_left
    · simp only [Act.put, List.setIfInBounds_toArray, List.set_cons_zero, List.set_cons_succ, i64_w, i32_w]
      rfl
    refine pure_ (i := 44) (N := some 93) (v := ?_) (a' := ?_) (marks 60 35184372088831) rfl rfl (by kernel_rfl) (fun _ _ _ h => h) (Or.inl ⟨by rfl, ?_⟩) ?_ ?_
    rotate_left
    · intro w'
      go_simp
      with_reducible rfl
    rotate_left
    · simp only [Act.put, List.setIfInBounds_toArray, List.set_cons_zero, List.set_cons_succ, i64_w, i32_w]
      rfl
    refine pure_ (i := 45) (N := some 94) (v := ?_) (a' := ?_) (marks 60 70368744177663) rfl rfl (by kernel_rfl) (fun _ _ _ h => h) (Or.inl ⟨by rfl, ?_⟩) ?_ ?_
    rotate_left
    · intro w'
      go_simp
      with_reducible rfl
    rotate_left
    · simp only [Act.put, List.setIfInBounds_toArray, List.set_cons_zero, List.set_cons_succ, i64_w, i32_w]
      rfl
    refine take_ (i := 46) (N := some 95) (v := ?_) (a' := ?_) (marks 60 140737488355327) rfl rfl (by kernel_rfl) (fun _ _ _ h => h) (Or.inl ⟨by rfl, ?_⟩) hHeld ?_ ?_
    rotate_left
    · rintro w' ⟨s0, s1, s2, s3, s4, s5, s6, s7, s8, s9, s10, s11, s12, s13⟩
      go_simp
      with_reducible rfl
    rotate_left
    · simp only [Act.put, List.setIfInBounds_toArray, List.set_cons_zero, List.set_cons_succ, i64_w, i32_w]
      rfl
    refine one_ (i := 47) (N := some 96) (marks 60 281474976710655) rfl rfl (by kernel_rfl) (by decide) (fun K hK => ?_)
    refine goes_ Tryz.func9 (by kernel_rfl) rfl #[.agg #[.slice X0 x1.length y0, .slice X1 x2.length y1, .slice X2 x3.length y2, .slice X3 x4.length y3, .int .i64 50, .int .i64 1]] (by rfl) rfl rfl (by (try simp only [List.map_toArray, List.map_cons, List.map_nil]); first | done | rfl | (go_simp; done)) ?_
    with_reducible refine (CS2.out _ _ _ _ _ _ _ _ _ DX.out).mono ?_
    rintro e w1 ⟨rfl, hb⟩
    refine ⟨_, rfl, ?_⟩
    replace BL := Aside0.mk (BL.out.trans (hb.mono BL.out.size)); (try replace BD := Aside0.mk ((hb.block gD (blk_lt BD.out)).trans BD.out)); (try replace BX := Aside0.mk ((hb.block gX (blk_lt BX.out)).trans BX.out)); (try replace BN := Aside0.mk ((hb.block gN (blk_lt BN.out)).trans BN.out)); (try replace Do := Aside0.mk (Do.out.on hb)); (try replace DX := Aside0.mk (DX.out.on hb)); (try replace RN := Aside0.mk (Kd.R_below RN.out hb))
    clear hb
    refine hK.out _ _ ⟨(blk_cell BD.out 0).trans rfl, (blk_cell BD.out 1).trans rfl, (blk_cell BD.out 2).trans rfl, (blk_cell BD.out 3).trans rfl, (blk_cell BD.out 4).trans rfl, (blk_cell BD.out 5).trans rfl, (blk_cell BX.out 0).trans rfl, (blk_cell BX.out 1).trans rfl, (blk_cell BX.out 2).trans rfl, (blk_cell BX.out 3).trans rfl, (blk_cell BX.out 4).trans rfl, (blk_cell BX.out 5).trans rfl, (blk_cell BN.out 0).trans rfl, (blk_cell BN.out 1).trans rfl⟩ (fun hHeld => ?_)
    clear hK K
    refine norm_ (a' := ?_) ?_ ?_
    rotate_left
    · show Act.put _ (some 96) _ = _
      simp only [Act.put, List.setIfInBounds_toArray, List.set_cons_zero, List.set_cons_succ, i64_w, i32_w]
      rfl
    refine pure_ (i := 48) (N := some 97) (v := ?_) (a' := ?_) (marks 60 562949953421311) rfl rfl (by kernel_rfl) (fun _ _ _ h => h) (Or.inl ⟨by rfl, ?_⟩) ?_ ?_
    rotate_left
    · intro w'
      go_simp
      with_reducible rfl
    rotate_left
    · simp only [Act.put, List.setIfInBounds_toArray, List.set_cons_zero, List.set_cons_succ, i64_w, i32_w]
      rfl
    refine pure_ (i := 49) (N := some 98) (v := ?_) (a' := ?_) (marks 60 1125899906842623) rfl rfl (by kernel_rfl) (fun _ _ _ h => h) (Or.inl ⟨by rfl, ?_⟩) ?_ ?_
    rotate_left
    · intro w'
      go_simp
      with_reducible rfl
    rotate_left
    · simp only [Act.put, List.setIfInBounds_toArray, List.set_cons_zero, List.set_cons_succ, i64_w, i32_w]
      rfl
    refine pure_ (i := 50) (N := some 99) (v := ?_) (a' := ?_) (marks 60 2251799813685247) rfl rfl (by kernel_rfl) (fun _ _ _ h => h) (Or.inl ⟨by rfl, ?_⟩) ?_ ?_
    rotate_left
    · intro w'
      go_simp
      with_reducible rfl
    rotate_left
    · simp only [Act.put, List.setIfInBounds_toArray, List.set_cons_zero, List.set_cons_succ, i64_w, i32_w]
      rfl
    refine take_ (i := 51) (N := some 100) (v := ?_) (a' := ?_) (marks 60 4503599627370495) rfl rfl (by kernel_rfl) (fun _ _ _ h => h) (Or.inl ⟨by rfl, ?_⟩) hHeld ?_ ?_
    rotate_left
    · rintro w' ⟨s0, s1, s2, s3, s4, s5, s6, s7, s8, s9, s10, s11, s12, s13⟩
      go_simp
      with_reducible rfl
    rotate_left
    · simp only [Act.put, List.setIfInBounds_toArray, List.set_cons_zero, List.set_cons_succ, i64_w, i32_w]
      rfl
    refine pure_ (i := 52) (N := some 101) (v := ?_) (a' := ?_) (marks 60 9007199254740991) rfl rfl (by kernel_rfl) (fun _ _ _ h => h) (Or.inl ⟨by rfl, ?_⟩) ?_ ?_
    rotate_left
    · intro w'
      go_simp
      with_reducible rfl
    rotate_left
    · simp only [Act.put, List.setIfInBounds_toArray, List.set_cons_zero, List.set_cons_succ, i64_w, i32_w]
      rfl
    refine pure_ (i := 53) (N := some 102) (v := ?_) (a' := ?_) (marks 60 18014398509481983) rfl rfl (by kernel_rfl) (fun _ _ _ h => h) (Or.inl ⟨by rfl, ?_⟩) ?_ ?_
    rotate_left
    · intro w'
      go_simp
      with_reducible rfl
    rotate_left
    · simp only [Act.put, List.setIfInBounds_toArray, List.set_cons_zero, List.set_cons_succ, i64_w, i32_w]
      rfl
    refine pure_ (i := 54) (N := some 103) (v := ?_) (a' := ?_) (marks 60 36028797018963967) rfl rfl (by kernel_rfl) (fun _ _ _ h => h) (Or.inl ⟨by rfl, ?_⟩) ?_ ?_
    rotate_left
    · intro w'
      go_simp
      with_reducible rfl
    rotate_left
    · simp only [Act.put, List.setIfInBounds_toArray, List.set_cons_zero, List.set_cons_succ, i64_w, i32_w]
      rfl
    refine pure_ (i := 55) (N := some 104) (v := ?_) (a' := ?_) (marks 60 72057594037927935) rfl rfl (by kernel_rfl) (fun _ _ _ h => h) (Or.inl ⟨by rfl, ?_⟩) ?_ ?_
    rotate_left
    · intro w'
      go_simp
      with_reducible rfl
    rotate_left
    · simp only [Act.put, List.setIfInBounds_toArray, List.set_cons_zero, List.set_cons_succ, i64_w, i32_w]
      rfl
    refine take_ (i := 56) (N := some 105) (v := ?_) (a' := ?_) (marks 60 144115188075855871) rfl rfl (by kernel_rfl) (fun _ _ _ h => h) (Or.inl ⟨by rfl, ?_⟩) hHeld ?_ ?_
    rotate_left
    · rintro w' ⟨s0, s1, s2, s3, s4, s5, s6, s7, s8, s9, s10, s11, s12, s13⟩
      go_simp
      with_reducible rfl
    rotate_left
    · simp only [Act.put, List.setIfInBounds_toArray, List.set_cons_zero, List.set_cons_succ, i64_w, i32_w]
      rfl
    refine pure_ (i := 57) (N := some 106) (v := ?_) (a' := ?_) (marks 60 288230376151711743) rfl rfl (by kernel_rfl) (fun _ _ _ h => h) (Or.inl ⟨by rfl, ?_⟩) ?_ ?_
    rotate_left
    · intro w'
      go_simp
      with_reducible rfl
    rotate_left
    · simp only [Act.put, List.setIfInBounds_toArray, List.set_cons_zero, List.set_cons_succ, i64_w, i32_w]
      rfl
    refine pure_ (i := 58) (N := some 107) (v := ?_) (a' := ?_) (marks 60 576460752303423487) rfl rfl (by kernel_rfl) (fun _ _ _ h => h) (Or.inl ⟨by rfl, ?_⟩) ?_ ?_
    rotate_left
    · intro w'
      go_simp
      with_reducible rfl
    rotate_left
    · simp only [Act.put, List.setIfInBounds_toArray, List.set_cons_zero, List.set_cons_succ, i64_w, i32_w]
      rfl
    refine pure_ (i := 59) (N := some 2) (v := ?_) (a' := ?_) (marks 60 1152921504606846975) rfl rfl (by kernel_rfl) (fun _ _ _ h => h) (Or.inl ⟨by rfl, ?_⟩) ?_ ?_
    rotate_left
    · intro w'
      go_simp
      with_reducible rfl
    rotate_left
    · simp only [Act.put, List.setIfInBounds_toArray, List.set_cons_zero, List.set_cons_succ, i64_w, i32_w]
      rfl
    refine done_ (by kernel_rfl) ?_
    go_wp2_with fail
    go_ret
    exact ⟨rfl, BL.out⟩
/-- THE ONE PURE STATEMENT of laws_FnDisks: yours. -/
def laws_FnDisks.Pure : Prop := ∀ (l0 : List Int), l0.length ≤ maxLen → l0.length * 1 ≤ 140737488351232 → (∀ x ∈ l0, (Lit.int .u8 x).wf = true) → ∃ k, laws_FnDisks.f k l0 = some true
theorem laws_FnDisks.walk (P : laws_FnDisks.Pure) (a0 : Option Addr) (len0 cap0 : Nat) (z0 : List Int) (w : World) (w0 : (a0 = none ∧ len0 = 0 ∧ cap0 = 0 ∧ z0 = []) ∨ ∃ x, a0 = some x ∧ len0 ≤ cap0 ∧ cap0 ≤ maxLen ∧ z0.length = cap0 ∧ (∀ i, i < z0.length → w.cell? (x.add i) = some (.int .u8 (z0.getD i 0))) ∧ ∀ n ∈ z0, (Lit.int .u8 n).wf = true) (y0 : len0 * 1 ≤ 140737488351232) (hTE : TabsE w) (hTP : TabsP w) :
  Calls Tryz.prog 3 #[.slice a0 len0 cap0] w fun e w' => e = .returned (.bool true) ∧ Below w.heap.size w w' := by
 obtain ⟨l0, rfl, hr0, hm0, hw0, hc0⟩ := ReadsInt.ofRowC w0
 obtain ⟨k, h⟩ := P l0 hm0 y0 hw0
 refine (laws_FnDisks.calls k _ _ l0 true w (Kd.C_of_reads (d := (0 : Int)) (h1 := fun _ => rfl) hr0) hc0 hTE hTP h ⟨rfl⟩).mono ?_
 rintro e w' ⟨rfl, hd⟩
 exact ⟨rfl, hd⟩

end Go.Proofs.YthbffdjjmapaaaaGreatDoor.MFnDisks
