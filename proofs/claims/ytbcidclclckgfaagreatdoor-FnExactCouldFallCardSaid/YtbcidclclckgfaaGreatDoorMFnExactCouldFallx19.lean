/- Each theorem here says that a call of one Go function answers what the Lean function beside it answers; its conditions stand in it. Written by a program of this session. -/
import Derived.Test.YtbcidclclckgfaaGreatDoorMFnExactCouldFallx0
import Derived.Test.YtbcidclclckgfaaGreatDoorMFnExactCouldFallx3
import Derived.Test.YtbcidclclckgfaaGreatDoorMFnExactCouldFallx4
import Derived.Test.YtbcidclclckgfaaGreatDoorMFnExactCouldFallx5
import Derived.Test.YtbcidclclckgfaaGreatDoorMFnExactCouldFallx13
import Derived.Test.YtbcidclclckgfaaGreatDoorMFnExactCouldFallx14
import Derived.Test.YtbcidclclckgfaaGreatDoorMFnExactCouldFallx18
namespace Go.Proofs.YtbcidclclckgfaaGreatDoor.MFnExactCouldFall
open Go.RowKit Go.Proofs.YtbcidclclckgfaaGreatDoorW.PrintWords Go.Proofs.YtbcidclclckgfaaGreatDoorW.PrintLast Go.Proofs.YtbcidclclckgfaaGreatDoorW.PrintMore
attribute [local go_sem] max2_int min2_int max_two min_two max_three min_three max_four min_four   -- for this text's walks alone
set_option linter.unusedVariables false
set_option linter.unusedSimpArgs false

/-! ### laws_FnExactCouldFall: function 8 -/
def laws_FnExactCouldFall.f (k : Nat) (l0_0 : List S110) (l0_1 : List S112) (l0_2 : List S112) (l0_3 : List ByteArray) (a0_4 : Int) (a0_5 : Int) (l1_0 : List S110) (l1_1 : List S112) (l1_2 : List S112) (l1_3 : List ByteArray) (a1_4 : Int) (a1_5 : Int) : Option Bool := (laws_szDisk.f k l0_0 l0_1 l0_2 l0_3 a0_4 a0_5 1048576).bind fun t => if t < 0 then some true else (laws_szDisk.f k l1_0 l1_1 l1_2 l1_3 a1_4 a1_5 t).bind fun u => if u < 0 then some true else (laws_toDisk.f k l0_0 l0_1 l0_2 l0_3 a0_4 a0_5).bind fun x => (laws_toDisk.f k l1_0 l1_1 l1_2 l1_3 a1_4 a1_5).bind fun y => (spec_CouldFall.f k (x.1) (x.2.1) (x.2.2.1) (x.2.2.2.1) (x.2.2.2.2.1) (x.2.2.2.2.2) (y.1) (y.2.1) (y.2.2.1) (y.2.2.2.1) (y.2.2.2.2.1) (y.2.2.2.2.2)).bind fun s => (impl_CouldFall.f k (x.1) (x.2.1) (x.2.2.1) (x.2.2.2.1) (x.2.2.2.2.1) (x.2.2.2.2.2) (y.1) (y.2.1) (y.2.2.1) (y.2.2.2.1) (y.2.2.2.2.1) (y.2.2.2.2.2)).bind fun g => (laws_eqDisk.f k (x.1) (x.2.1) (x.2.2.1) (x.2.2.2.1) (x.2.2.2.2.1) (x.2.2.2.2.2) (x.1) (x.2.1) (x.2.2.1) (x.2.2.2.1) (x.2.2.2.2.1) (x.2.2.2.2.2)).bind fun e1 => (laws_eqDisk.f k (y.1) (y.2.1) (y.2.2.1) (y.2.2.2.1) (y.2.2.2.2.1) (y.2.2.2.2.2) (y.1) (y.2.1) (y.2.2.1) (y.2.2.2.1) (y.2.2.2.2.1) (y.2.2.2.2.2)).bind fun e2 => if g = s ∧ e1 = true ∧ e2 = true then some true else none
theorem laws_FnExactCouldFall.mono : ∀ l0_0 l0_1 l0_2 l0_3 a0_4 a0_5 l1_0 l1_1 l1_2 l1_3 a1_4 a1_5 k, LeO (laws_FnExactCouldFall.f k l0_0 l0_1 l0_2 l0_3 a0_4 a0_5 l1_0 l1_1 l1_2 l1_3 a1_4 a1_5) (laws_FnExactCouldFall.f (k + 1) l0_0 l0_1 l0_2 l0_3 a0_4 a0_5 l1_0 l1_1 l1_2 l1_3 a1_4 a1_5) := by
  intro l0_0 l0_1 l0_2 l0_3 a0_4 a0_5 l1_0 l1_1 l1_2 l1_3 a1_4 a1_5 k
  exact LeO.bind (laws_szDisk.mono _ _ _ _ _ _ _ k) fun _ => LeO.ite (LeO.refl _) (LeO.bind (laws_szDisk.mono _ _ _ _ _ _ _ k) fun _ => LeO.ite (LeO.refl _) (LeO.bind (laws_toDisk.mono _ _ _ _ _ _  k) fun _ => LeO.bind (laws_toDisk.mono _ _ _ _ _ _  k) fun _ => LeO.bind (spec_CouldFall.mono _ _ _ _ _ _ _ _ _ _ _ _  k) fun _ => LeO.bind (impl_CouldFall.mono _ _ _ _ _ _ _ _ _ _ _ _  k) fun _ => LeO.bind (laws_eqDisk.mono _ _ _ _ _ _ _ _ _ _ _ _  k) fun _ => LeO.bind (laws_eqDisk.mono _ _ _ _ _ _ _ _ _ _ _ _  k) fun _ => LeO.refl _))
set_option maxHeartbeats 4000000 in
set_option maxRecDepth 100000 in
theorem laws_FnExactCouldFall.calls (k : Nat) (A0_0 : Option Addr) (c0_0 : Nat) (l0_0 : List (S110)) (A0_1 : Option Addr) (c0_1 : Nat) (l0_1 : List (S112)) (A0_2 : Option Addr) (c0_2 : Nat) (l0_2 : List (S112)) (A0_3 : Option Addr) (c0_3 : Nat) (l0_3 : List (ByteArray)) (a0_4 : Int) (a0_5 : Int) (A1_0 : Option Addr) (c1_0 : Nat) (l1_0 : List (S110)) (A1_1 : Option Addr) (c1_1 : Nat) (l1_1 : List (S112)) (A1_2 : Option Addr) (c1_2 : Nat) (l1_2 : List (S112)) (A1_3 : Option Addr) (c1_3 : Nat) (l1_3 : List (ByteArray)) (a1_4 : Int) (a1_5 : Int) (r : Bool) (w : World) (hr0_0 : Kd.C k110 w A0_0 l0_0.length l0_0) (hc0_0 : l0_0.length ≤ c0_0) (hr0_1 : Kd.C k112 w A0_1 l0_1.length l0_1) (hc0_1 : l0_1.length ≤ c0_1) (hr0_2 : Kd.C k112 w A0_2 l0_2.length l0_2) (hc0_2 : l0_2.length ≤ c0_2) (hr0_3 : Kd.C Kd.string w A0_3 l0_3.length l0_3) (hc0_3 : l0_3.length ≤ c0_3) (hr1_0 : Kd.C k110 w A1_0 l1_0.length l1_0) (hc1_0 : l1_0.length ≤ c1_0) (hr1_1 : Kd.C k112 w A1_1 l1_1.length l1_1) (hc1_1 : l1_1.length ≤ c1_1) (hr1_2 : Kd.C k112 w A1_2 l1_2.length l1_2) (hc1_2 : l1_2.length ≤ c1_2) (hr1_3 : Kd.C Kd.string w A1_3 l1_3.length l1_3) (hc1_3 : l1_3.length ≤ c1_3) (hTE : TabsE w) (hTP : TabsP w) (h : laws_FnExactCouldFall.f k l0_0 l0_1 l0_2 l0_3 a0_4 a0_5 l1_0 l1_1 l1_2 l1_3 a1_4 a1_5 = some r) (hr_ : Aside0 (r = true)) :
    Calls Tryz.prog 8 #[.agg #[.slice A0_0 l0_0.length c0_0, .slice A0_1 l0_1.length c0_1, .slice A0_2 l0_2.length c0_2, .slice A0_3 l0_3.length c0_3, .int .i64 a0_4, .int .i64 a0_5], .agg #[.slice A1_0 l1_0.length c1_0, .slice A1_1 l1_1.length c1_1, .slice A1_2 l1_2.length c1_2, .slice A1_3 l1_3.length c1_3, .int .i64 a1_4, .int .i64 a1_5]] w fun e w' => e = .returned (.bool r) ∧ Below w.heap.size w w' := by
  obtain rfl := hr_.out
  clear hr_
  unfold laws_FnExactCouldFall.f at h
  have BL := Aside0.mk (Below.refl w.heap.size w)
  replace h := Option.bind_eq_some_iff.mp h
  obtain ⟨t, ht, h⟩ := h
  have CZ := Aside0.mk (fun (w1 : World) (hb : Below w.heap.size w w1) => laws_szDisk.calls k A0_0 c0_0 l0_0 A0_1 c0_1 l0_1 A0_2 c0_2 l0_2 A0_3 c0_3 l0_3 a0_4 a0_5 1048576 t w1 (Kd.C_below hr0_0 hb) hc0_0 (Kd.C_below hr0_1 hb) hc0_1 (Kd.C_below hr0_2 hb) hc0_2 (Kd.C_below hr0_3 hb) hc0_3 ht)
  by_cases tn : t < 0
  · have dt : decide (t < 0) = true := decide_eq_true tn
    clear h ht hr0_0 hr0_1 hr0_2 hr0_3 hr1_0 hr1_1 hr1_2 hr1_3
    go_enter Tryz.func8, Tryz.ntmps8
    go_wp2_with (first | ((with_reducible refine gate_dst (N := 2) rfl ?_); refine box_event ?hg (N := 2) ?hd (cs := #[.slice A0_0 l0_0.length c0_0, .slice A0_1 l0_1.length c0_1, .slice A0_2 l0_2.length c0_2, .slice A0_3 l0_3.length c0_3, .int .i64 a0_4, .int .i64 a0_5]) (t := 26) ?hr ?_; (case hd => rfl); (case hg => rfl); (case hr => first | (go_simp; done) | (go_simp; rfl)); intro gbA_ hg w1 hbox hb; replace BL := Aside0.mk (BL.out.trans (hb.mono BL.out.size)); have fbA_ := Aside0.mk hbox; clear hb; obtain ⟨iA0, iA1, iA2, iA3, iA4, iA5⟩ := blk6 fbA_.out; clear hg hbox) | ((with_reducible refine gate_dst (N := 3) rfl ?_); refine box_event ?hg (N := 3) ?hd (cs := #[.slice A1_0 l1_0.length c1_0, .slice A1_1 l1_1.length c1_1, .slice A1_2 l1_2.length c1_2, .slice A1_3 l1_3.length c1_3, .int .i64 a1_4, .int .i64 a1_5]) (t := 26) ?hr ?_; (case hd => rfl); (case hg => rfl); (case hr => first | (go_simp; done) | (go_simp; rfl)); intro gbB_ hg w1 hbox hb; replace BL := Aside0.mk (BL.out.trans (hb.mono BL.out.size)); replace fbA_ := Aside0.mk ((hb.block gbA_ (blk_lt fbA_.out)).trans fbA_.out); have fbB_ := Aside0.mk hbox; clear hb; clear iA0 iA1 iA2 iA3 iA4 iA5; obtain ⟨iA0, iA1, iA2, iA3, iA4, iA5⟩ := blk6 fbA_.out; obtain ⟨iB0, iB1, iB2, iB3, iB4, iB5⟩ := blk6 fbB_.out; clear hg hbox) | (go_at_call 15; (with_reducible refine (CZ.out _ BL.out).mono ?_); rintro e w1 ⟨rfl, hb⟩; replace BL := Aside0.mk (BL.out.trans (hb.mono BL.out.size)); replace fbA_ := Aside0.mk ((hb.block gbA_ (blk_lt fbA_.out)).trans fbA_.out); replace fbB_ := Aside0.mk ((hb.block gbB_ (blk_lt fbB_.out)).trans fbB_.out); clear hb; clear iA0 iA1 iA2 iA3 iA4 iA5 iB0 iB1 iB2 iB3 iB4 iB5; obtain ⟨iA0, iA1, iA2, iA3, iA4, iA5⟩ := blk6 fbA_.out; obtain ⟨iB0, iB1, iB2, iB3, iB4, iB5⟩ := blk6 fbB_.out))
    go_ret
    exact ⟨rfl, BL.out⟩
  rw [if_neg tn] at h
  have dt : decide (t < 0) = false := decide_eq_false tn
  clear tn ht
  replace h := Option.bind_eq_some_iff.mp h
  obtain ⟨u, hu, h⟩ := h
  have CY := Aside0.mk (fun (w1 : World) (hb : Below w.heap.size w w1) => laws_szDisk.calls k A1_0 c1_0 l1_0 A1_1 c1_1 l1_1 A1_2 c1_2 l1_2 A1_3 c1_3 l1_3 a1_4 a1_5 t u w1 (Kd.C_below hr1_0 hb) hc1_0 (Kd.C_below hr1_1 hb) hc1_1 (Kd.C_below hr1_2 hb) hc1_2 (Kd.C_below hr1_3 hb) hc1_3 hu)
  by_cases tn : u < 0
  · have du : decide (u < 0) = true := decide_eq_true tn
    clear h hu hr0_0 hr0_1 hr0_2 hr0_3 hr1_0 hr1_1 hr1_2 hr1_3
    go_enter Tryz.func8, Tryz.ntmps8
    go_wp2_with (first | ((with_reducible refine gate_dst (N := 2) rfl ?_); refine box_event ?hg (N := 2) ?hd (cs := #[.slice A0_0 l0_0.length c0_0, .slice A0_1 l0_1.length c0_1, .slice A0_2 l0_2.length c0_2, .slice A0_3 l0_3.length c0_3, .int .i64 a0_4, .int .i64 a0_5]) (t := 26) ?hr ?_; (case hd => rfl); (case hg => rfl); (case hr => first | (go_simp; done) | (go_simp; rfl)); intro gbA_ hg w1 hbox hb; replace BL := Aside0.mk (BL.out.trans (hb.mono BL.out.size)); have fbA_ := Aside0.mk hbox; clear hb; obtain ⟨iA0, iA1, iA2, iA3, iA4, iA5⟩ := blk6 fbA_.out; clear hg hbox) | ((with_reducible refine gate_dst (N := 3) rfl ?_); refine box_event ?hg (N := 3) ?hd (cs := #[.slice A1_0 l1_0.length c1_0, .slice A1_1 l1_1.length c1_1, .slice A1_2 l1_2.length c1_2, .slice A1_3 l1_3.length c1_3, .int .i64 a1_4, .int .i64 a1_5]) (t := 26) ?hr ?_; (case hd => rfl); (case hg => rfl); (case hr => first | (go_simp; done) | (go_simp; rfl)); intro gbB_ hg w1 hbox hb; replace BL := Aside0.mk (BL.out.trans (hb.mono BL.out.size)); replace fbA_ := Aside0.mk ((hb.block gbA_ (blk_lt fbA_.out)).trans fbA_.out); have fbB_ := Aside0.mk hbox; clear hb; clear iA0 iA1 iA2 iA3 iA4 iA5; obtain ⟨iA0, iA1, iA2, iA3, iA4, iA5⟩ := blk6 fbA_.out; obtain ⟨iB0, iB1, iB2, iB3, iB4, iB5⟩ := blk6 fbB_.out; clear hg hbox) | (go_at_call 15; (with_reducible refine (CZ.out _ BL.out).mono ?_); rintro e w1 ⟨rfl, hb⟩; replace BL := Aside0.mk (BL.out.trans (hb.mono BL.out.size)); replace fbA_ := Aside0.mk ((hb.block gbA_ (blk_lt fbA_.out)).trans fbA_.out); replace fbB_ := Aside0.mk ((hb.block gbB_ (blk_lt fbB_.out)).trans fbB_.out); clear hb; clear iA0 iA1 iA2 iA3 iA4 iA5 iB0 iB1 iB2 iB3 iB4 iB5; obtain ⟨iA0, iA1, iA2, iA3, iA4, iA5⟩ := blk6 fbA_.out; obtain ⟨iB0, iB1, iB2, iB3, iB4, iB5⟩ := blk6 fbB_.out) | (go_at_call 15; (with_reducible refine (CY.out _ BL.out).mono ?_); rintro e w1 ⟨rfl, hb⟩; replace BL := Aside0.mk (BL.out.trans (hb.mono BL.out.size)); replace fbA_ := Aside0.mk ((hb.block gbA_ (blk_lt fbA_.out)).trans fbA_.out); replace fbB_ := Aside0.mk ((hb.block gbB_ (blk_lt fbB_.out)).trans fbB_.out); clear hb; clear iA0 iA1 iA2 iA3 iA4 iA5 iB0 iB1 iB2 iB3 iB4 iB5; obtain ⟨iA0, iA1, iA2, iA3, iA4, iA5⟩ := blk6 fbA_.out; obtain ⟨iB0, iB1, iB2, iB3, iB4, iB5⟩ := blk6 fbB_.out))
    go_ret
    exact ⟨rfl, BL.out⟩
  rw [if_neg tn] at h
  have du : decide (u < 0) = false := decide_eq_false tn
  clear tn hu
  replace h := Option.bind_eq_some_iff.mp h
  obtain ⟨⟨x1, x2, x3, x4, x5, x6⟩, hx, h⟩ := h
  replace h := Option.bind_eq_some_iff.mp h
  obtain ⟨⟨y1, y2, y3, y4, y5, y6⟩, hy, h⟩ := h
  replace h := Option.bind_eq_some_iff.mp h
  obtain ⟨s, hs, h⟩ := h
  replace h := Option.bind_eq_some_iff.mp h
  obtain ⟨g, hgv, h⟩ := h
  replace h := Option.bind_eq_some_iff.mp h
  obtain ⟨e1, he1, h⟩ := h
  replace h := Option.bind_eq_some_iff.mp h
  obtain ⟨e2, he2, h⟩ := h
  dsimp only at hs hgv he1 he2 h
  split at h
  case isFalse => cases h
  rename_i hh
  obtain ⟨rg, re1, re2⟩ := hh
  clear h
  subst rg re1 re2
  have CT := Aside0.mk (fun (w1 : World) (hb : Below w.heap.size w w1) => laws_toDisk.calls k A0_0 c0_0 l0_0 A0_1 c0_1 l0_1 A0_2 c0_2 l0_2 A0_3 c0_3 l0_3 a0_4 a0_5 x1 x2 x3 x4 x5 x6 w1 (Kd.C_below hr0_0 hb) hc0_0 (Kd.C_below hr0_1 hb) hc0_1 (Kd.C_below hr0_2 hb) hc0_2 (Kd.C_below hr0_3 hb) hc0_3 hx)
  have CU := Aside0.mk (fun (w1 : World) (hb : Below w.heap.size w w1) => laws_toDisk.calls k A1_0 c1_0 l1_0 A1_1 c1_1 l1_1 A1_2 c1_2 l1_2 A1_3 c1_3 l1_3 a1_4 a1_5 y1 y2 y3 y4 y5 y6 w1 (Kd.C_below hr1_0 hb) hc1_0 (Kd.C_below hr1_1 hb) hc1_1 (Kd.C_below hr1_2 hb) hc1_2 (Kd.C_below hr1_3 hb) hc1_3 hy)
  have CSP := Aside0.mk (fun (w1 : World) (b1 b2 : Nat) (Ax0 : Option Addr) (cx0 : Nat) (Ax1 : Option Addr) (cx1 : Nat) (Ax2 : Option Addr) (cx2 : Nat) (Ax3 : Option Addr) (cx3 : Nat) (Ay0 : Option Addr) (cy0 : Nat) (Ay1 : Option Addr) (cy1 : Nat) (Ay2 : Option Addr) (cy2 : Nat) (Ay3 : Option Addr) (cy3 : Nat) (hb : Below w.heap.size w w1) (h1 : HasD w1 b1 (.slice Ax0 x1.length cx0) (.slice Ax1 x2.length cx1) (.slice Ax2 x3.length cx2) (.slice Ax3 x4.length cx3) x1 x2 x3 x4) (h2 : HasD w1 b2 (.slice Ay0 y1.length cy0) (.slice Ay1 y2.length cy1) (.slice Ay2 y3.length cy2) (.slice Ay3 y4.length cy3) y1 y2 y3 y4) => spec_CouldFall.calls k Ax0 cx0 x1 Ax1 cx1 x2 Ax2 cx2 x3 Ax3 cx3 x4 x5 x6 Ay0 cy0 y1 Ay1 cy1 y2 Ay2 cy2 y3 Ay3 cy3 y4 y5 y6 g w1 (Kd.R_reads' h1.r0).2.2 (Kd.R_reads' h1.r0).2.1 (Kd.R_reads' h1.r1).2.2 (Kd.R_reads' h1.r1).2.1 (Kd.R_reads' h1.r2).2.2 (Kd.R_reads' h1.r2).2.1 (Kd.R_reads' h1.r3).2.2 (Kd.R_reads' h1.r3).2.1 (Kd.R_reads' h2.r0).2.2 (Kd.R_reads' h2.r0).2.1 (Kd.R_reads' h2.r1).2.2 (Kd.R_reads' h2.r1).2.1 (Kd.R_reads' h2.r2).2.2 (Kd.R_reads' h2.r2).2.1 (Kd.R_reads' h2.r3).2.2 (Kd.R_reads' h2.r3).2.1 hs)
  have CIM := Aside0.mk (fun (w1 : World) (b1 b2 : Nat) (Ax0 : Option Addr) (cx0 : Nat) (Ax1 : Option Addr) (cx1 : Nat) (Ax2 : Option Addr) (cx2 : Nat) (Ax3 : Option Addr) (cx3 : Nat) (Ay0 : Option Addr) (cy0 : Nat) (Ay1 : Option Addr) (cy1 : Nat) (Ay2 : Option Addr) (cy2 : Nat) (Ay3 : Option Addr) (cy3 : Nat) (hb : Below w.heap.size w w1) (h1 : HasD w1 b1 (.slice Ax0 x1.length cx0) (.slice Ax1 x2.length cx1) (.slice Ax2 x3.length cx2) (.slice Ax3 x4.length cx3) x1 x2 x3 x4) (h2 : HasD w1 b2 (.slice Ay0 y1.length cy0) (.slice Ay1 y2.length cy1) (.slice Ay2 y3.length cy2) (.slice Ay3 y4.length cy3) y1 y2 y3 y4) => impl_CouldFall.calls k Ax0 cx0 x1 Ax1 cx1 x2 Ax2 cx2 x3 Ax3 cx3 x4 x5 x6 Ay0 cy0 y1 Ay1 cy1 y2 Ay2 cy2 y3 Ay3 cy3 y4 y5 y6 g w1 (Kd.R_reads' h1.r0).2.2 (Kd.R_reads' h1.r0).2.1 (Kd.R_reads' h1.r1).2.2 (Kd.R_reads' h1.r1).2.1 (Kd.R_reads' h1.r2).2.2 (Kd.R_reads' h1.r2).2.1 (Kd.R_reads' h1.r3).2.2 (Kd.R_reads' h1.r3).2.1 (Kd.R_reads' h2.r0).2.2 (Kd.R_reads' h2.r0).2.1 (Kd.R_reads' h2.r1).2.2 (Kd.R_reads' h2.r1).2.1 (Kd.R_reads' h2.r2).2.2 (Kd.R_reads' h2.r2).2.1 (Kd.R_reads' h2.r3).2.2 (Kd.R_reads' h2.r3).2.1 (hTE.below hb) (hTP.below hb) hgv)
  have CX := Aside0.mk (fun (w1 : World) (b1 b2 : Nat) (Ap0 : Option Addr) (cp0 : Nat) (Ap1 : Option Addr) (cp1 : Nat) (Ap2 : Option Addr) (cp2 : Nat) (Ap3 : Option Addr) (cp3 : Nat) (Aq0 : Option Addr) (cq0 : Nat) (Aq1 : Option Addr) (cq1 : Nat) (Aq2 : Option Addr) (cq2 : Nat) (Aq3 : Option Addr) (cq3 : Nat) (h1 : HasD w1 b1 (.slice Ap0 x1.length cp0) (.slice Ap1 x2.length cp1) (.slice Ap2 x3.length cp2) (.slice Ap3 x4.length cp3) x1 x2 x3 x4) (h2 : HasD w1 b2 (.slice Aq0 x1.length cq0) (.slice Aq1 x2.length cq1) (.slice Aq2 x3.length cq2) (.slice Aq3 x4.length cq3) x1 x2 x3 x4) => laws_eqDisk.calls k Ap0 cp0 x1 Ap1 cp1 x2 Ap2 cp2 x3 Ap3 cp3 x4 x5 x6 Aq0 cq0 x1 Aq1 cq1 x2 Aq2 cq2 x3 Aq3 cq3 x4 x5 x6 true w1 (Kd.R_reads' h1.r0).2.2 (Kd.R_reads' h1.r0).2.1 (Kd.R_reads' h1.r1).2.2 (Kd.R_reads' h1.r1).2.1 (Kd.R_reads' h1.r2).2.2 (Kd.R_reads' h1.r2).2.1 (Kd.R_reads' h1.r3).2.2 (Kd.R_reads' h1.r3).2.1 (Kd.R_reads' h2.r0).2.2 (Kd.R_reads' h2.r0).2.1 (Kd.R_reads' h2.r1).2.2 (Kd.R_reads' h2.r1).2.1 (Kd.R_reads' h2.r2).2.2 (Kd.R_reads' h2.r2).2.1 (Kd.R_reads' h2.r3).2.2 (Kd.R_reads' h2.r3).2.1 he1)
  have CW := Aside0.mk (fun (w1 : World) (b1 b2 : Nat) (Ap0 : Option Addr) (cp0 : Nat) (Ap1 : Option Addr) (cp1 : Nat) (Ap2 : Option Addr) (cp2 : Nat) (Ap3 : Option Addr) (cp3 : Nat) (Aq0 : Option Addr) (cq0 : Nat) (Aq1 : Option Addr) (cq1 : Nat) (Aq2 : Option Addr) (cq2 : Nat) (Aq3 : Option Addr) (cq3 : Nat) (h1 : HasD w1 b1 (.slice Ap0 y1.length cp0) (.slice Ap1 y2.length cp1) (.slice Ap2 y3.length cp2) (.slice Ap3 y4.length cp3) y1 y2 y3 y4) (h2 : HasD w1 b2 (.slice Aq0 y1.length cq0) (.slice Aq1 y2.length cq1) (.slice Aq2 y3.length cq2) (.slice Aq3 y4.length cq3) y1 y2 y3 y4) => laws_eqDisk.calls k Ap0 cp0 y1 Ap1 cp1 y2 Ap2 cp2 y3 Ap3 cp3 y4 y5 y6 Aq0 cq0 y1 Aq1 cq1 y2 Aq2 cq2 y3 Aq3 cq3 y4 y5 y6 true w1 (Kd.R_reads' h1.r0).2.2 (Kd.R_reads' h1.r0).2.1 (Kd.R_reads' h1.r1).2.2 (Kd.R_reads' h1.r1).2.1 (Kd.R_reads' h1.r2).2.2 (Kd.R_reads' h1.r2).2.1 (Kd.R_reads' h1.r3).2.2 (Kd.R_reads' h1.r3).2.1 (Kd.R_reads' h2.r0).2.2 (Kd.R_reads' h2.r0).2.1 (Kd.R_reads' h2.r1).2.2 (Kd.R_reads' h2.r1).2.1 (Kd.R_reads' h2.r2).2.2 (Kd.R_reads' h2.r2).2.1 (Kd.R_reads' h2.r3).2.2 (Kd.R_reads' h2.r3).2.1 he2)
  clear hx hy hs hgv he1 he2 hr0_0 hr0_1 hr0_2 hr0_3 hr1_0 hr1_1 hr1_2 hr1_3
  go_enter Tryz.func8, Tryz.ntmps8
  go_wp2_with (first | ((with_reducible refine gate_dst (N := 2) rfl ?_); refine box_event ?hg (N := 2) ?hd (cs := #[.slice A0_0 l0_0.length c0_0, .slice A0_1 l0_1.length c0_1, .slice A0_2 l0_2.length c0_2, .slice A0_3 l0_3.length c0_3, .int .i64 a0_4, .int .i64 a0_5]) (t := 26) ?hr ?_; (case hd => rfl); (case hg => rfl); (case hr => first | (go_simp; done) | (go_simp; rfl)); intro gbA_ hg w1 hbox hb; replace BL := Aside0.mk (BL.out.trans (hb.mono BL.out.size)); have fbA_ := Aside0.mk hbox; clear hb; obtain ⟨iA0, iA1, iA2, iA3, iA4, iA5⟩ := blk6 fbA_.out; clear hg hbox) | ((with_reducible refine gate_dst (N := 3) rfl ?_); refine box_event ?hg (N := 3) ?hd (cs := #[.slice A1_0 l1_0.length c1_0, .slice A1_1 l1_1.length c1_1, .slice A1_2 l1_2.length c1_2, .slice A1_3 l1_3.length c1_3, .int .i64 a1_4, .int .i64 a1_5]) (t := 26) ?hr ?_; (case hd => rfl); (case hg => rfl); (case hr => first | (go_simp; done) | (go_simp; rfl)); intro gbB_ hg w1 hbox hb; replace BL := Aside0.mk (BL.out.trans (hb.mono BL.out.size)); replace fbA_ := Aside0.mk ((hb.block gbA_ (blk_lt fbA_.out)).trans fbA_.out); have fbB_ := Aside0.mk hbox; clear hb; clear iA0 iA1 iA2 iA3 iA4 iA5; obtain ⟨iA0, iA1, iA2, iA3, iA4, iA5⟩ := blk6 fbA_.out; obtain ⟨iB0, iB1, iB2, iB3, iB4, iB5⟩ := blk6 fbB_.out; clear hg hbox) | (go_at_call 15; (with_reducible refine (CZ.out _ BL.out).mono ?_); rintro e w1 ⟨rfl, hb⟩; replace BL := Aside0.mk (BL.out.trans (hb.mono BL.out.size)); replace fbA_ := Aside0.mk ((hb.block gbA_ (blk_lt fbA_.out)).trans fbA_.out); replace fbB_ := Aside0.mk ((hb.block gbB_ (blk_lt fbB_.out)).trans fbB_.out); clear hb; clear iA0 iA1 iA2 iA3 iA4 iA5 iB0 iB1 iB2 iB3 iB4 iB5; obtain ⟨iA0, iA1, iA2, iA3, iA4, iA5⟩ := blk6 fbA_.out; obtain ⟨iB0, iB1, iB2, iB3, iB4, iB5⟩ := blk6 fbB_.out) | (go_at_call 15; (with_reducible refine (CY.out _ BL.out).mono ?_); rintro e w1 ⟨rfl, hb⟩; replace BL := Aside0.mk (BL.out.trans (hb.mono BL.out.size)); replace fbA_ := Aside0.mk ((hb.block gbA_ (blk_lt fbA_.out)).trans fbA_.out); replace fbB_ := Aside0.mk ((hb.block gbB_ (blk_lt fbB_.out)).trans fbB_.out); clear hb; clear iA0 iA1 iA2 iA3 iA4 iA5 iB0 iB1 iB2 iB3 iB4 iB5; obtain ⟨iA0, iA1, iA2, iA3, iA4, iA5⟩ := blk6 fbA_.out; obtain ⟨iB0, iB1, iB2, iB3, iB4, iB5⟩ := blk6 fbB_.out))
  clear iA0 iA1 iA2 iA3 iA4 iA5 iB0 iB1 iB2 iB3 iB4 iB5
  have hb := below_drew (Below.refl w1.heap.size w1)
  replace BL := Aside0.mk (BL.out.trans (hb.mono BL.out.size)); replace fbA_ := Aside0.mk ((hb.block gbA_ (blk_lt fbA_.out)).trans fbA_.out); replace fbB_ := Aside0.mk ((hb.block gbB_ (blk_lt fbB_.out)).trans fbB_.out)
  clear hb
  refine start_ (n := 6) (S := fun w' => w'.cell? ⟨gbA_, 0, none⟩ = some (.slice A0_0 l0_0.length c0_0) ∧ w'.cell? ⟨gbA_, 1, none⟩ = some (.slice A0_1 l0_1.length c0_1) ∧ w'.cell? ⟨gbA_, 2, none⟩ = some (.slice A0_2 l0_2.length c0_2) ∧ w'.cell? ⟨gbA_, 3, none⟩ = some (.slice A0_3 l0_3.length c0_3) ∧ w'.cell? ⟨gbA_, 4, none⟩ = some (.int .i64 a0_4) ∧ w'.cell? ⟨gbA_, 5, none⟩ = some (.int .i64 a0_5) ∧ w'.cell? ⟨gbB_, 0, none⟩ = some (.slice A1_0 l1_0.length c1_0) ∧ w'.cell? ⟨gbB_, 1, none⟩ = some (.slice A1_1 l1_1.length c1_1) ∧ w'.cell? ⟨gbB_, 2, none⟩ = some (.slice A1_2 l1_2.length c1_2) ∧ w'.cell? ⟨gbB_, 3, none⟩ = some (.slice A1_3 l1_3.length c1_3) ∧ w'.cell? ⟨gbB_, 4, none⟩ = some (.int .i64 a1_4) ∧ w'.cell? ⟨gbB_, 5, none⟩ = some (.int .i64 a1_5)) (ds := []) (marks 6 0) (by kernel_rfl) rfl rfl ⟨(blk_cell fbA_.out 0).trans rfl, (blk_cell fbA_.out 1).trans rfl, (blk_cell fbA_.out 2).trans rfl, (blk_cell fbA_.out 3).trans rfl, (blk_cell fbA_.out 4).trans rfl, (blk_cell fbA_.out 5).trans rfl, (blk_cell fbB_.out 0).trans rfl, (blk_cell fbB_.out 1).trans rfl, (blk_cell fbB_.out 2).trans rfl, (blk_cell fbB_.out 3).trans rfl, (blk_cell fbB_.out 4).trans rfl, (blk_cell fbB_.out 5).trans rfl⟩ (fun hHeld => ?_)
  generalize w1.drew = w2 at BL fbA_ fbB_ hHeld ⊢
  refine take_ (i := 0) (N := some 20) (v := ?_) (a' := ?_) (marks 6 1) rfl rfl (by kernel_rfl) (fun _ _ _ h => h) (Or.inl ⟨by rfl, ?_⟩) hHeld ?_ ?_
  rotate_left
  · rintro w' ⟨s0, s1, s2, s3, s4, s5, s6, s7, s8, s9, s10, s11⟩
    go_simp
    with_reducible rfl
  rotate_left
  · simp only [Act.put, List.setIfInBounds_toArray, List.set_cons_zero, List.set_cons_succ, i64_w, i32_w]
    rfl
  refine take_ (i := 2) (N := some 22) (v := ?_) (a' := ?_) (marks 6 5) rfl rfl (by kernel_rfl) (fun _ _ _ h => h) (Or.inl ⟨by rfl, ?_⟩) hHeld ?_ ?_
  rotate_left
  · rintro w' ⟨s0, s1, s2, s3, s4, s5, s6, s7, s8, s9, s10, s11⟩
    go_simp
    with_reducible rfl
  rotate_left
  · simp only [Act.put, List.setIfInBounds_toArray, List.set_cons_zero, List.set_cons_succ, i64_w, i32_w]
    rfl
  refine one_ (i := 1) (N := some 21) (marks 6 7) rfl rfl (by kernel_rfl) (by decide) (fun K hK => ?_)
  refine goes_ Tryz.func17 (by kernel_rfl) rfl #[.agg #[.slice A0_0 l0_0.length c0_0, .slice A0_1 l0_1.length c0_1, .slice A0_2 l0_2.length c0_2, .slice A0_3 l0_3.length c0_3, .int .i64 a0_4, .int .i64 a0_5]] (by rfl) rfl rfl (by (try simp only [List.map_toArray, List.map_cons, List.map_nil]); first | done | rfl | (go_simp; done)) ?_
  have hbs := BL.out.size
  with_reducible refine (CT.out _ BL.out).mono ?_
  rintro e w1 ⟨v0, v1, v2, v3, rfl, o0, o1, o2, o3, hb⟩
  have hD := HasD.of o0 o1 o2 o3
  replace BL := Aside0.mk (BL.out.trans (hb.mono BL.out.size)); replace fbA_ := Aside0.mk ((hb.block gbA_ (blk_lt fbA_.out)).trans fbA_.out); replace fbB_ := Aside0.mk ((hb.block gbB_ (blk_lt fbB_.out)).trans fbB_.out)
  have fdx_ := Aside0.mk (hD.lower hbs)
  obtain ⟨Ax0, cx0, rfl⟩ := Kd.R_slice o0; obtain ⟨Ax1, cx1, rfl⟩ := Kd.R_slice o1; obtain ⟨Ax2, cx2, rfl⟩ := Kd.R_slice o2; obtain ⟨Ax3, cx3, rfl⟩ := Kd.R_slice o3; clear hD hb hbs o0 o1 o2 o3
  refine ⟨_, rfl, ?_⟩
  refine hK.out _ _ ⟨(blk_cell fbA_.out 0).trans rfl, (blk_cell fbA_.out 1).trans rfl, (blk_cell fbA_.out 2).trans rfl, (blk_cell fbA_.out 3).trans rfl, (blk_cell fbA_.out 4).trans rfl, (blk_cell fbA_.out 5).trans rfl, (blk_cell fbB_.out 0).trans rfl, (blk_cell fbB_.out 1).trans rfl, (blk_cell fbB_.out 2).trans rfl, (blk_cell fbB_.out 3).trans rfl, (blk_cell fbB_.out 4).trans rfl, (blk_cell fbB_.out 5).trans rfl⟩ (fun hHeld => ?_)
  clear hK K
  refine norm_ (a' := ?_) ?_ ?_
  rotate_left
  · show Act.put _ (some 21) _ = _
    simp only [Act.put, List.setIfInBounds_toArray, List.set_cons_zero, List.set_cons_succ, i64_w, i32_w]
    rfl
  refine one_ (i := 3) (N := some 23) (marks 6 15) rfl rfl (by kernel_rfl) (by decide) (fun K hK => ?_)
  refine goes_ Tryz.func17 (by kernel_rfl) rfl #[.agg #[.slice A1_0 l1_0.length c1_0, .slice A1_1 l1_1.length c1_1, .slice A1_2 l1_2.length c1_2, .slice A1_3 l1_3.length c1_3, .int .i64 a1_4, .int .i64 a1_5]] (by rfl) rfl rfl (by (try simp only [List.map_toArray, List.map_cons, List.map_nil]); first | done | rfl | (go_simp; done)) ?_
  have hbs := BL.out.size
  with_reducible refine (CU.out _ BL.out).mono ?_
  rintro e w1 ⟨v0, v1, v2, v3, rfl, o0, o1, o2, o3, hb⟩
  have hD := HasD.of o0 o1 o2 o3
  replace BL := Aside0.mk (BL.out.trans (hb.mono BL.out.size)); replace fbA_ := Aside0.mk ((hb.block gbA_ (blk_lt fbA_.out)).trans fbA_.out); replace fbB_ := Aside0.mk ((hb.block gbB_ (blk_lt fbB_.out)).trans fbB_.out); replace fdx_ := Aside0.mk (fdx_.out.on hb)
  have fdy_ := Aside0.mk (hD.lower hbs)
  obtain ⟨Ay0, cy0, rfl⟩ := Kd.R_slice o0; obtain ⟨Ay1, cy1, rfl⟩ := Kd.R_slice o1; obtain ⟨Ay2, cy2, rfl⟩ := Kd.R_slice o2; obtain ⟨Ay3, cy3, rfl⟩ := Kd.R_slice o3; clear hD hb hbs o0 o1 o2 o3
  refine ⟨_, rfl, ?_⟩
  refine hK.out _ _ ⟨(blk_cell fbA_.out 0).trans rfl, (blk_cell fbA_.out 1).trans rfl, (blk_cell fbA_.out 2).trans rfl, (blk_cell fbA_.out 3).trans rfl, (blk_cell fbA_.out 4).trans rfl, (blk_cell fbA_.out 5).trans rfl, (blk_cell fbB_.out 0).trans rfl, (blk_cell fbB_.out 1).trans rfl, (blk_cell fbB_.out 2).trans rfl, (blk_cell fbB_.out 3).trans rfl, (blk_cell fbB_.out 4).trans rfl, (blk_cell fbB_.out 5).trans rfl⟩ (fun hHeld => ?_)
  clear hK K
  refine norm_ (a' := ?_) ?_ ?_
  rotate_left
  · show Act.put _ (some 23) _ = _
    simp only [Act.put, List.setIfInBounds_toArray, List.set_cons_zero, List.set_cons_succ, i64_w, i32_w]
    rfl
  refine one_ (i := 4) (N := some 24) (marks 6 31) rfl rfl (by kernel_rfl) (by decide) (fun K hK => ?_)
  refine goes_ Tryz.func30 (by kernel_rfl) rfl #[.agg #[.slice Ax0 x1.length cx0, .slice Ax1 x2.length cx1, .slice Ax2 x3.length cx2, .slice Ax3 x4.length cx3, .int .i64 x5, .int .i64 x6], .agg #[.slice Ay0 y1.length cy0, .slice Ay1 y2.length cy1, .slice Ay2 y3.length cy2, .slice Ay3 y4.length cy3, .int .i64 y5, .int .i64 y6]] (by rfl) rfl rfl (by (try simp only [List.map_toArray, List.map_cons, List.map_nil]); first | done | rfl | (go_simp; done)) ?_
  with_reducible refine (CSP.out _ _ _ _ _ _ _ _ _ _ _ _ _ _ _ _ _ _ _ BL.out fdx_.out fdy_.out).mono ?_
  rintro e w1 ⟨rfl, hb⟩
  replace BL := Aside0.mk (BL.out.trans (hb.mono BL.out.size)); replace fbA_ := Aside0.mk ((hb.block gbA_ (blk_lt fbA_.out)).trans fbA_.out); replace fbB_ := Aside0.mk ((hb.block gbB_ (blk_lt fbB_.out)).trans fbB_.out)
  clear hb fdx_ fdy_
  refine ⟨_, rfl, ?_⟩
  refine hK.out _ _ ⟨(blk_cell fbA_.out 0).trans rfl, (blk_cell fbA_.out 1).trans rfl, (blk_cell fbA_.out 2).trans rfl, (blk_cell fbA_.out 3).trans rfl, (blk_cell fbA_.out 4).trans rfl, (blk_cell fbA_.out 5).trans rfl, (blk_cell fbB_.out 0).trans rfl, (blk_cell fbB_.out 1).trans rfl, (blk_cell fbB_.out 2).trans rfl, (blk_cell fbB_.out 3).trans rfl, (blk_cell fbB_.out 4).trans rfl, (blk_cell fbB_.out 5).trans rfl⟩ (fun hHeld => ?_)
  clear hK K
  refine norm_ (a' := ?_) ?_ ?_
  rotate_left
  · show Act.put _ (some 24) _ = _
    simp only [Act.put, List.setIfInBounds_toArray, List.set_cons_zero, List.set_cons_succ, i64_w, i32_w]
    rfl
  refine pure_ (i := 5) (N := some 6) (v := ?_) (a' := ?_) (marks 6 63) rfl rfl (by kernel_rfl) (fun _ _ _ h => h) (Or.inl ⟨by rfl, ?_⟩) ?_ ?_
  rotate_left
  · intro w'
    go_simp
    with_reducible rfl
  rotate_left
  · simp only [Act.put, List.setIfInBounds_toArray, List.set_cons_zero, List.set_cons_succ, i64_w, i32_w]
    rfl
  refine done_ (by kernel_rfl) ?_
  obtain ⟨iA0, iA1, iA2, iA3, iA4, iA5⟩ := blk6 fbA_.out; obtain ⟨iB0, iB1, iB2, iB3, iB4, iB5⟩ := blk6 fbB_.out
  go_wp2_with (first | (go_at_call 17; have hbs := BL.out.size; (with_reducible refine (CT.out _ BL.out).mono ?_); rintro e w1 ⟨v0, v1, v2, v3, rfl, o0, o1, o2, o3, hb⟩; have hD := HasD.of o0 o1 o2 o3; replace BL := Aside0.mk (BL.out.trans (hb.mono BL.out.size)); replace fbA_ := Aside0.mk ((hb.block gbA_ (blk_lt fbA_.out)).trans fbA_.out); replace fbB_ := Aside0.mk ((hb.block gbB_ (blk_lt fbB_.out)).trans fbB_.out); have fdx_ := Aside0.mk (hD.lower hbs); obtain ⟨Ax0, cx0, rfl⟩ := Kd.R_slice o0; obtain ⟨Ax1, cx1, rfl⟩ := Kd.R_slice o1; obtain ⟨Ax2, cx2, rfl⟩ := Kd.R_slice o2; obtain ⟨Ax3, cx3, rfl⟩ := Kd.R_slice o3; clear hD hb hbs o0 o1 o2 o3; clear iA0 iA1 iA2 iA3 iA4 iA5 iB0 iB1 iB2 iB3 iB4 iB5; obtain ⟨iA0, iA1, iA2, iA3, iA4, iA5⟩ := blk6 fbA_.out; obtain ⟨iB0, iB1, iB2, iB3, iB4, iB5⟩ := blk6 fbB_.out) | ((with_reducible refine gate_store (t := 32) (p := 7) rfl ?_); refine store_event (t := 32) (p := 7) (v := ?voS) (w1 := w1.alloc (.cells #[.slice Ax0 x1.length cx0, .slice Ax1 x2.length cx1, .slice Ax2 x3.length cx2, .slice Ax3 x4.length cx3, .int .i64 x5, .int .i64 x6] 32 (0, 0))) ?hg ?ho ?hn ?hr ?_; (case ho => rfl); (case hg => rfl); (case hn => rfl); (case hr => first | (go_simp; done) | (go_simp; rfl)); intro wz hw; have hb : Below w1.heap.size w1 wz := (by rw [hw]; exact below_alloc (Below.refl _ _) _); have hbox := (by rw [hw]; exact blk_new w1 _ : wz.heap[w1.heap.size]? = some (.cells #[.slice Ax0 x1.length cx0, .slice Ax1 x2.length cx1, .slice Ax2 x3.length cx2, .slice Ax3 x4.length cx3, .int .i64 x5, .int .i64 x6] 32 (0, 0))); clear hw; obtain ⟨gbS_, hg⟩ : ∃ g, g = w1.heap.size := ⟨_, rfl⟩; rw [← hg] at hbox ⊢; clear hg; replace BL := Aside0.mk (BL.out.trans (hb.mono BL.out.size)); replace fbA_ := Aside0.mk ((hb.block gbA_ (blk_lt fbA_.out)).trans fbA_.out); replace fbB_ := Aside0.mk ((hb.block gbB_ (blk_lt fbB_.out)).trans fbB_.out); replace fdx_ := Aside0.mk (fdx_.out.on hb); have fbS_ := Aside0.mk hbox; clear hb hbox; clear iA0 iA1 iA2 iA3 iA4 iA5 iB0 iB1 iB2 iB3 iB4 iB5; obtain ⟨iA0, iA1, iA2, iA3, iA4, iA5⟩ := blk6 fbA_.out; obtain ⟨iB0, iB1, iB2, iB3, iB4, iB5⟩ := blk6 fbB_.out; obtain ⟨iS0, iS1, iS2, iS3, iS4, iS5⟩ := blk6 fbS_.out) | (go_at_call 17; have hbs := BL.out.size; (with_reducible refine (CU.out _ BL.out).mono ?_); rintro e w1 ⟨v0, v1, v2, v3, rfl, o0, o1, o2, o3, hb⟩; have hD := HasD.of o0 o1 o2 o3; replace BL := Aside0.mk (BL.out.trans (hb.mono BL.out.size)); replace fbA_ := Aside0.mk ((hb.block gbA_ (blk_lt fbA_.out)).trans fbA_.out); replace fbB_ := Aside0.mk ((hb.block gbB_ (blk_lt fbB_.out)).trans fbB_.out); replace fbS_ := Aside0.mk ((hb.block gbS_ (blk_lt fbS_.out)).trans fbS_.out); replace fdx_ := Aside0.mk (fdx_.out.on hb); have fdy_ := Aside0.mk (hD.lower hbs); obtain ⟨Ay0, cy0, rfl⟩ := Kd.R_slice o0; obtain ⟨Ay1, cy1, rfl⟩ := Kd.R_slice o1; obtain ⟨Ay2, cy2, rfl⟩ := Kd.R_slice o2; obtain ⟨Ay3, cy3, rfl⟩ := Kd.R_slice o3; clear hD hb hbs o0 o1 o2 o3; clear iA0 iA1 iA2 iA3 iA4 iA5 iB0 iB1 iB2 iB3 iB4 iB5 iS0 iS1 iS2 iS3 iS4 iS5; obtain ⟨iA0, iA1, iA2, iA3, iA4, iA5⟩ := blk6 fbA_.out; obtain ⟨iB0, iB1, iB2, iB3, iB4, iB5⟩ := blk6 fbB_.out; obtain ⟨iS0, iS1, iS2, iS3, iS4, iS5⟩ := blk6 fbS_.out) | ((with_reducible refine gate_store (t := 32) (p := 8) rfl ?_); refine store_event (t := 32) (p := 8) (v := ?voT) (w1 := w1.alloc (.cells #[.slice Ay0 y1.length cy0, .slice Ay1 y2.length cy1, .slice Ay2 y3.length cy2, .slice Ay3 y4.length cy3, .int .i64 y5, .int .i64 y6] 32 (0, 0))) ?hg ?ho ?hn ?hr ?_; (case ho => rfl); (case hg => rfl); (case hn => rfl); (case hr => first | (go_simp; done) | (go_simp; rfl)); intro wz hw; have hb : Below w1.heap.size w1 wz := (by rw [hw]; exact below_alloc (Below.refl _ _) _); have hbox := (by rw [hw]; exact blk_new w1 _ : wz.heap[w1.heap.size]? = some (.cells #[.slice Ay0 y1.length cy0, .slice Ay1 y2.length cy1, .slice Ay2 y3.length cy2, .slice Ay3 y4.length cy3, .int .i64 y5, .int .i64 y6] 32 (0, 0))); clear hw; obtain ⟨gbT_, hg⟩ : ∃ g, g = w1.heap.size := ⟨_, rfl⟩; rw [← hg] at hbox ⊢; clear hg; replace BL := Aside0.mk (BL.out.trans (hb.mono BL.out.size)); replace fbA_ := Aside0.mk ((hb.block gbA_ (blk_lt fbA_.out)).trans fbA_.out); replace fbB_ := Aside0.mk ((hb.block gbB_ (blk_lt fbB_.out)).trans fbB_.out); replace fbS_ := Aside0.mk ((hb.block gbS_ (blk_lt fbS_.out)).trans fbS_.out); replace fdx_ := Aside0.mk (fdx_.out.on hb); replace fdy_ := Aside0.mk (fdy_.out.on hb); have fbT_ := Aside0.mk hbox; clear hb hbox; clear iA0 iA1 iA2 iA3 iA4 iA5 iB0 iB1 iB2 iB3 iB4 iB5 iS0 iS1 iS2 iS3 iS4 iS5; obtain ⟨iA0, iA1, iA2, iA3, iA4, iA5⟩ := blk6 fbA_.out; obtain ⟨iB0, iB1, iB2, iB3, iB4, iB5⟩ := blk6 fbB_.out; obtain ⟨iS0, iS1, iS2, iS3, iS4, iS5⟩ := blk6 fbS_.out; obtain ⟨iT0, iT1, iT2, iT3, iT4, iT5⟩ := blk6 fbT_.out) | (go_at_call 31; (with_reducible refine (CIM.out _ _ _ _ _ _ _ _ _ _ _ _ _ _ _ _ _ _ _ BL.out fdx_.out fdy_.out).mono ?_); clear CIM; rintro e w1 ⟨rfl, hb⟩; replace BL := Aside0.mk (BL.out.trans (hb.mono BL.out.size)); replace fbA_ := Aside0.mk ((hb.block gbA_ (blk_lt fbA_.out)).trans fbA_.out); replace fbB_ := Aside0.mk ((hb.block gbB_ (blk_lt fbB_.out)).trans fbB_.out); replace fbS_ := Aside0.mk ((hb.block gbS_ (blk_lt fbS_.out)).trans fbS_.out); replace fbT_ := Aside0.mk ((hb.block gbT_ (blk_lt fbT_.out)).trans fbT_.out); replace fdx_ := Aside0.mk (fdx_.out.on hb); replace fdy_ := Aside0.mk (fdy_.out.on hb); clear hb; clear iA0 iA1 iA2 iA3 iA4 iA5 iB0 iB1 iB2 iB3 iB4 iB5 iS0 iS1 iS2 iS3 iS4 iS5 iT0 iT1 iT2 iT3 iT4 iT5; obtain ⟨iA0, iA1, iA2, iA3, iA4, iA5⟩ := blk6 fbA_.out; obtain ⟨iB0, iB1, iB2, iB3, iB4, iB5⟩ := blk6 fbB_.out; obtain ⟨iS0, iS1, iS2, iS3, iS4, iS5⟩ := blk6 fbS_.out; obtain ⟨iT0, iT1, iT2, iT3, iT4, iT5⟩ := blk6 fbT_.out))
  clear iA0 iA1 iA2 iA3 iA4 iA5 iB0 iB1 iB2 iB3 iB4 iB5 iS0 iS1 iS2 iS3 iS4 iS5 iT0 iT1 iT2 iT3 iT4 iT5
  have hb := below_drew (Below.refl w1.heap.size w1)
  replace BL := Aside0.mk (BL.out.trans (hb.mono BL.out.size)); replace fbA_ := Aside0.mk ((hb.block gbA_ (blk_lt fbA_.out)).trans fbA_.out); replace fbB_ := Aside0.mk ((hb.block gbB_ (blk_lt fbB_.out)).trans fbB_.out); replace fbS_ := Aside0.mk ((hb.block gbS_ (blk_lt fbS_.out)).trans fbS_.out); replace fbT_ := Aside0.mk ((hb.block gbT_ (blk_lt fbT_.out)).trans fbT_.out); replace fdx_ := Aside0.mk (fdx_.out.on hb); replace fdy_ := Aside0.mk (fdy_.out.on hb)
  clear hb
  refine start_ (n := 5) (S := fun w' => w'.cell? ⟨gbS_, 0, none⟩ = some (.slice Ax0 x1.length cx0) ∧ w'.cell? ⟨gbS_, 1, none⟩ = some (.slice Ax1 x2.length cx1) ∧ w'.cell? ⟨gbS_, 2, none⟩ = some (.slice Ax2 x3.length cx2) ∧ w'.cell? ⟨gbS_, 3, none⟩ = some (.slice Ax3 x4.length cx3) ∧ w'.cell? ⟨gbS_, 4, none⟩ = some (.int .i64 x5) ∧ w'.cell? ⟨gbS_, 5, none⟩ = some (.int .i64 x6) ∧ w'.cell? ⟨gbA_, 0, none⟩ = some (.slice A0_0 l0_0.length c0_0) ∧ w'.cell? ⟨gbA_, 1, none⟩ = some (.slice A0_1 l0_1.length c0_1) ∧ w'.cell? ⟨gbA_, 2, none⟩ = some (.slice A0_2 l0_2.length c0_2) ∧ w'.cell? ⟨gbA_, 3, none⟩ = some (.slice A0_3 l0_3.length c0_3) ∧ w'.cell? ⟨gbA_, 4, none⟩ = some (.int .i64 a0_4) ∧ w'.cell? ⟨gbA_, 5, none⟩ = some (.int .i64 a0_5)) (ds := []) (marks 5 0) (by kernel_rfl) rfl rfl ⟨(blk_cell fbS_.out 0).trans rfl, (blk_cell fbS_.out 1).trans rfl, (blk_cell fbS_.out 2).trans rfl, (blk_cell fbS_.out 3).trans rfl, (blk_cell fbS_.out 4).trans rfl, (blk_cell fbS_.out 5).trans rfl, (blk_cell fbA_.out 0).trans rfl, (blk_cell fbA_.out 1).trans rfl, (blk_cell fbA_.out 2).trans rfl, (blk_cell fbA_.out 3).trans rfl, (blk_cell fbA_.out 4).trans rfl, (blk_cell fbA_.out 5).trans rfl⟩ (fun hHeld => ?_)
  generalize w1.drew = w2 at BL fbA_ fbB_ fbS_ fbT_ fdx_ fdy_ hHeld ⊢
  refine take_ (i := 0) (N := some 35) (v := ?_) (a' := ?_) (marks 5 1) rfl rfl (by kernel_rfl) (fun _ _ _ h => h) (Or.inl ⟨by rfl, ?_⟩) hHeld ?_ ?_
  rotate_left
  · rintro w' ⟨s0, s1, s2, s3, s4, s5, s6, s7, s8, s9, s10, s11⟩
    go_simp
    with_reducible rfl
  rotate_left
  · simp only [Act.put, List.setIfInBounds_toArray, List.set_cons_zero, List.set_cons_succ, i64_w, i32_w]
    rfl
  refine take_ (i := 1) (N := some 36) (v := ?_) (a' := ?_) (marks 5 3) rfl rfl (by kernel_rfl) (fun _ _ _ h => h) (Or.inl ⟨by rfl, ?_⟩) hHeld ?_ ?_
  rotate_left
  · rintro w' ⟨s0, s1, s2, s3, s4, s5, s6, s7, s8, s9, s10, s11⟩
    go_simp
    with_reducible rfl
  rotate_left
  · simp only [Act.put, List.setIfInBounds_toArray, List.set_cons_zero, List.set_cons_succ, i64_w, i32_w]
    rfl
  refine one_ (i := 2) (N := some 37) (marks 5 7) rfl rfl (by kernel_rfl) (by decide) (fun K hK => ?_)
  refine goes_ Tryz.func17 (by kernel_rfl) rfl #[.agg #[.slice A0_0 l0_0.length c0_0, .slice A0_1 l0_1.length c0_1, .slice A0_2 l0_2.length c0_2, .slice A0_3 l0_3.length c0_3, .int .i64 a0_4, .int .i64 a0_5]] (by rfl) rfl rfl (by (try simp only [List.map_toArray, List.map_cons, List.map_nil]); first | done | rfl | (go_simp; done)) ?_
  have hbs := BL.out.size
  with_reducible refine (CT.out _ BL.out).mono ?_
  rintro e w1 ⟨v0, v1, v2, v3, rfl, o0, o1, o2, o3, hb⟩
  have hD := HasD.of o0 o1 o2 o3
  replace BL := Aside0.mk (BL.out.trans (hb.mono BL.out.size)); replace fbA_ := Aside0.mk ((hb.block gbA_ (blk_lt fbA_.out)).trans fbA_.out); replace fbB_ := Aside0.mk ((hb.block gbB_ (blk_lt fbB_.out)).trans fbB_.out); replace fbS_ := Aside0.mk ((hb.block gbS_ (blk_lt fbS_.out)).trans fbS_.out); replace fbT_ := Aside0.mk ((hb.block gbT_ (blk_lt fbT_.out)).trans fbT_.out); replace fdx_ := Aside0.mk (fdx_.out.on hb); replace fdy_ := Aside0.mk (fdy_.out.on hb)
  have fdq_ := Aside0.mk (hD.lower hbs)
  obtain ⟨Aq0, cq0, rfl⟩ := Kd.R_slice o0; obtain ⟨Aq1, cq1, rfl⟩ := Kd.R_slice o1; obtain ⟨Aq2, cq2, rfl⟩ := Kd.R_slice o2; obtain ⟨Aq3, cq3, rfl⟩ := Kd.R_slice o3; clear hD hb hbs o0 o1 o2 o3
  refine ⟨_, rfl, ?_⟩
  refine hK.out _ _ ⟨(blk_cell fbS_.out 0).trans rfl, (blk_cell fbS_.out 1).trans rfl, (blk_cell fbS_.out 2).trans rfl, (blk_cell fbS_.out 3).trans rfl, (blk_cell fbS_.out 4).trans rfl, (blk_cell fbS_.out 5).trans rfl, (blk_cell fbA_.out 0).trans rfl, (blk_cell fbA_.out 1).trans rfl, (blk_cell fbA_.out 2).trans rfl, (blk_cell fbA_.out 3).trans rfl, (blk_cell fbA_.out 4).trans rfl, (blk_cell fbA_.out 5).trans rfl⟩ (fun hHeld => ?_)
  clear hK K
  refine norm_ (a' := ?_) ?_ ?_
  rotate_left
  · show Act.put _ (some 37) _ = _
    simp only [Act.put, List.setIfInBounds_toArray, List.set_cons_zero, List.set_cons_succ, i64_w, i32_w]
    rfl
  refine one_ (i := 3) (N := some 38) (marks 5 15) rfl rfl (by kernel_rfl) (by decide) (fun K hK => ?_)
  refine goes_ Tryz.func19 (by kernel_rfl) rfl #[.agg #[.slice Ax0 x1.length cx0, .slice Ax1 x2.length cx1, .slice Ax2 x3.length cx2, .slice Ax3 x4.length cx3, .int .i64 x5, .int .i64 x6], .agg #[.slice Aq0 x1.length cq0, .slice Aq1 x2.length cq1, .slice Aq2 x3.length cq2, .slice Aq3 x4.length cq3, .int .i64 x5, .int .i64 x6]] (by rfl) rfl rfl (by (try simp only [List.map_toArray, List.map_cons, List.map_nil]); first | done | rfl | (go_simp; done)) ?_
  with_reducible refine (CX.out _ _ _ _ _ _ _ _ _ _ _ _ _ _ _ _ _ _ _ fdx_.out fdq_.out).mono ?_
  rintro e w1 ⟨rfl, hb⟩
  replace BL := Aside0.mk (BL.out.trans (hb.mono BL.out.size)); replace fbA_ := Aside0.mk ((hb.block gbA_ (blk_lt fbA_.out)).trans fbA_.out); replace fbB_ := Aside0.mk ((hb.block gbB_ (blk_lt fbB_.out)).trans fbB_.out); replace fbS_ := Aside0.mk ((hb.block gbS_ (blk_lt fbS_.out)).trans fbS_.out); replace fbT_ := Aside0.mk ((hb.block gbT_ (blk_lt fbT_.out)).trans fbT_.out); replace fdx_ := Aside0.mk (fdx_.out.on hb); replace fdy_ := Aside0.mk (fdy_.out.on hb)
  clear hb fdq_
  refine ⟨_, rfl, ?_⟩
  refine hK.out _ _ ⟨(blk_cell fbS_.out 0).trans rfl, (blk_cell fbS_.out 1).trans rfl, (blk_cell fbS_.out 2).trans rfl, (blk_cell fbS_.out 3).trans rfl, (blk_cell fbS_.out 4).trans rfl, (blk_cell fbS_.out 5).trans rfl, (blk_cell fbA_.out 0).trans rfl, (blk_cell fbA_.out 1).trans rfl, (blk_cell fbA_.out 2).trans rfl, (blk_cell fbA_.out 3).trans rfl, (blk_cell fbA_.out 4).trans rfl, (blk_cell fbA_.out 5).trans rfl⟩ (fun hHeld => ?_)
  clear hK K
  refine norm_ (a' := ?_) ?_ ?_
  rotate_left
  · show Act.put _ (some 38) _ = _
    simp only [Act.put, List.setIfInBounds_toArray, List.set_cons_zero, List.set_cons_succ, i64_w, i32_w]
    rfl
  refine pure_ (i := 4) (N := some 39) (v := ?_) (a' := ?_) (marks 5 31) rfl rfl (by kernel_rfl) (fun _ _ _ h => h) (Or.inl ⟨by rfl, ?_⟩) ?_ ?_
  rotate_left
  · intro w'
    go_simp
    with_reducible rfl
  rotate_left
  · simp only [Act.put, List.setIfInBounds_toArray, List.set_cons_zero, List.set_cons_succ, i64_w, i32_w]
    rfl
  refine done_ (by kernel_rfl) ?_
  obtain ⟨iA0, iA1, iA2, iA3, iA4, iA5⟩ := blk6 fbA_.out; obtain ⟨iB0, iB1, iB2, iB3, iB4, iB5⟩ := blk6 fbB_.out; obtain ⟨iS0, iS1, iS2, iS3, iS4, iS5⟩ := blk6 fbS_.out; obtain ⟨iT0, iT1, iT2, iT3, iT4, iT5⟩ := blk6 fbT_.out
  go_wp2
  clear iA0 iA1 iA2 iA3 iA4 iA5 iB0 iB1 iB2 iB3 iB4 iB5 iS0 iS1 iS2 iS3 iS4 iS5 iT0 iT1 iT2 iT3 iT4 iT5
  have hb := below_drew (Below.refl w1.heap.size w1)
  replace BL := Aside0.mk (BL.out.trans (hb.mono BL.out.size)); replace fbA_ := Aside0.mk ((hb.block gbA_ (blk_lt fbA_.out)).trans fbA_.out); replace fbB_ := Aside0.mk ((hb.block gbB_ (blk_lt fbB_.out)).trans fbB_.out); replace fbS_ := Aside0.mk ((hb.block gbS_ (blk_lt fbS_.out)).trans fbS_.out); replace fbT_ := Aside0.mk ((hb.block gbT_ (blk_lt fbT_.out)).trans fbT_.out); replace fdx_ := Aside0.mk (fdx_.out.on hb); replace fdy_ := Aside0.mk (fdy_.out.on hb)
  clear hb
  refine start_ (n := 5) (S := fun w' => w'.cell? ⟨gbT_, 0, none⟩ = some (.slice Ay0 y1.length cy0) ∧ w'.cell? ⟨gbT_, 1, none⟩ = some (.slice Ay1 y2.length cy1) ∧ w'.cell? ⟨gbT_, 2, none⟩ = some (.slice Ay2 y3.length cy2) ∧ w'.cell? ⟨gbT_, 3, none⟩ = some (.slice Ay3 y4.length cy3) ∧ w'.cell? ⟨gbT_, 4, none⟩ = some (.int .i64 y5) ∧ w'.cell? ⟨gbT_, 5, none⟩ = some (.int .i64 y6) ∧ w'.cell? ⟨gbB_, 0, none⟩ = some (.slice A1_0 l1_0.length c1_0) ∧ w'.cell? ⟨gbB_, 1, none⟩ = some (.slice A1_1 l1_1.length c1_1) ∧ w'.cell? ⟨gbB_, 2, none⟩ = some (.slice A1_2 l1_2.length c1_2) ∧ w'.cell? ⟨gbB_, 3, none⟩ = some (.slice A1_3 l1_3.length c1_3) ∧ w'.cell? ⟨gbB_, 4, none⟩ = some (.int .i64 a1_4) ∧ w'.cell? ⟨gbB_, 5, none⟩ = some (.int .i64 a1_5)) (ds := []) (marks 5 0) (by kernel_rfl) rfl rfl ⟨(blk_cell fbT_.out 0).trans rfl, (blk_cell fbT_.out 1).trans rfl, (blk_cell fbT_.out 2).trans rfl, (blk_cell fbT_.out 3).trans rfl, (blk_cell fbT_.out 4).trans rfl, (blk_cell fbT_.out 5).trans rfl, (blk_cell fbB_.out 0).trans rfl, (blk_cell fbB_.out 1).trans rfl, (blk_cell fbB_.out 2).trans rfl, (blk_cell fbB_.out 3).trans rfl, (blk_cell fbB_.out 4).trans rfl, (blk_cell fbB_.out 5).trans rfl⟩ (fun hHeld => ?_)
  generalize w1.drew = w2 at BL fbA_ fbB_ fbS_ fbT_ fdx_ fdy_ hHeld ⊢
  refine take_ (i := 0) (N := some 40) (v := ?_) (a' := ?_) (marks 5 1) rfl rfl (by kernel_rfl) (fun _ _ _ h => h) (Or.inl ⟨by rfl, ?_⟩) hHeld ?_ ?_
  rotate_left
  · rintro w' ⟨s0, s1, s2, s3, s4, s5, s6, s7, s8, s9, s10, s11⟩
    go_simp
    with_reducible rfl
  rotate_left
  · simp only [Act.put, List.setIfInBounds_toArray, List.set_cons_zero, List.set_cons_succ, i64_w, i32_w]
    rfl
  refine take_ (i := 1) (N := some 41) (v := ?_) (a' := ?_) (marks 5 3) rfl rfl (by kernel_rfl) (fun _ _ _ h => h) (Or.inl ⟨by rfl, ?_⟩) hHeld ?_ ?_
  rotate_left
  · rintro w' ⟨s0, s1, s2, s3, s4, s5, s6, s7, s8, s9, s10, s11⟩
    go_simp
    with_reducible rfl
  rotate_left
  · simp only [Act.put, List.setIfInBounds_toArray, List.set_cons_zero, List.set_cons_succ, i64_w, i32_w]
    rfl
  refine one_ (i := 2) (N := some 42) (marks 5 7) rfl rfl (by kernel_rfl) (by decide) (fun K hK => ?_)
  refine goes_ Tryz.func17 (by kernel_rfl) rfl #[.agg #[.slice A1_0 l1_0.length c1_0, .slice A1_1 l1_1.length c1_1, .slice A1_2 l1_2.length c1_2, .slice A1_3 l1_3.length c1_3, .int .i64 a1_4, .int .i64 a1_5]] (by rfl) rfl rfl (by (try simp only [List.map_toArray, List.map_cons, List.map_nil]); first | done | rfl | (go_simp; done)) ?_
  have hbs := BL.out.size
  with_reducible refine (CU.out _ BL.out).mono ?_
  rintro e w1 ⟨v0, v1, v2, v3, rfl, o0, o1, o2, o3, hb⟩
  have hD := HasD.of o0 o1 o2 o3
  replace BL := Aside0.mk (BL.out.trans (hb.mono BL.out.size)); replace fbA_ := Aside0.mk ((hb.block gbA_ (blk_lt fbA_.out)).trans fbA_.out); replace fbB_ := Aside0.mk ((hb.block gbB_ (blk_lt fbB_.out)).trans fbB_.out); replace fbS_ := Aside0.mk ((hb.block gbS_ (blk_lt fbS_.out)).trans fbS_.out); replace fbT_ := Aside0.mk ((hb.block gbT_ (blk_lt fbT_.out)).trans fbT_.out); replace fdx_ := Aside0.mk (fdx_.out.on hb); replace fdy_ := Aside0.mk (fdy_.out.on hb)
  have fdq_ := Aside0.mk (hD.lower hbs)
  obtain ⟨Aq0, cq0, rfl⟩ := Kd.R_slice o0; obtain ⟨Aq1, cq1, rfl⟩ := Kd.R_slice o1; obtain ⟨Aq2, cq2, rfl⟩ := Kd.R_slice o2; obtain ⟨Aq3, cq3, rfl⟩ := Kd.R_slice o3; clear hD hb hbs o0 o1 o2 o3
  refine ⟨_, rfl, ?_⟩
  refine hK.out _ _ ⟨(blk_cell fbT_.out 0).trans rfl, (blk_cell fbT_.out 1).trans rfl, (blk_cell fbT_.out 2).trans rfl, (blk_cell fbT_.out 3).trans rfl, (blk_cell fbT_.out 4).trans rfl, (blk_cell fbT_.out 5).trans rfl, (blk_cell fbB_.out 0).trans rfl, (blk_cell fbB_.out 1).trans rfl, (blk_cell fbB_.out 2).trans rfl, (blk_cell fbB_.out 3).trans rfl, (blk_cell fbB_.out 4).trans rfl, (blk_cell fbB_.out 5).trans rfl⟩ (fun hHeld => ?_)
  clear hK K
  refine norm_ (a' := ?_) ?_ ?_
  rotate_left
  · show Act.put _ (some 42) _ = _
    simp only [Act.put, List.setIfInBounds_toArray, List.set_cons_zero, List.set_cons_succ, i64_w, i32_w]
    rfl
  refine one_ (i := 3) (N := some 43) (marks 5 15) rfl rfl (by kernel_rfl) (by decide) (fun K hK => ?_)
  refine goes_ Tryz.func19 (by kernel_rfl) rfl #[.agg #[.slice Ay0 y1.length cy0, .slice Ay1 y2.length cy1, .slice Ay2 y3.length cy2, .slice Ay3 y4.length cy3, .int .i64 y5, .int .i64 y6], .agg #[.slice Aq0 y1.length cq0, .slice Aq1 y2.length cq1, .slice Aq2 y3.length cq2, .slice Aq3 y4.length cq3, .int .i64 y5, .int .i64 y6]] (by rfl) rfl rfl (by (try simp only [List.map_toArray, List.map_cons, List.map_nil]); first | done | rfl | (go_simp; done)) ?_
  with_reducible refine (CW.out _ _ _ _ _ _ _ _ _ _ _ _ _ _ _ _ _ _ _ fdy_.out fdq_.out).mono ?_
  rintro e w1 ⟨rfl, hb⟩
  replace BL := Aside0.mk (BL.out.trans (hb.mono BL.out.size)); replace fbA_ := Aside0.mk ((hb.block gbA_ (blk_lt fbA_.out)).trans fbA_.out); replace fbB_ := Aside0.mk ((hb.block gbB_ (blk_lt fbB_.out)).trans fbB_.out); replace fbS_ := Aside0.mk ((hb.block gbS_ (blk_lt fbS_.out)).trans fbS_.out); replace fbT_ := Aside0.mk ((hb.block gbT_ (blk_lt fbT_.out)).trans fbT_.out); replace fdx_ := Aside0.mk (fdx_.out.on hb); replace fdy_ := Aside0.mk (fdy_.out.on hb)
  clear hb fdq_
  refine ⟨_, rfl, ?_⟩
  refine hK.out _ _ ⟨(blk_cell fbT_.out 0).trans rfl, (blk_cell fbT_.out 1).trans rfl, (blk_cell fbT_.out 2).trans rfl, (blk_cell fbT_.out 3).trans rfl, (blk_cell fbT_.out 4).trans rfl, (blk_cell fbT_.out 5).trans rfl, (blk_cell fbB_.out 0).trans rfl, (blk_cell fbB_.out 1).trans rfl, (blk_cell fbB_.out 2).trans rfl, (blk_cell fbB_.out 3).trans rfl, (blk_cell fbB_.out 4).trans rfl, (blk_cell fbB_.out 5).trans rfl⟩ (fun hHeld => ?_)
  clear hK K
  refine norm_ (a' := ?_) ?_ ?_
  rotate_left
  · show Act.put _ (some 43) _ = _
    simp only [Act.put, List.setIfInBounds_toArray, List.set_cons_zero, List.set_cons_succ, i64_w, i32_w]
    rfl
  refine pure_ (i := 4) (N := some 44) (v := ?_) (a' := ?_) (marks 5 31) rfl rfl (by kernel_rfl) (fun _ _ _ h => h) (Or.inl ⟨by rfl, ?_⟩) ?_ ?_
  rotate_left
  · intro w'
    go_simp
    with_reducible rfl
  rotate_left
  · simp only [Act.put, List.setIfInBounds_toArray, List.set_cons_zero, List.set_cons_succ, i64_w, i32_w]
    rfl
  refine done_ (by kernel_rfl) ?_
  obtain ⟨iA0, iA1, iA2, iA3, iA4, iA5⟩ := blk6 fbA_.out; obtain ⟨iB0, iB1, iB2, iB3, iB4, iB5⟩ := blk6 fbB_.out; obtain ⟨iS0, iS1, iS2, iS3, iS4, iS5⟩ := blk6 fbS_.out; obtain ⟨iT0, iT1, iT2, iT3, iT4, iT5⟩ := blk6 fbT_.out
  go_wp2
  go_ret
  exact ⟨rfl, BL.out⟩
/-- THE ONE PURE STATEMENT of laws_FnExactCouldFall: yours. -/
def laws_FnExactCouldFall.Pure : Prop := ∀ (l0_0 : List (S110)) (l0_1 : List (S112)) (l0_2 : List (S112)) (l0_3 : List ByteArray) (a0_4 : Int) (a0_5 : Int) (l1_0 : List (S110)) (l1_1 : List (S112)) (l1_2 : List (S112)) (l1_3 : List ByteArray) (a1_4 : Int) (a1_5 : Int), (l0_0.length ≤ 9223372036854775807 ∧ ∀ x ∈ l0_0, ((Lit.int .i64 x.f0).wf = true ∧ x.f1.size ≤ 9223372036854775807 ∧ (Lit.int .i64 x.f2).wf = true)) → (l0_1.length ≤ 9223372036854775807 ∧ ∀ x ∈ l0_1, (x.f0.size ≤ 9223372036854775807 ∧ (Lit.int .i64 x.f1).wf = true)) → (l0_2.length ≤ 9223372036854775807 ∧ ∀ x ∈ l0_2, (x.f0.size ≤ 9223372036854775807 ∧ (Lit.int .i64 x.f1).wf = true)) → (l0_3.length ≤ 9223372036854775807 ∧ ∀ x ∈ l0_3, x.size ≤ 9223372036854775807) → (Lit.int .i64 a0_4).wf = true → (Lit.int .i64 a0_5).wf = true → (l1_0.length ≤ 9223372036854775807 ∧ ∀ x ∈ l1_0, ((Lit.int .i64 x.f0).wf = true ∧ x.f1.size ≤ 9223372036854775807 ∧ (Lit.int .i64 x.f2).wf = true)) → (l1_1.length ≤ 9223372036854775807 ∧ ∀ x ∈ l1_1, (x.f0.size ≤ 9223372036854775807 ∧ (Lit.int .i64 x.f1).wf = true)) → (l1_2.length ≤ 9223372036854775807 ∧ ∀ x ∈ l1_2, (x.f0.size ≤ 9223372036854775807 ∧ (Lit.int .i64 x.f1).wf = true)) → (l1_3.length ≤ 9223372036854775807 ∧ ∀ x ∈ l1_3, x.size ≤ 9223372036854775807) → (Lit.int .i64 a1_4).wf = true → (Lit.int .i64 a1_5).wf = true → ∃ k, laws_FnExactCouldFall.f k l0_0 l0_1 l0_2 l0_3 a0_4 a0_5 l1_0 l1_1 l1_2 l1_3 a1_4 a1_5 = some true
theorem laws_FnExactCouldFall.walk (P : laws_FnExactCouldFall.Pure) (A0_0 : Option Addr) (c0_0 : Nat) (l0_0 : List (S110)) (A0_1 : Option Addr) (c0_1 : Nat) (l0_1 : List (S112)) (A0_2 : Option Addr) (c0_2 : Nat) (l0_2 : List (S112)) (A0_3 : Option Addr) (c0_3 : Nat) (l0_3 : List ByteArray) (a0_4 : Int) (a0_5 : Int) (A1_0 : Option Addr) (c1_0 : Nat) (l1_0 : List (S110)) (A1_1 : Option Addr) (c1_1 : Nat) (l1_1 : List (S112)) (A1_2 : Option Addr) (c1_2 : Nat) (l1_2 : List (S112)) (A1_3 : Option Addr) (c1_3 : Nat) (l1_3 : List ByteArray) (a1_4 : Int) (a1_5 : Int) (w : World) (hr0_0 : Kd.C k110 w A0_0 l0_0.length l0_0) (hc0_0 : l0_0.length ≤ c0_0) (hr0_1 : Kd.C k112 w A0_1 l0_1.length l0_1) (hc0_1 : l0_1.length ≤ c0_1) (hr0_2 : Kd.C k112 w A0_2 l0_2.length l0_2) (hc0_2 : l0_2.length ≤ c0_2) (hr0_3 : Kd.C Kd.string w A0_3 l0_3.length l0_3) (hc0_3 : l0_3.length ≤ c0_3) (hr1_0 : Kd.C k110 w A1_0 l1_0.length l1_0) (hc1_0 : l1_0.length ≤ c1_0) (hr1_1 : Kd.C k112 w A1_1 l1_1.length l1_1) (hc1_1 : l1_1.length ≤ c1_1) (hr1_2 : Kd.C k112 w A1_2 l1_2.length l1_2) (hc1_2 : l1_2.length ≤ c1_2) (hr1_3 : Kd.C Kd.string w A1_3 l1_3.length l1_3) (hc1_3 : l1_3.length ≤ c1_3) (q0_0 : (l0_0.length ≤ 9223372036854775807 ∧ ∀ x ∈ l0_0, ((Lit.int .i64 x.f0).wf = true ∧ x.f1.size ≤ 9223372036854775807 ∧ (Lit.int .i64 x.f2).wf = true))) (q0_1 : (l0_1.length ≤ 9223372036854775807 ∧ ∀ x ∈ l0_1, (x.f0.size ≤ 9223372036854775807 ∧ (Lit.int .i64 x.f1).wf = true))) (q0_2 : (l0_2.length ≤ 9223372036854775807 ∧ ∀ x ∈ l0_2, (x.f0.size ≤ 9223372036854775807 ∧ (Lit.int .i64 x.f1).wf = true))) (q0_3 : (l0_3.length ≤ 9223372036854775807 ∧ ∀ x ∈ l0_3, x.size ≤ 9223372036854775807)) (q0_4 : (Lit.int .i64 a0_4).wf = true) (q0_5 : (Lit.int .i64 a0_5).wf = true) (q1_0 : (l1_0.length ≤ 9223372036854775807 ∧ ∀ x ∈ l1_0, ((Lit.int .i64 x.f0).wf = true ∧ x.f1.size ≤ 9223372036854775807 ∧ (Lit.int .i64 x.f2).wf = true))) (q1_1 : (l1_1.length ≤ 9223372036854775807 ∧ ∀ x ∈ l1_1, (x.f0.size ≤ 9223372036854775807 ∧ (Lit.int .i64 x.f1).wf = true))) (q1_2 : (l1_2.length ≤ 9223372036854775807 ∧ ∀ x ∈ l1_2, (x.f0.size ≤ 9223372036854775807 ∧ (Lit.int .i64 x.f1).wf = true))) (q1_3 : (l1_3.length ≤ 9223372036854775807 ∧ ∀ x ∈ l1_3, x.size ≤ 9223372036854775807)) (q1_4 : (Lit.int .i64 a1_4).wf = true) (q1_5 : (Lit.int .i64 a1_5).wf = true) (hTE : TabsE w) (hTP : TabsP w) :
  Calls Tryz.prog 8 #[.agg #[.slice A0_0 l0_0.length c0_0, .slice A0_1 l0_1.length c0_1, .slice A0_2 l0_2.length c0_2, .slice A0_3 l0_3.length c0_3, .int .i64 a0_4, .int .i64 a0_5], .agg #[.slice A1_0 l1_0.length c1_0, .slice A1_1 l1_1.length c1_1, .slice A1_2 l1_2.length c1_2, .slice A1_3 l1_3.length c1_3, .int .i64 a1_4, .int .i64 a1_5]] w fun e w' => e = .returned (.bool true) ∧ Below w.heap.size w w' := by
 obtain ⟨k, h⟩ := P l0_0 l0_1 l0_2 l0_3 a0_4 a0_5 l1_0 l1_1 l1_2 l1_3 a1_4 a1_5 q0_0 q0_1 q0_2 q0_3 q0_4 q0_5 q1_0 q1_1 q1_2 q1_3 q1_4 q1_5
 refine (laws_FnExactCouldFall.calls k A0_0 c0_0 l0_0 A0_1 c0_1 l0_1 A0_2 c0_2 l0_2 A0_3 c0_3 l0_3 a0_4 a0_5 A1_0 c1_0 l1_0 A1_1 c1_1 l1_1 A1_2 c1_2 l1_2 A1_3 c1_3 l1_3 a1_4 a1_5 true w hr0_0 hc0_0 hr0_1 hc0_1 hr0_2 hc0_2 hr0_3 hc0_3 hr1_0 hc1_0 hr1_1 hc1_1 hr1_2 hc1_2 hr1_3 hc1_3 hTE hTP h ⟨rfl⟩).mono ?_
 rintro e w' ⟨rfl, hd⟩
 exact ⟨rfl, hd⟩

end Go.Proofs.YtbcidclclckgfaaGreatDoor.MFnExactCouldFall
