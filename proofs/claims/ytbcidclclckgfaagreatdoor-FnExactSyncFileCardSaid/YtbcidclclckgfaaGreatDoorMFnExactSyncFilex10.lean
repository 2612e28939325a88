/- Each theorem here says that a call of one Go function answers what the Lean function beside it answers; its conditions stand in it. Written by a program of this session. -/
import Derived.Test.YtbcidclclckgfaaGreatDoorMFnExactSyncFilex0
import Derived.Test.YtbcidclclckgfaaGreatDoorMFnExactSyncFilex4
import Derived.Test.YtbcidclclckgfaaGreatDoorMFnExactSyncFilex5
import Derived.Test.YtbcidclclckgfaaGreatDoorMFnExactSyncFilex8
import Derived.Test.YtbcidclclckgfaaGreatDoorMFnExactSyncFilex9
namespace Go.Proofs.YtbcidclclckgfaaGreatDoor.MFnExactSyncFile
open Go.RowKit Go.Proofs.YtbcidclclckgfaaGreatDoorW.PrintWords Go.Proofs.YtbcidclclckgfaaGreatDoorW.PrintLast Go.Proofs.YtbcidclclckgfaaGreatDoorW.PrintMore
attribute [local go_sem] max2_int min2_int max_two min_two max_three min_three max_four min_four   -- for this text's walks alone
set_option linter.unusedVariables false
set_option linter.unusedSimpArgs false

/-! ### spec_SyncFile: function 24 -/
def spec_SyncFile.j0 : Nat → ByteArray → Bool → List (S57) → List (S59) → List (S59) → List ByteArray → Int → Int → Option ((List (S57)) × (List (S59)) × (List (S59)) × List ByteArray × Int × Int × Int)
 | 0, _, _, _, _, _, _, _, _ => none
 | k + 1, x1, x18, x270000, x270001, x270002, x270003, x270004, x270005 => if x18 = true then (some (x270000, x270001, x270002, x270003, x270004, x270005, 3)) else ((spec_EntryAt.f k x270001 x1).bind fun t287 => ((spec_l05Node.f k x270000 x270001 x270002 x270003 x270004 x270005 t287).bind fun t288 => (if 0 ≤ t288 then (if t288 < (x270000.length : Int) then (some ((x270000.set (t288 : Int).toNat (⟨(rd_T57 x270000 t288).f0, (rd_T57 x270000 t288).f1, (((rd_T57 x270000 t288).f1).size : Int)⟩ : S57)), x270001, x270002, x270003, x270004, x270005, 0)) else (none)) else (none))))
def spec_SyncFile.f (k : Nat) (l0_0 : List (S57)) (l0_1 : List (S59)) (l0_2 : List (S59)) (l0_3 : List ByteArray) (a0_4 : Int) (a0_5 : Int) (a1 : ByteArray) : Option ((List (S57)) × (List (S59)) × (List (S59)) × List ByteArray × Int × Int × Int) := (spec_l05Copy.f l0_0 l0_1 l0_2 l0_3 a0_4 a0_5).bind fun bt271 => ((spec_DiskOk.f k bt271.1 bt271.2.1 bt271.2.2.1 bt271.2.2.2.1 bt271.2.2.2.2.1 bt271.2.2.2.2.2).bind fun t285 => (if t285 = true then ((spec_l06Has.f k bt271.2.1 a1).bind fun t286 => (spec_SyncFile.j0 k a1 (!t286) bt271.1 bt271.2.1 bt271.2.2.1 bt271.2.2.2.1 bt271.2.2.2.2.1 bt271.2.2.2.2.2)) else (spec_SyncFile.j0 k a1 true bt271.1 bt271.2.1 bt271.2.2.1 bt271.2.2.2.1 bt271.2.2.2.2.1 bt271.2.2.2.2.2)))
theorem spec_SyncFile.mono_l : ∀ k, (∀ y0 y1 y2 y3 y4 y5 y6 y7, LeO (spec_SyncFile.j0 k y0 y1 y2 y3 y4 y5 y6 y7) (spec_SyncFile.j0 (k + 1) y0 y1 y2 y3 y4 y5 y6 y7))
 | 0 => fun _ _ _ _ _ _ _ _ r h => by simp [spec_SyncFile.j0] at h
 | k + 1 => by
  ·intro y0 y1 y2 y3 y4 y5 y6 y7
   unfold spec_SyncFile.j0
   repeat' first | (with_reducible exact spec_EntryAt.mono _ _ _) | (with_reducible exact spec_l05Node.mono _ _ _ _ _ _ _ _) | (with_reducible exact LeO.refl _) | (with_reducible refine LeO.ite ?_ ?_) | (with_reducible refine LeO.bind ?_ (fun _ => ?_))
theorem spec_SyncFile.mono : ∀ a0 a1 a2 a3 a4 a5 a6 k, LeO (spec_SyncFile.f k a0 a1 a2 a3 a4 a5 a6) (spec_SyncFile.f (k + 1) a0 a1 a2 a3 a4 a5 a6) := by
 intro a0 a1 a2 a3 a4 a5 a6 k
 have ih0 := spec_SyncFile.mono_l k
 unfold spec_SyncFile.f
 repeat' first | (with_reducible exact ih0 _ _ _ _ _ _ _ _) | (with_reducible exact spec_DiskOk.mono _ _ _ _ _ _ _) | (with_reducible exact spec_l06Has.mono _ _ _) | (with_reducible exact LeO.refl _) | (with_reducible refine LeO.ite ?_ ?_) | (with_reducible refine LeO.bind ?_ (fun _ => ?_))
def spec_SyncFile.T5 : Bool × List (List Nat × List Nat) := (true, [([], []), ([0], [0]), ([], []), ([], []), ([3], [3]), ([], []), ([4, 5], [4, 5]), ([6], [6]), ([7], [7]), ([8], [8]), ([1, 2, 0, 1, 2, 3, 4, 5, 6, 7, 8, 9], [1, 2]), ([10, 0, 1, 2, 3, 4, 5, 6, 7, 8, 9], [10]), ([11, 9, 0, 1, 2, 3, 4, 5, 6, 7, 8, 9], [9, 11])])
def spec_SyncFile.B5 : List Nat := [0, 1, 0, 0, 8, 0, 56, 120, 248, 504, 1023, 2047, 4095]
theorem spec_SyncFile.tab5 : rtab .any (opsOf Tryz.f24 5) = spec_SyncFile.T5 := by kernel_rfl
theorem spec_SyncFile.bits5 : waitsOk spec_SyncFile.T5.2 spec_SyncFile.B5 = true := by kernel_rfl
set_option maxHeartbeats 8000000 in
set_option maxRecDepth 100000 in
theorem spec_SyncFile.calls (k : Nat) (A0_0 : Option Addr) (c0_0 : Nat) (l0_0 : List (S57)) (A0_1 : Option Addr) (c0_1 : Nat) (l0_1 : List (S59)) (A0_2 : Option Addr) (c0_2 : Nat) (l0_2 : List (S59)) (A0_3 : Option Addr) (c0_3 : Nat) (l0_3 : List ByteArray) (a0_4 : Int) (a0_5 : Int) (a1 : ByteArray) (r1 : List (S57)) (r2 : List (S59)) (r3 : List (S59)) (r4 : List ByteArray) (r5 : Int) (r6 : Int) (r7 : Int) (w : World) (hr0_0 : Kd.C k57 w A0_0 l0_0.length l0_0) (hc0_0 : l0_0.length ≤ c0_0) (hr0_1 : Kd.C k59 w A0_1 l0_1.length l0_1) (hc0_1 : l0_1.length ≤ c0_1) (hr0_2 : Kd.C k59 w A0_2 l0_2.length l0_2) (hc0_2 : l0_2.length ≤ c0_2) (hr0_3 : Kd.C Kd.string w A0_3 l0_3.length l0_3) (hc0_3 : l0_3.length ≤ c0_3) (h : spec_SyncFile.f k l0_0 l0_1 l0_2 l0_3 a0_4 a0_5 a1 = some (r1, r2, r3, r4, r5, r6, r7)) :
  Calls Tryz.prog 24 #[.agg #[.slice A0_0 l0_0.length c0_0, .slice A0_1 l0_1.length c0_1, .slice A0_2 l0_2.length c0_2, .slice A0_3 l0_3.length c0_3, .int .i64 a0_4, .int .i64 a0_5], .string a1] w fun e w' => ∃ v0_ v1_ v2_ v3_ : Value, e = .returned (.tuple #[.agg #[v0_, v1_, v2_, v3_, .int .i64 r5, .int .i64 r6], .int .i64 r7]) ∧ Kd.R k57 57 w' w.heap.size (fun _ => True) v0_ r1 ∧ Kd.R k59 59 w' w.heap.size (fun k_ => some k_ ≠ (v2_ : Value).ownBlock) v1_ r2 ∧ Kd.R k59 59 w' w.heap.size (fun k_ => some k_ ≠ (v1_ : Value).ownBlock) v2_ r3 ∧ Kd.R Kd.string 9 w' w.heap.size (fun _ => True) v3_ r4 ∧ Below w.heap.size w w' := by
 have HR0_0 := Aside0.mk hr0_0
 have HC0_0 := Aside0.mk hc0_0
 clear hr0_0 hc0_0
 have HR0_1 := Aside0.mk hr0_1
 have HC0_1 := Aside0.mk hc0_1
 clear hr0_1 hc0_1
 have HR0_2 := Aside0.mk hr0_2
 have HC0_2 := Aside0.mk hc0_2
 clear hr0_2 hc0_2
 have HR0_3 := Aside0.mk hr0_3
 have HC0_3 := Aside0.mk hc0_3
 clear hr0_3 hc0_3
 have HB := Aside0.mk (Below.refl w.heap.size w)
 have H : ((spec_l05Copy.f l0_0 l0_1 l0_2 l0_3 a0_4 a0_5).bind fun bt271 => ((spec_DiskOk.f k bt271.1 bt271.2.1 bt271.2.2.1 bt271.2.2.2.1 bt271.2.2.2.2.1 bt271.2.2.2.2.2).bind fun t285 => (if t285 = true then ((spec_l06Has.f k bt271.2.1 a1).bind fun t286 => (spec_SyncFile.j0 k a1 (!t286) bt271.1 bt271.2.1 bt271.2.2.1 bt271.2.2.2.1 bt271.2.2.2.2.1 bt271.2.2.2.2.2)) else (spec_SyncFile.j0 k a1 true bt271.1 bt271.2.1 bt271.2.2.1 bt271.2.2.2.1 bt271.2.2.2.2.1 bt271.2.2.2.2.2)))) = some (r1, r2, r3, r4, r5, r6, r7) := h
 clear h
 replace H := Option.bind_eq_some_iff.mp H
 obtain ⟨⟨t271, t274, t277, t280, t283, t284⟩, A30, H⟩ := H
 replace H : ((spec_DiskOk.f k t271 t274 t277 t280 t283 t284).bind fun t285 => (if t285 = true then ((spec_l06Has.f k t274 a1).bind fun t286 => (spec_SyncFile.j0 k a1 (!t286) t271 t274 t277 t280 t283 t284)) else (spec_SyncFile.j0 k a1 true t271 t274 t277 t280 t283 t284))) = some (r1, r2, r3, r4, r5, r6, r7) := H
 have A3 := Aside0.mk A30
 clear A30
 have HC4 := Aside0.mk H
 clear H
 go_enter Tryz.func24, Tryz.ntmps24
 go_upto_region 2 with (first | ((with_reducible refine gate_dst (N := 2) rfl ?_); refine box_event ?hg (N := 2) ?hd (cs := #[.slice A0_0 l0_0.length c0_0, .slice A0_1 l0_1.length c0_1, .slice A0_2 l0_2.length c0_2, .slice A0_3 l0_3.length c0_3, .int .i64 a0_4, .int .i64 a0_5]) (t := 32) ?hr ?_; (case hd => rfl); (case hg => rfl); (case hr => (go_simp; done)); intro gb269 hg w5 hbox hb; have BK269 := Aside0.mk (hbox); have GE269 := Aside0.mk ((by rw [hg]; exact (below_size HB.out) : w.heap.size ≤ gb269)); replace HB := Aside0.mk (below_step HB.out hb); clear hb hbox hg) | ((with_reducible refine gate_dst (N := 4) rfl ?_); refine box_event ?hg (N := 4) ?hd (cs := #[.slice none 0 0, .slice none 0 0, .slice none 0 0, .slice none 0 0, .int .i64 0, .int .i64 0]) (t := 32) ?hr ?_; (case hd => rfl); (case hg => rfl); (case hr => (go_simp; done)); intro gb270 hg w6 hbox hb; have BK270 := Aside0.mk (hbox); have GE270 := Aside0.mk ((by rw [hg]; exact (below_size HB.out) : w.heap.size ≤ gb270)); have NB270_269 := Aside0.mk ((by rw [hg]; exact Nat.ne_of_gt (blk_lt BK269.out) : gb270 ≠ gb269)); replace BK269 := Aside0.mk (bB hb BK269.out); replace HB := Aside0.mk (below_step HB.out hb); clear hb hbox hg; have hcz8_0 : w6.cell? ⟨gb269, 0, none⟩ = some (.slice A0_0 l0_0.length c0_0) := (blk_cell BK269.out 0).trans rfl; have hcz8_1 : w6.cell? ⟨gb269, 1, none⟩ = some (.slice A0_1 l0_1.length c0_1) := (blk_cell BK269.out 1).trans rfl; have hcz8_2 : w6.cell? ⟨gb269, 2, none⟩ = some (.slice A0_2 l0_2.length c0_2) := (blk_cell BK269.out 2).trans rfl; have hcz8_3 : w6.cell? ⟨gb269, 3, none⟩ = some (.slice A0_3 l0_3.length c0_3) := (blk_cell BK269.out 3).trans rfl; have hcz8_4 : w6.cell? ⟨gb269, 4, none⟩ = some (.int .i64 a0_4) := (blk_cell BK269.out 4).trans rfl; have hcz8_5 : w6.cell? ⟨gb269, 5, none⟩ = some (.int .i64 a0_5) := (blk_cell BK269.out 5).trans rfl; skip) | ((with_reducible refine gate_callee (f := 78) rfl ?_); refine goesL_ (some 8) rfl rfl Tryz.func78 (by kernel_rfl) rfl #[.agg #[.slice A0_0 l0_0.length c0_0, .slice A0_1 l0_1.length c0_1, .slice A0_2 l0_2.length c0_2, .slice A0_3 l0_3.length c0_3, .int .i64 a0_4, .int .i64 a0_5]] rfl (by (try simp only [List.map_toArray, List.map_cons, List.map_nil]); rfl) ?_; (with_reducible refine (spec_l05Copy.calls _ _ l0_0 _ _ l0_1 _ _ l0_2 _ _ l0_3 a0_4 a0_5 t271 t274 t277 t280 t283 t284 _ ?side1 ?side2 ?side3 ?side4 ?side5 ?side6 ?side7 ?side8 A3.out).mono ?_); (case side1 => repeat (exact (Kd.C_below HR0_0.out HB.out))); (case side2 => exact HC0_0.out); (case side3 => repeat (exact (Kd.C_below HR0_1.out HB.out))); (case side4 => exact HC0_1.out); (case side5 => repeat (exact (Kd.C_below HR0_2.out HB.out))); (case side6 => exact HC0_2.out); (case side7 => repeat (exact (Kd.C_below HR0_3.out HB.out))); (case side8 => exact HC0_3.out); rintro e w9 ⟨v272, v275, v278, v281, rfl, ho0, ho1, ho2, ho3, hb⟩; refine ⟨_, rfl, ?_⟩; have HO273 := Aside0.mk (Kd.R_lower ho0 (below_size HB.out)); have HO276 := Aside0.mk (Kd.R_lower ho1 (below_size HB.out)); have HO279 := Aside0.mk (Kd.R_lower ho2 (below_size HB.out)); have HO282 := Aside0.mk (Kd.R_lower ho3 (below_size HB.out)); replace BK269 := Aside0.mk (bB hb BK269.out); replace BK270 := Aside0.mk (bB hb BK270.out); replace HB := Aside0.mk (below_step HB.out hb); (try clear hb); (try clear ho0); (try clear ho1); (try clear ho2); (try clear ho3); obtain ⟨Ao10, co10, eo10⟩ := Kd.R_slice HO273.out; subst eo10; have hcz11_0 : w9.cell? ⟨gb269, 0, none⟩ = some (.slice A0_0 l0_0.length c0_0) := (blk_cell BK269.out 0).trans rfl; have hcz11_1 : w9.cell? ⟨gb269, 1, none⟩ = some (.slice A0_1 l0_1.length c0_1) := (blk_cell BK269.out 1).trans rfl; have hcz11_2 : w9.cell? ⟨gb269, 2, none⟩ = some (.slice A0_2 l0_2.length c0_2) := (blk_cell BK269.out 2).trans rfl; have hcz11_3 : w9.cell? ⟨gb269, 3, none⟩ = some (.slice A0_3 l0_3.length c0_3) := (blk_cell BK269.out 3).trans rfl; have hcz11_4 : w9.cell? ⟨gb269, 4, none⟩ = some (.int .i64 a0_4) := (blk_cell BK269.out 4).trans rfl; have hcz11_5 : w9.cell? ⟨gb269, 5, none⟩ = some (.int .i64 a0_5) := (blk_cell BK269.out 5).trans rfl; have hfz11_0 := blk_frozen BK269.out 0; have hfz11_1 := blk_frozen BK269.out 1; have hfz11_2 := blk_frozen BK269.out 2; have hfz11_3 := blk_frozen BK269.out 3; have hfz11_4 := blk_frozen BK269.out 4; have hfz11_5 := blk_frozen BK269.out 5; obtain ⟨Ao12, co12, eo12⟩ := Kd.R_slice HO276.out; subst eo12; obtain ⟨Ao13, co13, eo13⟩ := Kd.R_slice HO279.out; subst eo13; obtain ⟨Ao14, co14, eo14⟩ := Kd.R_slice HO282.out; subst eo14))
 (try simp only [Act.put, List.setIfInBounds_toArray, List.set_cons_zero, List.set_cons_succ])
 go_cut [18] (fun v18 wc => ∃ (kq : Nat) (x18_3 : Bool), v18 = .bool x18_3 ∧ Aside0 (spec_SyncFile.j0 kq a1 x18_3 t271 t274 t277 t280 t283 t284 = some (r1, r2, r3, r4, r5, r6, r7)) ∧ Aside0 (kq ≤ k) ∧ Aside0 (Kd.R k57 57 wc w.heap.size (fun _ => True) (.slice Ao10 t271.length co10) t271) ∧ Aside0 (Kd.R k59 59 wc w.heap.size (fun k_ => some k_ ≠ ((.slice Ao13 t277.length co13) : Value).ownBlock) (.slice Ao12 t274.length co12) t274) ∧ Aside0 (Kd.R k59 59 wc w.heap.size (fun k_ => some k_ ≠ ((.slice Ao12 t274.length co12) : Value).ownBlock) (.slice Ao13 t277.length co13) t277) ∧ Aside0 (Kd.R Kd.string 9 wc w.heap.size (fun _ => True) (.slice Ao14 t280.length co14) t280) ∧ Aside0 (wc.heap[gb269]? = some (.cells #[(.slice Ao10 t271.length co10), (.slice Ao12 t274.length co12), (.slice Ao13 t277.length co13), (.slice Ao14 t280.length co14), .int .i64 t283, .int .i64 t284] 32 (0, 0))) ∧ Aside0 (wc.heap[gb270]? = some (.cells #[(.slice none 0 0), (.slice none 0 0), (.slice none 0 0), (.slice none 0 0), .int .i64 0, .int .i64 0] 32 (0, 0))) ∧ Aside0 (Below w.heap.size w wc))
 case first =>
  have H := HC4.out
  clear HC4
  replace H := Option.bind_eq_some_iff.mp H
  obtain ⟨t285, A150, H⟩ := H
  replace H : (if t285 = true then ((spec_l06Has.f k t274 a1).bind fun t286 => (spec_SyncFile.j0 k a1 (!t286) t271 t274 t277 t280 t283 t284)) else (spec_SyncFile.j0 k a1 true t271 t274 t277 t280 t283 t284)) = some (r1, r2, r3, r4, r5, r6, r7) := H
  have A15 := Aside0.mk A150
  clear A150
  by_cases c16 : t285 = true
  ·subst c16
   have H1 : ((spec_l06Has.f k t274 a1).bind fun t286 => (spec_SyncFile.j0 k a1 (!t286) t271 t274 t277 t280 t283 t284)) = some (r1, r2, r3, r4, r5, r6, r7) := by rw [if_pos rfl] at H; exact H
   clear H
   have H := H1
   clear H1
   replace H := Option.bind_eq_some_iff.mp H
   obtain ⟨t286, A170, H⟩ := H
   replace H : (spec_SyncFile.j0 k a1 (!t286) t271 t274 t277 t280 t283 t284) = some (r1, r2, r3, r4, r5, r6, r7) := H
   have A17 := Aside0.mk A170
   clear A170
   have H' := Aside0.mk H
   clear H
   go_wp2_with (first | ((with_reducible refine gate_callee (f := 16) rfl ?_); refine goesL_ (some 10) rfl rfl Tryz.func16 (by kernel_rfl) rfl #[.agg #[.slice Ao10 t271.length co10, .slice Ao12 t274.length co12, .slice Ao13 t277.length co13, .slice Ao14 t280.length co14, .int .i64 t283, .int .i64 t284]] rfl (by (try simp only [List.map_toArray, List.map_cons, List.map_nil]); rfl) ?_; (with_reducible refine (spec_DiskOk.calls k _ _ t271 _ _ t274 _ _ t277 _ _ t280 t283 t284 true _ ?side1 ?side2 ?side3 ?side4 ?side5 ?side6 ?side7 ?side8 A15.out).mono ?_); (case side1 => refine (Kd.R_reads' (e := 57) (base := w.heap.size) (ok := fun k_ => True) (n := t271.length) (c := co10) ?_).2.2; exact (by exact (Kd.R_mono (Kd.R_far (p := ⟨gb269, 5, none⟩) (Kd.R_far (p := ⟨gb269, 4, none⟩) (Kd.R_far (p := ⟨gb269, 3, none⟩) (Kd.R_far (p := ⟨gb269, 2, none⟩) (Kd.R_far (p := ⟨gb269, 1, none⟩) (Kd.R_far (p := ⟨gb269, 0, none⟩) (Kd.R_types HO273.out BK269.out (by decide)) (fun _ hk => hk.2) (.slice Ao10 t271.length co10)) (fun _ hk => hk.2) (.slice Ao12 t274.length co12)) (fun _ hk => hk.2) (.slice Ao13 t277.length co13)) (fun _ hk => hk.2) (.slice Ao14 t280.length co14)) (fun _ hk => hk.2) (.int .i64 t283)) (fun _ hk => hk.2) (.int .i64 t284)) (fun _ h_ => h_.1)))); (case side2 => exact (Kd.R_reads' HO273.out).2.1); (case side3 => refine (Kd.R_reads' (e := 59) (base := w.heap.size) (ok := fun k_ => some k_ ≠ (.slice Ao13 t277.length co13 : Value).ownBlock) (n := t274.length) (c := co12) ?_).2.2; exact (by exact (Kd.R_mono (Kd.R_far (p := ⟨gb269, 5, none⟩) (Kd.R_far (p := ⟨gb269, 4, none⟩) (Kd.R_far (p := ⟨gb269, 3, none⟩) (Kd.R_far (p := ⟨gb269, 2, none⟩) (Kd.R_far (p := ⟨gb269, 1, none⟩) (Kd.R_far (p := ⟨gb269, 0, none⟩) (Kd.R_types HO276.out BK269.out (by decide)) (fun _ hk => hk.2) (.slice Ao10 t271.length co10)) (fun _ hk => hk.2) (.slice Ao12 t274.length co12)) (fun _ hk => hk.2) (.slice Ao13 t277.length co13)) (fun _ hk => hk.2) (.slice Ao14 t280.length co14)) (fun _ hk => hk.2) (.int .i64 t283)) (fun _ hk => hk.2) (.int .i64 t284)) (fun _ h_ => h_.1)))); (case side4 => exact (Kd.R_reads' HO276.out).2.1); (case side5 => refine (Kd.R_reads' (e := 59) (base := w.heap.size) (ok := fun k_ => some k_ ≠ (.slice Ao12 t274.length co12 : Value).ownBlock) (n := t277.length) (c := co13) ?_).2.2; exact (by exact (Kd.R_mono (Kd.R_far (p := ⟨gb269, 5, none⟩) (Kd.R_far (p := ⟨gb269, 4, none⟩) (Kd.R_far (p := ⟨gb269, 3, none⟩) (Kd.R_far (p := ⟨gb269, 2, none⟩) (Kd.R_far (p := ⟨gb269, 1, none⟩) (Kd.R_far (p := ⟨gb269, 0, none⟩) (Kd.R_types HO279.out BK269.out (by decide)) (fun _ hk => hk.2) (.slice Ao10 t271.length co10)) (fun _ hk => hk.2) (.slice Ao12 t274.length co12)) (fun _ hk => hk.2) (.slice Ao13 t277.length co13)) (fun _ hk => hk.2) (.slice Ao14 t280.length co14)) (fun _ hk => hk.2) (.int .i64 t283)) (fun _ hk => hk.2) (.int .i64 t284)) (fun _ h_ => h_.1)))); (case side6 => exact (Kd.R_reads' HO279.out).2.1); (case side7 => refine (Kd.R_reads' (e := 9) (base := w.heap.size) (ok := fun k_ => True) (n := t280.length) (c := co14) ?_).2.2; exact (by exact (Kd.R_mono (Kd.R_far (p := ⟨gb269, 5, none⟩) (Kd.R_far (p := ⟨gb269, 4, none⟩) (Kd.R_far (p := ⟨gb269, 3, none⟩) (Kd.R_far (p := ⟨gb269, 2, none⟩) (Kd.R_far (p := ⟨gb269, 1, none⟩) (Kd.R_far (p := ⟨gb269, 0, none⟩) (Kd.R_types HO282.out BK269.out (by decide)) (fun _ hk => hk.2) (.slice Ao10 t271.length co10)) (fun _ hk => hk.2) (.slice Ao12 t274.length co12)) (fun _ hk => hk.2) (.slice Ao13 t277.length co13)) (fun _ hk => hk.2) (.slice Ao14 t280.length co14)) (fun _ hk => hk.2) (.int .i64 t283)) (fun _ hk => hk.2) (.int .i64 t284)) (fun _ h_ => h_.1)))); (case side8 => exact (Kd.R_reads' HO282.out).2.1); rintro e w20 ⟨rfl, hb⟩; refine ⟨_, rfl, ?_⟩; replace HO273 := Aside0.mk (Kd.R_below (by exact (Kd.R_mono (Kd.R_far (p := ⟨gb269, 5, none⟩) (Kd.R_far (p := ⟨gb269, 4, none⟩) (Kd.R_far (p := ⟨gb269, 3, none⟩) (Kd.R_far (p := ⟨gb269, 2, none⟩) (Kd.R_far (p := ⟨gb269, 1, none⟩) (Kd.R_far (p := ⟨gb269, 0, none⟩) (Kd.R_types HO273.out BK269.out (by decide)) (fun _ hk => hk.2) (.slice Ao10 t271.length co10)) (fun _ hk => hk.2) (.slice Ao12 t274.length co12)) (fun _ hk => hk.2) (.slice Ao13 t277.length co13)) (fun _ hk => hk.2) (.slice Ao14 t280.length co14)) (fun _ hk => hk.2) (.int .i64 t283)) (fun _ hk => hk.2) (.int .i64 t284)) (fun _ h_ => h_.1))) hb); replace HO276 := Aside0.mk (Kd.R_below (by exact (Kd.R_mono (Kd.R_far (p := ⟨gb269, 5, none⟩) (Kd.R_far (p := ⟨gb269, 4, none⟩) (Kd.R_far (p := ⟨gb269, 3, none⟩) (Kd.R_far (p := ⟨gb269, 2, none⟩) (Kd.R_far (p := ⟨gb269, 1, none⟩) (Kd.R_far (p := ⟨gb269, 0, none⟩) (Kd.R_types HO276.out BK269.out (by decide)) (fun _ hk => hk.2) (.slice Ao10 t271.length co10)) (fun _ hk => hk.2) (.slice Ao12 t274.length co12)) (fun _ hk => hk.2) (.slice Ao13 t277.length co13)) (fun _ hk => hk.2) (.slice Ao14 t280.length co14)) (fun _ hk => hk.2) (.int .i64 t283)) (fun _ hk => hk.2) (.int .i64 t284)) (fun _ h_ => h_.1))) hb); replace HO279 := Aside0.mk (Kd.R_below (by exact (Kd.R_mono (Kd.R_far (p := ⟨gb269, 5, none⟩) (Kd.R_far (p := ⟨gb269, 4, none⟩) (Kd.R_far (p := ⟨gb269, 3, none⟩) (Kd.R_far (p := ⟨gb269, 2, none⟩) (Kd.R_far (p := ⟨gb269, 1, none⟩) (Kd.R_far (p := ⟨gb269, 0, none⟩) (Kd.R_types HO279.out BK269.out (by decide)) (fun _ hk => hk.2) (.slice Ao10 t271.length co10)) (fun _ hk => hk.2) (.slice Ao12 t274.length co12)) (fun _ hk => hk.2) (.slice Ao13 t277.length co13)) (fun _ hk => hk.2) (.slice Ao14 t280.length co14)) (fun _ hk => hk.2) (.int .i64 t283)) (fun _ hk => hk.2) (.int .i64 t284)) (fun _ h_ => h_.1))) hb); replace HO282 := Aside0.mk (Kd.R_below (by exact (Kd.R_mono (Kd.R_far (p := ⟨gb269, 5, none⟩) (Kd.R_far (p := ⟨gb269, 4, none⟩) (Kd.R_far (p := ⟨gb269, 3, none⟩) (Kd.R_far (p := ⟨gb269, 2, none⟩) (Kd.R_far (p := ⟨gb269, 1, none⟩) (Kd.R_far (p := ⟨gb269, 0, none⟩) (Kd.R_types HO282.out BK269.out (by decide)) (fun _ hk => hk.2) (.slice Ao10 t271.length co10)) (fun _ hk => hk.2) (.slice Ao12 t274.length co12)) (fun _ hk => hk.2) (.slice Ao13 t277.length co13)) (fun _ hk => hk.2) (.slice Ao14 t280.length co14)) (fun _ hk => hk.2) (.int .i64 t283)) (fun _ hk => hk.2) (.int .i64 t284)) (fun _ h_ => h_.1))) hb); replace BK269 := Aside0.mk (blk_below (g := gb269) (o := .cells #[.slice Ao10 t271.length co10, .slice Ao12 t274.length co12, .slice Ao13 t277.length co13, .slice Ao14 t280.length co14, .int .i64 t283, .int .i64 t284] 32 (0, 0)) (by refine blk_put (cs := #[.slice Ao10 t271.length co10, .slice Ao12 t274.length co12, .slice Ao13 t277.length co13, .slice Ao14 t280.length co14, .int .i64 t283, .int .i64 a0_5]) ?_ 5 _ rfl; refine blk_put (cs := #[.slice Ao10 t271.length co10, .slice Ao12 t274.length co12, .slice Ao13 t277.length co13, .slice Ao14 t280.length co14, .int .i64 a0_4, .int .i64 a0_5]) ?_ 4 _ rfl; refine blk_put (cs := #[.slice Ao10 t271.length co10, .slice Ao12 t274.length co12, .slice Ao13 t277.length co13, .slice A0_3 l0_3.length c0_3, .int .i64 a0_4, .int .i64 a0_5]) ?_ 3 _ rfl; refine blk_put (cs := #[.slice Ao10 t271.length co10, .slice Ao12 t274.length co12, .slice A0_2 l0_2.length c0_2, .slice A0_3 l0_3.length c0_3, .int .i64 a0_4, .int .i64 a0_5]) ?_ 2 _ rfl; refine blk_put (cs := #[.slice Ao10 t271.length co10, .slice A0_1 l0_1.length c0_1, .slice A0_2 l0_2.length c0_2, .slice A0_3 l0_3.length c0_3, .int .i64 a0_4, .int .i64 a0_5]) ?_ 1 _ rfl; refine blk_put (cs := #[.slice A0_0 l0_0.length c0_0, .slice A0_1 l0_1.length c0_1, .slice A0_2 l0_2.length c0_2, .slice A0_3 l0_3.length c0_3, .int .i64 a0_4, .int .i64 a0_5]) ?_ 0 _ rfl; exact BK269.out) hb); replace BK270 := Aside0.mk (bB hb (blk_far (blk_far (blk_far (blk_far (blk_far (blk_far BK270.out NB270_269.out _) NB270_269.out _) NB270_269.out _) NB270_269.out _) NB270_269.out _) NB270_269.out _)); replace HB := Aside0.mk (below_step (by repeat (with_reducible first | exact HB.out | refine below_set ?_ GE269.out)) hb); (try clear hb); have hcz21_1 : w20.cell? ⟨gb269, 1, none⟩ = some (.slice Ao12 t274.length co12) := (blk_cell BK269.out 1).trans rfl; skip) | (go_at_call 79; (with_reducible refine (spec_l06Has.calls k _ _ t274 a1 t286 _ ?side1 ?side2 A17.out).mono ?_); (case side1 => repeat (exact (Kd.R_reads' HO276.out).2.2)); (case side2 => exact (Kd.R_reads' HO276.out).2.1); rintro e w' ⟨rfl, ⟨nd, rfl⟩⟩))
   go_meet
   case rel => exact ⟨_, (!t286), (by rfl), H', ⟨by omega⟩, ⟨by (with_reducible repeat (apply Kd.R_drewN)); exact HO273.out⟩, ⟨by (with_reducible repeat (apply Kd.R_drewN)); exact HO276.out⟩, ⟨by (with_reducible repeat (apply Kd.R_drewN)); exact HO279.out⟩, ⟨by (with_reducible repeat (apply Kd.R_drewN)); exact HO282.out⟩, ⟨by (with_reducible repeat (refine blk_drewN ?_ _)); exact BK269.out⟩, ⟨by (with_reducible repeat (refine blk_drewN ?_ _)); exact BK270.out⟩, ⟨by repeat (with_reducible first | exact HB.out | apply pw_below_drewN)⟩⟩
  ·replace c16 := Bool.eq_false_iff.mpr c16
   subst c16
   have H1 : (spec_SyncFile.j0 k a1 true t271 t274 t277 t280 t283 t284) = some (r1, r2, r3, r4, r5, r6, r7) := by rw [if_neg (show ¬ (false = true) by decide)] at H; exact H
   clear H
   have H := H1
   clear H1
   have H' := Aside0.mk H
   clear H
   go_wp2_with (((with_reducible refine gate_callee (f := 16) rfl ?_); refine goesL_ (some 10) rfl rfl Tryz.func16 (by kernel_rfl) rfl #[.agg #[.slice Ao10 t271.length co10, .slice Ao12 t274.length co12, .slice Ao13 t277.length co13, .slice Ao14 t280.length co14, .int .i64 t283, .int .i64 t284]] rfl (by (try simp only [List.map_toArray, List.map_cons, List.map_nil]); rfl) ?_; (with_reducible refine (spec_DiskOk.calls k _ _ t271 _ _ t274 _ _ t277 _ _ t280 t283 t284 false _ ?side1 ?side2 ?side3 ?side4 ?side5 ?side6 ?side7 ?side8 A15.out).mono ?_); (case side1 => refine (Kd.R_reads' (e := 57) (base := w.heap.size) (ok := fun k_ => True) (n := t271.length) (c := co10) ?_).2.2; exact (by exact (Kd.R_mono (Kd.R_far (p := ⟨gb269, 5, none⟩) (Kd.R_far (p := ⟨gb269, 4, none⟩) (Kd.R_far (p := ⟨gb269, 3, none⟩) (Kd.R_far (p := ⟨gb269, 2, none⟩) (Kd.R_far (p := ⟨gb269, 1, none⟩) (Kd.R_far (p := ⟨gb269, 0, none⟩) (Kd.R_types HO273.out BK269.out (by decide)) (fun _ hk => hk.2) (.slice Ao10 t271.length co10)) (fun _ hk => hk.2) (.slice Ao12 t274.length co12)) (fun _ hk => hk.2) (.slice Ao13 t277.length co13)) (fun _ hk => hk.2) (.slice Ao14 t280.length co14)) (fun _ hk => hk.2) (.int .i64 t283)) (fun _ hk => hk.2) (.int .i64 t284)) (fun _ h_ => h_.1)))); (case side2 => exact (Kd.R_reads' HO273.out).2.1); (case side3 => refine (Kd.R_reads' (e := 59) (base := w.heap.size) (ok := fun k_ => some k_ ≠ (.slice Ao13 t277.length co13 : Value).ownBlock) (n := t274.length) (c := co12) ?_).2.2; exact (by exact (Kd.R_mono (Kd.R_far (p := ⟨gb269, 5, none⟩) (Kd.R_far (p := ⟨gb269, 4, none⟩) (Kd.R_far (p := ⟨gb269, 3, none⟩) (Kd.R_far (p := ⟨gb269, 2, none⟩) (Kd.R_far (p := ⟨gb269, 1, none⟩) (Kd.R_far (p := ⟨gb269, 0, none⟩) (Kd.R_types HO276.out BK269.out (by decide)) (fun _ hk => hk.2) (.slice Ao10 t271.length co10)) (fun _ hk => hk.2) (.slice Ao12 t274.length co12)) (fun _ hk => hk.2) (.slice Ao13 t277.length co13)) (fun _ hk => hk.2) (.slice Ao14 t280.length co14)) (fun _ hk => hk.2) (.int .i64 t283)) (fun _ hk => hk.2) (.int .i64 t284)) (fun _ h_ => h_.1)))); (case side4 => exact (Kd.R_reads' HO276.out).2.1); (case side5 => refine (Kd.R_reads' (e := 59) (base := w.heap.size) (ok := fun k_ => some k_ ≠ (.slice Ao12 t274.length co12 : Value).ownBlock) (n := t277.length) (c := co13) ?_).2.2; exact (by exact (Kd.R_mono (Kd.R_far (p := ⟨gb269, 5, none⟩) (Kd.R_far (p := ⟨gb269, 4, none⟩) (Kd.R_far (p := ⟨gb269, 3, none⟩) (Kd.R_far (p := ⟨gb269, 2, none⟩) (Kd.R_far (p := ⟨gb269, 1, none⟩) (Kd.R_far (p := ⟨gb269, 0, none⟩) (Kd.R_types HO279.out BK269.out (by decide)) (fun _ hk => hk.2) (.slice Ao10 t271.length co10)) (fun _ hk => hk.2) (.slice Ao12 t274.length co12)) (fun _ hk => hk.2) (.slice Ao13 t277.length co13)) (fun _ hk => hk.2) (.slice Ao14 t280.length co14)) (fun _ hk => hk.2) (.int .i64 t283)) (fun _ hk => hk.2) (.int .i64 t284)) (fun _ h_ => h_.1)))); (case side6 => exact (Kd.R_reads' HO279.out).2.1); (case side7 => refine (Kd.R_reads' (e := 9) (base := w.heap.size) (ok := fun k_ => True) (n := t280.length) (c := co14) ?_).2.2; exact (by exact (Kd.R_mono (Kd.R_far (p := ⟨gb269, 5, none⟩) (Kd.R_far (p := ⟨gb269, 4, none⟩) (Kd.R_far (p := ⟨gb269, 3, none⟩) (Kd.R_far (p := ⟨gb269, 2, none⟩) (Kd.R_far (p := ⟨gb269, 1, none⟩) (Kd.R_far (p := ⟨gb269, 0, none⟩) (Kd.R_types HO282.out BK269.out (by decide)) (fun _ hk => hk.2) (.slice Ao10 t271.length co10)) (fun _ hk => hk.2) (.slice Ao12 t274.length co12)) (fun _ hk => hk.2) (.slice Ao13 t277.length co13)) (fun _ hk => hk.2) (.slice Ao14 t280.length co14)) (fun _ hk => hk.2) (.int .i64 t283)) (fun _ hk => hk.2) (.int .i64 t284)) (fun _ h_ => h_.1)))); (case side8 => exact (Kd.R_reads' HO282.out).2.1); rintro e w24 ⟨rfl, hb⟩; refine ⟨_, rfl, ?_⟩; replace HO273 := Aside0.mk (Kd.R_below (by exact (Kd.R_mono (Kd.R_far (p := ⟨gb269, 5, none⟩) (Kd.R_far (p := ⟨gb269, 4, none⟩) (Kd.R_far (p := ⟨gb269, 3, none⟩) (Kd.R_far (p := ⟨gb269, 2, none⟩) (Kd.R_far (p := ⟨gb269, 1, none⟩) (Kd.R_far (p := ⟨gb269, 0, none⟩) (Kd.R_types HO273.out BK269.out (by decide)) (fun _ hk => hk.2) (.slice Ao10 t271.length co10)) (fun _ hk => hk.2) (.slice Ao12 t274.length co12)) (fun _ hk => hk.2) (.slice Ao13 t277.length co13)) (fun _ hk => hk.2) (.slice Ao14 t280.length co14)) (fun _ hk => hk.2) (.int .i64 t283)) (fun _ hk => hk.2) (.int .i64 t284)) (fun _ h_ => h_.1))) hb); replace HO276 := Aside0.mk (Kd.R_below (by exact (Kd.R_mono (Kd.R_far (p := ⟨gb269, 5, none⟩) (Kd.R_far (p := ⟨gb269, 4, none⟩) (Kd.R_far (p := ⟨gb269, 3, none⟩) (Kd.R_far (p := ⟨gb269, 2, none⟩) (Kd.R_far (p := ⟨gb269, 1, none⟩) (Kd.R_far (p := ⟨gb269, 0, none⟩) (Kd.R_types HO276.out BK269.out (by decide)) (fun _ hk => hk.2) (.slice Ao10 t271.length co10)) (fun _ hk => hk.2) (.slice Ao12 t274.length co12)) (fun _ hk => hk.2) (.slice Ao13 t277.length co13)) (fun _ hk => hk.2) (.slice Ao14 t280.length co14)) (fun _ hk => hk.2) (.int .i64 t283)) (fun _ hk => hk.2) (.int .i64 t284)) (fun _ h_ => h_.1))) hb); replace HO279 := Aside0.mk (Kd.R_below (by exact (Kd.R_mono (Kd.R_far (p := ⟨gb269, 5, none⟩) (Kd.R_far (p := ⟨gb269, 4, none⟩) (Kd.R_far (p := ⟨gb269, 3, none⟩) (Kd.R_far (p := ⟨gb269, 2, none⟩) (Kd.R_far (p := ⟨gb269, 1, none⟩) (Kd.R_far (p := ⟨gb269, 0, none⟩) (Kd.R_types HO279.out BK269.out (by decide)) (fun _ hk => hk.2) (.slice Ao10 t271.length co10)) (fun _ hk => hk.2) (.slice Ao12 t274.length co12)) (fun _ hk => hk.2) (.slice Ao13 t277.length co13)) (fun _ hk => hk.2) (.slice Ao14 t280.length co14)) (fun _ hk => hk.2) (.int .i64 t283)) (fun _ hk => hk.2) (.int .i64 t284)) (fun _ h_ => h_.1))) hb); replace HO282 := Aside0.mk (Kd.R_below (by exact (Kd.R_mono (Kd.R_far (p := ⟨gb269, 5, none⟩) (Kd.R_far (p := ⟨gb269, 4, none⟩) (Kd.R_far (p := ⟨gb269, 3, none⟩) (Kd.R_far (p := ⟨gb269, 2, none⟩) (Kd.R_far (p := ⟨gb269, 1, none⟩) (Kd.R_far (p := ⟨gb269, 0, none⟩) (Kd.R_types HO282.out BK269.out (by decide)) (fun _ hk => hk.2) (.slice Ao10 t271.length co10)) (fun _ hk => hk.2) (.slice Ao12 t274.length co12)) (fun _ hk => hk.2) (.slice Ao13 t277.length co13)) (fun _ hk => hk.2) (.slice Ao14 t280.length co14)) (fun _ hk => hk.2) (.int .i64 t283)) (fun _ hk => hk.2) (.int .i64 t284)) (fun _ h_ => h_.1))) hb); replace BK269 := Aside0.mk (blk_below (g := gb269) (o := .cells #[.slice Ao10 t271.length co10, .slice Ao12 t274.length co12, .slice Ao13 t277.length co13, .slice Ao14 t280.length co14, .int .i64 t283, .int .i64 t284] 32 (0, 0)) (by refine blk_put (cs := #[.slice Ao10 t271.length co10, .slice Ao12 t274.length co12, .slice Ao13 t277.length co13, .slice Ao14 t280.length co14, .int .i64 t283, .int .i64 a0_5]) ?_ 5 _ rfl; refine blk_put (cs := #[.slice Ao10 t271.length co10, .slice Ao12 t274.length co12, .slice Ao13 t277.length co13, .slice Ao14 t280.length co14, .int .i64 a0_4, .int .i64 a0_5]) ?_ 4 _ rfl; refine blk_put (cs := #[.slice Ao10 t271.length co10, .slice Ao12 t274.length co12, .slice Ao13 t277.length co13, .slice A0_3 l0_3.length c0_3, .int .i64 a0_4, .int .i64 a0_5]) ?_ 3 _ rfl; refine blk_put (cs := #[.slice Ao10 t271.length co10, .slice Ao12 t274.length co12, .slice A0_2 l0_2.length c0_2, .slice A0_3 l0_3.length c0_3, .int .i64 a0_4, .int .i64 a0_5]) ?_ 2 _ rfl; refine blk_put (cs := #[.slice Ao10 t271.length co10, .slice A0_1 l0_1.length c0_1, .slice A0_2 l0_2.length c0_2, .slice A0_3 l0_3.length c0_3, .int .i64 a0_4, .int .i64 a0_5]) ?_ 1 _ rfl; refine blk_put (cs := #[.slice A0_0 l0_0.length c0_0, .slice A0_1 l0_1.length c0_1, .slice A0_2 l0_2.length c0_2, .slice A0_3 l0_3.length c0_3, .int .i64 a0_4, .int .i64 a0_5]) ?_ 0 _ rfl; exact BK269.out) hb); replace BK270 := Aside0.mk (bB hb (blk_far (blk_far (blk_far (blk_far (blk_far (blk_far BK270.out NB270_269.out _) NB270_269.out _) NB270_269.out _) NB270_269.out _) NB270_269.out _) NB270_269.out _)); replace HB := Aside0.mk (below_step (by repeat (with_reducible first | exact HB.out | refine below_set ?_ GE269.out)) hb); (try clear hb)))
   go_meet
   case rel => exact ⟨_, (true), (by rfl), H', ⟨by omega⟩, ⟨by exact HO273.out⟩, ⟨by exact HO276.out⟩, ⟨by exact HO279.out⟩, ⟨by exact HO282.out⟩, ⟨by exact BK269.out⟩, ⟨by exact BK270.out⟩, ⟨by repeat (with_reducible exact HB.out)⟩⟩
 case rest =>
  clear HC4
  try clear c1
  try clear c2
  try clear p2
  try clear p6
  try clear c7
  try clear c16
  try clear c18
  try clear c22
  try clear c24
  try clear hcz11_0
  try clear hcz11_1
  try clear hcz11_2
  try clear hcz11_3
  try clear hcz11_4
  try clear hcz11_5
  try skip
  try skip
  try skip
  try skip
  try skip
  try skip
  try skip
  try clear hcz21_1
  try skip
  try skip
  try skip
  try skip
  try skip
  try skip
  try skip
  try skip
  try skip
  try skip
  try clear hcz8_0
  try clear hcz8_1
  try clear hcz8_2
  try clear hcz8_3
  try clear hcz8_4
  try clear hcz8_5
  try clear hfz11_0
  try clear hfz11_1
  try clear hfz11_2
  try clear hfz11_3
  try clear hfz11_4
  try clear hfz11_5
  try skip
  try skip
  try skip
  try skip
  try skip
  try skip
  try skip
  try skip
  try skip
  try skip
  try skip
  try skip
  try skip
  try skip
  try skip
  try skip
  try skip
  try skip
  try skip
  try skip
  try skip
  try skip
  try skip
  try skip
  obtain ⟨kq, x18_3, rfl, HA, HJ3, HO_270000, HO_270001, HO_270002, HO_270003, BK269, BK270, HB⟩ := hcut
  cases kq with
  | zero => exact absurd HA.out (by simp [spec_SyncFile.j0])
  | succ kj3 =>
   have H := HA.out
   clear HA
   simp only [spec_SyncFile.j0] at H
   by_cases c25 : x18_3 = true
   ·subst c25
    have H1 : (some (t271, t274, t277, t280, t283, t284, 3)) = some (r1, r2, r3, r4, r5, r6, r7) := by rw [if_pos rfl] at H; exact H
    clear H
    have H := H1
    clear H1
    simp only [Option.some.injEq, Prod.mk.injEq] at H
    obtain ⟨rfl, rfl, rfl, rfl, rfl, rfl, rfl⟩ := H
    have hcz27_0 : wc.cell? ⟨gb269, 0, none⟩ = some (.slice Ao10 t271.length co10) := (blk_cell BK269.out 0).trans rfl
    have hcz27_1 : wc.cell? ⟨gb269, 1, none⟩ = some (.slice Ao12 t274.length co12) := (blk_cell BK269.out 1).trans rfl
    have hcz27_2 : wc.cell? ⟨gb269, 2, none⟩ = some (.slice Ao13 t277.length co13) := (blk_cell BK269.out 2).trans rfl
    have hcz27_3 : wc.cell? ⟨gb269, 3, none⟩ = some (.slice Ao14 t280.length co14) := (blk_cell BK269.out 3).trans rfl
    have hcz27_4 : wc.cell? ⟨gb269, 4, none⟩ = some (.int .i64 t283) := (blk_cell BK269.out 4).trans rfl
    have hcz27_5 : wc.cell? ⟨gb269, 5, none⟩ = some (.int .i64 t284) := (blk_cell BK269.out 5).trans rfl
    have hcz28_0 : wc.cell? ⟨gb270, 0, none⟩ = some (.slice none 0 0) := (blk_cell BK270.out 0).trans rfl
    have hcz28_1 : wc.cell? ⟨gb270, 1, none⟩ = some (.slice none 0 0) := (blk_cell BK270.out 1).trans rfl
    have hcz28_2 : wc.cell? ⟨gb270, 2, none⟩ = some (.slice none 0 0) := (blk_cell BK270.out 2).trans rfl
    have hcz28_3 : wc.cell? ⟨gb270, 3, none⟩ = some (.slice none 0 0) := (blk_cell BK270.out 3).trans rfl
    have hcz28_4 : wc.cell? ⟨gb270, 4, none⟩ = some (.int .i64 0) := (blk_cell BK270.out 4).trans rfl
    have hcz28_5 : wc.cell? ⟨gb270, 5, none⟩ = some (.int .i64 0) := (blk_cell BK270.out 5).trans rfl
    have hfz28_0 := blk_frozen BK270.out 0
    have hfz28_1 := blk_frozen BK270.out 1
    have hfz28_2 := blk_frozen BK270.out 2
    have hfz28_3 := blk_frozen BK270.out 3
    have hfz28_4 := blk_frozen BK270.out 4
    have hfz28_5 := blk_frozen BK270.out 5
    go_wp2
    refine bodyPost_ret (results_ct rfl _ _ gb270 32 #[.slice Ao10 t271.length co10, .slice Ao12 t274.length co12, .slice Ao13 t277.length co13, .slice Ao14 t280.length co14, .int .i64 t283, .int .i64 t284] (0, 0) _ rfl (by refine blk_put (cs := #[.slice Ao10 t271.length co10, .slice Ao12 t274.length co12, .slice Ao13 t277.length co13, .slice Ao14 t280.length co14, .int .i64 t283, .int .i64 0]) ?_ 5 _ rfl; refine blk_put (cs := #[.slice Ao10 t271.length co10, .slice Ao12 t274.length co12, .slice Ao13 t277.length co13, .slice Ao14 t280.length co14, .int .i64 0, .int .i64 0]) ?_ 4 _ rfl; refine blk_put (cs := #[.slice Ao10 t271.length co10, .slice Ao12 t274.length co12, .slice Ao13 t277.length co13, .slice none 0 0, .int .i64 0, .int .i64 0]) ?_ 3 _ rfl; refine blk_put (cs := #[.slice Ao10 t271.length co10, .slice Ao12 t274.length co12, .slice none 0 0, .slice none 0 0, .int .i64 0, .int .i64 0]) ?_ 2 _ rfl; refine blk_put (cs := #[.slice Ao10 t271.length co10, .slice none 0 0, .slice none 0 0, .slice none 0 0, .int .i64 0, .int .i64 0]) ?_ 1 _ rfl; refine blk_put (cs := #[.slice none 0 0, .slice none 0 0, .slice none 0 0, .slice none 0 0, .int .i64 0, .int .i64 0]) ?_ 0 _ rfl; exact BK270.out) Tryz.underlying32 rfl (by kernel_rfl)) rfl ?_
    all_goals exact ⟨_, _, _, _, by first | rfl | (simp [errW_none, errW_some] <;> rfl) | (simp [*, errW_none, errW_some] <;> rfl) | (exfalso; simp only [decide_eq_true_eq, decide_eq_false_iff_not] at *; omega), by exact Kd.R_mono (Kd.R_far (p := ⟨gb270, 5, none⟩) (Kd.R_far (p := ⟨gb270, 4, none⟩) (Kd.R_far (p := ⟨gb270, 3, none⟩) (Kd.R_far (p := ⟨gb270, 2, none⟩) (Kd.R_far (p := ⟨gb270, 1, none⟩) (Kd.R_far (p := ⟨gb270, 0, none⟩) (Kd.R_types HO_270000.out BK270.out (by decide)) (fun _ hk => hk.2) (.slice Ao10 t271.length co10)) (fun _ hk => hk.2) (.slice Ao12 t274.length co12)) (fun _ hk => hk.2) (.slice Ao13 t277.length co13)) (fun _ hk => hk.2) (.slice Ao14 t280.length co14)) (fun _ hk => hk.2) (.int .i64 t283)) (fun _ hk => hk.2) (.int .i64 t284)) (fun _ hk => trivial), by exact Kd.R_mono (Kd.R_far (p := ⟨gb270, 5, none⟩) (Kd.R_far (p := ⟨gb270, 4, none⟩) (Kd.R_far (p := ⟨gb270, 3, none⟩) (Kd.R_far (p := ⟨gb270, 2, none⟩) (Kd.R_far (p := ⟨gb270, 1, none⟩) (Kd.R_far (p := ⟨gb270, 0, none⟩) (Kd.R_types HO_270001.out BK270.out (by decide)) (fun _ hk => hk.2) (.slice Ao10 t271.length co10)) (fun _ hk => hk.2) (.slice Ao12 t274.length co12)) (fun _ hk => hk.2) (.slice Ao13 t277.length co13)) (fun _ hk => hk.2) (.slice Ao14 t280.length co14)) (fun _ hk => hk.2) (.int .i64 t283)) (fun _ hk => hk.2) (.int .i64 t284)) (fun _ hk => hk.1), by exact Kd.R_mono (Kd.R_far (p := ⟨gb270, 5, none⟩) (Kd.R_far (p := ⟨gb270, 4, none⟩) (Kd.R_far (p := ⟨gb270, 3, none⟩) (Kd.R_far (p := ⟨gb270, 2, none⟩) (Kd.R_far (p := ⟨gb270, 1, none⟩) (Kd.R_far (p := ⟨gb270, 0, none⟩) (Kd.R_types HO_270002.out BK270.out (by decide)) (fun _ hk => hk.2) (.slice Ao10 t271.length co10)) (fun _ hk => hk.2) (.slice Ao12 t274.length co12)) (fun _ hk => hk.2) (.slice Ao13 t277.length co13)) (fun _ hk => hk.2) (.slice Ao14 t280.length co14)) (fun _ hk => hk.2) (.int .i64 t283)) (fun _ hk => hk.2) (.int .i64 t284)) (fun _ hk => hk.1), by exact Kd.R_mono (Kd.R_far (p := ⟨gb270, 5, none⟩) (Kd.R_far (p := ⟨gb270, 4, none⟩) (Kd.R_far (p := ⟨gb270, 3, none⟩) (Kd.R_far (p := ⟨gb270, 2, none⟩) (Kd.R_far (p := ⟨gb270, 1, none⟩) (Kd.R_far (p := ⟨gb270, 0, none⟩) (Kd.R_types HO_270003.out BK270.out (by decide)) (fun _ hk => hk.2) (.slice Ao10 t271.length co10)) (fun _ hk => hk.2) (.slice Ao12 t274.length co12)) (fun _ hk => hk.2) (.slice Ao13 t277.length co13)) (fun _ hk => hk.2) (.slice Ao14 t280.length co14)) (fun _ hk => hk.2) (.int .i64 t283)) (fun _ hk => hk.2) (.int .i64 t284)) (fun _ hk => trivial), by repeat (with_reducible first | exact HB.out | refine below_set ?_ GE270.out)⟩
   ·replace c25 := Bool.eq_false_iff.mpr c25
    subst c25
    have H1 : ((spec_EntryAt.f kj3 t274 a1).bind fun t287 => ((spec_l05Node.f kj3 t271 t274 t277 t280 t283 t284 t287).bind fun t288 => (if 0 ≤ t288 then (if t288 < (t271.length : Int) then (some ((t271.set (t288 : Int).toNat (⟨(rd_T57 t271 t288).f0, (rd_T57 t271 t288).f1, (((rd_T57 t271 t288).f1).size : Int)⟩ : S57)), t274, t277, t280, t283, t284, 0)) else (none)) else (none)))) = some (r1, r2, r3, r4, r5, r6, r7) := by rw [if_neg (show ¬ (false = true) by decide)] at H; exact H
    clear H
    have H := H1
    clear H1
    replace H := Option.bind_eq_some_iff.mp H
    obtain ⟨t287, A290, H⟩ := H
    replace H : ((spec_l05Node.f kj3 t271 t274 t277 t280 t283 t284 t287).bind fun t288 => (if 0 ≤ t288 then (if t288 < (t271.length : Int) then (some ((t271.set (t288 : Int).toNat (⟨(rd_T57 t271 t288).f0, (rd_T57 t271 t288).f1, (((rd_T57 t271 t288).f1).size : Int)⟩ : S57)), t274, t277, t280, t283, t284, 0)) else (none)) else (none))) = some (r1, r2, r3, r4, r5, r6, r7) := H
    have A29 := Aside0.mk A290
    clear A290
    replace H := Option.bind_eq_some_iff.mp H
    obtain ⟨t288, A300, H⟩ := H
    replace H : (if 0 ≤ t288 then (if t288 < (t271.length : Int) then (some ((t271.set (t288 : Int).toNat (⟨(rd_T57 t271 t288).f0, (rd_T57 t271 t288).f1, (((rd_T57 t271 t288).f1).size : Int)⟩ : S57)), t274, t277, t280, t283, t284, 0)) else (none)) else (none)) = some (r1, r2, r3, r4, r5, r6, r7) := H
    have A30 := Aside0.mk A300
    clear A300
    by_cases c31 : 0 ≤ t288
    ·rw [if_pos c31] at H
     have c31b0 : decide (0 ≤ t288) = true := decide_eq_true c31
     clear c31
     by_cases c32 : t288 < (t271.length : Int)
     ·rw [if_pos c32] at H
      have c32b0 : decide (t288 < (t271.length : Int)) = true := decide_eq_true c32
      clear c32
      obtain ⟨y290, hy290⟩ : ∃ y_ : List (S57), y_ = (t271.set (t288 : Int).toNat (⟨(rd_T57 t271 t288).f0, (rd_T57 t271 t288).f1, (((rd_T57 t271 t288).f1).size : Int)⟩ : S57)) := ⟨_, rfl⟩
      replace H : (some (y290, t274, t277, t280, t283, t284, 0)) = some (r1, r2, r3, r4, r5, r6, r7) := by (rw [hy290]; with_reducible exact H)
      have Ny290 := Aside0.mk hy290
      clear hy290
      simp only [Option.some.injEq, Prod.mk.injEq] at H
      obtain ⟨rfl, rfl, rfl, rfl, rfl, rfl, rfl⟩ := H
      try go_wp2
      replace HO_270000 := Aside0.mk (Kd.R_drew HO_270000.out)
      replace HO_270001 := Aside0.mk (Kd.R_drew HO_270001.out)
      replace HO_270002 := Aside0.mk (Kd.R_drew HO_270002.out)
      replace HO_270003 := Aside0.mk (Kd.R_drew HO_270003.out)
      replace BK269 := Aside0.mk (blk_drew BK269.out)
      replace BK270 := Aside0.mk (blk_drew BK270.out)
      replace HB := Aside0.mk (below_drew1 HB.out)
      refine start_ (n := 7) (S := fun w' => w'.cell? ⟨gb269, 0, none⟩ = some (.slice Ao10 t271.length co10) ∧ w'.cell? ⟨gb269, 1, none⟩ = some (.slice Ao12 t274.length co12) ∧ w'.cell? ⟨gb269, 2, none⟩ = some (.slice Ao13 t277.length co13) ∧ w'.cell? ⟨gb269, 3, none⟩ = some (.slice Ao14 t280.length co14) ∧ w'.cell? ⟨gb269, 4, none⟩ = some (.int .i64 t283) ∧ w'.cell? ⟨gb269, 5, none⟩ = some (.int .i64 t284)) (ds := []) #[false, false, false, false, false, false, false] (by kernel_rfl) rfl rfl ⟨(blk_cell BK269.out 0).trans rfl, (blk_cell BK269.out 1).trans rfl, (blk_cell BK269.out 2).trans rfl, (blk_cell BK269.out 3).trans rfl, (blk_cell BK269.out 4).trans rfl, (blk_cell BK269.out 5).trans rfl⟩ (fun hHeld => ?_)
      generalize wc.drew = w34 at HO_270000 HO_270001 HO_270002 HO_270003 BK269 BK270 HB hHeld ⊢
      refine pure_ (i := 1) (N := some 21) (v := ?_) (a' := ?_) #[false, true, false, false, false, false, false] rfl rfl (by kernel_rfl) (fun _ _ _ h => h) (Or.inl ⟨by rfl, ?_⟩) ?_ ?_
      rotate_left
      ·intro w'
       go_simp
       with_reducible rfl
      rotate_left
      ·simp only [Act.put, List.setIfInBounds_toArray, List.set_cons_zero, List.set_cons_succ, i64_w, i32_w]
       rfl
      refine pure_ (i := 3) (N := some 23) (v := ?_) (a' := ?_) #[false, true, false, true, false, false, false] rfl rfl (by kernel_rfl) (fun _ _ _ h => h) (Or.inl ⟨by rfl, ?_⟩) ?_ ?_
      rotate_left
      ·intro w'
       go_simp
       with_reducible rfl
      rotate_left
      ·simp only [Act.put, List.setIfInBounds_toArray, List.set_cons_zero, List.set_cons_succ, i64_w, i32_w]
       rfl
      refine take_ (i := 0) (N := some 20) (v := ?_) (a' := ?_) #[true, true, false, true, false, false, false] rfl rfl (by kernel_rfl) (fun _ _ _ h => h) (Or.inl ⟨by rfl, ?_⟩) hHeld ?_ ?_
      rotate_left
      ·rintro w' ⟨s0, s1, s2, s3, s4, s5⟩
       go_simp
       with_reducible rfl
      rotate_left
      ·simp only [Act.put, List.setIfInBounds_toArray, List.set_cons_zero, List.set_cons_succ, i64_w, i32_w]
       rfl
      refine take_ (i := 2) (N := some 22) (v := ?_) (a' := ?_) #[true, true, true, true, false, false, false] rfl rfl (by kernel_rfl) (fun _ _ _ h => h) (Or.inl ⟨by rfl, ?_⟩) hHeld ?_ ?_
      rotate_left
      ·rintro w' ⟨s0, s1, s2, s3, s4, s5⟩
       go_simp
       with_reducible rfl
      rotate_left
      ·simp only [Act.put, List.setIfInBounds_toArray, List.set_cons_zero, List.set_cons_succ, i64_w, i32_w]
       rfl
      refine one_ (i := 4) (N := some 24) #[true, true, true, true, true, false, false] rfl rfl (by kernel_rfl) (by decide) (fun K hK => ?_)
      refine goes_ Tryz.func81 (by kernel_rfl) rfl #[.slice Ao12 t274.length co12, .string a1] (by rfl) rfl rfl (by (try simp only [List.map_toArray, List.map_cons, List.map_nil]); rfl) ?_
      with_reducible refine (spec_EntryAt.calls kj3 _ _ t274 a1 t287 _ ?side1 ?side2 A29.out).mono ?_
      (case side1 => repeat (exact (Kd.R_reads' HO_270001.out).2.2))
      (case side2 => exact (Kd.R_reads' HO_270001.out).2.1)
      rintro e w' ⟨rfl, ⟨nd, rfl⟩⟩
      refine ⟨_, rfl, ?_⟩
      refine hK.out _ _ ⟨(blk_cell BK269.out 0).trans rfl, (blk_cell BK269.out 1).trans rfl, (blk_cell BK269.out 2).trans rfl, (blk_cell BK269.out 3).trans rfl, (blk_cell BK269.out 4).trans rfl, (blk_cell BK269.out 5).trans rfl⟩ (fun hHeld => ?_)
      clear hK K
      refine norm_ (a' := ?_) ?_ ?_
      rotate_left
      ·show Act.put _ (some 24) _ = _
       simp only [Act.put, List.setIfInBounds_toArray, List.set_cons_zero, List.set_cons_succ, i64_w, i32_w]
       rfl
      refine one_ (i := 5) (N := some 25) #[true, true, true, true, true, true, false] rfl rfl (by kernel_rfl) (by decide) (fun K hK => ?_)
      refine goes_ Tryz.func80 (by kernel_rfl) rfl #[.agg #[.slice Ao10 t271.length co10, .slice Ao12 t274.length co12, .slice Ao13 t277.length co13, .slice Ao14 t280.length co14, .int .i64 t283, .int .i64 t284], .int .i64 t287] (by rfl) rfl rfl (by (try simp only [List.map_toArray, List.map_cons, List.map_nil]); rfl) ?_
      with_reducible refine (spec_l05Node.calls kj3 _ _ t271 _ _ t274 _ _ t277 _ _ t280 t283 t284 t287 t288 _ ?side1 ?side2 ?side3 ?side4 ?side5 ?side6 ?side7 ?side8 A30.out).mono ?_
      (case side1 => repeat (exact (Kd.R_reads' HO_270000.out).2.2))
      (case side2 => exact (Kd.R_reads' HO_270000.out).2.1)
      (case side3 => repeat (exact (Kd.R_reads' HO_270001.out).2.2))
      (case side4 => exact (Kd.R_reads' HO_270001.out).2.1)
      (case side5 => repeat (exact (Kd.R_reads' HO_270002.out).2.2))
      (case side6 => exact (Kd.R_reads' HO_270002.out).2.1)
      (case side7 => repeat (exact (Kd.R_reads' HO_270003.out).2.2))
      (case side8 => exact (Kd.R_reads' HO_270003.out).2.1)
      rintro e w35 ⟨rfl, hb⟩
      refine ⟨_, rfl, ?_⟩
      replace HO_270000 := Aside0.mk (Kd.R_below (by (with_reducible repeat (apply Kd.R_drewN)); exact HO_270000.out) hb)
      replace HO_270001 := Aside0.mk (Kd.R_below (by (with_reducible repeat (apply Kd.R_drewN)); exact HO_270001.out) hb)
      replace HO_270002 := Aside0.mk (Kd.R_below (by (with_reducible repeat (apply Kd.R_drewN)); exact HO_270002.out) hb)
      replace HO_270003 := Aside0.mk (Kd.R_below (by (with_reducible repeat (apply Kd.R_drewN)); exact HO_270003.out) hb)
      replace BK269 := Aside0.mk (blk_below (g := gb269) (o := .cells #[.slice Ao10 t271.length co10, .slice Ao12 t274.length co12, .slice Ao13 t277.length co13, .slice Ao14 t280.length co14, .int .i64 t283, .int .i64 t284] 32 (0, 0)) (by (with_reducible repeat (refine blk_drewN ?_ _)); exact BK269.out) hb)
      replace BK270 := Aside0.mk (blk_below (g := gb270) (o := .cells #[.slice none 0 0, .slice none 0 0, .slice none 0 0, .slice none 0 0, .int .i64 0, .int .i64 0] 32 (0, 0)) (by (with_reducible repeat (refine blk_drewN ?_ _)); exact BK270.out) hb)
      replace HB := Aside0.mk (below_step (by repeat (with_reducible first | exact HB.out | apply pw_below_drewN)) hb)
      (try clear hb)
      (try clear hb2)
      (try clear hk)
      (try clear hi)
      refine hK.out _ _ ⟨(blk_cell BK269.out 0).trans rfl, (blk_cell BK269.out 1).trans rfl, (blk_cell BK269.out 2).trans rfl, (blk_cell BK269.out 3).trans rfl, (blk_cell BK269.out 4).trans rfl, (blk_cell BK269.out 5).trans rfl⟩ (fun hHeld => ?_)
      clear hK K
      refine norm_ (a' := ?_) ?_ ?_
      rotate_left
      ·show Act.put _ (some 25) _ = _
       simp only [Act.put, List.setIfInBounds_toArray, List.set_cons_zero, List.set_cons_succ, i64_w, i32_w]
       rfl
      refine pure_ (i := 6) (N := some 6) (v := ?_) (a' := ?_) #[true, true, true, true, true, true, true] rfl rfl (by kernel_rfl) (fun _ _ _ h => h) (Or.inl ⟨by rfl, ?_⟩) ?_ ?_
      rotate_left
      ·intro w'
       go_simp
       with_reducible rfl
      rotate_left
      ·simp only [Act.put, List.setIfInBounds_toArray, List.set_cons_zero, List.set_cons_succ, i64_w, i32_w]
       rfl
      refine done_ (by kernel_rfl) ?_
      try go_wp2
      replace HO_270000 := Aside0.mk (Kd.R_drew HO_270000.out)
      replace HO_270001 := Aside0.mk (Kd.R_drew HO_270001.out)
      replace HO_270002 := Aside0.mk (Kd.R_drew HO_270002.out)
      replace HO_270003 := Aside0.mk (Kd.R_drew HO_270003.out)
      replace BK269 := Aside0.mk (blk_drew BK269.out)
      replace BK270 := Aside0.mk (blk_drew BK270.out)
      replace HB := Aside0.mk (below_drew1 HB.out)
      have p289 : 0 ≤ (t288 : Int) := of_decide_eq_true (by (with_reducible assumption))
      have q289 : t288 < (t271.length : Int) := of_decide_eq_true (by (with_reducible assumption))
      obtain ⟨ad289, e289, hx289_0, hx289_1, hx289_2⟩ := at_T57 (Kd.R_reads' HO_270000.out).2.2 t288 p289 q289
      cases e289
      replace p289 := eq_true p289
      replace q289 := eq_true q289
      have p33 : 0 ≤ (t288 : Int) := of_decide_eq_true (by (with_reducible assumption))
      have q33 : (t288 : Int) < ((t271.length : Int) : Int) := of_decide_eq_true (by (with_reducible assumption))
      obtain ⟨go33, co33, eo33, gb33, gl33, cl33, HG33⟩ := Kd.R_form HO_270000.out (by omega)
      (cases eo33)
      have GB33 := Aside0.mk gb33
      have GG33 := Aside0.mk HG33
      clear gb33 gl33 HG33
      (simp only [add_plain] at hx289_0)
      (simp only [add_plain] at hx289_1)
      (simp only [add_plain] at hx289_2)
      obtain ⟨ce33, hcl33, hM33, hcc33, hfr33⟩ := Kd.R_elem HO_270000.out z57 (t288 : Int) p33 q33
      obtain rfl := k57_openM hM33
      have hx33_0 : World.cell? _ ⟨go33, (t288 : Int).toNat * 3, none⟩ = some (.int .i64 ((rd_T57 t271 t288).f0)) := hcc33 0 _ rfl
      have hx33_1 : World.cell? _ ⟨go33, (t288 : Int).toNat * 3 + 1, none⟩ = some (.string ((rd_T57 t271 t288).f1)) := hcc33 1 _ rfl
      have hx33_2 : World.cell? _ ⟨go33, (t288 : Int).toNat * 3 + 2, none⟩ = some (.int .i64 ((rd_T57 t271 t288).f2)) := hcc33 2 _ rfl
      have hf33_0 : World.frozen? _ ⟨go33, (t288 : Int).toNat * 3, none⟩ = false := hfr33 0
      have hf33_1 : World.frozen? _ ⟨go33, (t288 : Int).toNat * 3 + 1, none⟩ = false := hfr33 1
      have hf33_2 : World.frozen? _ ⟨go33, (t288 : Int).toNat * 3 + 2, none⟩ = false := hfr33 2
      clear hcl33 hcc33 hfr33 hM33
      replace p33 := eq_true p33
      replace q33 := eq_true q33
      obtain ⟨ce37, hcl37, hM37, hcc37, hfr37⟩ := Kd.R_elem HO_270000.out z57 (t288 : Int) (of_decide_eq_true (by (with_reducible assumption))) (by have h_ : (t288 : Int) < ((t271.length : Int) : Int) := of_decide_eq_true (by (with_reducible assumption)); exact h_)
      obtain rfl := k57_openM hM37
      have HP37 := (Kd.R_seg HO_270000.out (t288 : Int) (of_decide_eq_true (by (with_reducible assumption))) (by have h_ : (t288 : Int) < ((t271.length : Int) : Int) := of_decide_eq_true (by (with_reducible assumption)); exact h_) (seg := [.int .i64 (((rd_T57 t271 t288).f1).size : Int)]) (j := 2) hcl37 hcc37 (show 3 ≤ 3 from by decide) (x' := (⟨(rd_T57 t271 t288).f0, (rd_T57 t271 t288).f1, (((rd_T57 t271 t288).f1).size : Int)⟩ : S57)) (k57_mkM _ _ _ (⟨(rd_T57 t271 t288).f0, (rd_T57 t271 t288).f1, (((rd_T57 t271 t288).f1).size : Int)⟩ : S57) ) (fun _ hk => hk)).1
      rw [← Ny290.out] at HP37
      have HQ37 := Aside0.mk HP37
      clear hcl37 hcc37 hfr37 hM37 HP37
      refine start_ (n := 13) (S := fun w' => w'.cell? ⟨gb269, 0, none⟩ = some (.slice (some ⟨go33, 0, none⟩) t271.length co10) ∧ w'.cell? ⟨gb269, 1, none⟩ = some (.slice Ao12 t274.length co12) ∧ w'.cell? ⟨gb269, 2, none⟩ = some (.slice Ao13 t277.length co13) ∧ w'.cell? ⟨gb269, 3, none⟩ = some (.slice Ao14 t280.length co14) ∧ w'.cell? ⟨gb269, 4, none⟩ = some (.int .i64 t283) ∧ w'.cell? ⟨gb269, 5, none⟩ = some (.int .i64 t284) ∧ w'.cell? ⟨go33, ((t288).toNat * 3), none⟩ = some (.int .i64 ((rd_T57 t271 t288).f0)) ∧ w'.cell? ⟨go33, ((t288).toNat * 3) + 1, none⟩ = some (.string ((rd_T57 t271 t288).f1)) ∧ w'.cell? ⟨go33, ((t288).toNat * 3) + 2, none⟩ = some (.int .i64 ((rd_T57 t271 t288).f2))) (ds := [12]) (marks 13 0) (by kernel_rfl) rfl rfl ⟨(blk_cell BK269.out 0).trans rfl, (blk_cell BK269.out 1).trans rfl, (blk_cell BK269.out 2).trans rfl, (blk_cell BK269.out 3).trans rfl, (blk_cell BK269.out 4).trans rfl, (blk_cell BK269.out 5).trans rfl, hx289_0, hx289_1, hx289_2⟩ (fun hHeld => ?_); refine with_tabW spec_SyncFile.tab5 spec_SyncFile.bits5 (fun HT_ HW_ => ?_)
      generalize w35.drew = w36 at HO_270000 HO_270001 HO_270002 HO_270003 BK269 BK270 HB GG33 HQ37 hf33_0 hf33_1 hf33_2 hx289_0 hx289_1 hx289_2 hx33_0 hx33_1 hx33_2 hHeld ⊢
      refine pure_ (i := 0) (N := some 26) (v := ?_) (a' := ?_) (marks 13 1) rfl rfl (any_of HT_.out (by kernel_rfl)) (fun _ _ _ h => h) (Or.inl ⟨by rfl, ?_⟩) ?_ ?_
      rotate_left
      ·intro w'
       go_simp
       with_reducible rfl
      rotate_left
      ·simp only [Act.put, List.setIfInBounds_toArray, List.set_cons_zero, List.set_cons_succ, i64_w, i32_w]
       rfl
      refine pure_ (i := 2) (N := some 28) (v := ?_) (a' := ?_) (marks 13 5) rfl rfl (any_of HT_.out (by kernel_rfl)) (fun _ _ _ h => h) (Or.inl ⟨by rfl, ?_⟩) ?_ ?_
      rotate_left
      ·intro w'
       go_simp
       with_reducible rfl
      rotate_left
      ·simp only [Act.put, List.setIfInBounds_toArray, List.set_cons_zero, List.set_cons_succ, i64_w, i32_w]
       rfl
      refine pure_ (i := 3) (N := some 29) (v := ?_) (a' := ?_) (marks 13 13) rfl rfl (any_of HT_.out (by kernel_rfl)) (fun _ _ _ h => h) (Or.inl ⟨by rfl, ?_⟩) ?_ ?_
      rotate_left
      ·intro w'
       go_simp
       with_reducible rfl
      rotate_left
      ·simp only [Act.put, List.setIfInBounds_toArray, List.set_cons_zero, List.set_cons_succ, i64_w, i32_w]
       rfl
      refine pure_ (i := 5) (N := some 31) (v := ?_) (a' := ?_) (marks 13 45) rfl rfl (any_of HT_.out (by kernel_rfl)) (fun _ _ _ h => h) (Or.inl ⟨by rfl, ?_⟩) ?_ ?_
      rotate_left
      ·intro w'
       go_simp
       with_reducible rfl
      rotate_left
      ·simp only [Act.put, List.setIfInBounds_toArray, List.set_cons_zero, List.set_cons_succ, i64_w, i32_w]
       rfl
      refine take_ (i := 1) (N := some 27) (v := ?_) (a' := ?_) (marks 13 47) rfl rfl (take_ofW HT_.out HW_.out (by kernel_rfl)) (fun _ _ _ h => h) (Or.inl ⟨by rfl, ?_⟩) hHeld ?_ ?_
      rotate_left
      ·rintro w' ⟨s0, s1, s2, s3, s4, s5, s6, s7, s8⟩
       go_simp
       with_reducible rfl
      rotate_left
      ·simp only [Act.put, List.setIfInBounds_toArray, List.set_cons_zero, List.set_cons_succ, i64_w, i32_w]
       rfl
      refine take_ (i := 4) (N := some 30) (v := ?_) (a' := ?_) (marks 13 63) rfl rfl (take_ofW HT_.out HW_.out (by kernel_rfl)) (fun _ _ _ h => h) (Or.inl ⟨by rfl, ?_⟩) hHeld ?_ ?_
      rotate_left
      ·rintro w' ⟨s0, s1, s2, s3, s4, s5, s6, s7, s8⟩
       go_simp
       with_reducible rfl
      rotate_left
      ·simp only [Act.put, List.setIfInBounds_toArray, List.set_cons_zero, List.set_cons_succ, i64_w, i32_w]
       rfl
      refine pure_ (i := 6) (N := some 32) (v := ?_) (a' := ?_) (marks 13 127) rfl rfl (any_of HT_.out (by kernel_rfl)) (fun _ _ _ h => h) (Or.inl ⟨by rfl, ?_⟩) ?_ ?_
      rotate_left
      ·intro w'
       go_simp
       with_reducible rfl
      rotate_left
      ·simp only [Act.put, List.setIfInBounds_toArray, List.set_cons_zero, List.set_cons_succ, i64_w, i32_w]
       rfl
      refine pure_ (i := 7) (N := some 33) (v := ?_) (a' := ?_) (marks 13 255) rfl rfl (any_of HT_.out (by kernel_rfl)) (fun _ _ _ h => h) (Or.inl ⟨by rfl, ?_⟩) ?_ ?_
      rotate_left
      ·intro w'
       go_simp
       with_reducible rfl
      rotate_left
      ·simp only [Act.put, List.setIfInBounds_toArray, List.set_cons_zero, List.set_cons_succ, i64_w, i32_w]
       rfl
      refine take_ (i := 8) (N := some 34) (v := ?_) (a' := ?_) (marks 13 511) rfl rfl (take_ofW HT_.out HW_.out (by kernel_rfl)) (fun _ _ _ h => h) (Or.inl ⟨by rfl, ?_⟩) hHeld ?_ ?_
      rotate_left
      ·rintro w' ⟨s0, s1, s2, s3, s4, s5, s6, s7, s8⟩
       go_simp
       with_reducible rfl
      rotate_left
      ·simp only [Act.put, List.setIfInBounds_toArray, List.set_cons_zero, List.set_cons_succ, i64_w, i32_w]
       rfl
      refine pure_ (i := 9) (N := some 35) (v := ?_) (a' := ?_) (marks 13 1023) rfl rfl (any_of HT_.out (by kernel_rfl)) (fun _ _ _ h => h) (Or.inl ⟨by rfl, ?_⟩) ?_ ?_
      rotate_left
      ·intro w'
       go_simp
       with_reducible rfl
      rotate_left
      ·simp only [Act.put, List.setIfInBounds_toArray, List.set_cons_zero, List.set_cons_succ, i64_w, i32_w]
       rfl
      refine pure_ (i := 10) (N := some 36) (v := ?_) (a' := ?_) (marks 13 2047) rfl rfl (any_of HT_.out (by kernel_rfl)) (fun _ _ _ h => h) (Or.inl ⟨by rfl, ?_⟩) ?_ ?_
      rotate_left
      ·intro w'
       go_simp
       with_reducible rfl
      rotate_left
      ·simp only [Act.put, List.setIfInBounds_toArray, List.set_cons_zero, List.set_cons_succ, i64_w, i32_w]
       rfl
      refine pure_ (i := 11) (N := some 37) (v := ?_) (a' := ?_) (marks 13 4095) rfl rfl (any_of HT_.out (by kernel_rfl)) (fun _ _ _ h => h) (Or.inl ⟨by rfl, ?_⟩) ?_ ?_
      rotate_left
      ·intro w'
       go_simp
       with_reducible rfl
      rotate_left
      ·simp only [Act.put, List.setIfInBounds_toArray, List.set_cons_zero, List.set_cons_succ, i64_w, i32_w]
       rfl
      refine last_ (i := 12) (N := none) (marks 13 8191) rfl rfl (one_of HT_.out (by kernel_rfl)) (by decide) (fun K hK => ?_)
      refine skip_ (w1 := ?_) (by rfl) rfl ?_ ?_
      rotate_left
      ·go_simp
       rfl
      refine hK.out _ _ ?_
      clear hK K
      refine done_ (done_of HT_.out (by kernel_rfl)) ?_
      have n0_ : Aside0 (Kd.R k57 57 (w36.setCell ⟨go33, (t288 : Int).toNat * 3 + 2, none⟩ (.int .i64 (((rd_T57 t271 t288).f1).size : Int))) w.heap.size (fun _ => True) (.slice (some ⟨go33, 0, none⟩) t271.length co10) y290) := ⟨by exact HQ37.out⟩
      have n1_ : Aside0 (Kd.R k59 59 (w36.setCell ⟨go33, (t288 : Int).toNat * 3 + 2, none⟩ (.int .i64 (((rd_T57 t271 t288).f1).size : Int))) w.heap.size (fun k_ => some k_ ≠ (.slice Ao13 t277.length co13 : Value).ownBlock) (.slice Ao12 t274.length co12) t274) := ⟨by exact Kd.R_mono (Kd.R_far (p := ⟨go33, (t288 : Int).toNat * 3 + 2, none⟩) (Kd.R_types HO_270001.out GG33.out (by decide)) (fun _ hk => hk.2) (.int .i64 (((rd_T57 t271 t288).f1).size : Int))) (fun _ hk => hk.1)⟩
      have n2_ : Aside0 (Kd.R k59 59 (w36.setCell ⟨go33, (t288 : Int).toNat * 3 + 2, none⟩ (.int .i64 (((rd_T57 t271 t288).f1).size : Int))) w.heap.size (fun k_ => some k_ ≠ (.slice Ao12 t274.length co12 : Value).ownBlock) (.slice Ao13 t277.length co13) t277) := ⟨by exact Kd.R_mono (Kd.R_far (p := ⟨go33, (t288 : Int).toNat * 3 + 2, none⟩) (Kd.R_types HO_270002.out GG33.out (by decide)) (fun _ hk => hk.2) (.int .i64 (((rd_T57 t271 t288).f1).size : Int))) (fun _ hk => hk.1)⟩
      have n3_ : Aside0 (Kd.R Kd.string 9 (w36.setCell ⟨go33, (t288 : Int).toNat * 3 + 2, none⟩ (.int .i64 (((rd_T57 t271 t288).f1).size : Int))) w.heap.size (fun _ => True) (.slice Ao14 t280.length co14) t280) := ⟨by exact Kd.R_mono (Kd.R_far (p := ⟨go33, (t288 : Int).toNat * 3 + 2, none⟩) (Kd.R_types HO_270003.out GG33.out (by decide)) (fun _ hk => hk.2) (.int .i64 (((rd_T57 t271 t288).f1).size : Int))) (fun _ hk => trivial)⟩
      have n4_ : Aside0 ((w36.setCell ⟨go33, (t288 : Int).toNat * 3 + 2, none⟩ (.int .i64 (((rd_T57 t271 t288).f1).size : Int))).heap[gb269]? = some (.cells #[.slice (some ⟨go33, 0, none⟩) t271.length co10, .slice Ao12 t274.length co12, .slice Ao13 t277.length co13, .slice Ao14 t280.length co14, .int .i64 t283, .int .i64 t284] 32 (0, 0))) := ⟨by refine blk_far ?_ (by have h_ := Kd.R_ne HO_270000.out BK269.out (by decide); intro e_; exact h_ (by rw [e_]; rfl)) _; exact BK269.out⟩
      have n5_ : Aside0 ((w36.setCell ⟨go33, (t288 : Int).toNat * 3 + 2, none⟩ (.int .i64 (((rd_T57 t271 t288).f1).size : Int))).heap[gb270]? = some (.cells #[.slice none 0 0, .slice none 0 0, .slice none 0 0, .slice none 0 0, .int .i64 0, .int .i64 0] 32 (0, 0))) := ⟨by refine blk_far ?_ (by have h_ := Kd.R_ne HO_270000.out BK270.out (by decide); intro e_; exact h_ (by rw [e_]; rfl)) _; exact BK270.out⟩
      have n6_ : Aside0 (Below w.heap.size w (w36.setCell ⟨go33, (t288 : Int).toNat * 3 + 2, none⟩ (.int .i64 (((rd_T57 t271 t288).f1).size : Int)))) := ⟨by repeat (with_reducible first | exact HB.out | refine below_set ?_ GB33.out)⟩
      (try clear HO_270000)
      (try clear HO_270001)
      (try clear HO_270002)
      (try clear HO_270003)
      (try clear BK269)
      (try clear BK270)
      (try clear HB)
      generalize (w36.setCell ⟨go33, (t288 : Int).toNat * 3 + 2, none⟩ (.int .i64 (((rd_T57 t271 t288).f1).size : Int))) = w38 at n0_ n1_ n2_ n3_ n4_ n5_ n6_ ⊢
      have HO_270000 := n0_
      have HO_270001 := n1_
      have HO_270002 := n2_
      have HO_270003 := n3_
      have BK269 := n4_
      have BK270 := n5_
      have HB := n6_
      clear n0_ n1_ n2_ n3_ n4_ n5_ n6_
      have hcz40_0 : w38.cell? ⟨gb269, 0, none⟩ = some (.slice (some ⟨go33, 0, none⟩) t271.length co10) := (blk_cell BK269.out 0).trans rfl
      have hcz40_1 : w38.cell? ⟨gb269, 1, none⟩ = some (.slice Ao12 t274.length co12) := (blk_cell BK269.out 1).trans rfl
      have hcz40_2 : w38.cell? ⟨gb269, 2, none⟩ = some (.slice Ao13 t277.length co13) := (blk_cell BK269.out 2).trans rfl
      have hcz40_3 : w38.cell? ⟨gb269, 3, none⟩ = some (.slice Ao14 t280.length co14) := (blk_cell BK269.out 3).trans rfl
      have hcz40_4 : w38.cell? ⟨gb269, 4, none⟩ = some (.int .i64 t283) := (blk_cell BK269.out 4).trans rfl
      have hcz40_5 : w38.cell? ⟨gb269, 5, none⟩ = some (.int .i64 t284) := (blk_cell BK269.out 5).trans rfl
      have hcz41_0 : w38.cell? ⟨gb270, 0, none⟩ = some (.slice none 0 0) := (blk_cell BK270.out 0).trans rfl
      have hcz41_1 : w38.cell? ⟨gb270, 1, none⟩ = some (.slice none 0 0) := (blk_cell BK270.out 1).trans rfl
      have hcz41_2 : w38.cell? ⟨gb270, 2, none⟩ = some (.slice none 0 0) := (blk_cell BK270.out 2).trans rfl
      have hcz41_3 : w38.cell? ⟨gb270, 3, none⟩ = some (.slice none 0 0) := (blk_cell BK270.out 3).trans rfl
      have hcz41_4 : w38.cell? ⟨gb270, 4, none⟩ = some (.int .i64 0) := (blk_cell BK270.out 4).trans rfl
      have hcz41_5 : w38.cell? ⟨gb270, 5, none⟩ = some (.int .i64 0) := (blk_cell BK270.out 5).trans rfl
      have hfz41_0 := blk_frozen BK270.out 0
      have hfz41_1 := blk_frozen BK270.out 1
      have hfz41_2 := blk_frozen BK270.out 2
      have hfz41_3 := blk_frozen BK270.out 3
      have hfz41_4 := blk_frozen BK270.out 4
      have hfz41_5 := blk_frozen BK270.out 5
      try go_wp2
      refine bodyPost_ret (results_ct rfl _ _ gb270 32 #[.slice (some ⟨go33, 0, none⟩) t271.length co10, .slice Ao12 t274.length co12, .slice Ao13 t277.length co13, .slice Ao14 t280.length co14, .int .i64 t283, .int .i64 t284] (0, 0) _ rfl (by refine blk_put (cs := #[.slice (some ⟨go33, 0, none⟩) t271.length co10, .slice Ao12 t274.length co12, .slice Ao13 t277.length co13, .slice Ao14 t280.length co14, .int .i64 t283, .int .i64 0]) ?_ 5 _ rfl; refine blk_put (cs := #[.slice (some ⟨go33, 0, none⟩) t271.length co10, .slice Ao12 t274.length co12, .slice Ao13 t277.length co13, .slice Ao14 t280.length co14, .int .i64 0, .int .i64 0]) ?_ 4 _ rfl; refine blk_put (cs := #[.slice (some ⟨go33, 0, none⟩) t271.length co10, .slice Ao12 t274.length co12, .slice Ao13 t277.length co13, .slice none 0 0, .int .i64 0, .int .i64 0]) ?_ 3 _ rfl; refine blk_put (cs := #[.slice (some ⟨go33, 0, none⟩) t271.length co10, .slice Ao12 t274.length co12, .slice none 0 0, .slice none 0 0, .int .i64 0, .int .i64 0]) ?_ 2 _ rfl; refine blk_put (cs := #[.slice (some ⟨go33, 0, none⟩) t271.length co10, .slice none 0 0, .slice none 0 0, .slice none 0 0, .int .i64 0, .int .i64 0]) ?_ 1 _ rfl; refine blk_put (cs := #[.slice none 0 0, .slice none 0 0, .slice none 0 0, .slice none 0 0, .int .i64 0, .int .i64 0]) ?_ 0 _ rfl; exact BK270.out) Tryz.underlying32 rfl (by kernel_rfl)) rfl ?_
      all_goals exact ⟨_, _, _, _, by first | rfl | (simp [errW_none, errW_some] <;> rfl) | (simp [*, errW_none, errW_some] <;> rfl) | (exfalso; simp only [decide_eq_true_eq, decide_eq_false_iff_not] at *; omega), by exact Kd.R_mono (Kd.R_far (p := ⟨gb270, 5, none⟩) (Kd.R_far (p := ⟨gb270, 4, none⟩) (Kd.R_far (p := ⟨gb270, 3, none⟩) (Kd.R_far (p := ⟨gb270, 2, none⟩) (Kd.R_far (p := ⟨gb270, 1, none⟩) (Kd.R_far (p := ⟨gb270, 0, none⟩) (Kd.R_types HO_270000.out BK270.out (by decide)) (fun _ hk => hk.2) (.slice (some ⟨go33, 0, none⟩) t271.length co10)) (fun _ hk => hk.2) (.slice Ao12 t274.length co12)) (fun _ hk => hk.2) (.slice Ao13 t277.length co13)) (fun _ hk => hk.2) (.slice Ao14 t280.length co14)) (fun _ hk => hk.2) (.int .i64 t283)) (fun _ hk => hk.2) (.int .i64 t284)) (fun _ hk => trivial), by exact Kd.R_mono (Kd.R_far (p := ⟨gb270, 5, none⟩) (Kd.R_far (p := ⟨gb270, 4, none⟩) (Kd.R_far (p := ⟨gb270, 3, none⟩) (Kd.R_far (p := ⟨gb270, 2, none⟩) (Kd.R_far (p := ⟨gb270, 1, none⟩) (Kd.R_far (p := ⟨gb270, 0, none⟩) (Kd.R_types HO_270001.out BK270.out (by decide)) (fun _ hk => hk.2) (.slice (some ⟨go33, 0, none⟩) t271.length co10)) (fun _ hk => hk.2) (.slice Ao12 t274.length co12)) (fun _ hk => hk.2) (.slice Ao13 t277.length co13)) (fun _ hk => hk.2) (.slice Ao14 t280.length co14)) (fun _ hk => hk.2) (.int .i64 t283)) (fun _ hk => hk.2) (.int .i64 t284)) (fun _ hk => hk.1), by exact Kd.R_mono (Kd.R_far (p := ⟨gb270, 5, none⟩) (Kd.R_far (p := ⟨gb270, 4, none⟩) (Kd.R_far (p := ⟨gb270, 3, none⟩) (Kd.R_far (p := ⟨gb270, 2, none⟩) (Kd.R_far (p := ⟨gb270, 1, none⟩) (Kd.R_far (p := ⟨gb270, 0, none⟩) (Kd.R_types HO_270002.out BK270.out (by decide)) (fun _ hk => hk.2) (.slice (some ⟨go33, 0, none⟩) t271.length co10)) (fun _ hk => hk.2) (.slice Ao12 t274.length co12)) (fun _ hk => hk.2) (.slice Ao13 t277.length co13)) (fun _ hk => hk.2) (.slice Ao14 t280.length co14)) (fun _ hk => hk.2) (.int .i64 t283)) (fun _ hk => hk.2) (.int .i64 t284)) (fun _ hk => hk.1), by exact Kd.R_mono (Kd.R_far (p := ⟨gb270, 5, none⟩) (Kd.R_far (p := ⟨gb270, 4, none⟩) (Kd.R_far (p := ⟨gb270, 3, none⟩) (Kd.R_far (p := ⟨gb270, 2, none⟩) (Kd.R_far (p := ⟨gb270, 1, none⟩) (Kd.R_far (p := ⟨gb270, 0, none⟩) (Kd.R_types HO_270003.out BK270.out (by decide)) (fun _ hk => hk.2) (.slice (some ⟨go33, 0, none⟩) t271.length co10)) (fun _ hk => hk.2) (.slice Ao12 t274.length co12)) (fun _ hk => hk.2) (.slice Ao13 t277.length co13)) (fun _ hk => hk.2) (.slice Ao14 t280.length co14)) (fun _ hk => hk.2) (.int .i64 t283)) (fun _ hk => hk.2) (.int .i64 t284)) (fun _ hk => trivial), by repeat (with_reducible first | exact HB.out | refine below_set ?_ GE270.out)⟩
     ·rw [if_neg c32] at H
      exact absurd H (by simp)
    ·rw [if_neg c31] at H
     exact absurd H (by simp)

/-! ### impl_within: function 68 -/
def impl_within.f (a0 : Int) (a1 : Int) (a2 : Int) : Option (Bool) := if a0 ≥ a1 then (some (decide (a0 ≤ a2))) else (some false)
set_option maxHeartbeats 8000000 in
set_option maxRecDepth 100000 in
theorem impl_within.calls (a0 : Int) (a1 : Int) (a2 : Int) (r : Bool) (w : World) (h : impl_within.f a0 a1 a2 = some r) :
  Calls Tryz.prog 68 #[.int .i64 a0, .int .i64 a1, .int .i64 a2] w fun e w' => e = .returned (.bool r) ∧ Drawn0 w w' := by
 have H : (if a0 ≥ a1 then (some (decide (a0 ≤ a2))) else (some false)) = some r := h
 clear h
 by_cases c4 : a0 ≥ a1
 ·rw [if_pos c4] at H
  have c4b0 : decide (a1 ≤ a0) = true := decide_eq_true c4
  clear c4
  obtain rfl := Option.some.inj H
  go_enter Tryz.func68, Tryz.ntmps68
  go_wp2
  all_goals (go_ret)
  exact ⟨by first | rfl | (simp; done) | (simp [*]; done), by repeat (exact Drawn0.refl _)⟩
 ·rw [if_neg c4] at H
  have c4b0 : decide (a1 ≤ a0) = false := decide_eq_false c4
  clear c4
  obtain rfl := Option.some.inj H
  go_enter Tryz.func68, Tryz.ntmps68
  go_wp2
  all_goals (go_ret)
  exact ⟨by first | rfl | (simp; done) | (simp [*]; done), by repeat (exact Drawn0.refl _)⟩

/-! ### impl_isNumber: function 67 -/
def impl_isNumber.f (a0 : Int) : Option (Bool) := (impl_within.f a0 0 1000000000).bind fun t291 => (some t291)
set_option maxHeartbeats 8000000 in
set_option maxRecDepth 100000 in
theorem impl_isNumber.calls (a0 : Int) (r : Bool) (w : World) (h : impl_isNumber.f a0 = some r) :
  Calls Tryz.prog 67 #[.int .i64 a0] w fun e w' => e = .returned (.bool r) ∧ Drawn0 w w' := by
 have H : ((impl_within.f a0 0 1000000000).bind fun t291 => (some t291)) = some r := h
 clear h
 replace H := Option.bind_eq_some_iff.mp H
 obtain ⟨t291, A20, H⟩ := H
 replace H : (some t291) = some r := H
 have A2 := Aside0.mk A20
 clear A20
 obtain rfl := Option.some.inj H
 go_enter Tryz.func67, Tryz.ntmps67
 go_wp2_with (((with_reducible refine gate_callee (f := 68) rfl ?_); refine goesL_ (some 4) rfl rfl Tryz.func68 (by kernel_rfl) rfl #[.int .i64 a0, .int .i64 0, .int .i64 1000000000] rfl (by (try simp only [List.map_toArray, List.map_cons, List.map_nil]); rfl) ?_; (with_reducible refine (impl_within.calls a0 0 1000000000 t291 _ A2.out).mono ?_); rintro e w' ⟨rfl, ⟨nd, rfl⟩⟩; refine ⟨_, rfl, ?_⟩))
 all_goals (go_ret)
 exact ⟨by first | rfl | (simp; done) | (simp [*]; done), by repeat (first | exact Drawn0.refl _ | apply Drawn0.step)⟩

/-! ### impl_Disk_areNodes: function 69 -/
def inR (n low high : Int) : Bool := decide (low ≤ n) && decide (n ≤ high)
theorem within_any (n low high : Int) (w : World) : Calls Tryz.prog 68 #[.int .i64 n, .int .i64 low, .int .i64 high] w fun e w' => e = .returned (.bool (inR n low high)) ∧ ∃ q, w' = w.drewN q := by
  unfold inR
  by_cases h : low ≤ n
  · rw [decide_eq_true h, Bool.true_and]
    go_enter Tryz.func68, Tryz.ntmps68
    go_wp2
    go_ret
    exact ⟨rfl, 0, rfl⟩
  · rw [decide_eq_false h, Bool.false_and]
    go_enter Tryz.func68, Tryz.ntmps68
    go_wp2
    go_ret
    exact ⟨rfl, 0, rfl⟩
def nodeFine (next : Int) (prev : Option Int) (x : S57) : Bool := (match prev with | none => true | some p => !decide (x.f0 ≤ p)) && (inR x.f0 1 (wrap64 (next - 1)) && inR x.f2 0 (x.f1.size : Int))
def nodesFine (next : Int) : Option Int → List S57 → Bool
  | _, [] => true
  | p, x :: l => nodeFine next p x && nodesFine next (some x.f0) l
def prevN (l : List S57) : Nat → Option Int
  | 0 => none
  | k + 1 => some (rd_T57 l (k : Int)).f0
def impl_Disk_areNodes.f (l0_0 : List S57) (l0_1 : List S59) (l0_2 : List S59) (l0_3 : List ByteArray) (a0_4 : Int) (a0_5 : Int) : Option Bool := some (nodesFine a0_5 none l0_0 && decide ((l0_0.length : Int) ≤ 64))
set_option maxHeartbeats 2000000 in
set_option maxRecDepth 100000 in
theorem impl_Disk_areNodes.calls (A0_0 : Option Addr) (c0_0 : Nat) (l0_0 : List (S57)) (A0_1 : Option Addr) (c0_1 : Nat) (l0_1 : List (S59)) (A0_2 : Option Addr) (c0_2 : Nat) (l0_2 : List (S59)) (A0_3 : Option Addr) (c0_3 : Nat) (l0_3 : List ByteArray) (a0_4 : Int) (a0_5 : Int) (r : Bool) (w : World) (hr0_0 : Kd.C k57 w A0_0 l0_0.length l0_0) (hc0_0 : l0_0.length ≤ c0_0) (hr0_1 : Kd.C k59 w A0_1 l0_1.length l0_1) (hc0_1 : l0_1.length ≤ c0_1) (hr0_2 : Kd.C k59 w A0_2 l0_2.length l0_2) (hc0_2 : l0_2.length ≤ c0_2) (hr0_3 : Kd.C Kd.string w A0_3 l0_3.length l0_3) (hc0_3 : l0_3.length ≤ c0_3) (h : impl_Disk_areNodes.f l0_0 l0_1 l0_2 l0_3 a0_4 a0_5 = some r) :
    Calls Tryz.prog 69 #[.agg #[.slice A0_0 l0_0.length c0_0, .slice A0_1 l0_1.length c0_1, .slice A0_2 l0_2.length c0_2, .slice A0_3 l0_3.length c0_3, .int .i64 a0_4, .int .i64 a0_5]] w fun e w' => e = .returned (.bool r) ∧ Below w.heap.size w w' := by
  obtain rfl := Option.some.inj h
  have hmax := hr0_0.2.1
  have HR := Aside0.mk hr0_0
  clear h hr0_0 hc0_0 hr0_1 hc0_1 hr0_2 hc0_2 hr0_3 hc0_3
  go_enter Tryz.func69, Tryz.ntmps69
  go_wp2_with (((with_reducible refine gate_dst (N := 1) rfl ?_); refine box_event ?hg (N := 1) ?hd (cs := #[.slice A0_0 l0_0.length c0_0, .slice A0_1 l0_1.length c0_1, .slice A0_2 l0_2.length c0_2, .slice A0_3 l0_3.length c0_3, .int .i64 a0_4, .int .i64 a0_5]) (t := 32) ?hr ?_; (case hd => rfl); (case hg => rfl); (case hr => (go_simp; done)); intro g5 hg w1 hbox b5; have BK := Aside0.mk hbox; have B1 := Aside0.mk b5; have q0 : w1.cell? ⟨g5, 0, none⟩ = some (.slice A0_0 l0_0.length c0_0) := (blk_cell BK.out 0).trans rfl; clear hg hbox b5))
  go_loopg [8] l0_0.length (fun gg s8 wr => ∃ kk : Nat, kk ≤ l0_0.length ∧ l0_0.length - kk ≤ gg ∧ s8 = .int .i64 kk ∧ Aside0 (Below w.heap.size w wr) ∧ Aside0 (wr.heap[g5]? = some (.cells #[.slice A0_0 l0_0.length c0_0, .slice A0_1 l0_1.length c0_1, .slice A0_2 l0_2.length c0_2, .slice A0_3 l0_3.length c0_3, .int .i64 a0_4, .int .i64 a0_5] 32)) ∧ Aside0 (nodesFine a0_5 (prevN l0_0 kk) (l0_0.drop kk) = nodesFine a0_5 none l0_0))
  case atStart => exact ⟨0, Nat.zero_le _, by omega, rfl, B1, BK, ⟨rfl⟩⟩
  case round =>
    clear q0
    obtain ⟨kk, hkk, hg, rfl, BW, BK2, A⟩ := hrel
    clear B1 BK
    by_cases hlt : kk < l0_0.length
    · have hltz : (kk : Int) < (l0_0.length : Int) := by omega
      obtain ⟨ad, rfl, hx0, hx1, hx2⟩ := at_T57 (Kd.C_below HR.out BW.out) (kk : Int) (by omega) hltz
      rw [Int.toNat_natCast] at hx0 hx1 hx2
      have hd : l0_0.drop kk = rd_T57 l0_0 (kk : Int) :: l0_0.drop (kk + 1) := by
        rw [List.drop_eq_getElem_cons hlt]
        unfold rd_T57
        rw [Int.toNat_natCast, List.getD_eq_getElem?_getD, List.getElem?_eq_getElem hlt]; rfl
      have A2 := A.out
      rw [hd, nodesFine] at A2
      have A3 : (nodeFine a0_5 (prevN l0_0 kk) (rd_T57 l0_0 (kk : Int)) && nodesFine a0_5 (prevN l0_0 (kk + 1)) (l0_0.drop (kk + 1))) = nodesFine a0_5 none l0_0 := A2
      have AA := Aside0.mk A3
      clear A A2 A3 hd
      generalize rd_T57 l0_0 (kk : Int) = y at hx0 hx1 hx2 AA
      go_wp2_with (((with_reducible refine gate_dst (N := 4) rfl ?_); refine box_event ?hg (N := 4) ?hd (cs := #[.int .i64 0, .string (⟨#[]⟩ : ByteArray), .int .i64 0]) (t := 57) ?hr ?_; (case hd => rfl); (case hg => rfl); (case hr => (go_simp; done)); intro g6 hg6 w2 hbox b6; have N2 := Aside0.mk hbox; have S2 := Aside0.mk b6; have G6 := Aside0.mk hg6; have n0 : w2.cell? ⟨g6, 0, none⟩ = some (.int .i64 0) := (blk_cell N2.out 0).trans rfl; have n1 : w2.cell? ⟨g6, 1, none⟩ = some (.string (⟨#[]⟩ : ByteArray)) := (blk_cell N2.out 1).trans rfl; have n2 : w2.cell? ⟨g6, 2, none⟩ = some (.int .i64 0) := (blk_cell N2.out 2).trans rfl; have z0 := blk_frozen N2.out 0; have z1 := blk_frozen N2.out 1; have z2 := blk_frozen N2.out 2; clear hg6 hbox b6))
      refine gen_wp (R := fun W => Below w.heap.size w W ∧ W.heap[g5]? = some (.cells #[.slice (some ad) l0_0.length c0_0, .slice A0_1 l0_1.length c0_1, .slice A0_2 l0_2.length c0_2, .slice A0_3 l0_3.length c0_3, .int .i64 a0_4, .int .i64 a0_5] 32) ∧ W.heap[g6]? = some (.cells #[.int .i64 y.f0, .string y.f1, .int .i64 y.f2] 57)) ?_ ?_
      · have hg6 : g6 ≠ g5 := by have := blk_lt BK2.out; have := G6.out; omega
        have hge : w.heap.size ≤ g6 := by rw [G6.out]; exact BW.out.size
        have hb2 := BW.out.trans (S2.out.mono BW.out.size)
        have hk := (S2.out.block g5 (blk_lt BK2.out)).trans BK2.out
        refine ⟨below_set (below_set (below_set hb2 hge) hge) hge, blk_far (blk_far (blk_far hk (Ne.symm hg6) _) (Ne.symm hg6) _) (Ne.symm hg6) _, ?_⟩
        exact blk_put (cs := #[.int .i64 y.f0, .string y.f1, .int .i64 0]) (blk_put (cs := #[.int .i64 y.f0, .string (⟨#[]⟩ : ByteArray), .int .i64 0]) (blk_put (cs := #[.int .i64 0, .string (⟨#[]⟩ : ByteArray), .int .i64 0]) N2.out 0 _ rfl) 1 _ rfl) 2 _ rfl
      rintro W2 ⟨hB2, hK2, hN2⟩
      have BW2 := Aside0.mk hB2
      have BKd := Aside0.mk hK2
      have e0 : W2.cell? ⟨g5, 0, none⟩ = some (.slice (some ad) l0_0.length c0_0) := (blk_cell hK2 0).trans rfl
      have e5 : W2.cell? ⟨g5, 5, none⟩ = some (.int .i64 a0_5) := (blk_cell hK2 5).trans rfl
      have m0 : W2.cell? ⟨g6, 0, none⟩ = some (.int .i64 y.f0) := (blk_cell hN2 0).trans rfl
      have m1 : W2.cell? ⟨g6, 1, none⟩ = some (.string y.f1) := (blk_cell hN2 1).trans rfl
      have m2 : W2.cell? ⟨g6, 2, none⟩ = some (.int .i64 y.f2) := (blk_cell hN2 2).trans rfl
      clear hB2 hK2 hN2 n0 n1 n2 z0 z1 z2 N2 S2 G6 hx0 hx1 hx2 BK2 BW
      have WN2 := fun (w : World) => within_any y.f0 1 (wrap64 (a0_5 - 1)) w
      have WN3 := fun (w : World) => within_any y.f2 0 (y.f1.size : Int) w
      have A4 := AA.out
      unfold nodeFine at A4
      generalize inR y.f0 1 (wrap64 (a0_5 - 1)) = b2 at WN2 A4
      generalize inR y.f2 0 (y.f1.size : Int) = b3 at WN3 A4
      have hz5 : IntKind.i64.wrap (a0_5 - 1) = wrap64 (a0_5 - 1) := i64_w _
      have AB := Aside0.mk A4
      have H2 := Aside0.mk WN2
      have H3 := Aside0.mk WN3
      clear A4 AA WN2 WN3
      cases kk with
      | zero =>
        have AC := Aside0.mk (show (true && (b2 && b3) && nodesFine a0_5 (prevN l0_0 (0 + 1)) (l0_0.drop (0 + 1))) = nodesFine a0_5 none l0_0 from AB.out)
        clear AB
        cases b2 with
        | false =>
          go_quiet ((go_at_call 68; with_reducible exact Calls.quiet_of (H2.out _)))
          go_wp2
          go_ret
          exact ⟨by rw [← AC.out]; rfl, pw_below_drewN BW2.out _⟩
        | true =>
          cases b3 with
          | false =>
            go_quiet (first | (go_at_call 68; with_reducible exact Calls.quiet_of (H2.out _)) | (go_at_call 68; with_reducible exact Calls.quiet_of (H3.out _)))
            go_wp2
            go_ret
            exact ⟨by rw [← AC.out]; rfl, pw_below_drewN BW2.out _⟩
          | true =>
            go_quiet (first | (go_at_call 68; with_reducible exact Calls.quiet_of (H2.out _)) | (go_at_call 68; with_reducible exact Calls.quiet_of (H3.out _)))
            go_wp2
            go_roundg (l0_0.length - (0 + 1))
            case measure => omega
            case rel => exact ⟨0 + 1, by omega, by omega, by go_num, ⟨pw_below_drewN BW2.out _⟩, ⟨BKd.out⟩, ⟨AC.out⟩⟩
      | succ j =>
        have hw1 : IntKind.i64.wrap ((j : Int) + 1 - 1) = (j : Int) := by rw [show (j : Int) + 1 - 1 = (j : Int) by omega, IntKind.wrap_i64]; omega
        have hj0 : (0 : Int) ≤ (j : Int) := by omega
        have hjl : (j : Int) < (l0_0.length : Int) := by omega
        obtain ⟨ad2, e2, hv0, hv1, hv2⟩ := at_T57 (Kd.C_below HR.out BW2.out) (j : Int) hj0 hjl
        cases e2
        rw [Int.toNat_natCast] at hv0 hv1 hv2
        clear hv1 hv2
        have AC := Aside0.mk (show (!decide (y.f0 ≤ (rd_T57 l0_0 (j : Int)).f0) && (b2 && b3) && nodesFine a0_5 (prevN l0_0 (j + 1 + 1)) (l0_0.drop (j + 1 + 1))) = nodesFine a0_5 none l0_0 from AB.out)
        clear AB
        generalize (rd_T57 l0_0 (j : Int)).f0 = p0 at hv0 AC
        by_cases hle : y.f0 ≤ p0
        · rw [decide_eq_true hle] at AC
          have hle' : decide (y.f0 ≤ p0) = true := decide_eq_true hle
          clear hle
          go_quiet (first | (go_at_call 68; with_reducible exact Calls.quiet_of (H2.out _)) | (go_at_call 68; with_reducible exact Calls.quiet_of (H3.out _)))
          go_wp2
          go_ret
          exact ⟨by rw [← AC.out]; rfl, pw_below_drewN BW2.out _⟩
        · rw [decide_eq_false hle] at AC
          have hle' : decide (y.f0 ≤ p0) = false := decide_eq_false hle
          clear hle
          cases b2 with
          | false =>
            go_quiet ((go_at_call 68; with_reducible exact Calls.quiet_of (H2.out _)))
            go_wp2
            go_ret
            exact ⟨by rw [← AC.out]; rfl, pw_below_drewN BW2.out _⟩
          | true =>
            cases b3 with
            | false =>
              go_quiet (first | (go_at_call 68; with_reducible exact Calls.quiet_of (H2.out _)) | (go_at_call 68; with_reducible exact Calls.quiet_of (H3.out _)))
              go_wp2
              go_ret
              exact ⟨by rw [← AC.out]; rfl, pw_below_drewN BW2.out _⟩
            | true =>
              go_quiet (first | (go_at_call 68; with_reducible exact Calls.quiet_of (H2.out _)) | (go_at_call 68; with_reducible exact Calls.quiet_of (H3.out _)))
              go_wp2
              go_roundg (l0_0.length - (j + 1 + 1))
              case measure => omega
              case rel => exact ⟨j + 1 + 1, by omega, by omega, by go_num, ⟨pw_below_drewN BW2.out _⟩, ⟨BKd.out⟩, ⟨AC.out⟩⟩
    · have hltz : ¬ (kk : Int) < (l0_0.length : Int) := by omega
      have A2 := A.out
      rw [List.drop_of_length_le (by omega), nodesFine] at A2
      have e0 : wr.cell? ⟨g5, 0, none⟩ = some (.slice A0_0 l0_0.length c0_0) := (blk_cell BK2.out 0).trans rfl
      have A3 := Aside0.mk A2
      clear A A2
      go_wp2
      go_ret
      exact ⟨by rw [← A3.out, Bool.true_and]; rfl, BW.out⟩

end Go.Proofs.YtbcidclclckgfaaGreatDoor.MFnExactSyncFile
