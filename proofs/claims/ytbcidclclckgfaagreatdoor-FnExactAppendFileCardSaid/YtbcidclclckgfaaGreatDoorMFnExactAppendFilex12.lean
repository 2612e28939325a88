/- Each theorem here says that a call of one Go function answers what the Lean function beside it answers; its conditions stand in it. Written by a program of this session. -/
import Derived.Test.YtbcidclclckgfaaGreatDoorMFnExactAppendFilex0
import Derived.Test.YtbcidclclckgfaaGreatDoorMFnExactAppendFilex7
import Derived.Test.YtbcidclclckgfaaGreatDoorMFnExactAppendFilex10
import Derived.Test.YtbcidclclckgfaaGreatDoorMFnExactAppendFilex11
namespace Go.Proofs.YtbcidclclckgfaaGreatDoor.MFnExactAppendFile
open Go.RowKit Go.Proofs.YtbcidclclckgfaaGreatDoorW.PrintWords Go.Proofs.YtbcidclclckgfaaGreatDoorW.PrintLast Go.Proofs.YtbcidclclckgfaaGreatDoorW.PrintMore
attribute [local go_sem] max2_int min2_int max_two min_two max_three min_three max_four min_four   -- for this text's walks alone
set_option linter.unusedVariables false
set_option linter.unusedSimpArgs false

/-! ### spec_AppendFile: function 28 -/
def spec_AppendFile.j0 : Nat → ByteArray → ByteArray → Bool → List (S57) → List (S59) → List (S59) → List ByteArray → Int → Int → Option ((List (S57)) × (List (S59)) × (List (S59)) × List ByteArray × Int × Int × Int)
 | 0, _, _, _, _, _, _, _, _, _ => none
 | k + 1, x1, x2, x21, x305000, x305001, x305002, x305003, x305004, x305005 => if x21 = true then (some (x305000, x305001, x305002, x305003, x305004, x305005, 3)) else ((spec_EntryAt.f k x305001 x1).bind fun t322 => ((spec_l05Node.f k x305000 x305001 x305002 x305003 x305004 x305005 t322).bind fun t323 => ((spec_UsedOn.f k x305000 x305001 x305002 x305003 x305004 x305005).bind fun t324 => (if (x2.size : Int) > (wrap64 (x305004 - t324)) then (if 0 ≤ t323 then (if t323 < (x305000.length : Int) then (if 0 ≤ (wrap64 (x305004 - t324)) then (if (wrap64 (x305004 - t324)) ≤ (x2.size : Int) then (if ((rd_T57 x305000 t323).f1).size + (x2.extract 0 ((wrap64 (x305004 - t324)) : Int).toNat).size ≤ 9223372036854775807 then (some ((x305000.set (t323 : Int).toNat (⟨(rd_T57 x305000 t323).f0, ((rd_T57 x305000 t323).f1) ++ (x2.extract 0 ((wrap64 (x305004 - t324)) : Int).toNat), (rd_T57 x305000 t323).f2⟩ : S57)), x305001, x305002, x305003, x305004, x305005, 5)) else (none)) else (none)) else (none)) else (none)) else (none)) else (if 0 ≤ t323 then (if t323 < (x305000.length : Int) then (if ((rd_T57 x305000 t323).f1).size + x2.size ≤ 9223372036854775807 then (some ((x305000.set (t323 : Int).toNat (⟨(rd_T57 x305000 t323).f0, ((rd_T57 x305000 t323).f1) ++ x2, (rd_T57 x305000 t323).f2⟩ : S57)), x305001, x305002, x305003, x305004, x305005, 0)) else (none)) else (none)) else (none))))))
def spec_AppendFile.f (k : Nat) (l0_0 : List (S57)) (l0_1 : List (S59)) (l0_2 : List (S59)) (l0_3 : List ByteArray) (a0_4 : Int) (a0_5 : Int) (a1 : ByteArray) (a2 : ByteArray) : Option ((List (S57)) × (List (S59)) × (List (S59)) × List ByteArray × Int × Int × Int) := (spec_l05Copy.f l0_0 l0_1 l0_2 l0_3 a0_4 a0_5).bind fun bt306 => ((spec_DiskOk.f k bt306.1 bt306.2.1 bt306.2.2.1 bt306.2.2.2.1 bt306.2.2.2.2.1 bt306.2.2.2.2.2).bind fun t320 => (if t320 = true then ((spec_l06Has.f k bt306.2.1 a1).bind fun t321 => (spec_AppendFile.j0 k a1 a2 (!t321) bt306.1 bt306.2.1 bt306.2.2.1 bt306.2.2.2.1 bt306.2.2.2.2.1 bt306.2.2.2.2.2)) else (spec_AppendFile.j0 k a1 a2 true bt306.1 bt306.2.1 bt306.2.2.1 bt306.2.2.2.1 bt306.2.2.2.2.1 bt306.2.2.2.2.2)))
theorem spec_AppendFile.mono_l : ∀ k, (∀ y0 y1 y2 y3 y4 y5 y6 y7 y8, LeO (spec_AppendFile.j0 k y0 y1 y2 y3 y4 y5 y6 y7 y8) (spec_AppendFile.j0 (k + 1) y0 y1 y2 y3 y4 y5 y6 y7 y8))
 | 0 => fun _ _ _ _ _ _ _ _ _ r h => by simp [spec_AppendFile.j0] at h
 | k + 1 => by
  ·intro y0 y1 y2 y3 y4 y5 y6 y7 y8
   unfold spec_AppendFile.j0
   repeat' first | (with_reducible exact spec_EntryAt.mono _ _ _) | (with_reducible exact spec_UsedOn.mono _ _ _ _ _ _ _) | (with_reducible exact spec_l05Node.mono _ _ _ _ _ _ _ _) | (with_reducible exact LeO.refl _) | (with_reducible refine LeO.ite ?_ ?_) | (with_reducible refine LeO.bind ?_ (fun _ => ?_))
theorem spec_AppendFile.mono : ∀ a0 a1 a2 a3 a4 a5 a6 a7 k, LeO (spec_AppendFile.f k a0 a1 a2 a3 a4 a5 a6 a7) (spec_AppendFile.f (k + 1) a0 a1 a2 a3 a4 a5 a6 a7) := by
 intro a0 a1 a2 a3 a4 a5 a6 a7 k
 have ih0 := spec_AppendFile.mono_l k
 unfold spec_AppendFile.f
 repeat' first | (with_reducible exact ih0 _ _ _ _ _ _ _ _ _) | (with_reducible exact spec_DiskOk.mono _ _ _ _ _ _ _) | (with_reducible exact spec_l06Has.mono _ _ _) | (with_reducible exact LeO.refl _) | (with_reducible refine LeO.ite ?_ ?_) | (with_reducible refine LeO.bind ?_ (fun _ => ?_))
def spec_AppendFile.T7 : Bool × List (List Nat × List Nat) := (true, [([], []), ([0], [0]), ([], []), ([], []), ([3], [3]), ([], []), ([4, 5], [4, 5]), ([6], [6]), ([7], [7]), ([], []), ([], []), ([9, 10], [9, 10]), ([8, 11], [8, 11]), ([1, 2, 0, 1, 2, 3, 4, 5, 6, 7, 8, 9, 10, 11, 12], [1, 2]), ([13, 0, 1, 2, 3, 4, 5, 6, 7, 8, 9, 10, 11, 12], [13]), ([14, 12, 0, 1, 2, 3, 4, 5, 6, 7, 8, 9, 10, 11, 12], [12, 14])])
def spec_AppendFile.B7 : List Nat := [0, 1, 0, 0, 8, 0, 56, 120, 248, 0, 0, 1536, 4088, 8191, 16383, 32767]
theorem spec_AppendFile.tab7 : rtab .any (opsOf Tryz.f28 7) = spec_AppendFile.T7 := by kernel_rfl
theorem spec_AppendFile.bits7 : waitsOk spec_AppendFile.T7.2 spec_AppendFile.B7 = true := by kernel_rfl
def spec_AppendFile.T9 : Bool × List (List Nat × List Nat) := (true, [([], []), ([0], [0]), ([], []), ([], []), ([3], [3]), ([], []), ([4, 5], [4, 5]), ([6], [6]), ([7], [7]), ([], []), ([8, 9], [8, 9]), ([1, 2, 0, 1, 2, 3, 4, 5, 6, 7, 8, 9, 10], [1, 2]), ([11, 0, 1, 2, 3, 4, 5, 6, 7, 8, 9, 10], [11]), ([12, 10, 0, 1, 2, 3, 4, 5, 6, 7, 8, 9, 10], [10, 12])])
def spec_AppendFile.B9 : List Nat := [0, 1, 0, 0, 8, 0, 56, 120, 248, 0, 1016, 2047, 4095, 8191]
theorem spec_AppendFile.tab9 : rtab .any (opsOf Tryz.f28 9) = spec_AppendFile.T9 := by kernel_rfl
theorem spec_AppendFile.bits9 : waitsOk spec_AppendFile.T9.2 spec_AppendFile.B9 = true := by kernel_rfl
set_option maxHeartbeats 8000000 in
set_option maxRecDepth 100000 in
theorem spec_AppendFile.calls (k : Nat) (A0_0 : Option Addr) (c0_0 : Nat) (l0_0 : List (S57)) (A0_1 : Option Addr) (c0_1 : Nat) (l0_1 : List (S59)) (A0_2 : Option Addr) (c0_2 : Nat) (l0_2 : List (S59)) (A0_3 : Option Addr) (c0_3 : Nat) (l0_3 : List ByteArray) (a0_4 : Int) (a0_5 : Int) (a1 : ByteArray) (a2 : ByteArray) (r1 : List (S57)) (r2 : List (S59)) (r3 : List (S59)) (r4 : List ByteArray) (r5 : Int) (r6 : Int) (r7 : Int) (w : World) (hr0_0 : Kd.C k57 w A0_0 l0_0.length l0_0) (hc0_0 : l0_0.length ≤ c0_0) (hr0_1 : Kd.C k59 w A0_1 l0_1.length l0_1) (hc0_1 : l0_1.length ≤ c0_1) (hr0_2 : Kd.C k59 w A0_2 l0_2.length l0_2) (hc0_2 : l0_2.length ≤ c0_2) (hr0_3 : Kd.C Kd.string w A0_3 l0_3.length l0_3) (hc0_3 : l0_3.length ≤ c0_3) (h : spec_AppendFile.f k l0_0 l0_1 l0_2 l0_3 a0_4 a0_5 a1 a2 = some (r1, r2, r3, r4, r5, r6, r7)) :
  Calls Tryz.prog 28 #[.agg #[.slice A0_0 l0_0.length c0_0, .slice A0_1 l0_1.length c0_1, .slice A0_2 l0_2.length c0_2, .slice A0_3 l0_3.length c0_3, .int .i64 a0_4, .int .i64 a0_5], .string a1, .string a2] w fun e w' => ∃ v0_ v1_ v2_ v3_ : Value, e = .returned (.tuple #[.agg #[v0_, v1_, v2_, v3_, .int .i64 r5, .int .i64 r6], .int .i64 r7]) ∧ Kd.R k57 57 w' w.heap.size (fun _ => True) v0_ r1 ∧ Kd.R k59 59 w' w.heap.size (fun k_ => some k_ ≠ (v2_ : Value).ownBlock) v1_ r2 ∧ Kd.R k59 59 w' w.heap.size (fun k_ => some k_ ≠ (v1_ : Value).ownBlock) v2_ r3 ∧ Kd.R Kd.string 9 w' w.heap.size (fun _ => True) v3_ r4 ∧ Below w.heap.size w w' := by
 have HR0_0 := Aside0.mk hr0_0
 have HC0_0 := Aside0.mk hc0_0
 clear hr0_0 hc0_0
 have HR0_1 := Aside0.mk hr0_1
 have HC0_1 := Aside0.mk hc0_1
 clear hr0_1 hc0_1
 have HR0_2 := Aside0.mk hr0_2
 have HC0_2 := Aside0.mk hc0_2
 clear hr0_2 hc0_2
 have HR0_3 := Aside0.mk hr0_3
 have HC0_3 := Aside0.mk hc0_3
 clear hr0_3 hc0_3
 have HB := Aside0.mk (Below.refl w.heap.size w)
 have H : ((spec_l05Copy.f l0_0 l0_1 l0_2 l0_3 a0_4 a0_5).bind fun bt306 => ((spec_DiskOk.f k bt306.1 bt306.2.1 bt306.2.2.1 bt306.2.2.2.1 bt306.2.2.2.2.1 bt306.2.2.2.2.2).bind fun t320 => (if t320 = true then ((spec_l06Has.f k bt306.2.1 a1).bind fun t321 => (spec_AppendFile.j0 k a1 a2 (!t321) bt306.1 bt306.2.1 bt306.2.2.1 bt306.2.2.2.1 bt306.2.2.2.2.1 bt306.2.2.2.2.2)) else (spec_AppendFile.j0 k a1 a2 true bt306.1 bt306.2.1 bt306.2.2.1 bt306.2.2.2.1 bt306.2.2.2.2.1 bt306.2.2.2.2.2)))) = some (r1, r2, r3, r4, r5, r6, r7) := h
 clear h
 replace H := Option.bind_eq_some_iff.mp H
 obtain ⟨⟨t306, t309, t312, t315, t318, t319⟩, A40, H⟩ := H
 replace H : ((spec_DiskOk.f k t306 t309 t312 t315 t318 t319).bind fun t320 => (if t320 = true then ((spec_l06Has.f k t309 a1).bind fun t321 => (spec_AppendFile.j0 k a1 a2 (!t321) t306 t309 t312 t315 t318 t319)) else (spec_AppendFile.j0 k a1 a2 true t306 t309 t312 t315 t318 t319))) = some (r1, r2, r3, r4, r5, r6, r7) := H
 have A4 := Aside0.mk A40
 clear A40
 have HC5 := Aside0.mk H
 clear H
 go_enter Tryz.func28, Tryz.ntmps28
 go_upto_region 2 with (first | ((with_reducible refine gate_dst (N := 3) rfl ?_); refine box_event ?hg (N := 3) ?hd (cs := #[.slice A0_0 l0_0.length c0_0, .slice A0_1 l0_1.length c0_1, .slice A0_2 l0_2.length c0_2, .slice A0_3 l0_3.length c0_3, .int .i64 a0_4, .int .i64 a0_5]) (t := 32) ?hr ?_; (case hd => rfl); (case hg => rfl); (case hr => (go_simp; done)); intro gb304 hg w6 hbox hb; have BK304 := Aside0.mk (hbox); have GE304 := Aside0.mk ((by rw [hg]; exact (below_size HB.out) : w.heap.size ≤ gb304)); replace HB := Aside0.mk (below_step HB.out hb); clear hb hbox hg) | ((with_reducible refine gate_dst (N := 6) rfl ?_); refine box_event ?hg (N := 6) ?hd (cs := #[.slice none 0 0, .slice none 0 0, .slice none 0 0, .slice none 0 0, .int .i64 0, .int .i64 0]) (t := 32) ?hr ?_; (case hd => rfl); (case hg => rfl); (case hr => (go_simp; done)); intro gb305 hg w7 hbox hb; have BK305 := Aside0.mk (hbox); have GE305 := Aside0.mk ((by rw [hg]; exact (below_size HB.out) : w.heap.size ≤ gb305)); have NB305_304 := Aside0.mk ((by rw [hg]; exact Nat.ne_of_gt (blk_lt BK304.out) : gb305 ≠ gb304)); replace BK304 := Aside0.mk (bB hb BK304.out); replace HB := Aside0.mk (below_step HB.out hb); clear hb hbox hg; have hcz9_0 : w7.cell? ⟨gb304, 0, none⟩ = some (.slice A0_0 l0_0.length c0_0) := (blk_cell BK304.out 0).trans rfl; have hcz9_1 : w7.cell? ⟨gb304, 1, none⟩ = some (.slice A0_1 l0_1.length c0_1) := (blk_cell BK304.out 1).trans rfl; have hcz9_2 : w7.cell? ⟨gb304, 2, none⟩ = some (.slice A0_2 l0_2.length c0_2) := (blk_cell BK304.out 2).trans rfl; have hcz9_3 : w7.cell? ⟨gb304, 3, none⟩ = some (.slice A0_3 l0_3.length c0_3) := (blk_cell BK304.out 3).trans rfl; have hcz9_4 : w7.cell? ⟨gb304, 4, none⟩ = some (.int .i64 a0_4) := (blk_cell BK304.out 4).trans rfl; have hcz9_5 : w7.cell? ⟨gb304, 5, none⟩ = some (.int .i64 a0_5) := (blk_cell BK304.out 5).trans rfl; skip) | ((with_reducible refine gate_callee (f := 78) rfl ?_); refine goesL_ (some 11) rfl rfl Tryz.func78 (by kernel_rfl) rfl #[.agg #[.slice A0_0 l0_0.length c0_0, .slice A0_1 l0_1.length c0_1, .slice A0_2 l0_2.length c0_2, .slice A0_3 l0_3.length c0_3, .int .i64 a0_4, .int .i64 a0_5]] rfl (by (try simp only [List.map_toArray, List.map_cons, List.map_nil]); rfl) ?_; (with_reducible refine (spec_l05Copy.calls _ _ l0_0 _ _ l0_1 _ _ l0_2 _ _ l0_3 a0_4 a0_5 t306 t309 t312 t315 t318 t319 _ ?side1 ?side2 ?side3 ?side4 ?side5 ?side6 ?side7 ?side8 A4.out).mono ?_); (case side1 => repeat (exact (Kd.C_below HR0_0.out HB.out))); (case side2 => exact HC0_0.out); (case side3 => repeat (exact (Kd.C_below HR0_1.out HB.out))); (case side4 => exact HC0_1.out); (case side5 => repeat (exact (Kd.C_below HR0_2.out HB.out))); (case side6 => exact HC0_2.out); (case side7 => repeat (exact (Kd.C_below HR0_3.out HB.out))); (case side8 => exact HC0_3.out); rintro e w10 ⟨v307, v310, v313, v316, rfl, ho0, ho1, ho2, ho3, hb⟩; refine ⟨_, rfl, ?_⟩; have HO308 := Aside0.mk (Kd.R_lower ho0 (below_size HB.out)); have HO311 := Aside0.mk (Kd.R_lower ho1 (below_size HB.out)); have HO314 := Aside0.mk (Kd.R_lower ho2 (below_size HB.out)); have HO317 := Aside0.mk (Kd.R_lower ho3 (below_size HB.out)); replace BK304 := Aside0.mk (bB hb BK304.out); replace BK305 := Aside0.mk (bB hb BK305.out); replace HB := Aside0.mk (below_step HB.out hb); (try clear hb); (try clear ho0); (try clear ho1); (try clear ho2); (try clear ho3); obtain ⟨Ao11, co11, eo11⟩ := Kd.R_slice HO308.out; subst eo11; have hcz12_0 : w10.cell? ⟨gb304, 0, none⟩ = some (.slice A0_0 l0_0.length c0_0) := (blk_cell BK304.out 0).trans rfl; have hcz12_1 : w10.cell? ⟨gb304, 1, none⟩ = some (.slice A0_1 l0_1.length c0_1) := (blk_cell BK304.out 1).trans rfl; have hcz12_2 : w10.cell? ⟨gb304, 2, none⟩ = some (.slice A0_2 l0_2.length c0_2) := (blk_cell BK304.out 2).trans rfl; have hcz12_3 : w10.cell? ⟨gb304, 3, none⟩ = some (.slice A0_3 l0_3.length c0_3) := (blk_cell BK304.out 3).trans rfl; have hcz12_4 : w10.cell? ⟨gb304, 4, none⟩ = some (.int .i64 a0_4) := (blk_cell BK304.out 4).trans rfl; have hcz12_5 : w10.cell? ⟨gb304, 5, none⟩ = some (.int .i64 a0_5) := (blk_cell BK304.out 5).trans rfl; have hfz12_0 := blk_frozen BK304.out 0; have hfz12_1 := blk_frozen BK304.out 1; have hfz12_2 := blk_frozen BK304.out 2; have hfz12_3 := blk_frozen BK304.out 3; have hfz12_4 := blk_frozen BK304.out 4; have hfz12_5 := blk_frozen BK304.out 5; obtain ⟨Ao13, co13, eo13⟩ := Kd.R_slice HO311.out; subst eo13; obtain ⟨Ao14, co14, eo14⟩ := Kd.R_slice HO314.out; subst eo14; obtain ⟨Ao15, co15, eo15⟩ := Kd.R_slice HO317.out; subst eo15))
 (try simp only [Act.put, List.setIfInBounds_toArray, List.set_cons_zero, List.set_cons_succ])
 go_cut [21] (fun v21 wc => ∃ (kq : Nat) (x21_4 : Bool), v21 = .bool x21_4 ∧ Aside0 (spec_AppendFile.j0 kq a1 a2 x21_4 t306 t309 t312 t315 t318 t319 = some (r1, r2, r3, r4, r5, r6, r7)) ∧ Aside0 (kq ≤ k) ∧ Aside0 (Kd.R k57 57 wc w.heap.size (fun _ => True) (.slice Ao11 t306.length co11) t306) ∧ Aside0 (Kd.R k59 59 wc w.heap.size (fun k_ => some k_ ≠ ((.slice Ao14 t312.length co14) : Value).ownBlock) (.slice Ao13 t309.length co13) t309) ∧ Aside0 (Kd.R k59 59 wc w.heap.size (fun k_ => some k_ ≠ ((.slice Ao13 t309.length co13) : Value).ownBlock) (.slice Ao14 t312.length co14) t312) ∧ Aside0 (Kd.R Kd.string 9 wc w.heap.size (fun _ => True) (.slice Ao15 t315.length co15) t315) ∧ Aside0 (wc.heap[gb304]? = some (.cells #[(.slice Ao11 t306.length co11), (.slice Ao13 t309.length co13), (.slice Ao14 t312.length co14), (.slice Ao15 t315.length co15), .int .i64 t318, .int .i64 t319] 32 (0, 0))) ∧ Aside0 (wc.heap[gb305]? = some (.cells #[(.slice none 0 0), (.slice none 0 0), (.slice none 0 0), (.slice none 0 0), .int .i64 0, .int .i64 0] 32 (0, 0))) ∧ Aside0 (Below w.heap.size w wc))
 case first =>
  have H := HC5.out
  clear HC5
  replace H := Option.bind_eq_some_iff.mp H
  obtain ⟨t320, A160, H⟩ := H
  replace H : (if t320 = true then ((spec_l06Has.f k t309 a1).bind fun t321 => (spec_AppendFile.j0 k a1 a2 (!t321) t306 t309 t312 t315 t318 t319)) else (spec_AppendFile.j0 k a1 a2 true t306 t309 t312 t315 t318 t319)) = some (r1, r2, r3, r4, r5, r6, r7) := H
  have A16 := Aside0.mk A160
  clear A160
  by_cases c17 : t320 = true
  ·subst c17
   have H1 : ((spec_l06Has.f k t309 a1).bind fun t321 => (spec_AppendFile.j0 k a1 a2 (!t321) t306 t309 t312 t315 t318 t319)) = some (r1, r2, r3, r4, r5, r6, r7) := by rw [if_pos rfl] at H; exact H
   clear H
   have H := H1
   clear H1
   replace H := Option.bind_eq_some_iff.mp H
   obtain ⟨t321, A180, H⟩ := H
   replace H : (spec_AppendFile.j0 k a1 a2 (!t321) t306 t309 t312 t315 t318 t319) = some (r1, r2, r3, r4, r5, r6, r7) := H
   have A18 := Aside0.mk A180
   clear A180
   have H' := Aside0.mk H
   clear H
   go_wp2_with (first | ((with_reducible refine gate_callee (f := 16) rfl ?_); refine goesL_ (some 13) rfl rfl Tryz.func16 (by kernel_rfl) rfl #[.agg #[.slice Ao11 t306.length co11, .slice Ao13 t309.length co13, .slice Ao14 t312.length co14, .slice Ao15 t315.length co15, .int .i64 t318, .int .i64 t319]] rfl (by (try simp only [List.map_toArray, List.map_cons, List.map_nil]); rfl) ?_; (with_reducible refine (spec_DiskOk.calls k _ _ t306 _ _ t309 _ _ t312 _ _ t315 t318 t319 true _ ?side1 ?side2 ?side3 ?side4 ?side5 ?side6 ?side7 ?side8 A16.out).mono ?_); (case side1 => refine (Kd.R_reads' (e := 57) (base := w.heap.size) (ok := fun k_ => True) (n := t306.length) (c := co11) ?_).2.2; exact (by exact (Kd.R_mono (Kd.R_far (p := ⟨gb304, 5, none⟩) (Kd.R_far (p := ⟨gb304, 4, none⟩) (Kd.R_far (p := ⟨gb304, 3, none⟩) (Kd.R_far (p := ⟨gb304, 2, none⟩) (Kd.R_far (p := ⟨gb304, 1, none⟩) (Kd.R_far (p := ⟨gb304, 0, none⟩) (Kd.R_types HO308.out BK304.out (by decide)) (fun _ hk => hk.2) (.slice Ao11 t306.length co11)) (fun _ hk => hk.2) (.slice Ao13 t309.length co13)) (fun _ hk => hk.2) (.slice Ao14 t312.length co14)) (fun _ hk => hk.2) (.slice Ao15 t315.length co15)) (fun _ hk => hk.2) (.int .i64 t318)) (fun _ hk => hk.2) (.int .i64 t319)) (fun _ h_ => h_.1)))); (case side2 => exact (Kd.R_reads' HO308.out).2.1); (case side3 => refine (Kd.R_reads' (e := 59) (base := w.heap.size) (ok := fun k_ => some k_ ≠ (.slice Ao14 t312.length co14 : Value).ownBlock) (n := t309.length) (c := co13) ?_).2.2; exact (by exact (Kd.R_mono (Kd.R_far (p := ⟨gb304, 5, none⟩) (Kd.R_far (p := ⟨gb304, 4, none⟩) (Kd.R_far (p := ⟨gb304, 3, none⟩) (Kd.R_far (p := ⟨gb304, 2, none⟩) (Kd.R_far (p := ⟨gb304, 1, none⟩) (Kd.R_far (p := ⟨gb304, 0, none⟩) (Kd.R_types HO311.out BK304.out (by decide)) (fun _ hk => hk.2) (.slice Ao11 t306.length co11)) (fun _ hk => hk.2) (.slice Ao13 t309.length co13)) (fun _ hk => hk.2) (.slice Ao14 t312.length co14)) (fun _ hk => hk.2) (.slice Ao15 t315.length co15)) (fun _ hk => hk.2) (.int .i64 t318)) (fun _ hk => hk.2) (.int .i64 t319)) (fun _ h_ => h_.1)))); (case side4 => exact (Kd.R_reads' HO311.out).2.1); (case side5 => refine (Kd.R_reads' (e := 59) (base := w.heap.size) (ok := fun k_ => some k_ ≠ (.slice Ao13 t309.length co13 : Value).ownBlock) (n := t312.length) (c := co14) ?_).2.2; exact (by exact (Kd.R_mono (Kd.R_far (p := ⟨gb304, 5, none⟩) (Kd.R_far (p := ⟨gb304, 4, none⟩) (Kd.R_far (p := ⟨gb304, 3, none⟩) (Kd.R_far (p := ⟨gb304, 2, none⟩) (Kd.R_far (p := ⟨gb304, 1, none⟩) (Kd.R_far (p := ⟨gb304, 0, none⟩) (Kd.R_types HO314.out BK304.out (by decide)) (fun _ hk => hk.2) (.slice Ao11 t306.length co11)) (fun _ hk => hk.2) (.slice Ao13 t309.length co13)) (fun _ hk => hk.2) (.slice Ao14 t312.length co14)) (fun _ hk => hk.2) (.slice Ao15 t315.length co15)) (fun _ hk => hk.2) (.int .i64 t318)) (fun _ hk => hk.2) (.int .i64 t319)) (fun _ h_ => h_.1)))); (case side6 => exact (Kd.R_reads' HO314.out).2.1); (case side7 => refine (Kd.R_reads' (e := 9) (base := w.heap.size) (ok := fun k_ => True) (n := t315.length) (c := co15) ?_).2.2; exact (by exact (Kd.R_mono (Kd.R_far (p := ⟨gb304, 5, none⟩) (Kd.R_far (p := ⟨gb304, 4, none⟩) (Kd.R_far (p := ⟨gb304, 3, none⟩) (Kd.R_far (p := ⟨gb304, 2, none⟩) (Kd.R_far (p := ⟨gb304, 1, none⟩) (Kd.R_far (p := ⟨gb304, 0, none⟩) (Kd.R_types HO317.out BK304.out (by decide)) (fun _ hk => hk.2) (.slice Ao11 t306.length co11)) (fun _ hk => hk.2) (.slice Ao13 t309.length co13)) (fun _ hk => hk.2) (.slice Ao14 t312.length co14)) (fun _ hk => hk.2) (.slice Ao15 t315.length co15)) (fun _ hk => hk.2) (.int .i64 t318)) (fun _ hk => hk.2) (.int .i64 t319)) (fun _ h_ => h_.1)))); (case side8 => exact (Kd.R_reads' HO317.out).2.1); rintro e w21 ⟨rfl, hb⟩; refine ⟨_, rfl, ?_⟩; replace HO308 := Aside0.mk (Kd.R_below (by exact (Kd.R_mono (Kd.R_far (p := ⟨gb304, 5, none⟩) (Kd.R_far (p := ⟨gb304, 4, none⟩) (Kd.R_far (p := ⟨gb304, 3, none⟩) (Kd.R_far (p := ⟨gb304, 2, none⟩) (Kd.R_far (p := ⟨gb304, 1, none⟩) (Kd.R_far (p := ⟨gb304, 0, none⟩) (Kd.R_types HO308.out BK304.out (by decide)) (fun _ hk => hk.2) (.slice Ao11 t306.length co11)) (fun _ hk => hk.2) (.slice Ao13 t309.length co13)) (fun _ hk => hk.2) (.slice Ao14 t312.length co14)) (fun _ hk => hk.2) (.slice Ao15 t315.length co15)) (fun _ hk => hk.2) (.int .i64 t318)) (fun _ hk => hk.2) (.int .i64 t319)) (fun _ h_ => h_.1))) hb); replace HO311 := Aside0.mk (Kd.R_below (by exact (Kd.R_mono (Kd.R_far (p := ⟨gb304, 5, none⟩) (Kd.R_far (p := ⟨gb304, 4, none⟩) (Kd.R_far (p := ⟨gb304, 3, none⟩) (Kd.R_far (p := ⟨gb304, 2, none⟩) (Kd.R_far (p := ⟨gb304, 1, none⟩) (Kd.R_far (p := ⟨gb304, 0, none⟩) (Kd.R_types HO311.out BK304.out (by decide)) (fun _ hk => hk.2) (.slice Ao11 t306.length co11)) (fun _ hk => hk.2) (.slice Ao13 t309.length co13)) (fun _ hk => hk.2) (.slice Ao14 t312.length co14)) (fun _ hk => hk.2) (.slice Ao15 t315.length co15)) (fun _ hk => hk.2) (.int .i64 t318)) (fun _ hk => hk.2) (.int .i64 t319)) (fun _ h_ => h_.1))) hb); replace HO314 := Aside0.mk (Kd.R_below (by exact (Kd.R_mono (Kd.R_far (p := ⟨gb304, 5, none⟩) (Kd.R_far (p := ⟨gb304, 4, none⟩) (Kd.R_far (p := ⟨gb304, 3, none⟩) (Kd.R_far (p := ⟨gb304, 2, none⟩) (Kd.R_far (p := ⟨gb304, 1, none⟩) (Kd.R_far (p := ⟨gb304, 0, none⟩) (Kd.R_types HO314.out BK304.out (by decide)) (fun _ hk => hk.2) (.slice Ao11 t306.length co11)) (fun _ hk => hk.2) (.slice Ao13 t309.length co13)) (fun _ hk => hk.2) (.slice Ao14 t312.length co14)) (fun _ hk => hk.2) (.slice Ao15 t315.length co15)) (fun _ hk => hk.2) (.int .i64 t318)) (fun _ hk => hk.2) (.int .i64 t319)) (fun _ h_ => h_.1))) hb); replace HO317 := Aside0.mk (Kd.R_below (by exact (Kd.R_mono (Kd.R_far (p := ⟨gb304, 5, none⟩) (Kd.R_far (p := ⟨gb304, 4, none⟩) (Kd.R_far (p := ⟨gb304, 3, none⟩) (Kd.R_far (p := ⟨gb304, 2, none⟩) (Kd.R_far (p := ⟨gb304, 1, none⟩) (Kd.R_far (p := ⟨gb304, 0, none⟩) (Kd.R_types HO317.out BK304.out (by decide)) (fun _ hk => hk.2) (.slice Ao11 t306.length co11)) (fun _ hk => hk.2) (.slice Ao13 t309.length co13)) (fun _ hk => hk.2) (.slice Ao14 t312.length co14)) (fun _ hk => hk.2) (.slice Ao15 t315.length co15)) (fun _ hk => hk.2) (.int .i64 t318)) (fun _ hk => hk.2) (.int .i64 t319)) (fun _ h_ => h_.1))) hb); replace BK304 := Aside0.mk (blk_below (g := gb304) (o := .cells #[.slice Ao11 t306.length co11, .slice Ao13 t309.length co13, .slice Ao14 t312.length co14, .slice Ao15 t315.length co15, .int .i64 t318, .int .i64 t319] 32 (0, 0)) (by refine blk_put (cs := #[.slice Ao11 t306.length co11, .slice Ao13 t309.length co13, .slice Ao14 t312.length co14, .slice Ao15 t315.length co15, .int .i64 t318, .int .i64 a0_5]) ?_ 5 _ rfl; refine blk_put (cs := #[.slice Ao11 t306.length co11, .slice Ao13 t309.length co13, .slice Ao14 t312.length co14, .slice Ao15 t315.length co15, .int .i64 a0_4, .int .i64 a0_5]) ?_ 4 _ rfl; refine blk_put (cs := #[.slice Ao11 t306.length co11, .slice Ao13 t309.length co13, .slice Ao14 t312.length co14, .slice A0_3 l0_3.length c0_3, .int .i64 a0_4, .int .i64 a0_5]) ?_ 3 _ rfl; refine blk_put (cs := #[.slice Ao11 t306.length co11, .slice Ao13 t309.length co13, .slice A0_2 l0_2.length c0_2, .slice A0_3 l0_3.length c0_3, .int .i64 a0_4, .int .i64 a0_5]) ?_ 2 _ rfl; refine blk_put (cs := #[.slice Ao11 t306.length co11, .slice A0_1 l0_1.length c0_1, .slice A0_2 l0_2.length c0_2, .slice A0_3 l0_3.length c0_3, .int .i64 a0_4, .int .i64 a0_5]) ?_ 1 _ rfl; refine blk_put (cs := #[.slice A0_0 l0_0.length c0_0, .slice A0_1 l0_1.length c0_1, .slice A0_2 l0_2.length c0_2, .slice A0_3 l0_3.length c0_3, .int .i64 a0_4, .int .i64 a0_5]) ?_ 0 _ rfl; exact BK304.out) hb); replace BK305 := Aside0.mk (bB hb (blk_far (blk_far (blk_far (blk_far (blk_far (blk_far BK305.out NB305_304.out _) NB305_304.out _) NB305_304.out _) NB305_304.out _) NB305_304.out _) NB305_304.out _)); replace HB := Aside0.mk (below_step (by repeat (with_reducible first | exact HB.out | refine below_set ?_ GE304.out)) hb); (try clear hb); have hcz22_1 : w21.cell? ⟨gb304, 1, none⟩ = some (.slice Ao13 t309.length co13) := (blk_cell BK304.out 1).trans rfl; skip) | (go_at_call 79; (with_reducible refine (spec_l06Has.calls k _ _ t309 a1 t321 _ ?side1 ?side2 A18.out).mono ?_); (case side1 => repeat (exact (Kd.R_reads' HO311.out).2.2)); (case side2 => exact (Kd.R_reads' HO311.out).2.1); rintro e w' ⟨rfl, ⟨nd, rfl⟩⟩))
   go_meet
   case rel => exact ⟨_, (!t321), (by rfl), H', ⟨by omega⟩, ⟨by (with_reducible repeat (apply Kd.R_drewN)); exact HO308.out⟩, ⟨by (with_reducible repeat (apply Kd.R_drewN)); exact HO311.out⟩, ⟨by (with_reducible repeat (apply Kd.R_drewN)); exact HO314.out⟩, ⟨by (with_reducible repeat (apply Kd.R_drewN)); exact HO317.out⟩, ⟨by (with_reducible repeat (refine blk_drewN ?_ _)); exact BK304.out⟩, ⟨by (with_reducible repeat (refine blk_drewN ?_ _)); exact BK305.out⟩, ⟨by repeat (with_reducible first | exact HB.out | apply pw_below_drewN)⟩⟩
  ·replace c17 := Bool.eq_false_iff.mpr c17
   subst c17
   have H1 : (spec_AppendFile.j0 k a1 a2 true t306 t309 t312 t315 t318 t319) = some (r1, r2, r3, r4, r5, r6, r7) := by rw [if_neg (show ¬ (false = true) by decide)] at H; exact H
   clear H
   have H := H1
   clear H1
   have H' := Aside0.mk H
   clear H
   go_wp2_with (((with_reducible refine gate_callee (f := 16) rfl ?_); refine goesL_ (some 13) rfl rfl Tryz.func16 (by kernel_rfl) rfl #[.agg #[.slice Ao11 t306.length co11, .slice Ao13 t309.length co13, .slice Ao14 t312.length co14, .slice Ao15 t315.length co15, .int .i64 t318, .int .i64 t319]] rfl (by (try simp only [List.map_toArray, List.map_cons, List.map_nil]); rfl) ?_; (with_reducible refine (spec_DiskOk.calls k _ _ t306 _ _ t309 _ _ t312 _ _ t315 t318 t319 false _ ?side1 ?side2 ?side3 ?side4 ?side5 ?side6 ?side7 ?side8 A16.out).mono ?_); (case side1 => refine (Kd.R_reads' (e := 57) (base := w.heap.size) (ok := fun k_ => True) (n := t306.length) (c := co11) ?_).2.2; exact (by exact (Kd.R_mono (Kd.R_far (p := ⟨gb304, 5, none⟩) (Kd.R_far (p := ⟨gb304, 4, none⟩) (Kd.R_far (p := ⟨gb304, 3, none⟩) (Kd.R_far (p := ⟨gb304, 2, none⟩) (Kd.R_far (p := ⟨gb304, 1, none⟩) (Kd.R_far (p := ⟨gb304, 0, none⟩) (Kd.R_types HO308.out BK304.out (by decide)) (fun _ hk => hk.2) (.slice Ao11 t306.length co11)) (fun _ hk => hk.2) (.slice Ao13 t309.length co13)) (fun _ hk => hk.2) (.slice Ao14 t312.length co14)) (fun _ hk => hk.2) (.slice Ao15 t315.length co15)) (fun _ hk => hk.2) (.int .i64 t318)) (fun _ hk => hk.2) (.int .i64 t319)) (fun _ h_ => h_.1)))); (case side2 => exact (Kd.R_reads' HO308.out).2.1); (case side3 => refine (Kd.R_reads' (e := 59) (base := w.heap.size) (ok := fun k_ => some k_ ≠ (.slice Ao14 t312.length co14 : Value).ownBlock) (n := t309.length) (c := co13) ?_).2.2; exact (by exact (Kd.R_mono (Kd.R_far (p := ⟨gb304, 5, none⟩) (Kd.R_far (p := ⟨gb304, 4, none⟩) (Kd.R_far (p := ⟨gb304, 3, none⟩) (Kd.R_far (p := ⟨gb304, 2, none⟩) (Kd.R_far (p := ⟨gb304, 1, none⟩) (Kd.R_far (p := ⟨gb304, 0, none⟩) (Kd.R_types HO311.out BK304.out (by decide)) (fun _ hk => hk.2) (.slice Ao11 t306.length co11)) (fun _ hk => hk.2) (.slice Ao13 t309.length co13)) (fun _ hk => hk.2) (.slice Ao14 t312.length co14)) (fun _ hk => hk.2) (.slice Ao15 t315.length co15)) (fun _ hk => hk.2) (.int .i64 t318)) (fun _ hk => hk.2) (.int .i64 t319)) (fun _ h_ => h_.1)))); (case side4 => exact (Kd.R_reads' HO311.out).2.1); (case side5 => refine (Kd.R_reads' (e := 59) (base := w.heap.size) (ok := fun k_ => some k_ ≠ (.slice Ao13 t309.length co13 : Value).ownBlock) (n := t312.length) (c := co14) ?_).2.2; exact (by exact (Kd.R_mono (Kd.R_far (p := ⟨gb304, 5, none⟩) (Kd.R_far (p := ⟨gb304, 4, none⟩) (Kd.R_far (p := ⟨gb304, 3, none⟩) (Kd.R_far (p := ⟨gb304, 2, none⟩) (Kd.R_far (p := ⟨gb304, 1, none⟩) (Kd.R_far (p := ⟨gb304, 0, none⟩) (Kd.R_types HO314.out BK304.out (by decide)) (fun _ hk => hk.2) (.slice Ao11 t306.length co11)) (fun _ hk => hk.2) (.slice Ao13 t309.length co13)) (fun _ hk => hk.2) (.slice Ao14 t312.length co14)) (fun _ hk => hk.2) (.slice Ao15 t315.length co15)) (fun _ hk => hk.2) (.int .i64 t318)) (fun _ hk => hk.2) (.int .i64 t319)) (fun _ h_ => h_.1)))); (case side6 => exact (Kd.R_reads' HO314.out).2.1); (case side7 => refine (Kd.R_reads' (e := 9) (base := w.heap.size) (ok := fun k_ => True) (n := t315.length) (c := co15) ?_).2.2; exact (by exact (Kd.R_mono (Kd.R_far (p := ⟨gb304, 5, none⟩) (Kd.R_far (p := ⟨gb304, 4, none⟩) (Kd.R_far (p := ⟨gb304, 3, none⟩) (Kd.R_far (p := ⟨gb304, 2, none⟩) (Kd.R_far (p := ⟨gb304, 1, none⟩) (Kd.R_far (p := ⟨gb304, 0, none⟩) (Kd.R_types HO317.out BK304.out (by decide)) (fun _ hk => hk.2) (.slice Ao11 t306.length co11)) (fun _ hk => hk.2) (.slice Ao13 t309.length co13)) (fun _ hk => hk.2) (.slice Ao14 t312.length co14)) (fun _ hk => hk.2) (.slice Ao15 t315.length co15)) (fun _ hk => hk.2) (.int .i64 t318)) (fun _ hk => hk.2) (.int .i64 t319)) (fun _ h_ => h_.1)))); (case side8 => exact (Kd.R_reads' HO317.out).2.1); rintro e w25 ⟨rfl, hb⟩; refine ⟨_, rfl, ?_⟩; replace HO308 := Aside0.mk (Kd.R_below (by exact (Kd.R_mono (Kd.R_far (p := ⟨gb304, 5, none⟩) (Kd.R_far (p := ⟨gb304, 4, none⟩) (Kd.R_far (p := ⟨gb304, 3, none⟩) (Kd.R_far (p := ⟨gb304, 2, none⟩) (Kd.R_far (p := ⟨gb304, 1, none⟩) (Kd.R_far (p := ⟨gb304, 0, none⟩) (Kd.R_types HO308.out BK304.out (by decide)) (fun _ hk => hk.2) (.slice Ao11 t306.length co11)) (fun _ hk => hk.2) (.slice Ao13 t309.length co13)) (fun _ hk => hk.2) (.slice Ao14 t312.length co14)) (fun _ hk => hk.2) (.slice Ao15 t315.length co15)) (fun _ hk => hk.2) (.int .i64 t318)) (fun _ hk => hk.2) (.int .i64 t319)) (fun _ h_ => h_.1))) hb); replace HO311 := Aside0.mk (Kd.R_below (by exact (Kd.R_mono (Kd.R_far (p := ⟨gb304, 5, none⟩) (Kd.R_far (p := ⟨gb304, 4, none⟩) (Kd.R_far (p := ⟨gb304, 3, none⟩) (Kd.R_far (p := ⟨gb304, 2, none⟩) (Kd.R_far (p := ⟨gb304, 1, none⟩) (Kd.R_far (p := ⟨gb304, 0, none⟩) (Kd.R_types HO311.out BK304.out (by decide)) (fun _ hk => hk.2) (.slice Ao11 t306.length co11)) (fun _ hk => hk.2) (.slice Ao13 t309.length co13)) (fun _ hk => hk.2) (.slice Ao14 t312.length co14)) (fun _ hk => hk.2) (.slice Ao15 t315.length co15)) (fun _ hk => hk.2) (.int .i64 t318)) (fun _ hk => hk.2) (.int .i64 t319)) (fun _ h_ => h_.1))) hb); replace HO314 := Aside0.mk (Kd.R_below (by exact (Kd.R_mono (Kd.R_far (p := ⟨gb304, 5, none⟩) (Kd.R_far (p := ⟨gb304, 4, none⟩) (Kd.R_far (p := ⟨gb304, 3, none⟩) (Kd.R_far (p := ⟨gb304, 2, none⟩) (Kd.R_far (p := ⟨gb304, 1, none⟩) (Kd.R_far (p := ⟨gb304, 0, none⟩) (Kd.R_types HO314.out BK304.out (by decide)) (fun _ hk => hk.2) (.slice Ao11 t306.length co11)) (fun _ hk => hk.2) (.slice Ao13 t309.length co13)) (fun _ hk => hk.2) (.slice Ao14 t312.length co14)) (fun _ hk => hk.2) (.slice Ao15 t315.length co15)) (fun _ hk => hk.2) (.int .i64 t318)) (fun _ hk => hk.2) (.int .i64 t319)) (fun _ h_ => h_.1))) hb); replace HO317 := Aside0.mk (Kd.R_below (by exact (Kd.R_mono (Kd.R_far (p := ⟨gb304, 5, none⟩) (Kd.R_far (p := ⟨gb304, 4, none⟩) (Kd.R_far (p := ⟨gb304, 3, none⟩) (Kd.R_far (p := ⟨gb304, 2, none⟩) (Kd.R_far (p := ⟨gb304, 1, none⟩) (Kd.R_far (p := ⟨gb304, 0, none⟩) (Kd.R_types HO317.out BK304.out (by decide)) (fun _ hk => hk.2) (.slice Ao11 t306.length co11)) (fun _ hk => hk.2) (.slice Ao13 t309.length co13)) (fun _ hk => hk.2) (.slice Ao14 t312.length co14)) (fun _ hk => hk.2) (.slice Ao15 t315.length co15)) (fun _ hk => hk.2) (.int .i64 t318)) (fun _ hk => hk.2) (.int .i64 t319)) (fun _ h_ => h_.1))) hb); replace BK304 := Aside0.mk (blk_below (g := gb304) (o := .cells #[.slice Ao11 t306.length co11, .slice Ao13 t309.length co13, .slice Ao14 t312.length co14, .slice Ao15 t315.length co15, .int .i64 t318, .int .i64 t319] 32 (0, 0)) (by refine blk_put (cs := #[.slice Ao11 t306.length co11, .slice Ao13 t309.length co13, .slice Ao14 t312.length co14, .slice Ao15 t315.length co15, .int .i64 t318, .int .i64 a0_5]) ?_ 5 _ rfl; refine blk_put (cs := #[.slice Ao11 t306.length co11, .slice Ao13 t309.length co13, .slice Ao14 t312.length co14, .slice Ao15 t315.length co15, .int .i64 a0_4, .int .i64 a0_5]) ?_ 4 _ rfl; refine blk_put (cs := #[.slice Ao11 t306.length co11, .slice Ao13 t309.length co13, .slice Ao14 t312.length co14, .slice A0_3 l0_3.length c0_3, .int .i64 a0_4, .int .i64 a0_5]) ?_ 3 _ rfl; refine blk_put (cs := #[.slice Ao11 t306.length co11, .slice Ao13 t309.length co13, .slice A0_2 l0_2.length c0_2, .slice A0_3 l0_3.length c0_3, .int .i64 a0_4, .int .i64 a0_5]) ?_ 2 _ rfl; refine blk_put (cs := #[.slice Ao11 t306.length co11, .slice A0_1 l0_1.length c0_1, .slice A0_2 l0_2.length c0_2, .slice A0_3 l0_3.length c0_3, .int .i64 a0_4, .int .i64 a0_5]) ?_ 1 _ rfl; refine blk_put (cs := #[.slice A0_0 l0_0.length c0_0, .slice A0_1 l0_1.length c0_1, .slice A0_2 l0_2.length c0_2, .slice A0_3 l0_3.length c0_3, .int .i64 a0_4, .int .i64 a0_5]) ?_ 0 _ rfl; exact BK304.out) hb); replace BK305 := Aside0.mk (bB hb (blk_far (blk_far (blk_far (blk_far (blk_far (blk_far BK305.out NB305_304.out _) NB305_304.out _) NB305_304.out _) NB305_304.out _) NB305_304.out _) NB305_304.out _)); replace HB := Aside0.mk (below_step (by repeat (with_reducible first | exact HB.out | refine below_set ?_ GE304.out)) hb); (try clear hb)))
   go_meet
   case rel => exact ⟨_, (true), (by rfl), H', ⟨by omega⟩, ⟨by exact HO308.out⟩, ⟨by exact HO311.out⟩, ⟨by exact HO314.out⟩, ⟨by exact HO317.out⟩, ⟨by exact BK304.out⟩, ⟨by exact BK305.out⟩, ⟨by repeat (with_reducible exact HB.out)⟩⟩
 case rest =>
  clear HC5
  try clear c1
  try clear c2
  try clear p2
  try clear p6
  try clear c7
  try clear c8
  try clear c16
  try clear c17
  try clear c19
  try clear c23
  try clear hcz12_0
  try clear hcz12_1
  try clear hcz12_2
  try clear hcz12_3
  try clear hcz12_4
  try clear hcz12_5
  try skip
  try skip
  try skip
  try skip
  try skip
  try skip
  try skip
  try clear hcz22_1
  try skip
  try skip
  try skip
  try skip
  try skip
  try skip
  try skip
  try skip
  try skip
  try skip
  try clear hcz9_0
  try clear hcz9_1
  try clear hcz9_2
  try clear hcz9_3
  try clear hcz9_4
  try clear hcz9_5
  try clear hfz12_0
  try clear hfz12_1
  try clear hfz12_2
  try clear hfz12_3
  try clear hfz12_4
  try clear hfz12_5
  try skip
  try skip
  try skip
  try skip
  try skip
  try skip
  try skip
  try skip
  try skip
  try skip
  try skip
  try skip
  try skip
  try skip
  try skip
  try skip
  try skip
  try skip
  try skip
  try skip
  try skip
  try skip
  try skip
  try skip
  obtain ⟨kq, x21_4, rfl, HA, HJ4, HO_305000, HO_305001, HO_305002, HO_305003, BK304, BK305, HB⟩ := hcut
  cases kq with
  | zero => exact absurd HA.out (by simp [spec_AppendFile.j0])
  | succ kj4 =>
   have H := HA.out
   clear HA
   simp only [spec_AppendFile.j0] at H
   by_cases c26 : x21_4 = true
   ·subst c26
    have H1 : (some (t306, t309, t312, t315, t318, t319, 3)) = some (r1, r2, r3, r4, r5, r6, r7) := by rw [if_pos rfl] at H; exact H
    clear H
    have H := H1
    clear H1
    simp only [Option.some.injEq, Prod.mk.injEq] at H
    obtain ⟨rfl, rfl, rfl, rfl, rfl, rfl, rfl⟩ := H
    have hcz28_0 : wc.cell? ⟨gb304, 0, none⟩ = some (.slice Ao11 t306.length co11) := (blk_cell BK304.out 0).trans rfl
    have hcz28_1 : wc.cell? ⟨gb304, 1, none⟩ = some (.slice Ao13 t309.length co13) := (blk_cell BK304.out 1).trans rfl
    have hcz28_2 : wc.cell? ⟨gb304, 2, none⟩ = some (.slice Ao14 t312.length co14) := (blk_cell BK304.out 2).trans rfl
    have hcz28_3 : wc.cell? ⟨gb304, 3, none⟩ = some (.slice Ao15 t315.length co15) := (blk_cell BK304.out 3).trans rfl
    have hcz28_4 : wc.cell? ⟨gb304, 4, none⟩ = some (.int .i64 t318) := (blk_cell BK304.out 4).trans rfl
    have hcz28_5 : wc.cell? ⟨gb304, 5, none⟩ = some (.int .i64 t319) := (blk_cell BK304.out 5).trans rfl
    have hcz29_0 : wc.cell? ⟨gb305, 0, none⟩ = some (.slice none 0 0) := (blk_cell BK305.out 0).trans rfl
    have hcz29_1 : wc.cell? ⟨gb305, 1, none⟩ = some (.slice none 0 0) := (blk_cell BK305.out 1).trans rfl
    have hcz29_2 : wc.cell? ⟨gb305, 2, none⟩ = some (.slice none 0 0) := (blk_cell BK305.out 2).trans rfl
    have hcz29_3 : wc.cell? ⟨gb305, 3, none⟩ = some (.slice none 0 0) := (blk_cell BK305.out 3).trans rfl
    have hcz29_4 : wc.cell? ⟨gb305, 4, none⟩ = some (.int .i64 0) := (blk_cell BK305.out 4).trans rfl
    have hcz29_5 : wc.cell? ⟨gb305, 5, none⟩ = some (.int .i64 0) := (blk_cell BK305.out 5).trans rfl
    have hfz29_0 := blk_frozen BK305.out 0
    have hfz29_1 := blk_frozen BK305.out 1
    have hfz29_2 := blk_frozen BK305.out 2
    have hfz29_3 := blk_frozen BK305.out 3
    have hfz29_4 := blk_frozen BK305.out 4
    have hfz29_5 := blk_frozen BK305.out 5
    go_wp2
    refine bodyPost_ret (results_ct rfl _ _ gb305 32 #[.slice Ao11 t306.length co11, .slice Ao13 t309.length co13, .slice Ao14 t312.length co14, .slice Ao15 t315.length co15, .int .i64 t318, .int .i64 t319] (0, 0) _ rfl (by refine blk_put (cs := #[.slice Ao11 t306.length co11, .slice Ao13 t309.length co13, .slice Ao14 t312.length co14, .slice Ao15 t315.length co15, .int .i64 t318, .int .i64 0]) ?_ 5 _ rfl; refine blk_put (cs := #[.slice Ao11 t306.length co11, .slice Ao13 t309.length co13, .slice Ao14 t312.length co14, .slice Ao15 t315.length co15, .int .i64 0, .int .i64 0]) ?_ 4 _ rfl; refine blk_put (cs := #[.slice Ao11 t306.length co11, .slice Ao13 t309.length co13, .slice Ao14 t312.length co14, .slice none 0 0, .int .i64 0, .int .i64 0]) ?_ 3 _ rfl; refine blk_put (cs := #[.slice Ao11 t306.length co11, .slice Ao13 t309.length co13, .slice none 0 0, .slice none 0 0, .int .i64 0, .int .i64 0]) ?_ 2 _ rfl; refine blk_put (cs := #[.slice Ao11 t306.length co11, .slice none 0 0, .slice none 0 0, .slice none 0 0, .int .i64 0, .int .i64 0]) ?_ 1 _ rfl; refine blk_put (cs := #[.slice none 0 0, .slice none 0 0, .slice none 0 0, .slice none 0 0, .int .i64 0, .int .i64 0]) ?_ 0 _ rfl; exact BK305.out) Tryz.underlying32 rfl (by kernel_rfl)) rfl ?_
    all_goals exact ⟨_, _, _, _, by first | rfl | (simp [errW_none, errW_some] <;> rfl) | (simp [*, errW_none, errW_some] <;> rfl) | (exfalso; simp only [decide_eq_true_eq, decide_eq_false_iff_not] at *; omega), by exact Kd.R_mono (Kd.R_far (p := ⟨gb305, 5, none⟩) (Kd.R_far (p := ⟨gb305, 4, none⟩) (Kd.R_far (p := ⟨gb305, 3, none⟩) (Kd.R_far (p := ⟨gb305, 2, none⟩) (Kd.R_far (p := ⟨gb305, 1, none⟩) (Kd.R_far (p := ⟨gb305, 0, none⟩) (Kd.R_types HO_305000.out BK305.out (by decide)) (fun _ hk => hk.2) (.slice Ao11 t306.length co11)) (fun _ hk => hk.2) (.slice Ao13 t309.length co13)) (fun _ hk => hk.2) (.slice Ao14 t312.length co14)) (fun _ hk => hk.2) (.slice Ao15 t315.length co15)) (fun _ hk => hk.2) (.int .i64 t318)) (fun _ hk => hk.2) (.int .i64 t319)) (fun _ hk => trivial), by exact Kd.R_mono (Kd.R_far (p := ⟨gb305, 5, none⟩) (Kd.R_far (p := ⟨gb305, 4, none⟩) (Kd.R_far (p := ⟨gb305, 3, none⟩) (Kd.R_far (p := ⟨gb305, 2, none⟩) (Kd.R_far (p := ⟨gb305, 1, none⟩) (Kd.R_far (p := ⟨gb305, 0, none⟩) (Kd.R_types HO_305001.out BK305.out (by decide)) (fun _ hk => hk.2) (.slice Ao11 t306.length co11)) (fun _ hk => hk.2) (.slice Ao13 t309.length co13)) (fun _ hk => hk.2) (.slice Ao14 t312.length co14)) (fun _ hk => hk.2) (.slice Ao15 t315.length co15)) (fun _ hk => hk.2) (.int .i64 t318)) (fun _ hk => hk.2) (.int .i64 t319)) (fun _ hk => hk.1), by exact Kd.R_mono (Kd.R_far (p := ⟨gb305, 5, none⟩) (Kd.R_far (p := ⟨gb305, 4, none⟩) (Kd.R_far (p := ⟨gb305, 3, none⟩) (Kd.R_far (p := ⟨gb305, 2, none⟩) (Kd.R_far (p := ⟨gb305, 1, none⟩) (Kd.R_far (p := ⟨gb305, 0, none⟩) (Kd.R_types HO_305002.out BK305.out (by decide)) (fun _ hk => hk.2) (.slice Ao11 t306.length co11)) (fun _ hk => hk.2) (.slice Ao13 t309.length co13)) (fun _ hk => hk.2) (.slice Ao14 t312.length co14)) (fun _ hk => hk.2) (.slice Ao15 t315.length co15)) (fun _ hk => hk.2) (.int .i64 t318)) (fun _ hk => hk.2) (.int .i64 t319)) (fun _ hk => hk.1), by exact Kd.R_mono (Kd.R_far (p := ⟨gb305, 5, none⟩) (Kd.R_far (p := ⟨gb305, 4, none⟩) (Kd.R_far (p := ⟨gb305, 3, none⟩) (Kd.R_far (p := ⟨gb305, 2, none⟩) (Kd.R_far (p := ⟨gb305, 1, none⟩) (Kd.R_far (p := ⟨gb305, 0, none⟩) (Kd.R_types HO_305003.out BK305.out (by decide)) (fun _ hk => hk.2) (.slice Ao11 t306.length co11)) (fun _ hk => hk.2) (.slice Ao13 t309.length co13)) (fun _ hk => hk.2) (.slice Ao14 t312.length co14)) (fun _ hk => hk.2) (.slice Ao15 t315.length co15)) (fun _ hk => hk.2) (.int .i64 t318)) (fun _ hk => hk.2) (.int .i64 t319)) (fun _ hk => trivial), by repeat (with_reducible first | exact HB.out | refine below_set ?_ GE305.out)⟩
   ·replace c26 := Bool.eq_false_iff.mpr c26
    subst c26
    have H1 : ((spec_EntryAt.f kj4 t309 a1).bind fun t322 => ((spec_l05Node.f kj4 t306 t309 t312 t315 t318 t319 t322).bind fun t323 => ((spec_UsedOn.f kj4 t306 t309 t312 t315 t318 t319).bind fun t324 => (if (a2.size : Int) > (wrap64 (t318 - t324)) then (if 0 ≤ t323 then (if t323 < (t306.length : Int) then (if 0 ≤ (wrap64 (t318 - t324)) then (if (wrap64 (t318 - t324)) ≤ (a2.size : Int) then (if ((rd_T57 t306 t323).f1).size + (a2.extract 0 ((wrap64 (t318 - t324)) : Int).toNat).size ≤ 9223372036854775807 then (some ((t306.set (t323 : Int).toNat (⟨(rd_T57 t306 t323).f0, ((rd_T57 t306 t323).f1) ++ (a2.extract 0 ((wrap64 (t318 - t324)) : Int).toNat), (rd_T57 t306 t323).f2⟩ : S57)), t309, t312, t315, t318, t319, 5)) else (none)) else (none)) else (none)) else (none)) else (none)) else (if 0 ≤ t323 then (if t323 < (t306.length : Int) then (if ((rd_T57 t306 t323).f1).size + a2.size ≤ 9223372036854775807 then (some ((t306.set (t323 : Int).toNat (⟨(rd_T57 t306 t323).f0, ((rd_T57 t306 t323).f1) ++ a2, (rd_T57 t306 t323).f2⟩ : S57)), t309, t312, t315, t318, t319, 0)) else (none)) else (none)) else (none)))))) = some (r1, r2, r3, r4, r5, r6, r7) := by rw [if_neg (show ¬ (false = true) by decide)] at H; exact H
    clear H
    have H := H1
    clear H1
    replace H := Option.bind_eq_some_iff.mp H
    obtain ⟨t322, A300, H⟩ := H
    replace H : ((spec_l05Node.f kj4 t306 t309 t312 t315 t318 t319 t322).bind fun t323 => ((spec_UsedOn.f kj4 t306 t309 t312 t315 t318 t319).bind fun t324 => (if (a2.size : Int) > (wrap64 (t318 - t324)) then (if 0 ≤ t323 then (if t323 < (t306.length : Int) then (if 0 ≤ (wrap64 (t318 - t324)) then (if (wrap64 (t318 - t324)) ≤ (a2.size : Int) then (if ((rd_T57 t306 t323).f1).size + (a2.extract 0 ((wrap64 (t318 - t324)) : Int).toNat).size ≤ 9223372036854775807 then (some ((t306.set (t323 : Int).toNat (⟨(rd_T57 t306 t323).f0, ((rd_T57 t306 t323).f1) ++ (a2.extract 0 ((wrap64 (t318 - t324)) : Int).toNat), (rd_T57 t306 t323).f2⟩ : S57)), t309, t312, t315, t318, t319, 5)) else (none)) else (none)) else (none)) else (none)) else (none)) else (if 0 ≤ t323 then (if t323 < (t306.length : Int) then (if ((rd_T57 t306 t323).f1).size + a2.size ≤ 9223372036854775807 then (some ((t306.set (t323 : Int).toNat (⟨(rd_T57 t306 t323).f0, ((rd_T57 t306 t323).f1) ++ a2, (rd_T57 t306 t323).f2⟩ : S57)), t309, t312, t315, t318, t319, 0)) else (none)) else (none)) else (none))))) = some (r1, r2, r3, r4, r5, r6, r7) := H
    have A30 := Aside0.mk A300
    clear A300
    replace H := Option.bind_eq_some_iff.mp H
    obtain ⟨t323, A310, H⟩ := H
    replace H : ((spec_UsedOn.f kj4 t306 t309 t312 t315 t318 t319).bind fun t324 => (if (a2.size : Int) > (wrap64 (t318 - t324)) then (if 0 ≤ t323 then (if t323 < (t306.length : Int) then (if 0 ≤ (wrap64 (t318 - t324)) then (if (wrap64 (t318 - t324)) ≤ (a2.size : Int) then (if ((rd_T57 t306 t323).f1).size + (a2.extract 0 ((wrap64 (t318 - t324)) : Int).toNat).size ≤ 9223372036854775807 then (some ((t306.set (t323 : Int).toNat (⟨(rd_T57 t306 t323).f0, ((rd_T57 t306 t323).f1) ++ (a2.extract 0 ((wrap64 (t318 - t324)) : Int).toNat), (rd_T57 t306 t323).f2⟩ : S57)), t309, t312, t315, t318, t319, 5)) else (none)) else (none)) else (none)) else (none)) else (none)) else (if 0 ≤ t323 then (if t323 < (t306.length : Int) then (if ((rd_T57 t306 t323).f1).size + a2.size ≤ 9223372036854775807 then (some ((t306.set (t323 : Int).toNat (⟨(rd_T57 t306 t323).f0, ((rd_T57 t306 t323).f1) ++ a2, (rd_T57 t306 t323).f2⟩ : S57)), t309, t312, t315, t318, t319, 0)) else (none)) else (none)) else (none)))) = some (r1, r2, r3, r4, r5, r6, r7) := H
    have A31 := Aside0.mk A310
    clear A310
    replace H := Option.bind_eq_some_iff.mp H
    obtain ⟨t324, A320, H⟩ := H
    replace H : (if (a2.size : Int) > (wrap64 (t318 - t324)) then (if 0 ≤ t323 then (if t323 < (t306.length : Int) then (if 0 ≤ (wrap64 (t318 - t324)) then (if (wrap64 (t318 - t324)) ≤ (a2.size : Int) then (if ((rd_T57 t306 t323).f1).size + (a2.extract 0 ((wrap64 (t318 - t324)) : Int).toNat).size ≤ 9223372036854775807 then (some ((t306.set (t323 : Int).toNat (⟨(rd_T57 t306 t323).f0, ((rd_T57 t306 t323).f1) ++ (a2.extract 0 ((wrap64 (t318 - t324)) : Int).toNat), (rd_T57 t306 t323).f2⟩ : S57)), t309, t312, t315, t318, t319, 5)) else (none)) else (none)) else (none)) else (none)) else (none)) else (if 0 ≤ t323 then (if t323 < (t306.length : Int) then (if ((rd_T57 t306 t323).f1).size + a2.size ≤ 9223372036854775807 then (some ((t306.set (t323 : Int).toNat (⟨(rd_T57 t306 t323).f0, ((rd_T57 t306 t323).f1) ++ a2, (rd_T57 t306 t323).f2⟩ : S57)), t309, t312, t315, t318, t319, 0)) else (none)) else (none)) else (none))) = some (r1, r2, r3, r4, r5, r6, r7) := H
    have A32 := Aside0.mk A320
    clear A320
    by_cases c33 : (a2.size : Int) > (wrap64 (t318 - t324))
    ·rw [if_pos c33] at H
     have c33b0 : decide ((wrap64 (t318 - t324)) < (a2.size : Int)) = true := decide_eq_true c33
     clear c33
     by_cases c34 : 0 ≤ t323
     ·rw [if_pos c34] at H
      have c34b0 : decide (0 ≤ t323) = true := decide_eq_true c34
      clear c34
      by_cases c35 : t323 < (t306.length : Int)
      ·rw [if_pos c35] at H
       have c35b0 : decide (t323 < (t306.length : Int)) = true := decide_eq_true c35
       clear c35
       obtain ⟨ji36, hji36⟩ : ∃ j_ : Int, (wrap64 (t318 - t324)) = j_ := ⟨_, rfl⟩
       replace H : (if 0 ≤ (ji36) then (if (ji36) ≤ (a2.size : Int) then (if ((rd_T57 t306 t323).f1).size + (a2.extract 0 ((ji36) : Int).toNat).size ≤ 9223372036854775807 then (some ((t306.set (t323 : Int).toNat (⟨(rd_T57 t306 t323).f0, ((rd_T57 t306 t323).f1) ++ (a2.extract 0 ((ji36) : Int).toNat), (rd_T57 t306 t323).f2⟩ : S57)), t309, t312, t315, t318, t319, 5)) else (none)) else (none)) else (none)) = some (r1, r2, r3, r4, r5, r6, r7) := by (rw [hji36] at H; exact H)
       (try rw [hji36] at c33b0)
       (try rw [hji36] at A30)
       (try rw [hji36] at A31)
       (try rw [hji36] at A32)
       have hji36w : (IntKind.i64.wrap (t318 - t324)) = ji36 := (i64_w _).trans hji36
       by_cases c37 : 0 ≤ (ji36)
       ·rw [if_pos c37] at H
        have c37b0 := eq_true c37
        clear c37
        by_cases c38 : (ji36) ≤ (a2.size : Int)
        ·rw [if_pos c38] at H
         have c38b0 := eq_true c38
         have c38b1 : decide ((ji36) ≤ (a2.size : Int)) = true := decide_eq_true c38
         clear c38
         by_cases c39 : ((rd_T57 t306 t323).f1).size + (a2.extract 0 ((ji36) : Int).toNat).size ≤ 9223372036854775807
         ·rw [if_pos c39] at H
          try have c39b2 : (9223372036854775807 < ((rd_T57 t306 t323).f1).size + (a2.extract 0 ((ji36) : Int).toNat).size) = False := eq_false (Nat.not_lt.2 c39)
          try have c39e_ : (a2.extract 0 ((ji36) : Int).toNat).size = ((ji36) : Int).toNat := (by rw [ByteArray.size_extract]; (have h_ : ((ji36) : Int) ≤ (a2.size : Int) := of_decide_eq_true (by assumption); omega))
          try have c39b9 : (9223372036854775807 < ((rd_T57 t306 t323).f1).size + ((ji36) : Int).toNat) = False := c39e_ ▸ c39b2
          obtain ⟨y326, hy326⟩ : ∃ y_ : List (S57), y_ = (t306.set (t323 : Int).toNat (⟨(rd_T57 t306 t323).f0, ((rd_T57 t306 t323).f1) ++ (a2.extract 0 ((ji36) : Int).toNat), (rd_T57 t306 t323).f2⟩ : S57)) := ⟨_, rfl⟩
          replace H : (some (y326, t309, t312, t315, t318, t319, 5)) = some (r1, r2, r3, r4, r5, r6, r7) := by (rw [hy326]; with_reducible exact H)
          have Ny326 := Aside0.mk hy326
          clear hy326
          simp only [Option.some.injEq, Prod.mk.injEq] at H
          obtain ⟨rfl, rfl, rfl, rfl, rfl, rfl, rfl⟩ := H
          try go_wp2
          replace HO_305000 := Aside0.mk (Kd.R_drew HO_305000.out)
          replace HO_305001 := Aside0.mk (Kd.R_drew HO_305001.out)
          replace HO_305002 := Aside0.mk (Kd.R_drew HO_305002.out)
          replace HO_305003 := Aside0.mk (Kd.R_drew HO_305003.out)
          replace BK304 := Aside0.mk (blk_drew BK304.out)
          replace BK305 := Aside0.mk (blk_drew BK305.out)
          replace HB := Aside0.mk (below_drew1 HB.out)
          refine start_ (n := 7) (S := fun w' => w'.cell? ⟨gb304, 0, none⟩ = some (.slice Ao11 t306.length co11) ∧ w'.cell? ⟨gb304, 1, none⟩ = some (.slice Ao13 t309.length co13) ∧ w'.cell? ⟨gb304, 2, none⟩ = some (.slice Ao14 t312.length co14) ∧ w'.cell? ⟨gb304, 3, none⟩ = some (.slice Ao15 t315.length co15) ∧ w'.cell? ⟨gb304, 4, none⟩ = some (.int .i64 t318) ∧ w'.cell? ⟨gb304, 5, none⟩ = some (.int .i64 t319)) (ds := []) #[false, false, false, false, false, false, false] (by kernel_rfl) rfl rfl ⟨(blk_cell BK304.out 0).trans rfl, (blk_cell BK304.out 1).trans rfl, (blk_cell BK304.out 2).trans rfl, (blk_cell BK304.out 3).trans rfl, (blk_cell BK304.out 4).trans rfl, (blk_cell BK304.out 5).trans rfl⟩ (fun hHeld => ?_)
          generalize wc.drew = w41 at HO_305000 HO_305001 HO_305002 HO_305003 BK304 BK305 HB hHeld ⊢
          refine pure_ (i := 1) (N := some 24) (v := ?_) (a' := ?_) #[false, true, false, false, false, false, false] rfl rfl (by kernel_rfl) (fun _ _ _ h => h) (Or.inl ⟨by rfl, ?_⟩) ?_ ?_
          rotate_left
          ·intro w'
           go_simp
           with_reducible rfl
          rotate_left
          ·simp only [Act.put, List.setIfInBounds_toArray, List.set_cons_zero, List.set_cons_succ, i64_w, i32_w]
           rfl
          refine pure_ (i := 3) (N := some 26) (v := ?_) (a' := ?_) #[false, true, false, true, false, false, false] rfl rfl (by kernel_rfl) (fun _ _ _ h => h) (Or.inl ⟨by rfl, ?_⟩) ?_ ?_
          rotate_left
          ·intro w'
           go_simp
           with_reducible rfl
          rotate_left
          ·simp only [Act.put, List.setIfInBounds_toArray, List.set_cons_zero, List.set_cons_succ, i64_w, i32_w]
           rfl
          refine take_ (i := 0) (N := some 23) (v := ?_) (a' := ?_) #[true, true, false, true, false, false, false] rfl rfl (by kernel_rfl) (fun _ _ _ h => h) (Or.inl ⟨by rfl, ?_⟩) hHeld ?_ ?_
          rotate_left
          ·rintro w' ⟨s0, s1, s2, s3, s4, s5⟩
           go_simp
           with_reducible rfl
          rotate_left
          ·simp only [Act.put, List.setIfInBounds_toArray, List.set_cons_zero, List.set_cons_succ, i64_w, i32_w]
           rfl
          refine take_ (i := 2) (N := some 25) (v := ?_) (a' := ?_) #[true, true, true, true, false, false, false] rfl rfl (by kernel_rfl) (fun _ _ _ h => h) (Or.inl ⟨by rfl, ?_⟩) hHeld ?_ ?_
          rotate_left
          ·rintro w' ⟨s0, s1, s2, s3, s4, s5⟩
           go_simp
           with_reducible rfl
          rotate_left
          ·simp only [Act.put, List.setIfInBounds_toArray, List.set_cons_zero, List.set_cons_succ, i64_w, i32_w]
           rfl
          refine one_ (i := 4) (N := some 27) #[true, true, true, true, true, false, false] rfl rfl (by kernel_rfl) (by decide) (fun K hK => ?_)
          refine goes_ Tryz.func81 (by kernel_rfl) rfl #[.slice Ao13 t309.length co13, .string a1] (by rfl) rfl rfl (by (try simp only [List.map_toArray, List.map_cons, List.map_nil]); rfl) ?_
          with_reducible refine (spec_EntryAt.calls kj4 _ _ t309 a1 t322 _ ?side1 ?side2 A30.out).mono ?_
          (case side1 => repeat (exact (Kd.R_reads' HO_305001.out).2.2))
          (case side2 => exact (Kd.R_reads' HO_305001.out).2.1)
          rintro e w' ⟨rfl, ⟨nd, rfl⟩⟩
          refine ⟨_, rfl, ?_⟩
          refine hK.out _ _ ⟨(blk_cell BK304.out 0).trans rfl, (blk_cell BK304.out 1).trans rfl, (blk_cell BK304.out 2).trans rfl, (blk_cell BK304.out 3).trans rfl, (blk_cell BK304.out 4).trans rfl, (blk_cell BK304.out 5).trans rfl⟩ (fun hHeld => ?_)
          clear hK K
          refine norm_ (a' := ?_) ?_ ?_
          rotate_left
          ·show Act.put _ (some 27) _ = _
           simp only [Act.put, List.setIfInBounds_toArray, List.set_cons_zero, List.set_cons_succ, i64_w, i32_w]
           rfl
          refine one_ (i := 5) (N := some 28) #[true, true, true, true, true, true, false] rfl rfl (by kernel_rfl) (by decide) (fun K hK => ?_)
          refine goes_ Tryz.func80 (by kernel_rfl) rfl #[.agg #[.slice Ao11 t306.length co11, .slice Ao13 t309.length co13, .slice Ao14 t312.length co14, .slice Ao15 t315.length co15, .int .i64 t318, .int .i64 t319], .int .i64 t322] (by rfl) rfl rfl (by (try simp only [List.map_toArray, List.map_cons, List.map_nil]); rfl) ?_
          with_reducible refine (spec_l05Node.calls kj4 _ _ t306 _ _ t309 _ _ t312 _ _ t315 t318 t319 t322 t323 _ ?side1 ?side2 ?side3 ?side4 ?side5 ?side6 ?side7 ?side8 A31.out).mono ?_
          (case side1 => repeat (exact (Kd.R_reads' HO_305000.out).2.2))
          (case side2 => exact (Kd.R_reads' HO_305000.out).2.1)
          (case side3 => repeat (exact (Kd.R_reads' HO_305001.out).2.2))
          (case side4 => exact (Kd.R_reads' HO_305001.out).2.1)
          (case side5 => repeat (exact (Kd.R_reads' HO_305002.out).2.2))
          (case side6 => exact (Kd.R_reads' HO_305002.out).2.1)
          (case side7 => repeat (exact (Kd.R_reads' HO_305003.out).2.2))
          (case side8 => exact (Kd.R_reads' HO_305003.out).2.1)
          rintro e w42 ⟨rfl, hb⟩
          refine ⟨_, rfl, ?_⟩
          replace HO_305000 := Aside0.mk (Kd.R_below (by (with_reducible repeat (apply Kd.R_drewN)); exact HO_305000.out) hb)
          replace HO_305001 := Aside0.mk (Kd.R_below (by (with_reducible repeat (apply Kd.R_drewN)); exact HO_305001.out) hb)
          replace HO_305002 := Aside0.mk (Kd.R_below (by (with_reducible repeat (apply Kd.R_drewN)); exact HO_305002.out) hb)
          replace HO_305003 := Aside0.mk (Kd.R_below (by (with_reducible repeat (apply Kd.R_drewN)); exact HO_305003.out) hb)
          replace BK304 := Aside0.mk (blk_below (g := gb304) (o := .cells #[.slice Ao11 t306.length co11, .slice Ao13 t309.length co13, .slice Ao14 t312.length co14, .slice Ao15 t315.length co15, .int .i64 t318, .int .i64 t319] 32 (0, 0)) (by (with_reducible repeat (refine blk_drewN ?_ _)); exact BK304.out) hb)
          replace BK305 := Aside0.mk (blk_below (g := gb305) (o := .cells #[.slice none 0 0, .slice none 0 0, .slice none 0 0, .slice none 0 0, .int .i64 0, .int .i64 0] 32 (0, 0)) (by (with_reducible repeat (refine blk_drewN ?_ _)); exact BK305.out) hb)
          replace HB := Aside0.mk (below_step (by repeat (with_reducible first | exact HB.out | apply pw_below_drewN)) hb)
          (try clear hb)
          (try clear hb2)
          (try clear hk)
          (try clear hi)
          refine hK.out _ _ ⟨(blk_cell BK304.out 0).trans rfl, (blk_cell BK304.out 1).trans rfl, (blk_cell BK304.out 2).trans rfl, (blk_cell BK304.out 3).trans rfl, (blk_cell BK304.out 4).trans rfl, (blk_cell BK304.out 5).trans rfl⟩ (fun hHeld => ?_)
          clear hK K
          refine norm_ (a' := ?_) ?_ ?_
          rotate_left
          ·show Act.put _ (some 28) _ = _
           simp only [Act.put, List.setIfInBounds_toArray, List.set_cons_zero, List.set_cons_succ, i64_w, i32_w]
           rfl
          refine pure_ (i := 6) (N := some 8) (v := ?_) (a' := ?_) #[true, true, true, true, true, true, true] rfl rfl (by kernel_rfl) (fun _ _ _ h => h) (Or.inl ⟨by rfl, ?_⟩) ?_ ?_
          rotate_left
          ·intro w'
           go_simp
           with_reducible rfl
          rotate_left
          ·simp only [Act.put, List.setIfInBounds_toArray, List.set_cons_zero, List.set_cons_succ, i64_w, i32_w]
           rfl
          refine done_ (by kernel_rfl) ?_
          try go_wp2
          replace HO_305000 := Aside0.mk (Kd.R_drew HO_305000.out)
          replace HO_305001 := Aside0.mk (Kd.R_drew HO_305001.out)
          replace HO_305002 := Aside0.mk (Kd.R_drew HO_305002.out)
          replace HO_305003 := Aside0.mk (Kd.R_drew HO_305003.out)
          replace BK304 := Aside0.mk (blk_drew BK304.out)
          replace BK305 := Aside0.mk (blk_drew BK305.out)
          replace HB := Aside0.mk (below_drew1 HB.out)
          refine start_ (n := 6) (S := fun w' => w'.cell? ⟨gb304, 0, none⟩ = some (.slice Ao11 t306.length co11) ∧ w'.cell? ⟨gb304, 1, none⟩ = some (.slice Ao13 t309.length co13) ∧ w'.cell? ⟨gb304, 2, none⟩ = some (.slice Ao14 t312.length co14) ∧ w'.cell? ⟨gb304, 3, none⟩ = some (.slice Ao15 t315.length co15) ∧ w'.cell? ⟨gb304, 4, none⟩ = some (.int .i64 t318) ∧ w'.cell? ⟨gb304, 5, none⟩ = some (.int .i64 t319)) (ds := []) #[false, false, false, false, false, false] (by kernel_rfl) rfl rfl ⟨(blk_cell BK304.out 0).trans rfl, (blk_cell BK304.out 1).trans rfl, (blk_cell BK304.out 2).trans rfl, (blk_cell BK304.out 3).trans rfl, (blk_cell BK304.out 4).trans rfl, (blk_cell BK304.out 5).trans rfl⟩ (fun hHeld => ?_)
          generalize w42.drew = w43 at HO_305000 HO_305001 HO_305002 HO_305003 BK304 BK305 HB hHeld ⊢
          refine pure_ (i := 0) (N := some 29) (v := ?_) (a' := ?_) #[true, false, false, false, false, false] rfl rfl (by kernel_rfl) (fun _ _ _ h => h) (Or.inl ⟨by rfl, ?_⟩) ?_ ?_
          rotate_left
          ·intro w'
           go_simp
           with_reducible rfl
          rotate_left
          ·simp only [Act.put, List.setIfInBounds_toArray, List.set_cons_zero, List.set_cons_succ, i64_w, i32_w]
           rfl
          refine take_ (i := 1) (N := some 30) (v := ?_) (a' := ?_) #[true, true, false, false, false, false] rfl rfl (by kernel_rfl) (fun _ _ _ h => h) (Or.inl ⟨by rfl, ?_⟩) hHeld ?_ ?_
          rotate_left
          ·rintro w' ⟨s0, s1, s2, s3, s4, s5⟩
           go_simp
           with_reducible rfl
          rotate_left
          ·simp only [Act.put, List.setIfInBounds_toArray, List.set_cons_zero, List.set_cons_succ, i64_w, i32_w]
           rfl
          refine take_ (i := 2) (N := some 31) (v := ?_) (a' := ?_) #[true, true, true, false, false, false] rfl rfl (by kernel_rfl) (fun _ _ _ h => h) (Or.inl ⟨by rfl, ?_⟩) hHeld ?_ ?_
          rotate_left
          ·rintro w' ⟨s0, s1, s2, s3, s4, s5⟩
           go_simp
           with_reducible rfl
          rotate_left
          ·simp only [Act.put, List.setIfInBounds_toArray, List.set_cons_zero, List.set_cons_succ, i64_w, i32_w]
           rfl
          refine one_ (i := 3) (N := some 32) #[true, true, true, true, false, false] rfl rfl (by kernel_rfl) (by decide) (fun K hK => ?_)
          refine goes_ Tryz.func60 (by kernel_rfl) rfl #[.agg #[.slice Ao11 t306.length co11, .slice Ao13 t309.length co13, .slice Ao14 t312.length co14, .slice Ao15 t315.length co15, .int .i64 t318, .int .i64 t319]] (by rfl) rfl rfl (by (try simp only [List.map_toArray, List.map_cons, List.map_nil]); rfl) ?_
          with_reducible refine (spec_UsedOn.calls kj4 _ _ t306 _ _ t309 _ _ t312 _ _ t315 t318 t319 t324 _ ?side1 ?side2 ?side3 ?side4 ?side5 ?side6 ?side7 ?side8 A32.out).mono ?_
          (case side1 => repeat (exact (Kd.R_reads' HO_305000.out).2.2))
          (case side2 => exact (Kd.R_reads' HO_305000.out).2.1)
          (case side3 => repeat (exact (Kd.R_reads' HO_305001.out).2.2))
          (case side4 => exact (Kd.R_reads' HO_305001.out).2.1)
          (case side5 => repeat (exact (Kd.R_reads' HO_305002.out).2.2))
          (case side6 => exact (Kd.R_reads' HO_305002.out).2.1)
          (case side7 => repeat (exact (Kd.R_reads' HO_305003.out).2.2))
          (case side8 => exact (Kd.R_reads' HO_305003.out).2.1)
          rintro e w44 ⟨rfl, hb⟩
          refine ⟨_, rfl, ?_⟩
          replace HO_305000 := Aside0.mk (Kd.R_below HO_305000.out hb)
          replace HO_305001 := Aside0.mk (Kd.R_below HO_305001.out hb)
          replace HO_305002 := Aside0.mk (Kd.R_below HO_305002.out hb)
          replace HO_305003 := Aside0.mk (Kd.R_below HO_305003.out hb)
          replace BK304 := Aside0.mk (bB hb BK304.out)
          replace BK305 := Aside0.mk (bB hb BK305.out)
          replace HB := Aside0.mk (below_step HB.out hb)
          (try clear hb)
          (try clear hb2)
          (try clear hk)
          (try clear hi)
          refine hK.out _ _ ⟨(blk_cell BK304.out 0).trans rfl, (blk_cell BK304.out 1).trans rfl, (blk_cell BK304.out 2).trans rfl, (blk_cell BK304.out 3).trans rfl, (blk_cell BK304.out 4).trans rfl, (blk_cell BK304.out 5).trans rfl⟩ (fun hHeld => ?_)
          clear hK K
          refine norm_ (a' := ?_) ?_ ?_
          rotate_left
          ·show Act.put _ (some 32) _ = _
           simp only [Act.put, List.setIfInBounds_toArray, List.set_cons_zero, List.set_cons_succ, i64_w, i32_w]
           rfl
          refine pure_ (i := 4) (N := some 33) (v := ?_) (a' := ?_) #[true, true, true, true, true, false] rfl rfl (by kernel_rfl) (fun _ _ _ h => h) (Or.inl ⟨by rfl, ?_⟩) ?_ ?_
          rotate_left
          ·intro w'
           go_simp
           with_reducible rfl
          rotate_left
          ·simp only [Act.put, List.setIfInBounds_toArray, List.set_cons_zero, List.set_cons_succ, i64_w, i32_w]
           rfl
          refine pure_ (i := 5) (N := some 9) (v := ?_) (a' := ?_) #[true, true, true, true, true, true] rfl rfl (by kernel_rfl) (fun _ _ _ h => h) (Or.inl ⟨by rfl, ?_⟩) ?_ ?_
          rotate_left
          ·intro w'
           go_simp
           with_reducible rfl
          rotate_left
          ·simp only [Act.put, List.setIfInBounds_toArray, List.set_cons_zero, List.set_cons_succ, i64_w, i32_w]
           rfl
          refine done_ (by kernel_rfl) ?_
          try go_wp2
          replace HO_305000 := Aside0.mk (Kd.R_drew HO_305000.out)
          replace HO_305001 := Aside0.mk (Kd.R_drew HO_305001.out)
          replace HO_305002 := Aside0.mk (Kd.R_drew HO_305002.out)
          replace HO_305003 := Aside0.mk (Kd.R_drew HO_305003.out)
          replace BK304 := Aside0.mk (blk_drew BK304.out)
          replace BK305 := Aside0.mk (blk_drew BK305.out)
          replace HB := Aside0.mk (below_drew1 HB.out)
          have p325 : 0 ≤ (t323 : Int) := of_decide_eq_true (by (with_reducible assumption))
          have q325 : t323 < (t306.length : Int) := of_decide_eq_true (by (with_reducible assumption))
          obtain ⟨ad325, e325, hx325_0, hx325_1, hx325_2⟩ := at_T57 (Kd.R_reads' HO_305000.out).2.2 t323 p325 q325
          cases e325
          replace p325 := eq_true p325
          replace q325 := eq_true q325
          have p40 : 0 ≤ (t323 : Int) := of_decide_eq_true (by (with_reducible assumption))
          have q40 : (t323 : Int) < ((t306.length : Int) : Int) := of_decide_eq_true (by (with_reducible assumption))
          obtain ⟨go40, co40, eo40, gb40, gl40, cl40, HG40⟩ := Kd.R_form HO_305000.out (by omega)
          (cases eo40)
          have GB40 := Aside0.mk gb40
          have GG40 := Aside0.mk HG40
          clear gb40 gl40 HG40
          (simp only [add_plain] at hx325_0)
          (simp only [add_plain] at hx325_1)
          (simp only [add_plain] at hx325_2)
          obtain ⟨ce40, hcl40, hM40, hcc40, hfr40⟩ := Kd.R_elem HO_305000.out z57 (t323 : Int) p40 q40
          obtain rfl := k57_openM hM40
          have hx40_0 : World.cell? _ ⟨go40, (t323 : Int).toNat * 3, none⟩ = some (.int .i64 ((rd_T57 t306 t323).f0)) := hcc40 0 _ rfl
          have hx40_1 : World.cell? _ ⟨go40, (t323 : Int).toNat * 3 + 1, none⟩ = some (.string ((rd_T57 t306 t323).f1)) := hcc40 1 _ rfl
          have hx40_2 : World.cell? _ ⟨go40, (t323 : Int).toNat * 3 + 2, none⟩ = some (.int .i64 ((rd_T57 t306 t323).f2)) := hcc40 2 _ rfl
          have hf40_0 : World.frozen? _ ⟨go40, (t323 : Int).toNat * 3, none⟩ = false := hfr40 0
          have hf40_1 : World.frozen? _ ⟨go40, (t323 : Int).toNat * 3 + 1, none⟩ = false := hfr40 1
          have hf40_2 : World.frozen? _ ⟨go40, (t323 : Int).toNat * 3 + 2, none⟩ = false := hfr40 2
          clear hcl40 hcc40 hfr40 hM40
          replace p40 := eq_true p40
          replace q40 := eq_true q40
          obtain ⟨ce46, hcl46, hM46, hcc46, hfr46⟩ := Kd.R_elem HO_305000.out z57 (t323 : Int) (of_decide_eq_true (by (with_reducible assumption))) (by have h_ : (t323 : Int) < ((t306.length : Int) : Int) := of_decide_eq_true (by (with_reducible assumption)); exact h_)
          obtain rfl := k57_openM hM46
          have HP46 := (Kd.R_seg HO_305000.out (t323 : Int) (of_decide_eq_true (by (with_reducible assumption))) (by have h_ : (t323 : Int) < ((t306.length : Int) : Int) := of_decide_eq_true (by (with_reducible assumption)); exact h_) (seg := [.string (((rd_T57 t306 t323).f1) ++ (a2.extract 0 ((ji36) : Int).toNat))]) (j := 1) hcl46 hcc46 (show 2 ≤ 3 from by decide) (x' := (⟨(rd_T57 t306 t323).f0, ((rd_T57 t306 t323).f1) ++ (a2.extract 0 ((ji36) : Int).toNat), (rd_T57 t306 t323).f2⟩ : S57)) (k57_mkM _ _ _ (⟨(rd_T57 t306 t323).f0, ((rd_T57 t306 t323).f1) ++ (a2.extract 0 ((ji36) : Int).toNat), (rd_T57 t306 t323).f2⟩ : S57) ) (fun _ hk => hk)).1
          rw [← Ny326.out] at HP46
          have HQ46 := Aside0.mk HP46
          clear hcl46 hcc46 hfr46 hM46 HP46
          refine start_ (n := 16) (S := fun w' => w'.cell? ⟨gb304, 0, none⟩ = some (.slice (some ⟨go40, 0, none⟩) t306.length co11) ∧ w'.cell? ⟨gb304, 1, none⟩ = some (.slice Ao13 t309.length co13) ∧ w'.cell? ⟨gb304, 2, none⟩ = some (.slice Ao14 t312.length co14) ∧ w'.cell? ⟨gb304, 3, none⟩ = some (.slice Ao15 t315.length co15) ∧ w'.cell? ⟨gb304, 4, none⟩ = some (.int .i64 t318) ∧ w'.cell? ⟨gb304, 5, none⟩ = some (.int .i64 t319) ∧ w'.cell? ⟨go40, ((t323).toNat * 3), none⟩ = some (.int .i64 ((rd_T57 t306 t323).f0)) ∧ w'.cell? ⟨go40, ((t323).toNat * 3) + 1, none⟩ = some (.string ((rd_T57 t306 t323).f1)) ∧ w'.cell? ⟨go40, ((t323).toNat * 3) + 2, none⟩ = some (.int .i64 ((rd_T57 t306 t323).f2))) (ds := [15]) (marks 16 0) (by kernel_rfl) rfl rfl ⟨(blk_cell BK304.out 0).trans rfl, (blk_cell BK304.out 1).trans rfl, (blk_cell BK304.out 2).trans rfl, (blk_cell BK304.out 3).trans rfl, (blk_cell BK304.out 4).trans rfl, (blk_cell BK304.out 5).trans rfl, hx325_0, hx325_1, hx325_2⟩ (fun hHeld => ?_); refine with_tabW spec_AppendFile.tab7 spec_AppendFile.bits7 (fun HT_ HW_ => ?_)
          generalize w44.drew = w45 at HO_305000 HO_305001 HO_305002 HO_305003 BK304 BK305 HB GG40 HQ46 hf40_0 hf40_1 hf40_2 hx325_0 hx325_1 hx325_2 hx40_0 hx40_1 hx40_2 hHeld ⊢
          refine pure_ (i := 0) (N := some 38) (v := ?_) (a' := ?_) (marks 16 1) rfl rfl (any_of HT_.out (by kernel_rfl)) (fun _ _ _ h => h) (Or.inl ⟨by rfl, ?_⟩) ?_ ?_
          rotate_left
          ·intro w'
           go_simp
           with_reducible rfl
          rotate_left
          ·simp only [Act.put, List.setIfInBounds_toArray, List.set_cons_zero, List.set_cons_succ, i64_w, i32_w]
           rfl
          refine pure_ (i := 2) (N := some 40) (v := ?_) (a' := ?_) (marks 16 5) rfl rfl (any_of HT_.out (by kernel_rfl)) (fun _ _ _ h => h) (Or.inl ⟨by rfl, ?_⟩) ?_ ?_
          rotate_left
          ·intro w'
           go_simp
           with_reducible rfl
          rotate_left
          ·simp only [Act.put, List.setIfInBounds_toArray, List.set_cons_zero, List.set_cons_succ, i64_w, i32_w]
           rfl
          refine pure_ (i := 3) (N := some 41) (v := ?_) (a' := ?_) (marks 16 13) rfl rfl (any_of HT_.out (by kernel_rfl)) (fun _ _ _ h => h) (Or.inl ⟨by rfl, ?_⟩) ?_ ?_
          rotate_left
          ·intro w'
           go_simp
           with_reducible rfl
          rotate_left
          ·simp only [Act.put, List.setIfInBounds_toArray, List.set_cons_zero, List.set_cons_succ, i64_w, i32_w]
           rfl
          refine pure_ (i := 5) (N := some 43) (v := ?_) (a' := ?_) (marks 16 45) rfl rfl (any_of HT_.out (by kernel_rfl)) (fun _ _ _ h => h) (Or.inl ⟨by rfl, ?_⟩) ?_ ?_
          rotate_left
          ·intro w'
           go_simp
           with_reducible rfl
          rotate_left
          ·simp only [Act.put, List.setIfInBounds_toArray, List.set_cons_zero, List.set_cons_succ, i64_w, i32_w]
           rfl
          refine pure_ (i := 9) (N := some 47) (v := ?_) (a' := ?_) (marks 16 557) rfl rfl (any_of HT_.out (by kernel_rfl)) (fun _ _ _ h => h) (Or.inl ⟨by rfl, ?_⟩) ?_ ?_
          rotate_left
          ·intro w'
           go_simp
           with_reducible rfl
          rotate_left
          ·simp only [Act.put, List.setIfInBounds_toArray, List.set_cons_zero, List.set_cons_succ, i64_w, i32_w]
           rfl
          refine pure_ (i := 10) (N := some 48) (v := ?_) (a' := ?_) (marks 16 1581) rfl rfl (any_of HT_.out (by kernel_rfl)) (fun _ _ _ h => h) (Or.inl ⟨by rfl, ?_⟩) ?_ ?_
          rotate_left
          ·intro w'
           go_simp
           with_reducible rfl
          rotate_left
          ·simp only [Act.put, List.setIfInBounds_toArray, List.set_cons_zero, List.set_cons_succ, i64_w, i32_w]
           rfl
          refine pure_ (i := 11) (N := some 49) (v := ?_) (a' := ?_) (marks 16 3629) rfl rfl (any_of HT_.out (by kernel_rfl)) (fun _ _ _ h => h) (Or.inl ⟨by rfl, ?_⟩) ?_ ?_
          rotate_left
          ·intro w'
           go_simp
           with_reducible rfl
          rotate_left
          ·simp only [Act.put, List.setIfInBounds_toArray, List.set_cons_zero, List.set_cons_succ, i64_w, i32_w]
           rfl
          refine take_ (i := 1) (N := some 39) (v := ?_) (a' := ?_) (marks 16 3631) rfl rfl (take_ofW HT_.out HW_.out (by kernel_rfl)) (fun _ _ _ h => h) (Or.inl ⟨by rfl, ?_⟩) hHeld ?_ ?_
          rotate_left
          ·rintro w' ⟨s0, s1, s2, s3, s4, s5, s6, s7, s8⟩
           go_simp
           with_reducible rfl
          rotate_left
          ·simp only [Act.put, List.setIfInBounds_toArray, List.set_cons_zero, List.set_cons_succ, i64_w, i32_w]
           rfl
          refine take_ (i := 4) (N := some 42) (v := ?_) (a' := ?_) (marks 16 3647) rfl rfl (take_ofW HT_.out HW_.out (by kernel_rfl)) (fun _ _ _ h => h) (Or.inl ⟨by rfl, ?_⟩) hHeld ?_ ?_
          rotate_left
          ·rintro w' ⟨s0, s1, s2, s3, s4, s5, s6, s7, s8⟩
           go_simp
           with_reducible rfl
          rotate_left
          ·simp only [Act.put, List.setIfInBounds_toArray, List.set_cons_zero, List.set_cons_succ, i64_w, i32_w]
           rfl
          refine pure_ (i := 6) (N := some 44) (v := ?_) (a' := ?_) (marks 16 3711) rfl rfl (any_of HT_.out (by kernel_rfl)) (fun _ _ _ h => h) (Or.inl ⟨by rfl, ?_⟩) ?_ ?_
          rotate_left
          ·intro w'
           go_simp
           with_reducible rfl
          rotate_left
          ·simp only [Act.put, List.setIfInBounds_toArray, List.set_cons_zero, List.set_cons_succ, i64_w, i32_w]
           rfl
          refine pure_ (i := 7) (N := some 45) (v := ?_) (a' := ?_) (marks 16 3839) rfl rfl (any_of HT_.out (by kernel_rfl)) (fun _ _ _ h => h) (Or.inl ⟨by rfl, ?_⟩) ?_ ?_
          rotate_left
          ·intro w'
           go_simp
           with_reducible rfl
          rotate_left
          ·simp only [Act.put, List.setIfInBounds_toArray, List.set_cons_zero, List.set_cons_succ, i64_w, i32_w]
           rfl
          refine take_ (i := 8) (N := some 46) (v := ?_) (a' := ?_) (marks 16 4095) rfl rfl (take_ofW HT_.out HW_.out (by kernel_rfl)) (fun _ _ _ h => h) (Or.inl ⟨by rfl, ?_⟩) hHeld ?_ ?_
          rotate_left
          ·rintro w' ⟨s0, s1, s2, s3, s4, s5, s6, s7, s8⟩
           go_simp
           with_reducible rfl
          rotate_left
          ·simp only [Act.put, List.setIfInBounds_toArray, List.set_cons_zero, List.set_cons_succ, i64_w, i32_w]
           rfl
          refine pure_ (i := 12) (N := some 50) (v := ?_) (a' := ?_) (marks 16 8191) rfl rfl (any_of HT_.out (by kernel_rfl)) (fun _ _ _ h => h) (Or.inl ⟨by rfl, ?_⟩) ?_ ?_
          rotate_left
          ·intro w'
           go_simp
           with_reducible rfl
          rotate_left
          ·simp only [Act.put, List.setIfInBounds_toArray, List.set_cons_zero, List.set_cons_succ, i64_w, i32_w]
           rfl
          refine pure_ (i := 13) (N := some 51) (v := ?_) (a' := ?_) (marks 16 16383) rfl rfl (any_of HT_.out (by kernel_rfl)) (fun _ _ _ h => h) (Or.inl ⟨by rfl, ?_⟩) ?_ ?_
          rotate_left
          ·intro w'
           go_simp
           with_reducible rfl
          rotate_left
          ·simp only [Act.put, List.setIfInBounds_toArray, List.set_cons_zero, List.set_cons_succ, i64_w, i32_w]
           rfl
          refine pure_ (i := 14) (N := some 52) (v := ?_) (a' := ?_) (marks 16 32767) rfl rfl (any_of HT_.out (by kernel_rfl)) (fun _ _ _ h => h) (Or.inl ⟨by rfl, ?_⟩) ?_ ?_
          rotate_left
          ·intro w'
           go_simp
           with_reducible rfl
          rotate_left
          ·simp only [Act.put, List.setIfInBounds_toArray, List.set_cons_zero, List.set_cons_succ, i64_w, i32_w]
           rfl
          refine last_ (i := 15) (N := none) (marks 16 65535) rfl rfl (one_of HT_.out (by kernel_rfl)) (by decide) (fun K hK => ?_)
          refine skip_ (w1 := ?_) (by rfl) rfl ?_ ?_
          rotate_left
          ·go_simp
           rfl
          refine hK.out _ _ ?_
          clear hK K
          refine done_ (done_of HT_.out (by kernel_rfl)) ?_
          have n0_ : Aside0 (Kd.R k57 57 (w45.setCell ⟨go40, (t323 : Int).toNat * 3 + 1, none⟩ (.string (((rd_T57 t306 t323).f1) ++ (a2.extract 0 ((ji36) : Int).toNat)))) w.heap.size (fun _ => True) (.slice (some ⟨go40, 0, none⟩) t306.length co11) y326) := ⟨by exact HQ46.out⟩
          have n1_ : Aside0 (Kd.R k59 59 (w45.setCell ⟨go40, (t323 : Int).toNat * 3 + 1, none⟩ (.string (((rd_T57 t306 t323).f1) ++ (a2.extract 0 ((ji36) : Int).toNat)))) w.heap.size (fun k_ => some k_ ≠ (.slice Ao14 t312.length co14 : Value).ownBlock) (.slice Ao13 t309.length co13) t309) := ⟨by exact Kd.R_mono (Kd.R_far (p := ⟨go40, (t323 : Int).toNat * 3 + 1, none⟩) (Kd.R_types HO_305001.out GG40.out (by decide)) (fun _ hk => hk.2) (.string (((rd_T57 t306 t323).f1) ++ (a2.extract 0 ((ji36) : Int).toNat)))) (fun _ hk => hk.1)⟩
          have n2_ : Aside0 (Kd.R k59 59 (w45.setCell ⟨go40, (t323 : Int).toNat * 3 + 1, none⟩ (.string (((rd_T57 t306 t323).f1) ++ (a2.extract 0 ((ji36) : Int).toNat)))) w.heap.size (fun k_ => some k_ ≠ (.slice Ao13 t309.length co13 : Value).ownBlock) (.slice Ao14 t312.length co14) t312) := ⟨by exact Kd.R_mono (Kd.R_far (p := ⟨go40, (t323 : Int).toNat * 3 + 1, none⟩) (Kd.R_types HO_305002.out GG40.out (by decide)) (fun _ hk => hk.2) (.string (((rd_T57 t306 t323).f1) ++ (a2.extract 0 ((ji36) : Int).toNat)))) (fun _ hk => hk.1)⟩
          have n3_ : Aside0 (Kd.R Kd.string 9 (w45.setCell ⟨go40, (t323 : Int).toNat * 3 + 1, none⟩ (.string (((rd_T57 t306 t323).f1) ++ (a2.extract 0 ((ji36) : Int).toNat)))) w.heap.size (fun _ => True) (.slice Ao15 t315.length co15) t315) := ⟨by exact Kd.R_mono (Kd.R_far (p := ⟨go40, (t323 : Int).toNat * 3 + 1, none⟩) (Kd.R_types HO_305003.out GG40.out (by decide)) (fun _ hk => hk.2) (.string (((rd_T57 t306 t323).f1) ++ (a2.extract 0 ((ji36) : Int).toNat)))) (fun _ hk => trivial)⟩
          have n4_ : Aside0 ((w45.setCell ⟨go40, (t323 : Int).toNat * 3 + 1, none⟩ (.string (((rd_T57 t306 t323).f1) ++ (a2.extract 0 ((ji36) : Int).toNat)))).heap[gb304]? = some (.cells #[.slice (some ⟨go40, 0, none⟩) t306.length co11, .slice Ao13 t309.length co13, .slice Ao14 t312.length co14, .slice Ao15 t315.length co15, .int .i64 t318, .int .i64 t319] 32 (0, 0))) := ⟨by refine blk_far ?_ (by have h_ := Kd.R_ne HO_305000.out BK304.out (by decide); intro e_; exact h_ (by rw [e_]; rfl)) _; exact BK304.out⟩
          have n5_ : Aside0 ((w45.setCell ⟨go40, (t323 : Int).toNat * 3 + 1, none⟩ (.string (((rd_T57 t306 t323).f1) ++ (a2.extract 0 ((ji36) : Int).toNat)))).heap[gb305]? = some (.cells #[.slice none 0 0, .slice none 0 0, .slice none 0 0, .slice none 0 0, .int .i64 0, .int .i64 0] 32 (0, 0))) := ⟨by refine blk_far ?_ (by have h_ := Kd.R_ne HO_305000.out BK305.out (by decide); intro e_; exact h_ (by rw [e_]; rfl)) _; exact BK305.out⟩
          have n6_ : Aside0 (Below w.heap.size w (w45.setCell ⟨go40, (t323 : Int).toNat * 3 + 1, none⟩ (.string (((rd_T57 t306 t323).f1) ++ (a2.extract 0 ((ji36) : Int).toNat))))) := ⟨by repeat (with_reducible first | exact HB.out | refine below_set ?_ GB40.out)⟩
          (try clear HO_305000)
          (try clear HO_305001)
          (try clear HO_305002)
          (try clear HO_305003)
          (try clear BK304)
          (try clear BK305)
          (try clear HB)
          generalize (w45.setCell ⟨go40, (t323 : Int).toNat * 3 + 1, none⟩ (.string (((rd_T57 t306 t323).f1) ++ (a2.extract 0 ((ji36) : Int).toNat)))) = w47 at n0_ n1_ n2_ n3_ n4_ n5_ n6_ ⊢
          have HO_305000 := n0_
          have HO_305001 := n1_
          have HO_305002 := n2_
          have HO_305003 := n3_
          have BK304 := n4_
          have BK305 := n5_
          have HB := n6_
          clear n0_ n1_ n2_ n3_ n4_ n5_ n6_
          have hcz49_0 : w47.cell? ⟨gb304, 0, none⟩ = some (.slice (some ⟨go40, 0, none⟩) t306.length co11) := (blk_cell BK304.out 0).trans rfl
          have hcz49_1 : w47.cell? ⟨gb304, 1, none⟩ = some (.slice Ao13 t309.length co13) := (blk_cell BK304.out 1).trans rfl
          have hcz49_2 : w47.cell? ⟨gb304, 2, none⟩ = some (.slice Ao14 t312.length co14) := (blk_cell BK304.out 2).trans rfl
          have hcz49_3 : w47.cell? ⟨gb304, 3, none⟩ = some (.slice Ao15 t315.length co15) := (blk_cell BK304.out 3).trans rfl
          have hcz49_4 : w47.cell? ⟨gb304, 4, none⟩ = some (.int .i64 t318) := (blk_cell BK304.out 4).trans rfl
          have hcz49_5 : w47.cell? ⟨gb304, 5, none⟩ = some (.int .i64 t319) := (blk_cell BK304.out 5).trans rfl
          have hcz50_0 : w47.cell? ⟨gb305, 0, none⟩ = some (.slice none 0 0) := (blk_cell BK305.out 0).trans rfl
          have hcz50_1 : w47.cell? ⟨gb305, 1, none⟩ = some (.slice none 0 0) := (blk_cell BK305.out 1).trans rfl
          have hcz50_2 : w47.cell? ⟨gb305, 2, none⟩ = some (.slice none 0 0) := (blk_cell BK305.out 2).trans rfl
          have hcz50_3 : w47.cell? ⟨gb305, 3, none⟩ = some (.slice none 0 0) := (blk_cell BK305.out 3).trans rfl
          have hcz50_4 : w47.cell? ⟨gb305, 4, none⟩ = some (.int .i64 0) := (blk_cell BK305.out 4).trans rfl
          have hcz50_5 : w47.cell? ⟨gb305, 5, none⟩ = some (.int .i64 0) := (blk_cell BK305.out 5).trans rfl
          have hfz50_0 := blk_frozen BK305.out 0
          have hfz50_1 := blk_frozen BK305.out 1
          have hfz50_2 := blk_frozen BK305.out 2
          have hfz50_3 := blk_frozen BK305.out 3
          have hfz50_4 := blk_frozen BK305.out 4
          have hfz50_5 := blk_frozen BK305.out 5
          try go_wp2
          refine bodyPost_ret (results_ct rfl _ _ gb305 32 #[.slice (some ⟨go40, 0, none⟩) t306.length co11, .slice Ao13 t309.length co13, .slice Ao14 t312.length co14, .slice Ao15 t315.length co15, .int .i64 t318, .int .i64 t319] (0, 0) _ rfl (by refine blk_put (cs := #[.slice (some ⟨go40, 0, none⟩) t306.length co11, .slice Ao13 t309.length co13, .slice Ao14 t312.length co14, .slice Ao15 t315.length co15, .int .i64 t318, .int .i64 0]) ?_ 5 _ rfl; refine blk_put (cs := #[.slice (some ⟨go40, 0, none⟩) t306.length co11, .slice Ao13 t309.length co13, .slice Ao14 t312.length co14, .slice Ao15 t315.length co15, .int .i64 0, .int .i64 0]) ?_ 4 _ rfl; refine blk_put (cs := #[.slice (some ⟨go40, 0, none⟩) t306.length co11, .slice Ao13 t309.length co13, .slice Ao14 t312.length co14, .slice none 0 0, .int .i64 0, .int .i64 0]) ?_ 3 _ rfl; refine blk_put (cs := #[.slice (some ⟨go40, 0, none⟩) t306.length co11, .slice Ao13 t309.length co13, .slice none 0 0, .slice none 0 0, .int .i64 0, .int .i64 0]) ?_ 2 _ rfl; refine blk_put (cs := #[.slice (some ⟨go40, 0, none⟩) t306.length co11, .slice none 0 0, .slice none 0 0, .slice none 0 0, .int .i64 0, .int .i64 0]) ?_ 1 _ rfl; refine blk_put (cs := #[.slice none 0 0, .slice none 0 0, .slice none 0 0, .slice none 0 0, .int .i64 0, .int .i64 0]) ?_ 0 _ rfl; exact BK305.out) Tryz.underlying32 rfl (by kernel_rfl)) rfl ?_
          all_goals exact ⟨_, _, _, _, by first | rfl | (simp [errW_none, errW_some] <;> rfl) | (simp only [← hji36]; first | rfl | (simp [errW_none, errW_some] <;> rfl)) | (simp [*, errW_none, errW_some] <;> rfl) | (exfalso; simp only [decide_eq_true_eq, decide_eq_false_iff_not] at *; omega), by exact Kd.R_mono (Kd.R_far (p := ⟨gb305, 5, none⟩) (Kd.R_far (p := ⟨gb305, 4, none⟩) (Kd.R_far (p := ⟨gb305, 3, none⟩) (Kd.R_far (p := ⟨gb305, 2, none⟩) (Kd.R_far (p := ⟨gb305, 1, none⟩) (Kd.R_far (p := ⟨gb305, 0, none⟩) (Kd.R_types HO_305000.out BK305.out (by decide)) (fun _ hk => hk.2) (.slice (some ⟨go40, 0, none⟩) t306.length co11)) (fun _ hk => hk.2) (.slice Ao13 t309.length co13)) (fun _ hk => hk.2) (.slice Ao14 t312.length co14)) (fun _ hk => hk.2) (.slice Ao15 t315.length co15)) (fun _ hk => hk.2) (.int .i64 t318)) (fun _ hk => hk.2) (.int .i64 t319)) (fun _ hk => trivial), by exact Kd.R_mono (Kd.R_far (p := ⟨gb305, 5, none⟩) (Kd.R_far (p := ⟨gb305, 4, none⟩) (Kd.R_far (p := ⟨gb305, 3, none⟩) (Kd.R_far (p := ⟨gb305, 2, none⟩) (Kd.R_far (p := ⟨gb305, 1, none⟩) (Kd.R_far (p := ⟨gb305, 0, none⟩) (Kd.R_types HO_305001.out BK305.out (by decide)) (fun _ hk => hk.2) (.slice (some ⟨go40, 0, none⟩) t306.length co11)) (fun _ hk => hk.2) (.slice Ao13 t309.length co13)) (fun _ hk => hk.2) (.slice Ao14 t312.length co14)) (fun _ hk => hk.2) (.slice Ao15 t315.length co15)) (fun _ hk => hk.2) (.int .i64 t318)) (fun _ hk => hk.2) (.int .i64 t319)) (fun _ hk => hk.1), by exact Kd.R_mono (Kd.R_far (p := ⟨gb305, 5, none⟩) (Kd.R_far (p := ⟨gb305, 4, none⟩) (Kd.R_far (p := ⟨gb305, 3, none⟩) (Kd.R_far (p := ⟨gb305, 2, none⟩) (Kd.R_far (p := ⟨gb305, 1, none⟩) (Kd.R_far (p := ⟨gb305, 0, none⟩) (Kd.R_types HO_305002.out BK305.out (by decide)) (fun _ hk => hk.2) (.slice (some ⟨go40, 0, none⟩) t306.length co11)) (fun _ hk => hk.2) (.slice Ao13 t309.length co13)) (fun _ hk => hk.2) (.slice Ao14 t312.length co14)) (fun _ hk => hk.2) (.slice Ao15 t315.length co15)) (fun _ hk => hk.2) (.int .i64 t318)) (fun _ hk => hk.2) (.int .i64 t319)) (fun _ hk => hk.1), by exact Kd.R_mono (Kd.R_far (p := ⟨gb305, 5, none⟩) (Kd.R_far (p := ⟨gb305, 4, none⟩) (Kd.R_far (p := ⟨gb305, 3, none⟩) (Kd.R_far (p := ⟨gb305, 2, none⟩) (Kd.R_far (p := ⟨gb305, 1, none⟩) (Kd.R_far (p := ⟨gb305, 0, none⟩) (Kd.R_types HO_305003.out BK305.out (by decide)) (fun _ hk => hk.2) (.slice (some ⟨go40, 0, none⟩) t306.length co11)) (fun _ hk => hk.2) (.slice Ao13 t309.length co13)) (fun _ hk => hk.2) (.slice Ao14 t312.length co14)) (fun _ hk => hk.2) (.slice Ao15 t315.length co15)) (fun _ hk => hk.2) (.int .i64 t318)) (fun _ hk => hk.2) (.int .i64 t319)) (fun _ hk => trivial), by repeat (with_reducible first | exact HB.out | refine below_set ?_ GE305.out)⟩
         ·rw [if_neg c39] at H
          exact absurd H (by simp)
        ·rw [if_neg c38] at H
         exact absurd H (by simp)
       ·rw [if_neg c37] at H
        exact absurd H (by simp)
      ·rw [if_neg c35] at H
       exact absurd H (by simp)
     ·rw [if_neg c34] at H
      exact absurd H (by simp)
    ·rw [if_neg c33] at H
     have c33b0 : decide ((wrap64 (t318 - t324)) < (a2.size : Int)) = false := decide_eq_false c33
     clear c33
     by_cases c51 : 0 ≤ t323
     ·rw [if_pos c51] at H
      have c51b0 : decide (0 ≤ t323) = true := decide_eq_true c51
      clear c51
      by_cases c52 : t323 < (t306.length : Int)
      ·rw [if_pos c52] at H
       have c52b0 : decide (t323 < (t306.length : Int)) = true := decide_eq_true c52
       clear c52
       by_cases c53 : ((rd_T57 t306 t323).f1).size + a2.size ≤ 9223372036854775807
       ·rw [if_pos c53] at H
        try have c53b2 : (9223372036854775807 < ((rd_T57 t306 t323).f1).size + a2.size) = False := eq_false (Nat.not_lt.2 c53)
        obtain ⟨y328, hy328⟩ : ∃ y_ : List (S57), y_ = (t306.set (t323 : Int).toNat (⟨(rd_T57 t306 t323).f0, ((rd_T57 t306 t323).f1) ++ a2, (rd_T57 t306 t323).f2⟩ : S57)) := ⟨_, rfl⟩
        replace H : (some (y328, t309, t312, t315, t318, t319, 0)) = some (r1, r2, r3, r4, r5, r6, r7) := by (rw [hy328]; with_reducible exact H)
        have Ny328 := Aside0.mk hy328
        clear hy328
        simp only [Option.some.injEq, Prod.mk.injEq] at H
        obtain ⟨rfl, rfl, rfl, rfl, rfl, rfl, rfl⟩ := H
        try go_wp2
        replace HO_305000 := Aside0.mk (Kd.R_drew HO_305000.out)
        replace HO_305001 := Aside0.mk (Kd.R_drew HO_305001.out)
        replace HO_305002 := Aside0.mk (Kd.R_drew HO_305002.out)
        replace HO_305003 := Aside0.mk (Kd.R_drew HO_305003.out)
        replace BK304 := Aside0.mk (blk_drew BK304.out)
        replace BK305 := Aside0.mk (blk_drew BK305.out)
        replace HB := Aside0.mk (below_drew1 HB.out)
        refine start_ (n := 7) (S := fun w' => w'.cell? ⟨gb304, 0, none⟩ = some (.slice Ao11 t306.length co11) ∧ w'.cell? ⟨gb304, 1, none⟩ = some (.slice Ao13 t309.length co13) ∧ w'.cell? ⟨gb304, 2, none⟩ = some (.slice Ao14 t312.length co14) ∧ w'.cell? ⟨gb304, 3, none⟩ = some (.slice Ao15 t315.length co15) ∧ w'.cell? ⟨gb304, 4, none⟩ = some (.int .i64 t318) ∧ w'.cell? ⟨gb304, 5, none⟩ = some (.int .i64 t319)) (ds := []) #[false, false, false, false, false, false, false] (by kernel_rfl) rfl rfl ⟨(blk_cell BK304.out 0).trans rfl, (blk_cell BK304.out 1).trans rfl, (blk_cell BK304.out 2).trans rfl, (blk_cell BK304.out 3).trans rfl, (blk_cell BK304.out 4).trans rfl, (blk_cell BK304.out 5).trans rfl⟩ (fun hHeld => ?_)
        generalize wc.drew = w55 at HO_305000 HO_305001 HO_305002 HO_305003 BK304 BK305 HB hHeld ⊢
        refine pure_ (i := 1) (N := some 24) (v := ?_) (a' := ?_) #[false, true, false, false, false, false, false] rfl rfl (by kernel_rfl) (fun _ _ _ h => h) (Or.inl ⟨by rfl, ?_⟩) ?_ ?_
        rotate_left
        ·intro w'
         go_simp
         with_reducible rfl
        rotate_left
        ·simp only [Act.put, List.setIfInBounds_toArray, List.set_cons_zero, List.set_cons_succ, i64_w, i32_w]
         rfl
        refine pure_ (i := 3) (N := some 26) (v := ?_) (a' := ?_) #[false, true, false, true, false, false, false] rfl rfl (by kernel_rfl) (fun _ _ _ h => h) (Or.inl ⟨by rfl, ?_⟩) ?_ ?_
        rotate_left
        ·intro w'
         go_simp
         with_reducible rfl
        rotate_left
        ·simp only [Act.put, List.setIfInBounds_toArray, List.set_cons_zero, List.set_cons_succ, i64_w, i32_w]
         rfl
        refine take_ (i := 0) (N := some 23) (v := ?_) (a' := ?_) #[true, true, false, true, false, false, false] rfl rfl (by kernel_rfl) (fun _ _ _ h => h) (Or.inl ⟨by rfl, ?_⟩) hHeld ?_ ?_
        rotate_left
        ·rintro w' ⟨s0, s1, s2, s3, s4, s5⟩
         go_simp
         with_reducible rfl
        rotate_left
        ·simp only [Act.put, List.setIfInBounds_toArray, List.set_cons_zero, List.set_cons_succ, i64_w, i32_w]
         rfl
        refine take_ (i := 2) (N := some 25) (v := ?_) (a' := ?_) #[true, true, true, true, false, false, false] rfl rfl (by kernel_rfl) (fun _ _ _ h => h) (Or.inl ⟨by rfl, ?_⟩) hHeld ?_ ?_
        rotate_left
        ·rintro w' ⟨s0, s1, s2, s3, s4, s5⟩
         go_simp
         with_reducible rfl
        rotate_left
        ·simp only [Act.put, List.setIfInBounds_toArray, List.set_cons_zero, List.set_cons_succ, i64_w, i32_w]
         rfl
        refine one_ (i := 4) (N := some 27) #[true, true, true, true, true, false, false] rfl rfl (by kernel_rfl) (by decide) (fun K hK => ?_)
        refine goes_ Tryz.func81 (by kernel_rfl) rfl #[.slice Ao13 t309.length co13, .string a1] (by rfl) rfl rfl (by (try simp only [List.map_toArray, List.map_cons, List.map_nil]); rfl) ?_
        with_reducible refine (spec_EntryAt.calls kj4 _ _ t309 a1 t322 _ ?side1 ?side2 A30.out).mono ?_
        (case side1 => repeat (exact (Kd.R_reads' HO_305001.out).2.2))
        (case side2 => exact (Kd.R_reads' HO_305001.out).2.1)
        rintro e w' ⟨rfl, ⟨nd, rfl⟩⟩
        refine ⟨_, rfl, ?_⟩
        refine hK.out _ _ ⟨(blk_cell BK304.out 0).trans rfl, (blk_cell BK304.out 1).trans rfl, (blk_cell BK304.out 2).trans rfl, (blk_cell BK304.out 3).trans rfl, (blk_cell BK304.out 4).trans rfl, (blk_cell BK304.out 5).trans rfl⟩ (fun hHeld => ?_)
        clear hK K
        refine norm_ (a' := ?_) ?_ ?_
        rotate_left
        ·show Act.put _ (some 27) _ = _
         simp only [Act.put, List.setIfInBounds_toArray, List.set_cons_zero, List.set_cons_succ, i64_w, i32_w]
         rfl
        refine one_ (i := 5) (N := some 28) #[true, true, true, true, true, true, false] rfl rfl (by kernel_rfl) (by decide) (fun K hK => ?_)
        refine goes_ Tryz.func80 (by kernel_rfl) rfl #[.agg #[.slice Ao11 t306.length co11, .slice Ao13 t309.length co13, .slice Ao14 t312.length co14, .slice Ao15 t315.length co15, .int .i64 t318, .int .i64 t319], .int .i64 t322] (by rfl) rfl rfl (by (try simp only [List.map_toArray, List.map_cons, List.map_nil]); rfl) ?_
        with_reducible refine (spec_l05Node.calls kj4 _ _ t306 _ _ t309 _ _ t312 _ _ t315 t318 t319 t322 t323 _ ?side1 ?side2 ?side3 ?side4 ?side5 ?side6 ?side7 ?side8 A31.out).mono ?_
        (case side1 => repeat (exact (Kd.R_reads' HO_305000.out).2.2))
        (case side2 => exact (Kd.R_reads' HO_305000.out).2.1)
        (case side3 => repeat (exact (Kd.R_reads' HO_305001.out).2.2))
        (case side4 => exact (Kd.R_reads' HO_305001.out).2.1)
        (case side5 => repeat (exact (Kd.R_reads' HO_305002.out).2.2))
        (case side6 => exact (Kd.R_reads' HO_305002.out).2.1)
        (case side7 => repeat (exact (Kd.R_reads' HO_305003.out).2.2))
        (case side8 => exact (Kd.R_reads' HO_305003.out).2.1)
        rintro e w56 ⟨rfl, hb⟩
        refine ⟨_, rfl, ?_⟩
        replace HO_305000 := Aside0.mk (Kd.R_below (by (with_reducible repeat (apply Kd.R_drewN)); exact HO_305000.out) hb)
        replace HO_305001 := Aside0.mk (Kd.R_below (by (with_reducible repeat (apply Kd.R_drewN)); exact HO_305001.out) hb)
        replace HO_305002 := Aside0.mk (Kd.R_below (by (with_reducible repeat (apply Kd.R_drewN)); exact HO_305002.out) hb)
        replace HO_305003 := Aside0.mk (Kd.R_below (by (with_reducible repeat (apply Kd.R_drewN)); exact HO_305003.out) hb)
        replace BK304 := Aside0.mk (blk_below (g := gb304) (o := .cells #[.slice Ao11 t306.length co11, .slice Ao13 t309.length co13, .slice Ao14 t312.length co14, .slice Ao15 t315.length co15, .int .i64 t318, .int .i64 t319] 32 (0, 0)) (by (with_reducible repeat (refine blk_drewN ?_ _)); exact BK304.out) hb)
        replace BK305 := Aside0.mk (blk_below (g := gb305) (o := .cells #[.slice none 0 0, .slice none 0 0, .slice none 0 0, .slice none 0 0, .int .i64 0, .int .i64 0] 32 (0, 0)) (by (with_reducible repeat (refine blk_drewN ?_ _)); exact BK305.out) hb)
        replace HB := Aside0.mk (below_step (by repeat (with_reducible first | exact HB.out | apply pw_below_drewN)) hb)
        (try clear hb)
        (try clear hb2)
        (try clear hk)
        (try clear hi)
        refine hK.out _ _ ⟨(blk_cell BK304.out 0).trans rfl, (blk_cell BK304.out 1).trans rfl, (blk_cell BK304.out 2).trans rfl, (blk_cell BK304.out 3).trans rfl, (blk_cell BK304.out 4).trans rfl, (blk_cell BK304.out 5).trans rfl⟩ (fun hHeld => ?_)
        clear hK K
        refine norm_ (a' := ?_) ?_ ?_
        rotate_left
        ·show Act.put _ (some 28) _ = _
         simp only [Act.put, List.setIfInBounds_toArray, List.set_cons_zero, List.set_cons_succ, i64_w, i32_w]
         rfl
        refine pure_ (i := 6) (N := some 8) (v := ?_) (a' := ?_) #[true, true, true, true, true, true, true] rfl rfl (by kernel_rfl) (fun _ _ _ h => h) (Or.inl ⟨by rfl, ?_⟩) ?_ ?_
        rotate_left
        ·intro w'
         go_simp
         with_reducible rfl
        rotate_left
        ·simp only [Act.put, List.setIfInBounds_toArray, List.set_cons_zero, List.set_cons_succ, i64_w, i32_w]
         rfl
        refine done_ (by kernel_rfl) ?_
        try go_wp2
        replace HO_305000 := Aside0.mk (Kd.R_drew HO_305000.out)
        replace HO_305001 := Aside0.mk (Kd.R_drew HO_305001.out)
        replace HO_305002 := Aside0.mk (Kd.R_drew HO_305002.out)
        replace HO_305003 := Aside0.mk (Kd.R_drew HO_305003.out)
        replace BK304 := Aside0.mk (blk_drew BK304.out)
        replace BK305 := Aside0.mk (blk_drew BK305.out)
        replace HB := Aside0.mk (below_drew1 HB.out)
        refine start_ (n := 6) (S := fun w' => w'.cell? ⟨gb304, 0, none⟩ = some (.slice Ao11 t306.length co11) ∧ w'.cell? ⟨gb304, 1, none⟩ = some (.slice Ao13 t309.length co13) ∧ w'.cell? ⟨gb304, 2, none⟩ = some (.slice Ao14 t312.length co14) ∧ w'.cell? ⟨gb304, 3, none⟩ = some (.slice Ao15 t315.length co15) ∧ w'.cell? ⟨gb304, 4, none⟩ = some (.int .i64 t318) ∧ w'.cell? ⟨gb304, 5, none⟩ = some (.int .i64 t319)) (ds := []) #[false, false, false, false, false, false] (by kernel_rfl) rfl rfl ⟨(blk_cell BK304.out 0).trans rfl, (blk_cell BK304.out 1).trans rfl, (blk_cell BK304.out 2).trans rfl, (blk_cell BK304.out 3).trans rfl, (blk_cell BK304.out 4).trans rfl, (blk_cell BK304.out 5).trans rfl⟩ (fun hHeld => ?_)
        generalize w56.drew = w57 at HO_305000 HO_305001 HO_305002 HO_305003 BK304 BK305 HB hHeld ⊢
        refine pure_ (i := 0) (N := some 29) (v := ?_) (a' := ?_) #[true, false, false, false, false, false] rfl rfl (by kernel_rfl) (fun _ _ _ h => h) (Or.inl ⟨by rfl, ?_⟩) ?_ ?_
        rotate_left
        ·intro w'
         go_simp
         with_reducible rfl
        rotate_left
        ·simp only [Act.put, List.setIfInBounds_toArray, List.set_cons_zero, List.set_cons_succ, i64_w, i32_w]
         rfl
        refine take_ (i := 1) (N := some 30) (v := ?_) (a' := ?_) #[true, true, false, false, false, false] rfl rfl (by kernel_rfl) (fun _ _ _ h => h) (Or.inl ⟨by rfl, ?_⟩) hHeld ?_ ?_
        rotate_left
        ·rintro w' ⟨s0, s1, s2, s3, s4, s5⟩
         go_simp
         with_reducible rfl
        rotate_left
        ·simp only [Act.put, List.setIfInBounds_toArray, List.set_cons_zero, List.set_cons_succ, i64_w, i32_w]
         rfl
        refine take_ (i := 2) (N := some 31) (v := ?_) (a' := ?_) #[true, true, true, false, false, false] rfl rfl (by kernel_rfl) (fun _ _ _ h => h) (Or.inl ⟨by rfl, ?_⟩) hHeld ?_ ?_
        rotate_left
        ·rintro w' ⟨s0, s1, s2, s3, s4, s5⟩
         go_simp
         with_reducible rfl
        rotate_left
        ·simp only [Act.put, List.setIfInBounds_toArray, List.set_cons_zero, List.set_cons_succ, i64_w, i32_w]
         rfl
        refine one_ (i := 3) (N := some 32) #[true, true, true, true, false, false] rfl rfl (by kernel_rfl) (by decide) (fun K hK => ?_)
        refine goes_ Tryz.func60 (by kernel_rfl) rfl #[.agg #[.slice Ao11 t306.length co11, .slice Ao13 t309.length co13, .slice Ao14 t312.length co14, .slice Ao15 t315.length co15, .int .i64 t318, .int .i64 t319]] (by rfl) rfl rfl (by (try simp only [List.map_toArray, List.map_cons, List.map_nil]); rfl) ?_
        with_reducible refine (spec_UsedOn.calls kj4 _ _ t306 _ _ t309 _ _ t312 _ _ t315 t318 t319 t324 _ ?side1 ?side2 ?side3 ?side4 ?side5 ?side6 ?side7 ?side8 A32.out).mono ?_
        (case side1 => repeat (exact (Kd.R_reads' HO_305000.out).2.2))
        (case side2 => exact (Kd.R_reads' HO_305000.out).2.1)
        (case side3 => repeat (exact (Kd.R_reads' HO_305001.out).2.2))
        (case side4 => exact (Kd.R_reads' HO_305001.out).2.1)
        (case side5 => repeat (exact (Kd.R_reads' HO_305002.out).2.2))
        (case side6 => exact (Kd.R_reads' HO_305002.out).2.1)
        (case side7 => repeat (exact (Kd.R_reads' HO_305003.out).2.2))
        (case side8 => exact (Kd.R_reads' HO_305003.out).2.1)
        rintro e w58 ⟨rfl, hb⟩
        refine ⟨_, rfl, ?_⟩
        replace HO_305000 := Aside0.mk (Kd.R_below HO_305000.out hb)
        replace HO_305001 := Aside0.mk (Kd.R_below HO_305001.out hb)
        replace HO_305002 := Aside0.mk (Kd.R_below HO_305002.out hb)
        replace HO_305003 := Aside0.mk (Kd.R_below HO_305003.out hb)
        replace BK304 := Aside0.mk (bB hb BK304.out)
        replace BK305 := Aside0.mk (bB hb BK305.out)
        replace HB := Aside0.mk (below_step HB.out hb)
        (try clear hb)
        (try clear hb2)
        (try clear hk)
        (try clear hi)
        refine hK.out _ _ ⟨(blk_cell BK304.out 0).trans rfl, (blk_cell BK304.out 1).trans rfl, (blk_cell BK304.out 2).trans rfl, (blk_cell BK304.out 3).trans rfl, (blk_cell BK304.out 4).trans rfl, (blk_cell BK304.out 5).trans rfl⟩ (fun hHeld => ?_)
        clear hK K
        refine norm_ (a' := ?_) ?_ ?_
        rotate_left
        ·show Act.put _ (some 32) _ = _
         simp only [Act.put, List.setIfInBounds_toArray, List.set_cons_zero, List.set_cons_succ, i64_w, i32_w]
         rfl
        refine pure_ (i := 4) (N := some 33) (v := ?_) (a' := ?_) #[true, true, true, true, true, false] rfl rfl (by kernel_rfl) (fun _ _ _ h => h) (Or.inl ⟨by rfl, ?_⟩) ?_ ?_
        rotate_left
        ·intro w'
         go_simp
         with_reducible rfl
        rotate_left
        ·simp only [Act.put, List.setIfInBounds_toArray, List.set_cons_zero, List.set_cons_succ, i64_w, i32_w]
         rfl
        refine pure_ (i := 5) (N := some 9) (v := ?_) (a' := ?_) #[true, true, true, true, true, true] rfl rfl (by kernel_rfl) (fun _ _ _ h => h) (Or.inl ⟨by rfl, ?_⟩) ?_ ?_
        rotate_left
        ·intro w'
         go_simp
         with_reducible rfl
        rotate_left
        ·simp only [Act.put, List.setIfInBounds_toArray, List.set_cons_zero, List.set_cons_succ, i64_w, i32_w]
         rfl
        refine done_ (by kernel_rfl) ?_
        try go_wp2
        replace HO_305000 := Aside0.mk (Kd.R_drew HO_305000.out)
        replace HO_305001 := Aside0.mk (Kd.R_drew HO_305001.out)
        replace HO_305002 := Aside0.mk (Kd.R_drew HO_305002.out)
        replace HO_305003 := Aside0.mk (Kd.R_drew HO_305003.out)
        replace BK304 := Aside0.mk (blk_drew BK304.out)
        replace BK305 := Aside0.mk (blk_drew BK305.out)
        replace HB := Aside0.mk (below_drew1 HB.out)
        have p327 : 0 ≤ (t323 : Int) := of_decide_eq_true (by (with_reducible assumption))
        have q327 : t323 < (t306.length : Int) := of_decide_eq_true (by (with_reducible assumption))
        obtain ⟨ad327, e327, hx327_0, hx327_1, hx327_2⟩ := at_T57 (Kd.R_reads' HO_305000.out).2.2 t323 p327 q327
        cases e327
        replace p327 := eq_true p327
        replace q327 := eq_true q327
        have p54 : 0 ≤ (t323 : Int) := of_decide_eq_true (by (with_reducible assumption))
        have q54 : (t323 : Int) < ((t306.length : Int) : Int) := of_decide_eq_true (by (with_reducible assumption))
        obtain ⟨go54, co54, eo54, gb54, gl54, cl54, HG54⟩ := Kd.R_form HO_305000.out (by omega)
        (cases eo54)
        have GB54 := Aside0.mk gb54
        have GG54 := Aside0.mk HG54
        clear gb54 gl54 HG54
        (simp only [add_plain] at hx327_0)
        (simp only [add_plain] at hx327_1)
        (simp only [add_plain] at hx327_2)
        obtain ⟨ce54, hcl54, hM54, hcc54, hfr54⟩ := Kd.R_elem HO_305000.out z57 (t323 : Int) p54 q54
        obtain rfl := k57_openM hM54
        have hx54_0 : World.cell? _ ⟨go54, (t323 : Int).toNat * 3, none⟩ = some (.int .i64 ((rd_T57 t306 t323).f0)) := hcc54 0 _ rfl
        have hx54_1 : World.cell? _ ⟨go54, (t323 : Int).toNat * 3 + 1, none⟩ = some (.string ((rd_T57 t306 t323).f1)) := hcc54 1 _ rfl
        have hx54_2 : World.cell? _ ⟨go54, (t323 : Int).toNat * 3 + 2, none⟩ = some (.int .i64 ((rd_T57 t306 t323).f2)) := hcc54 2 _ rfl
        have hf54_0 : World.frozen? _ ⟨go54, (t323 : Int).toNat * 3, none⟩ = false := hfr54 0
        have hf54_1 : World.frozen? _ ⟨go54, (t323 : Int).toNat * 3 + 1, none⟩ = false := hfr54 1
        have hf54_2 : World.frozen? _ ⟨go54, (t323 : Int).toNat * 3 + 2, none⟩ = false := hfr54 2
        clear hcl54 hcc54 hfr54 hM54
        replace p54 := eq_true p54
        replace q54 := eq_true q54
        obtain ⟨ce60, hcl60, hM60, hcc60, hfr60⟩ := Kd.R_elem HO_305000.out z57 (t323 : Int) (of_decide_eq_true (by (with_reducible assumption))) (by have h_ : (t323 : Int) < ((t306.length : Int) : Int) := of_decide_eq_true (by (with_reducible assumption)); exact h_)
        obtain rfl := k57_openM hM60
        have HP60 := (Kd.R_seg HO_305000.out (t323 : Int) (of_decide_eq_true (by (with_reducible assumption))) (by have h_ : (t323 : Int) < ((t306.length : Int) : Int) := of_decide_eq_true (by (with_reducible assumption)); exact h_) (seg := [.string (((rd_T57 t306 t323).f1) ++ a2)]) (j := 1) hcl60 hcc60 (show 2 ≤ 3 from by decide) (x' := (⟨(rd_T57 t306 t323).f0, ((rd_T57 t306 t323).f1) ++ a2, (rd_T57 t306 t323).f2⟩ : S57)) (k57_mkM _ _ _ (⟨(rd_T57 t306 t323).f0, ((rd_T57 t306 t323).f1) ++ a2, (rd_T57 t306 t323).f2⟩ : S57) ) (fun _ hk => hk)).1
        rw [← Ny328.out] at HP60
        have HQ60 := Aside0.mk HP60
        clear hcl60 hcc60 hfr60 hM60 HP60
        refine start_ (n := 14) (S := fun w' => w'.cell? ⟨gb304, 0, none⟩ = some (.slice (some ⟨go54, 0, none⟩) t306.length co11) ∧ w'.cell? ⟨gb304, 1, none⟩ = some (.slice Ao13 t309.length co13) ∧ w'.cell? ⟨gb304, 2, none⟩ = some (.slice Ao14 t312.length co14) ∧ w'.cell? ⟨gb304, 3, none⟩ = some (.slice Ao15 t315.length co15) ∧ w'.cell? ⟨gb304, 4, none⟩ = some (.int .i64 t318) ∧ w'.cell? ⟨gb304, 5, none⟩ = some (.int .i64 t319) ∧ w'.cell? ⟨go54, ((t323).toNat * 3), none⟩ = some (.int .i64 ((rd_T57 t306 t323).f0)) ∧ w'.cell? ⟨go54, ((t323).toNat * 3) + 1, none⟩ = some (.string ((rd_T57 t306 t323).f1)) ∧ w'.cell? ⟨go54, ((t323).toNat * 3) + 2, none⟩ = some (.int .i64 ((rd_T57 t306 t323).f2))) (ds := [13]) (marks 14 0) (by kernel_rfl) rfl rfl ⟨(blk_cell BK304.out 0).trans rfl, (blk_cell BK304.out 1).trans rfl, (blk_cell BK304.out 2).trans rfl, (blk_cell BK304.out 3).trans rfl, (blk_cell BK304.out 4).trans rfl, (blk_cell BK304.out 5).trans rfl, hx327_0, hx327_1, hx327_2⟩ (fun hHeld => ?_); refine with_tabW spec_AppendFile.tab9 spec_AppendFile.bits9 (fun HT_ HW_ => ?_)
        generalize w58.drew = w59 at HO_305000 HO_305001 HO_305002 HO_305003 BK304 BK305 HB GG54 HQ60 hf54_0 hf54_1 hf54_2 hx327_0 hx327_1 hx327_2 hx54_0 hx54_1 hx54_2 hHeld ⊢
        refine pure_ (i := 0) (N := some 54) (v := ?_) (a' := ?_) (marks 14 1) rfl rfl (any_of HT_.out (by kernel_rfl)) (fun _ _ _ h => h) (Or.inl ⟨by rfl, ?_⟩) ?_ ?_
        rotate_left
        ·intro w'
         go_simp
         with_reducible rfl
        rotate_left
        ·simp only [Act.put, List.setIfInBounds_toArray, List.set_cons_zero, List.set_cons_succ, i64_w, i32_w]
         rfl
        refine pure_ (i := 2) (N := some 56) (v := ?_) (a' := ?_) (marks 14 5) rfl rfl (any_of HT_.out (by kernel_rfl)) (fun _ _ _ h => h) (Or.inl ⟨by rfl, ?_⟩) ?_ ?_
        rotate_left
        ·intro w'
         go_simp
         with_reducible rfl
        rotate_left
        ·simp only [Act.put, List.setIfInBounds_toArray, List.set_cons_zero, List.set_cons_succ, i64_w, i32_w]
         rfl
        refine pure_ (i := 3) (N := some 57) (v := ?_) (a' := ?_) (marks 14 13) rfl rfl (any_of HT_.out (by kernel_rfl)) (fun _ _ _ h => h) (Or.inl ⟨by rfl, ?_⟩) ?_ ?_
        rotate_left
        ·intro w'
         go_simp
         with_reducible rfl
        rotate_left
        ·simp only [Act.put, List.setIfInBounds_toArray, List.set_cons_zero, List.set_cons_succ, i64_w, i32_w]
         rfl
        refine pure_ (i := 5) (N := some 59) (v := ?_) (a' := ?_) (marks 14 45) rfl rfl (any_of HT_.out (by kernel_rfl)) (fun _ _ _ h => h) (Or.inl ⟨by rfl, ?_⟩) ?_ ?_
        rotate_left
        ·intro w'
         go_simp
         with_reducible rfl
        rotate_left
        ·simp only [Act.put, List.setIfInBounds_toArray, List.set_cons_zero, List.set_cons_succ, i64_w, i32_w]
         rfl
        refine pure_ (i := 9) (N := some 63) (v := ?_) (a' := ?_) (marks 14 557) rfl rfl (any_of HT_.out (by kernel_rfl)) (fun _ _ _ h => h) (Or.inl ⟨by rfl, ?_⟩) ?_ ?_
        rotate_left
        ·intro w'
         go_simp
         with_reducible rfl
        rotate_left
        ·simp only [Act.put, List.setIfInBounds_toArray, List.set_cons_zero, List.set_cons_succ, i64_w, i32_w]
         rfl
        refine take_ (i := 1) (N := some 55) (v := ?_) (a' := ?_) (marks 14 559) rfl rfl (take_ofW HT_.out HW_.out (by kernel_rfl)) (fun _ _ _ h => h) (Or.inl ⟨by rfl, ?_⟩) hHeld ?_ ?_
        rotate_left
        ·rintro w' ⟨s0, s1, s2, s3, s4, s5, s6, s7, s8⟩
         go_simp
         with_reducible rfl
        rotate_left
        ·simp only [Act.put, List.setIfInBounds_toArray, List.set_cons_zero, List.set_cons_succ, i64_w, i32_w]
         rfl
        refine take_ (i := 4) (N := some 58) (v := ?_) (a' := ?_) (marks 14 575) rfl rfl (take_ofW HT_.out HW_.out (by kernel_rfl)) (fun _ _ _ h => h) (Or.inl ⟨by rfl, ?_⟩) hHeld ?_ ?_
        rotate_left
        ·rintro w' ⟨s0, s1, s2, s3, s4, s5, s6, s7, s8⟩
         go_simp
         with_reducible rfl
        rotate_left
        ·simp only [Act.put, List.setIfInBounds_toArray, List.set_cons_zero, List.set_cons_succ, i64_w, i32_w]
         rfl
        refine pure_ (i := 6) (N := some 60) (v := ?_) (a' := ?_) (marks 14 639) rfl rfl (any_of HT_.out (by kernel_rfl)) (fun _ _ _ h => h) (Or.inl ⟨by rfl, ?_⟩) ?_ ?_
        rotate_left
        ·intro w'
         go_simp
         with_reducible rfl
        rotate_left
        ·simp only [Act.put, List.setIfInBounds_toArray, List.set_cons_zero, List.set_cons_succ, i64_w, i32_w]
         rfl
        refine pure_ (i := 7) (N := some 61) (v := ?_) (a' := ?_) (marks 14 767) rfl rfl (any_of HT_.out (by kernel_rfl)) (fun _ _ _ h => h) (Or.inl ⟨by rfl, ?_⟩) ?_ ?_
        rotate_left
        ·intro w'
         go_simp
         with_reducible rfl
        rotate_left
        ·simp only [Act.put, List.setIfInBounds_toArray, List.set_cons_zero, List.set_cons_succ, i64_w, i32_w]
         rfl
        refine take_ (i := 8) (N := some 62) (v := ?_) (a' := ?_) (marks 14 1023) rfl rfl (take_ofW HT_.out HW_.out (by kernel_rfl)) (fun _ _ _ h => h) (Or.inl ⟨by rfl, ?_⟩) hHeld ?_ ?_
        rotate_left
        ·rintro w' ⟨s0, s1, s2, s3, s4, s5, s6, s7, s8⟩
         go_simp
         with_reducible rfl
        rotate_left
        ·simp only [Act.put, List.setIfInBounds_toArray, List.set_cons_zero, List.set_cons_succ, i64_w, i32_w]
         rfl
        refine pure_ (i := 10) (N := some 64) (v := ?_) (a' := ?_) (marks 14 2047) rfl rfl (any_of HT_.out (by kernel_rfl)) (fun _ _ _ h => h) (Or.inl ⟨by rfl, ?_⟩) ?_ ?_
        rotate_left
        ·intro w'
         go_simp
         with_reducible rfl
        rotate_left
        ·simp only [Act.put, List.setIfInBounds_toArray, List.set_cons_zero, List.set_cons_succ, i64_w, i32_w]
         rfl
        refine pure_ (i := 11) (N := some 65) (v := ?_) (a' := ?_) (marks 14 4095) rfl rfl (any_of HT_.out (by kernel_rfl)) (fun _ _ _ h => h) (Or.inl ⟨by rfl, ?_⟩) ?_ ?_
        rotate_left
        ·intro w'
         go_simp
         with_reducible rfl
        rotate_left
        ·simp only [Act.put, List.setIfInBounds_toArray, List.set_cons_zero, List.set_cons_succ, i64_w, i32_w]
         rfl
        refine pure_ (i := 12) (N := some 66) (v := ?_) (a' := ?_) (marks 14 8191) rfl rfl (any_of HT_.out (by kernel_rfl)) (fun _ _ _ h => h) (Or.inl ⟨by rfl, ?_⟩) ?_ ?_
        rotate_left
        ·intro w'
         go_simp
         with_reducible rfl
        rotate_left
        ·simp only [Act.put, List.setIfInBounds_toArray, List.set_cons_zero, List.set_cons_succ, i64_w, i32_w]
         rfl
        refine last_ (i := 13) (N := none) (marks 14 16383) rfl rfl (one_of HT_.out (by kernel_rfl)) (by decide) (fun K hK => ?_)
        refine skip_ (w1 := ?_) (by rfl) rfl ?_ ?_
        rotate_left
        ·go_simp
         rfl
        refine hK.out _ _ ?_
        clear hK K
        refine done_ (done_of HT_.out (by kernel_rfl)) ?_
        have n0_ : Aside0 (Kd.R k57 57 (w59.setCell ⟨go54, (t323 : Int).toNat * 3 + 1, none⟩ (.string (((rd_T57 t306 t323).f1) ++ a2))) w.heap.size (fun _ => True) (.slice (some ⟨go54, 0, none⟩) t306.length co11) y328) := ⟨by exact HQ60.out⟩
        have n1_ : Aside0 (Kd.R k59 59 (w59.setCell ⟨go54, (t323 : Int).toNat * 3 + 1, none⟩ (.string (((rd_T57 t306 t323).f1) ++ a2))) w.heap.size (fun k_ => some k_ ≠ (.slice Ao14 t312.length co14 : Value).ownBlock) (.slice Ao13 t309.length co13) t309) := ⟨by exact Kd.R_mono (Kd.R_far (p := ⟨go54, (t323 : Int).toNat * 3 + 1, none⟩) (Kd.R_types HO_305001.out GG54.out (by decide)) (fun _ hk => hk.2) (.string (((rd_T57 t306 t323).f1) ++ a2))) (fun _ hk => hk.1)⟩
        have n2_ : Aside0 (Kd.R k59 59 (w59.setCell ⟨go54, (t323 : Int).toNat * 3 + 1, none⟩ (.string (((rd_T57 t306 t323).f1) ++ a2))) w.heap.size (fun k_ => some k_ ≠ (.slice Ao13 t309.length co13 : Value).ownBlock) (.slice Ao14 t312.length co14) t312) := ⟨by exact Kd.R_mono (Kd.R_far (p := ⟨go54, (t323 : Int).toNat * 3 + 1, none⟩) (Kd.R_types HO_305002.out GG54.out (by decide)) (fun _ hk => hk.2) (.string (((rd_T57 t306 t323).f1) ++ a2))) (fun _ hk => hk.1)⟩
        have n3_ : Aside0 (Kd.R Kd.string 9 (w59.setCell ⟨go54, (t323 : Int).toNat * 3 + 1, none⟩ (.string (((rd_T57 t306 t323).f1) ++ a2))) w.heap.size (fun _ => True) (.slice Ao15 t315.length co15) t315) := ⟨by exact Kd.R_mono (Kd.R_far (p := ⟨go54, (t323 : Int).toNat * 3 + 1, none⟩) (Kd.R_types HO_305003.out GG54.out (by decide)) (fun _ hk => hk.2) (.string (((rd_T57 t306 t323).f1) ++ a2))) (fun _ hk => trivial)⟩
        have n4_ : Aside0 ((w59.setCell ⟨go54, (t323 : Int).toNat * 3 + 1, none⟩ (.string (((rd_T57 t306 t323).f1) ++ a2))).heap[gb304]? = some (.cells #[.slice (some ⟨go54, 0, none⟩) t306.length co11, .slice Ao13 t309.length co13, .slice Ao14 t312.length co14, .slice Ao15 t315.length co15, .int .i64 t318, .int .i64 t319] 32 (0, 0))) := ⟨by refine blk_far ?_ (by have h_ := Kd.R_ne HO_305000.out BK304.out (by decide); intro e_; exact h_ (by rw [e_]; rfl)) _; exact BK304.out⟩
        have n5_ : Aside0 ((w59.setCell ⟨go54, (t323 : Int).toNat * 3 + 1, none⟩ (.string (((rd_T57 t306 t323).f1) ++ a2))).heap[gb305]? = some (.cells #[.slice none 0 0, .slice none 0 0, .slice none 0 0, .slice none 0 0, .int .i64 0, .int .i64 0] 32 (0, 0))) := ⟨by refine blk_far ?_ (by have h_ := Kd.R_ne HO_305000.out BK305.out (by decide); intro e_; exact h_ (by rw [e_]; rfl)) _; exact BK305.out⟩
        have n6_ : Aside0 (Below w.heap.size w (w59.setCell ⟨go54, (t323 : Int).toNat * 3 + 1, none⟩ (.string (((rd_T57 t306 t323).f1) ++ a2)))) := ⟨by repeat (with_reducible first | exact HB.out | refine below_set ?_ GB54.out)⟩
        (try clear HO_305000)
        (try clear HO_305001)
        (try clear HO_305002)
        (try clear HO_305003)
        (try clear BK304)
        (try clear BK305)
        (try clear HB)
        generalize (w59.setCell ⟨go54, (t323 : Int).toNat * 3 + 1, none⟩ (.string (((rd_T57 t306 t323).f1) ++ a2))) = w61 at n0_ n1_ n2_ n3_ n4_ n5_ n6_ ⊢
        have HO_305000 := n0_
        have HO_305001 := n1_
        have HO_305002 := n2_
        have HO_305003 := n3_
        have BK304 := n4_
        have BK305 := n5_
        have HB := n6_
        clear n0_ n1_ n2_ n3_ n4_ n5_ n6_
        have hcz63_0 : w61.cell? ⟨gb304, 0, none⟩ = some (.slice (some ⟨go54, 0, none⟩) t306.length co11) := (blk_cell BK304.out 0).trans rfl
        have hcz63_1 : w61.cell? ⟨gb304, 1, none⟩ = some (.slice Ao13 t309.length co13) := (blk_cell BK304.out 1).trans rfl
        have hcz63_2 : w61.cell? ⟨gb304, 2, none⟩ = some (.slice Ao14 t312.length co14) := (blk_cell BK304.out 2).trans rfl
        have hcz63_3 : w61.cell? ⟨gb304, 3, none⟩ = some (.slice Ao15 t315.length co15) := (blk_cell BK304.out 3).trans rfl
        have hcz63_4 : w61.cell? ⟨gb304, 4, none⟩ = some (.int .i64 t318) := (blk_cell BK304.out 4).trans rfl
        have hcz63_5 : w61.cell? ⟨gb304, 5, none⟩ = some (.int .i64 t319) := (blk_cell BK304.out 5).trans rfl
        have hcz64_0 : w61.cell? ⟨gb305, 0, none⟩ = some (.slice none 0 0) := (blk_cell BK305.out 0).trans rfl
        have hcz64_1 : w61.cell? ⟨gb305, 1, none⟩ = some (.slice none 0 0) := (blk_cell BK305.out 1).trans rfl
        have hcz64_2 : w61.cell? ⟨gb305, 2, none⟩ = some (.slice none 0 0) := (blk_cell BK305.out 2).trans rfl
        have hcz64_3 : w61.cell? ⟨gb305, 3, none⟩ = some (.slice none 0 0) := (blk_cell BK305.out 3).trans rfl
        have hcz64_4 : w61.cell? ⟨gb305, 4, none⟩ = some (.int .i64 0) := (blk_cell BK305.out 4).trans rfl
        have hcz64_5 : w61.cell? ⟨gb305, 5, none⟩ = some (.int .i64 0) := (blk_cell BK305.out 5).trans rfl
        have hfz64_0 := blk_frozen BK305.out 0
        have hfz64_1 := blk_frozen BK305.out 1
        have hfz64_2 := blk_frozen BK305.out 2
        have hfz64_3 := blk_frozen BK305.out 3
        have hfz64_4 := blk_frozen BK305.out 4
        have hfz64_5 := blk_frozen BK305.out 5
        try go_wp2
        refine bodyPost_ret (results_ct rfl _ _ gb305 32 #[.slice (some ⟨go54, 0, none⟩) t306.length co11, .slice Ao13 t309.length co13, .slice Ao14 t312.length co14, .slice Ao15 t315.length co15, .int .i64 t318, .int .i64 t319] (0, 0) _ rfl (by refine blk_put (cs := #[.slice (some ⟨go54, 0, none⟩) t306.length co11, .slice Ao13 t309.length co13, .slice Ao14 t312.length co14, .slice Ao15 t315.length co15, .int .i64 t318, .int .i64 0]) ?_ 5 _ rfl; refine blk_put (cs := #[.slice (some ⟨go54, 0, none⟩) t306.length co11, .slice Ao13 t309.length co13, .slice Ao14 t312.length co14, .slice Ao15 t315.length co15, .int .i64 0, .int .i64 0]) ?_ 4 _ rfl; refine blk_put (cs := #[.slice (some ⟨go54, 0, none⟩) t306.length co11, .slice Ao13 t309.length co13, .slice Ao14 t312.length co14, .slice none 0 0, .int .i64 0, .int .i64 0]) ?_ 3 _ rfl; refine blk_put (cs := #[.slice (some ⟨go54, 0, none⟩) t306.length co11, .slice Ao13 t309.length co13, .slice none 0 0, .slice none 0 0, .int .i64 0, .int .i64 0]) ?_ 2 _ rfl; refine blk_put (cs := #[.slice (some ⟨go54, 0, none⟩) t306.length co11, .slice none 0 0, .slice none 0 0, .slice none 0 0, .int .i64 0, .int .i64 0]) ?_ 1 _ rfl; refine blk_put (cs := #[.slice none 0 0, .slice none 0 0, .slice none 0 0, .slice none 0 0, .int .i64 0, .int .i64 0]) ?_ 0 _ rfl; exact BK305.out) Tryz.underlying32 rfl (by kernel_rfl)) rfl ?_
        all_goals exact ⟨_, _, _, _, by first | rfl | (simp [errW_none, errW_some] <;> rfl) | (simp [*, errW_none, errW_some] <;> rfl) | (exfalso; simp only [decide_eq_true_eq, decide_eq_false_iff_not] at *; omega), by exact Kd.R_mono (Kd.R_far (p := ⟨gb305, 5, none⟩) (Kd.R_far (p := ⟨gb305, 4, none⟩) (Kd.R_far (p := ⟨gb305, 3, none⟩) (Kd.R_far (p := ⟨gb305, 2, none⟩) (Kd.R_far (p := ⟨gb305, 1, none⟩) (Kd.R_far (p := ⟨gb305, 0, none⟩) (Kd.R_types HO_305000.out BK305.out (by decide)) (fun _ hk => hk.2) (.slice (some ⟨go54, 0, none⟩) t306.length co11)) (fun _ hk => hk.2) (.slice Ao13 t309.length co13)) (fun _ hk => hk.2) (.slice Ao14 t312.length co14)) (fun _ hk => hk.2) (.slice Ao15 t315.length co15)) (fun _ hk => hk.2) (.int .i64 t318)) (fun _ hk => hk.2) (.int .i64 t319)) (fun _ hk => trivial), by exact Kd.R_mono (Kd.R_far (p := ⟨gb305, 5, none⟩) (Kd.R_far (p := ⟨gb305, 4, none⟩) (Kd.R_far (p := ⟨gb305, 3, none⟩) (Kd.R_far (p := ⟨gb305, 2, none⟩) (Kd.R_far (p := ⟨gb305, 1, none⟩) (Kd.R_far (p := ⟨gb305, 0, none⟩) (Kd.R_types HO_305001.out BK305.out (by decide)) (fun _ hk => hk.2) (.slice (some ⟨go54, 0, none⟩) t306.length co11)) (fun _ hk => hk.2) (.slice Ao13 t309.length co13)) (fun _ hk => hk.2) (.slice Ao14 t312.length co14)) (fun _ hk => hk.2) (.slice Ao15 t315.length co15)) (fun _ hk => hk.2) (.int .i64 t318)) (fun _ hk => hk.2) (.int .i64 t319)) (fun _ hk => hk.1), by exact Kd.R_mono (Kd.R_far (p := ⟨gb305, 5, none⟩) (Kd.R_far (p := ⟨gb305, 4, none⟩) (Kd.R_far (p := ⟨gb305, 3, none⟩) (Kd.R_far (p := ⟨gb305, 2, none⟩) (Kd.R_far (p := ⟨gb305, 1, none⟩) (Kd.R_far (p := ⟨gb305, 0, none⟩) (Kd.R_types HO_305002.out BK305.out (by decide)) (fun _ hk => hk.2) (.slice (some ⟨go54, 0, none⟩) t306.length co11)) (fun _ hk => hk.2) (.slice Ao13 t309.length co13)) (fun _ hk => hk.2) (.slice Ao14 t312.length co14)) (fun _ hk => hk.2) (.slice Ao15 t315.length co15)) (fun _ hk => hk.2) (.int .i64 t318)) (fun _ hk => hk.2) (.int .i64 t319)) (fun _ hk => hk.1), by exact Kd.R_mono (Kd.R_far (p := ⟨gb305, 5, none⟩) (Kd.R_far (p := ⟨gb305, 4, none⟩) (Kd.R_far (p := ⟨gb305, 3, none⟩) (Kd.R_far (p := ⟨gb305, 2, none⟩) (Kd.R_far (p := ⟨gb305, 1, none⟩) (Kd.R_far (p := ⟨gb305, 0, none⟩) (Kd.R_types HO_305003.out BK305.out (by decide)) (fun _ hk => hk.2) (.slice (some ⟨go54, 0, none⟩) t306.length co11)) (fun _ hk => hk.2) (.slice Ao13 t309.length co13)) (fun _ hk => hk.2) (.slice Ao14 t312.length co14)) (fun _ hk => hk.2) (.slice Ao15 t315.length co15)) (fun _ hk => hk.2) (.int .i64 t318)) (fun _ hk => hk.2) (.int .i64 t319)) (fun _ hk => trivial), by repeat (with_reducible first | exact HB.out | refine below_set ?_ GE305.out)⟩
       ·rw [if_neg c53] at H
        exact absurd H (by simp)
      ·rw [if_neg c52] at H
       exact absurd H (by simp)
     ·rw [if_neg c51] at H
      exact absurd H (by simp)

end Go.Proofs.YtbcidclclckgfaaGreatDoor.MFnExactAppendFile
