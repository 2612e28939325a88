/- Each theorem here says that a call of one Go function answers what the Lean function beside it answers; its conditions stand in it. Written by a program of this session. -/
import Derived.Test.YtbcidclclckgfaaGreatDoorMFnExactAppendFilex0
import Derived.Test.YtbcidclclckgfaaGreatDoorMFnExactAppendFilex13
import Derived.Test.YtbcidclclckgfaaGreatDoorMFnExactAppendFilex14
import Derived.Test.YtbcidclclckgfaaGreatDoorMFnExactAppendFilex16
import Derived.Test.YtbcidclclckgfaaGreatDoorMFnExactAppendFilex17
namespace Go.Proofs.YtbcidclclckgfaaGreatDoor.MFnExactAppendFile
open Go.RowKit Go.Proofs.YtbcidclclckgfaaGreatDoorW.PrintWords Go.Proofs.YtbcidclclckgfaaGreatDoorW.PrintLast Go.Proofs.YtbcidclclckgfaaGreatDoorW.PrintMore
attribute [local go_sem] max2_int min2_int max_two min_two max_three min_three max_four min_four   -- for this text's walks alone
set_option linter.unusedVariables false
set_option linter.unusedSimpArgs false

/-! ### impl_AppendFile: function 29 -/
def impl_AppendFile.j0 : Nat → ByteArray → Int → Bool → List (S57) → List (S59) → List (S59) → List ByteArray → Int → Int → List (S57) → List (S59) → List (S59) → List ByteArray → Int → Int → Option ((List (S57)) × (List (S59)) × (List (S59)) × List ByteArray × Int × Int × Int)
 | 0, _, _, _, _, _, _, _, _, _, _, _, _, _, _, _ => none
 | k + 1, x2, x9, x22, x369000, x369001, x369002, x369003, x369004, x369005, x385000, x385001, x385002, x385003, x385004, x385005 => if x22 = true then (some (x385000, x385001, x385002, x385003, x385004, x385005, 3)) else ((impl_UsedOn.f k x369000 x369001 x369002 x369003 x369004 x369005).bind fun t387 => (if 0 ≤ x9 then (if x9 < (x385000.length : Int) then (if 0 ≤ (mn (x2.size : Int) (wrap64 (x369004 - t387))) then (if (mn (x2.size : Int) (wrap64 (x369004 - t387))) ≤ (x2.size : Int) then (if ((rd_T57 x385000 x9).f1).size + (x2.extract 0 ((mn (x2.size : Int) (wrap64 (x369004 - t387))) : Int).toNat).size ≤ 9223372036854775807 then ((some (x385000.set (x9 : Int).toNat (⟨(rd_T57 x385000 x9).f0, ((rd_T57 x385000 x9).f1) ++ (x2.extract 0 ((mn (x2.size : Int) (wrap64 (x369004 - t387))) : Int).toNat), (rd_T57 x385000 x9).f2⟩ : S57) : List (S57))).bind fun y389 => (if (mn (x2.size : Int) (wrap64 (x369004 - t387))) < (x2.size : Int) then (some (y389, x385001, x385002, x385003, x385004, x385005, 5)) else (some (y389, x385001, x385002, x385003, x385004, x385005, 0)))) else (none)) else (none)) else (none)) else (none)) else (none)))
def impl_AppendFile.f (k : Nat) (l0_0 : List (S57)) (l0_1 : List (S59)) (l0_2 : List (S59)) (l0_3 : List ByteArray) (a0_4 : Int) (a0_5 : Int) (a1 : ByteArray) (a2 : ByteArray) : Option ((List (S57)) × (List (S59)) × (List (S59)) × List ByteArray × Int × Int × Int) := (impl_copyDisk.f l0_0 l0_1 l0_2 l0_3 a0_4 a0_5).bind fun bt370 => ((impl_Disk_nodeAt.f l0_0 l0_1 l0_2 l0_3 a0_4 a0_5 a1).bind fun t385 => ((impl_DiskOk.f k l0_0 l0_1 l0_2 l0_3 a0_4 a0_5).bind fun t386 => (if t386 = true then (impl_AppendFile.j0 k a2 t385 (decide (t385 < 0)) l0_0 l0_1 l0_2 l0_3 a0_4 a0_5 bt370.1 bt370.2.1 bt370.2.2.1 bt370.2.2.2.1 bt370.2.2.2.2.1 bt370.2.2.2.2.2) else (impl_AppendFile.j0 k a2 t385 true l0_0 l0_1 l0_2 l0_3 a0_4 a0_5 bt370.1 bt370.2.1 bt370.2.2.1 bt370.2.2.2.1 bt370.2.2.2.2.1 bt370.2.2.2.2.2))))
theorem impl_AppendFile.mono_l : ∀ k, (∀ y0 y1 y2 y3 y4 y5 y6 y7 y8 y9 y10 y11 y12 y13 y14, LeO (impl_AppendFile.j0 k y0 y1 y2 y3 y4 y5 y6 y7 y8 y9 y10 y11 y12 y13 y14) (impl_AppendFile.j0 (k + 1) y0 y1 y2 y3 y4 y5 y6 y7 y8 y9 y10 y11 y12 y13 y14))
 | 0 => fun _ _ _ _ _ _ _ _ _ _ _ _ _ _ _ r h => by simp [impl_AppendFile.j0] at h
 | k + 1 => by
  ·intro y0 y1 y2 y3 y4 y5 y6 y7 y8 y9 y10 y11 y12 y13 y14
   unfold impl_AppendFile.j0
   repeat' first | (with_reducible exact impl_UsedOn.mono _ _ _ _ _ _ _) | (with_reducible exact LeO.refl _) | (with_reducible refine LeO.ite ?_ ?_) | (with_reducible refine LeO.bind ?_ (fun _ => ?_))
theorem impl_AppendFile.mono : ∀ a0 a1 a2 a3 a4 a5 a6 a7 k, LeO (impl_AppendFile.f k a0 a1 a2 a3 a4 a5 a6 a7) (impl_AppendFile.f (k + 1) a0 a1 a2 a3 a4 a5 a6 a7) := by
 intro a0 a1 a2 a3 a4 a5 a6 a7 k
 have ih0 := impl_AppendFile.mono_l k
 unfold impl_AppendFile.f
 repeat' first | (with_reducible exact ih0 _ _ _ _ _ _ _ _ _ _ _ _ _ _ _) | (with_reducible exact impl_DiskOk.mono _ _ _ _ _ _ _) | (with_reducible exact LeO.refl _) | (with_reducible refine LeO.ite ?_ ?_) | (with_reducible refine LeO.bind ?_ (fun _ => ?_))
def impl_AppendFile.T5 : Bool × List (List Nat × List Nat) := (true, [([], []), ([0], [0]), ([], []), ([2], [2]), ([], []), ([4], [4]), ([3, 5], [3, 5]), ([1, 6], [1, 6]), ([7, 5, 0, 1, 2, 3, 4, 5, 6, 7], [7])])
def impl_AppendFile.B5 : List Nat := [0, 1, 0, 4, 0, 16, 60, 127, 255]
theorem impl_AppendFile.tab5 : rtab .any (opsOf Tryz.f29 5) = impl_AppendFile.T5 := by kernel_rfl
theorem impl_AppendFile.bits5 : waitsOk impl_AppendFile.T5.2 impl_AppendFile.B5 = true := by kernel_rfl
def impl_AppendFile.T6 : Bool × List (List Nat × List Nat) := (true, [([], []), ([0], [0]), ([], []), ([1, 2], [1, 2]), ([3], [3]), ([4], [4]), ([], []), ([], []), ([6, 7], [6, 7]), ([5, 8], [5, 8]), ([1, 2, 0, 1, 2, 3, 4, 5, 6, 7, 8, 9], [1, 2]), ([10, 0, 1, 2, 3, 4, 5, 6, 7, 8, 9], [10]), ([11, 9, 0, 1, 2, 3, 4, 5, 6, 7, 8, 9], [9, 11])])
def impl_AppendFile.B6 : List Nat := [0, 1, 0, 7, 15, 31, 0, 0, 192, 511, 1023, 2047, 4095]
theorem impl_AppendFile.tab6 : rtab .any (opsOf Tryz.f29 6) = impl_AppendFile.T6 := by kernel_rfl
theorem impl_AppendFile.bits6 : waitsOk impl_AppendFile.T6.2 impl_AppendFile.B6 = true := by kernel_rfl
set_option maxHeartbeats 8000000 in
set_option maxRecDepth 100000 in
theorem impl_AppendFile.calls (k : Nat) (A0_0 : Option Addr) (c0_0 : Nat) (l0_0 : List (S57)) (A0_1 : Option Addr) (c0_1 : Nat) (l0_1 : List (S59)) (A0_2 : Option Addr) (c0_2 : Nat) (l0_2 : List (S59)) (A0_3 : Option Addr) (c0_3 : Nat) (l0_3 : List ByteArray) (a0_4 : Int) (a0_5 : Int) (a1 : ByteArray) (a2 : ByteArray) (r1 : List (S57)) (r2 : List (S59)) (r3 : List (S59)) (r4 : List ByteArray) (r5 : Int) (r6 : Int) (r7 : Int) (w : World) (hr0_0 : Kd.C k57 w A0_0 l0_0.length l0_0) (hc0_0 : l0_0.length ≤ c0_0) (hr0_1 : Kd.C k59 w A0_1 l0_1.length l0_1) (hc0_1 : l0_1.length ≤ c0_1) (hr0_2 : Kd.C k59 w A0_2 l0_2.length l0_2) (hc0_2 : l0_2.length ≤ c0_2) (hr0_3 : Kd.C Kd.string w A0_3 l0_3.length l0_3) (hc0_3 : l0_3.length ≤ c0_3) (hTE : TabsE w) (hTP : TabsP w) (h : impl_AppendFile.f k l0_0 l0_1 l0_2 l0_3 a0_4 a0_5 a1 a2 = some (r1, r2, r3, r4, r5, r6, r7)) :
  Calls Tryz.prog 29 #[.agg #[.slice A0_0 l0_0.length c0_0, .slice A0_1 l0_1.length c0_1, .slice A0_2 l0_2.length c0_2, .slice A0_3 l0_3.length c0_3, .int .i64 a0_4, .int .i64 a0_5], .string a1, .string a2] w fun e w' => ∃ v0_ v1_ v2_ v3_ : Value, e = .returned (.tuple #[.agg #[v0_, v1_, v2_, v3_, .int .i64 r5, .int .i64 r6], .int .i64 r7]) ∧ Kd.R k57 57 w' w.heap.size (fun _ => True) v0_ r1 ∧ Kd.R k59 59 w' w.heap.size (fun k_ => some k_ ≠ (v2_ : Value).ownBlock) v1_ r2 ∧ Kd.R k59 59 w' w.heap.size (fun k_ => some k_ ≠ (v1_ : Value).ownBlock) v2_ r3 ∧ Kd.R Kd.string 9 w' w.heap.size (fun _ => True) v3_ r4 ∧ Below w.heap.size w w' := by
 have HR0_0 := Aside0.mk hr0_0
 have HC0_0 := Aside0.mk hc0_0
 clear hr0_0 hc0_0
 have HR0_1 := Aside0.mk hr0_1
 have HC0_1 := Aside0.mk hc0_1
 clear hr0_1 hc0_1
 have HR0_2 := Aside0.mk hr0_2
 have HC0_2 := Aside0.mk hc0_2
 clear hr0_2 hc0_2
 have HR0_3 := Aside0.mk hr0_3
 have HC0_3 := Aside0.mk hc0_3
 clear hr0_3 hc0_3
 have HTE := Aside0.mk hTE
 clear hTE
 have HTP := Aside0.mk hTP
 clear hTP
 have HB := Aside0.mk (Below.refl w.heap.size w)
 have H : ((impl_copyDisk.f l0_0 l0_1 l0_2 l0_3 a0_4 a0_5).bind fun bt370 => ((impl_Disk_nodeAt.f l0_0 l0_1 l0_2 l0_3 a0_4 a0_5 a1).bind fun t385 => ((impl_DiskOk.f k l0_0 l0_1 l0_2 l0_3 a0_4 a0_5).bind fun t386 => (if t386 = true then (impl_AppendFile.j0 k a2 t385 (decide (t385 < 0)) l0_0 l0_1 l0_2 l0_3 a0_4 a0_5 bt370.1 bt370.2.1 bt370.2.2.1 bt370.2.2.2.1 bt370.2.2.2.2.1 bt370.2.2.2.2.2) else (impl_AppendFile.j0 k a2 t385 true l0_0 l0_1 l0_2 l0_3 a0_4 a0_5 bt370.1 bt370.2.1 bt370.2.2.1 bt370.2.2.2.1 bt370.2.2.2.2.1 bt370.2.2.2.2.2))))) = some (r1, r2, r3, r4, r5, r6, r7) := h
 clear h
 replace H := Option.bind_eq_some_iff.mp H
 obtain ⟨⟨t370, t373, t376, t379, t382, t383⟩, A40, H⟩ := H
 replace H : ((impl_Disk_nodeAt.f l0_0 l0_1 l0_2 l0_3 a0_4 a0_5 a1).bind fun t385 => ((impl_DiskOk.f k l0_0 l0_1 l0_2 l0_3 a0_4 a0_5).bind fun t386 => (if t386 = true then (impl_AppendFile.j0 k a2 t385 (decide (t385 < 0)) l0_0 l0_1 l0_2 l0_3 a0_4 a0_5 t370 t373 t376 t379 t382 t383) else (impl_AppendFile.j0 k a2 t385 true l0_0 l0_1 l0_2 l0_3 a0_4 a0_5 t370 t373 t376 t379 t382 t383)))) = some (r1, r2, r3, r4, r5, r6, r7) := H
 have A4 := Aside0.mk A40
 clear A40
 replace H := Option.bind_eq_some_iff.mp H
 obtain ⟨t385, A50, H⟩ := H
 replace H : ((impl_DiskOk.f k l0_0 l0_1 l0_2 l0_3 a0_4 a0_5).bind fun t386 => (if t386 = true then (impl_AppendFile.j0 k a2 t385 (decide (t385 < 0)) l0_0 l0_1 l0_2 l0_3 a0_4 a0_5 t370 t373 t376 t379 t382 t383) else (impl_AppendFile.j0 k a2 t385 true l0_0 l0_1 l0_2 l0_3 a0_4 a0_5 t370 t373 t376 t379 t382 t383))) = some (r1, r2, r3, r4, r5, r6, r7) := H
 have A5 := Aside0.mk A50
 clear A50
 have HC6 := Aside0.mk H
 clear H
 go_enter Tryz.func29, Tryz.ntmps29
 go_upto_region 3 with (first | ((with_reducible refine gate_dst (N := 3) rfl ?_); refine box_event ?hg (N := 3) ?hd (cs := #[.slice A0_0 l0_0.length c0_0, .slice A0_1 l0_1.length c0_1, .slice A0_2 l0_2.length c0_2, .slice A0_3 l0_3.length c0_3, .int .i64 a0_4, .int .i64 a0_5]) (t := 32) ?hr ?_; (case hd => rfl); (case hg => rfl); (case hr => (go_simp; done)); intro gb368 hg w7 hbox hb; have BK368 := Aside0.mk (hbox); replace HB := Aside0.mk (below_step HB.out hb); clear hb hbox hg) | ((with_reducible refine gate_dst (N := 6) rfl ?_); refine box_event ?hg (N := 6) ?hd (cs := #[.slice none 0 0, .slice none 0 0, .slice none 0 0, .slice none 0 0, .int .i64 0, .int .i64 0]) (t := 32) ?hr ?_; (case hd => rfl); (case hg => rfl); (case hr => (go_simp; done)); intro gb369 hg w8 hbox hb; have BK369 := Aside0.mk (hbox); have GE369 := Aside0.mk ((by rw [hg]; exact (below_size HB.out) : w.heap.size ≤ gb369)); replace BK368 := Aside0.mk (bB hb BK368.out); replace HB := Aside0.mk (below_step HB.out hb); clear hb hbox hg; have hcz10_0 : w8.cell? ⟨gb368, 0, none⟩ = some (.slice A0_0 l0_0.length c0_0) := (blk_cell BK368.out 0).trans rfl; have hcz10_1 : w8.cell? ⟨gb368, 1, none⟩ = some (.slice A0_1 l0_1.length c0_1) := (blk_cell BK368.out 1).trans rfl; have hcz10_2 : w8.cell? ⟨gb368, 2, none⟩ = some (.slice A0_2 l0_2.length c0_2) := (blk_cell BK368.out 2).trans rfl; have hcz10_3 : w8.cell? ⟨gb368, 3, none⟩ = some (.slice A0_3 l0_3.length c0_3) := (blk_cell BK368.out 3).trans rfl; have hcz10_4 : w8.cell? ⟨gb368, 4, none⟩ = some (.int .i64 a0_4) := (blk_cell BK368.out 4).trans rfl; have hcz10_5 : w8.cell? ⟨gb368, 5, none⟩ = some (.int .i64 a0_5) := (blk_cell BK368.out 5).trans rfl; skip) | ((with_reducible refine gate_callee (f := 82) rfl ?_); refine goesL_ (some 12) rfl rfl Tryz.func82 (by kernel_rfl) rfl #[.agg #[.slice A0_0 l0_0.length c0_0, .slice A0_1 l0_1.length c0_1, .slice A0_2 l0_2.length c0_2, .slice A0_3 l0_3.length c0_3, .int .i64 a0_4, .int .i64 a0_5]] rfl (by (try simp only [List.map_toArray, List.map_cons, List.map_nil]); rfl) ?_; (with_reducible refine (impl_copyDisk.calls _ _ l0_0 _ _ l0_1 _ _ l0_2 _ _ l0_3 a0_4 a0_5 t370 t373 t376 t379 t382 t383 _ ?side1 ?side2 ?side3 ?side4 ?side5 ?side6 ?side7 ?side8 A4.out).mono ?_); (case side1 => repeat (exact (Kd.C_below HR0_0.out HB.out))); (case side2 => exact HC0_0.out); (case side3 => repeat (exact (Kd.C_below HR0_1.out HB.out))); (case side4 => exact HC0_1.out); (case side5 => repeat (exact (Kd.C_below HR0_2.out HB.out))); (case side6 => exact HC0_2.out); (case side7 => repeat (exact (Kd.C_below HR0_3.out HB.out))); (case side8 => exact HC0_3.out); rintro e w11 ⟨v371, v374, v377, v380, rfl, ho0, ho1, ho2, ho3, hb⟩; refine ⟨_, rfl, ?_⟩; have HO372 := Aside0.mk (Kd.R_lower ho0 (below_size HB.out)); have HO375 := Aside0.mk (Kd.R_lower ho1 (below_size HB.out)); have HO378 := Aside0.mk (Kd.R_lower ho2 (below_size HB.out)); have HO381 := Aside0.mk (Kd.R_lower ho3 (below_size HB.out)); replace BK368 := Aside0.mk (bB hb BK368.out); replace BK369 := Aside0.mk (bB hb BK369.out); replace HB := Aside0.mk (below_step HB.out hb); (try clear hb); (try clear ho0); (try clear ho1); (try clear ho2); (try clear ho3)) | ((with_reducible refine gate_dst (N := 8) rfl ?_); refine box_event ?hg (N := 8) ?hd (cs := #[.slice none 0 0, .slice none 0 0, .slice none 0 0, .slice none 0 0, .int .i64 0, .int .i64 0]) (t := 32) ?hr ?_; (case hd => rfl); (case hg => rfl); (case hr => (go_simp; done)); intro gb384 hg w12 hbox hb; have BK384 := Aside0.mk (hbox); have GE384 := Aside0.mk ((by rw [hg]; exact (below_size HB.out) : w.heap.size ≤ gb384)); have NB368_384 := Aside0.mk ((by rw [hg]; exact Nat.ne_of_lt (blk_lt BK368.out) : gb368 ≠ gb384)); have NB369_384 := Aside0.mk ((by rw [hg]; exact Nat.ne_of_lt (blk_lt BK369.out) : gb369 ≠ gb384)); have NB384_369 := Aside0.mk ((by rw [hg]; exact Nat.ne_of_gt (blk_lt BK369.out) : gb384 ≠ gb369)); replace HO372 := Aside0.mk (Kd.R_below HO372.out hb); replace HO375 := Aside0.mk (Kd.R_below HO375.out hb); replace HO378 := Aside0.mk (Kd.R_below HO378.out hb); replace HO381 := Aside0.mk (Kd.R_below HO381.out hb); replace BK368 := Aside0.mk (bB hb BK368.out); replace BK369 := Aside0.mk (bB hb BK369.out); replace HB := Aside0.mk (below_step HB.out hb); clear hb hbox hg; obtain ⟨Ao13, co13, eo13⟩ := Kd.R_slice HO372.out; subst eo13; have hnc14 := NB368_384.out; have hnb15 := NB384_369.out; have hnc15 := NB369_384.out; have hcz16_0 : w12.cell? ⟨gb384, 0, none⟩ = some (.slice none 0 0) := (blk_cell BK384.out 0).trans rfl; have hcz16_1 : w12.cell? ⟨gb384, 1, none⟩ = some (.slice none 0 0) := (blk_cell BK384.out 1).trans rfl; have hcz16_2 : w12.cell? ⟨gb384, 2, none⟩ = some (.slice none 0 0) := (blk_cell BK384.out 2).trans rfl; have hcz16_3 : w12.cell? ⟨gb384, 3, none⟩ = some (.slice none 0 0) := (blk_cell BK384.out 3).trans rfl; have hcz16_4 : w12.cell? ⟨gb384, 4, none⟩ = some (.int .i64 0) := (blk_cell BK384.out 4).trans rfl; have hcz16_5 : w12.cell? ⟨gb384, 5, none⟩ = some (.int .i64 0) := (blk_cell BK384.out 5).trans rfl; have hfz16_0 := blk_frozen BK384.out 0; have hfz16_1 := blk_frozen BK384.out 1; have hfz16_2 := blk_frozen BK384.out 2; have hfz16_3 := blk_frozen BK384.out 3; have hfz16_4 := blk_frozen BK384.out 4; have hfz16_5 := blk_frozen BK384.out 5; obtain ⟨Ao17, co17, eo17⟩ := Kd.R_slice HO375.out; subst eo17; obtain ⟨Ao18, co18, eo18⟩ := Kd.R_slice HO378.out; subst eo18; obtain ⟨Ao19, co19, eo19⟩ := Kd.R_slice HO381.out; subst eo19; have hcz20_0 : w12.cell? ⟨gb368, 0, none⟩ = some (.slice A0_0 l0_0.length c0_0) := (blk_cell BK368.out 0).trans rfl; have hcz20_1 : w12.cell? ⟨gb368, 1, none⟩ = some (.slice A0_1 l0_1.length c0_1) := (blk_cell BK368.out 1).trans rfl; have hcz20_2 : w12.cell? ⟨gb368, 2, none⟩ = some (.slice A0_2 l0_2.length c0_2) := (blk_cell BK368.out 2).trans rfl; have hcz20_3 : w12.cell? ⟨gb368, 3, none⟩ = some (.slice A0_3 l0_3.length c0_3) := (blk_cell BK368.out 3).trans rfl; have hcz20_4 : w12.cell? ⟨gb368, 4, none⟩ = some (.int .i64 a0_4) := (blk_cell BK368.out 4).trans rfl; have hcz20_5 : w12.cell? ⟨gb368, 5, none⟩ = some (.int .i64 a0_5) := (blk_cell BK368.out 5).trans rfl; skip) | ((with_reducible refine gate_callee (f := 83) rfl ?_); refine goesL_ (some 15) rfl rfl Tryz.func83 (by kernel_rfl) rfl #[.agg #[.slice A0_0 l0_0.length c0_0, .slice A0_1 l0_1.length c0_1, .slice A0_2 l0_2.length c0_2, .slice A0_3 l0_3.length c0_3, .int .i64 a0_4, .int .i64 a0_5], .string a1] rfl (by (try simp only [List.map_toArray, List.map_cons, List.map_nil]); rfl) ?_; (with_reducible refine (impl_Disk_nodeAt.calls _ _ l0_0 _ _ l0_1 _ _ l0_2 _ _ l0_3 a0_4 a0_5 a1 t385 _ ?side1 ?side2 ?side3 ?side4 ?side5 ?side6 ?side7 ?side8 A5.out).mono ?_); (case side1 => exact Kd.C_below HR0_0.out (by repeat (with_reducible first | exact HB.out | refine below_set ?_ GE384.out))); (case side2 => exact HC0_0.out); (case side3 => exact Kd.C_below HR0_1.out (by repeat (with_reducible first | exact HB.out | refine below_set ?_ GE384.out))); (case side4 => exact HC0_1.out); (case side5 => exact Kd.C_below HR0_2.out (by repeat (with_reducible first | exact HB.out | refine below_set ?_ GE384.out))); (case side6 => exact HC0_2.out); (case side7 => exact Kd.C_below HR0_3.out (by repeat (with_reducible first | exact HB.out | refine below_set ?_ GE384.out))); (case side8 => exact HC0_3.out); rintro e w21 ⟨rfl, hb⟩; refine ⟨_, rfl, ?_⟩; replace HO372 := Aside0.mk (Kd.R_below (by exact (Kd.R_mono (Kd.R_far (p := ⟨gb384, 5, none⟩) (Kd.R_far (p := ⟨gb384, 4, none⟩) (Kd.R_far (p := ⟨gb384, 3, none⟩) (Kd.R_far (p := ⟨gb384, 2, none⟩) (Kd.R_far (p := ⟨gb384, 1, none⟩) (Kd.R_far (p := ⟨gb384, 0, none⟩) (Kd.R_types HO372.out BK384.out (by decide)) (fun _ hk => hk.2) (.slice Ao13 t370.length co13)) (fun _ hk => hk.2) (.slice Ao17 t373.length co17)) (fun _ hk => hk.2) (.slice Ao18 t376.length co18)) (fun _ hk => hk.2) (.slice Ao19 t379.length co19)) (fun _ hk => hk.2) (.int .i64 t382)) (fun _ hk => hk.2) (.int .i64 t383)) (fun _ h_ => h_.1))) hb); replace HO375 := Aside0.mk (Kd.R_below (by exact (Kd.R_mono (Kd.R_far (p := ⟨gb384, 5, none⟩) (Kd.R_far (p := ⟨gb384, 4, none⟩) (Kd.R_far (p := ⟨gb384, 3, none⟩) (Kd.R_far (p := ⟨gb384, 2, none⟩) (Kd.R_far (p := ⟨gb384, 1, none⟩) (Kd.R_far (p := ⟨gb384, 0, none⟩) (Kd.R_types HO375.out BK384.out (by decide)) (fun _ hk => hk.2) (.slice Ao13 t370.length co13)) (fun _ hk => hk.2) (.slice Ao17 t373.length co17)) (fun _ hk => hk.2) (.slice Ao18 t376.length co18)) (fun _ hk => hk.2) (.slice Ao19 t379.length co19)) (fun _ hk => hk.2) (.int .i64 t382)) (fun _ hk => hk.2) (.int .i64 t383)) (fun _ h_ => h_.1))) hb); replace HO378 := Aside0.mk (Kd.R_below (by exact (Kd.R_mono (Kd.R_far (p := ⟨gb384, 5, none⟩) (Kd.R_far (p := ⟨gb384, 4, none⟩) (Kd.R_far (p := ⟨gb384, 3, none⟩) (Kd.R_far (p := ⟨gb384, 2, none⟩) (Kd.R_far (p := ⟨gb384, 1, none⟩) (Kd.R_far (p := ⟨gb384, 0, none⟩) (Kd.R_types HO378.out BK384.out (by decide)) (fun _ hk => hk.2) (.slice Ao13 t370.length co13)) (fun _ hk => hk.2) (.slice Ao17 t373.length co17)) (fun _ hk => hk.2) (.slice Ao18 t376.length co18)) (fun _ hk => hk.2) (.slice Ao19 t379.length co19)) (fun _ hk => hk.2) (.int .i64 t382)) (fun _ hk => hk.2) (.int .i64 t383)) (fun _ h_ => h_.1))) hb); replace HO381 := Aside0.mk (Kd.R_below (by exact (Kd.R_mono (Kd.R_far (p := ⟨gb384, 5, none⟩) (Kd.R_far (p := ⟨gb384, 4, none⟩) (Kd.R_far (p := ⟨gb384, 3, none⟩) (Kd.R_far (p := ⟨gb384, 2, none⟩) (Kd.R_far (p := ⟨gb384, 1, none⟩) (Kd.R_far (p := ⟨gb384, 0, none⟩) (Kd.R_types HO381.out BK384.out (by decide)) (fun _ hk => hk.2) (.slice Ao13 t370.length co13)) (fun _ hk => hk.2) (.slice Ao17 t373.length co17)) (fun _ hk => hk.2) (.slice Ao18 t376.length co18)) (fun _ hk => hk.2) (.slice Ao19 t379.length co19)) (fun _ hk => hk.2) (.int .i64 t382)) (fun _ hk => hk.2) (.int .i64 t383)) (fun _ h_ => h_.1))) hb); replace BK368 := Aside0.mk (bB hb (blk_far (blk_far (blk_far (blk_far (blk_far (blk_far BK368.out NB368_384.out _) NB368_384.out _) NB368_384.out _) NB368_384.out _) NB368_384.out _) NB368_384.out _)); replace BK369 := Aside0.mk (bB hb (blk_far (blk_far (blk_far (blk_far (blk_far (blk_far BK369.out NB369_384.out _) NB369_384.out _) NB369_384.out _) NB369_384.out _) NB369_384.out _) NB369_384.out _)); replace BK384 := Aside0.mk (blk_below (g := gb384) (o := .cells #[.slice Ao13 t370.length co13, .slice Ao17 t373.length co17, .slice Ao18 t376.length co18, .slice Ao19 t379.length co19, .int .i64 t382, .int .i64 t383] 32 (0, 0)) (by refine blk_put (cs := #[.slice Ao13 t370.length co13, .slice Ao17 t373.length co17, .slice Ao18 t376.length co18, .slice Ao19 t379.length co19, .int .i64 t382, .int .i64 0]) ?_ 5 _ rfl; refine blk_put (cs := #[.slice Ao13 t370.length co13, .slice Ao17 t373.length co17, .slice Ao18 t376.length co18, .slice Ao19 t379.length co19, .int .i64 0, .int .i64 0]) ?_ 4 _ rfl; refine blk_put (cs := #[.slice Ao13 t370.length co13, .slice Ao17 t373.length co17, .slice Ao18 t376.length co18, .slice none 0 0, .int .i64 0, .int .i64 0]) ?_ 3 _ rfl; refine blk_put (cs := #[.slice Ao13 t370.length co13, .slice Ao17 t373.length co17, .slice none 0 0, .slice none 0 0, .int .i64 0, .int .i64 0]) ?_ 2 _ rfl; refine blk_put (cs := #[.slice Ao13 t370.length co13, .slice none 0 0, .slice none 0 0, .slice none 0 0, .int .i64 0, .int .i64 0]) ?_ 1 _ rfl; refine blk_put (cs := #[.slice none 0 0, .slice none 0 0, .slice none 0 0, .slice none 0 0, .int .i64 0, .int .i64 0]) ?_ 0 _ rfl; exact BK384.out) hb); replace HB := Aside0.mk (below_step (by repeat (with_reducible first | exact HB.out | refine below_set ?_ GE384.out)) hb); (try clear hb)))
 (try simp only [Act.put, List.setIfInBounds_toArray, List.set_cons_zero, List.set_cons_succ])
 go_cut [22] (fun v22 wc => ∃ (kq : Nat) (x22_5 : Bool), v22 = .bool x22_5 ∧ Aside0 (impl_AppendFile.j0 kq a2 t385 x22_5 l0_0 l0_1 l0_2 l0_3 a0_4 a0_5 t370 t373 t376 t379 t382 t383 = some (r1, r2, r3, r4, r5, r6, r7)) ∧ Aside0 (kq ≤ k) ∧ Aside0 (Kd.R k57 57 wc w.heap.size (fun _ => True) (.slice Ao13 t370.length co13) t370) ∧ Aside0 (Kd.R k59 59 wc w.heap.size (fun k_ => some k_ ≠ ((.slice Ao18 t376.length co18) : Value).ownBlock) (.slice Ao17 t373.length co17) t373) ∧ Aside0 (Kd.R k59 59 wc w.heap.size (fun k_ => some k_ ≠ ((.slice Ao17 t373.length co17) : Value).ownBlock) (.slice Ao18 t376.length co18) t376) ∧ Aside0 (Kd.R Kd.string 9 wc w.heap.size (fun _ => True) (.slice Ao19 t379.length co19) t379) ∧ Aside0 (wc.heap[gb368]? = some (.cells #[(.slice A0_0 l0_0.length c0_0), (.slice A0_1 l0_1.length c0_1), (.slice A0_2 l0_2.length c0_2), (.slice A0_3 l0_3.length c0_3), .int .i64 a0_4, .int .i64 a0_5] 32 (0, 0))) ∧ Aside0 (wc.heap[gb369]? = some (.cells #[(.slice none 0 0), (.slice none 0 0), (.slice none 0 0), (.slice none 0 0), .int .i64 0, .int .i64 0] 32 (0, 0))) ∧ Aside0 (wc.heap[gb384]? = some (.cells #[(.slice Ao13 t370.length co13), (.slice Ao17 t373.length co17), (.slice Ao18 t376.length co18), (.slice Ao19 t379.length co19), .int .i64 t382, .int .i64 t383] 32 (0, 0))) ∧ Aside0 (Below w.heap.size w wc))
 case first =>
  have H := HC6.out
  clear HC6
  replace H := Option.bind_eq_some_iff.mp H
  obtain ⟨t386, A220, H⟩ := H
  replace H : (if t386 = true then (impl_AppendFile.j0 k a2 t385 (decide (t385 < 0)) l0_0 l0_1 l0_2 l0_3 a0_4 a0_5 t370 t373 t376 t379 t382 t383) else (impl_AppendFile.j0 k a2 t385 true l0_0 l0_1 l0_2 l0_3 a0_4 a0_5 t370 t373 t376 t379 t382 t383)) = some (r1, r2, r3, r4, r5, r6, r7) := H
  have A22 := Aside0.mk A220
  clear A220
  by_cases c23 : t386 = true
  ·subst c23
   have H1 : (impl_AppendFile.j0 k a2 t385 (decide (t385 < 0)) l0_0 l0_1 l0_2 l0_3 a0_4 a0_5 t370 t373 t376 t379 t382 t383) = some (r1, r2, r3, r4, r5, r6, r7) := by rw [if_pos rfl] at H; exact H
   clear H
   have H := H1
   clear H1
   have H' := Aside0.mk H
   clear H
   have hcz26_0 : w21.cell? ⟨gb368, 0, none⟩ = some (.slice A0_0 l0_0.length c0_0) := (blk_cell BK368.out 0).trans rfl
   have hcz26_1 : w21.cell? ⟨gb368, 1, none⟩ = some (.slice A0_1 l0_1.length c0_1) := (blk_cell BK368.out 1).trans rfl
   have hcz26_2 : w21.cell? ⟨gb368, 2, none⟩ = some (.slice A0_2 l0_2.length c0_2) := (blk_cell BK368.out 2).trans rfl
   have hcz26_3 : w21.cell? ⟨gb368, 3, none⟩ = some (.slice A0_3 l0_3.length c0_3) := (blk_cell BK368.out 3).trans rfl
   have hcz26_4 : w21.cell? ⟨gb368, 4, none⟩ = some (.int .i64 a0_4) := (blk_cell BK368.out 4).trans rfl
   have hcz26_5 : w21.cell? ⟨gb368, 5, none⟩ = some (.int .i64 a0_5) := (blk_cell BK368.out 5).trans rfl
   go_wp2_with (((with_reducible refine gate_callee (f := 18) rfl ?_); refine goesL_ (some 17) rfl rfl Tryz.func18 (by kernel_rfl) rfl #[.agg #[.slice A0_0 l0_0.length c0_0, .slice A0_1 l0_1.length c0_1, .slice A0_2 l0_2.length c0_2, .slice A0_3 l0_3.length c0_3, .int .i64 a0_4, .int .i64 a0_5]] rfl (by (try simp only [List.map_toArray, List.map_cons, List.map_nil]); rfl) ?_; (with_reducible refine (impl_DiskOk.calls k _ _ l0_0 _ _ l0_1 _ _ l0_2 _ _ l0_3 a0_4 a0_5 true _ ?side1 ?side2 ?side3 ?side4 ?side5 ?side6 ?side7 ?side8 ?side9 ?side10 A22.out).mono ?_); (case side1 => repeat (exact (Kd.C_below HR0_0.out HB.out))); (case side2 => exact HC0_0.out); (case side3 => repeat (exact (Kd.C_below HR0_1.out HB.out))); (case side4 => exact HC0_1.out); (case side5 => repeat (exact (Kd.C_below HR0_2.out HB.out))); (case side6 => exact HC0_2.out); (case side7 => repeat (exact (Kd.C_below HR0_3.out HB.out))); (case side8 => exact HC0_3.out); (case side9 => exact TabsE.below HTE.out HB.out); (case side10 => exact TabsP.below HTP.out HB.out); rintro e w27 ⟨rfl, hb⟩; refine ⟨_, rfl, ?_⟩; replace HO372 := Aside0.mk (Kd.R_below HO372.out hb); replace HO375 := Aside0.mk (Kd.R_below HO375.out hb); replace HO378 := Aside0.mk (Kd.R_below HO378.out hb); replace HO381 := Aside0.mk (Kd.R_below HO381.out hb); replace BK368 := Aside0.mk (bB hb BK368.out); replace BK369 := Aside0.mk (bB hb BK369.out); replace BK384 := Aside0.mk (bB hb BK384.out); replace HB := Aside0.mk (below_step HB.out hb); (try clear hb)))
   go_meet
   case rel => exact ⟨_, (decide (t385 < 0)), (by rfl), H', ⟨by omega⟩, ⟨by exact HO372.out⟩, ⟨by exact HO375.out⟩, ⟨by exact HO378.out⟩, ⟨by exact HO381.out⟩, ⟨by exact BK368.out⟩, ⟨by exact BK369.out⟩, ⟨by exact BK384.out⟩, ⟨by repeat (with_reducible exact HB.out)⟩⟩
  ·replace c23 := Bool.eq_false_iff.mpr c23
   subst c23
   have H1 : (impl_AppendFile.j0 k a2 t385 true l0_0 l0_1 l0_2 l0_3 a0_4 a0_5 t370 t373 t376 t379 t382 t383) = some (r1, r2, r3, r4, r5, r6, r7) := by rw [if_neg (show ¬ (false = true) by decide)] at H; exact H
   clear H
   have H := H1
   clear H1
   have H' := Aside0.mk H
   clear H
   have hcz30_0 : w21.cell? ⟨gb368, 0, none⟩ = some (.slice A0_0 l0_0.length c0_0) := (blk_cell BK368.out 0).trans rfl
   have hcz30_1 : w21.cell? ⟨gb368, 1, none⟩ = some (.slice A0_1 l0_1.length c0_1) := (blk_cell BK368.out 1).trans rfl
   have hcz30_2 : w21.cell? ⟨gb368, 2, none⟩ = some (.slice A0_2 l0_2.length c0_2) := (blk_cell BK368.out 2).trans rfl
   have hcz30_3 : w21.cell? ⟨gb368, 3, none⟩ = some (.slice A0_3 l0_3.length c0_3) := (blk_cell BK368.out 3).trans rfl
   have hcz30_4 : w21.cell? ⟨gb368, 4, none⟩ = some (.int .i64 a0_4) := (blk_cell BK368.out 4).trans rfl
   have hcz30_5 : w21.cell? ⟨gb368, 5, none⟩ = some (.int .i64 a0_5) := (blk_cell BK368.out 5).trans rfl
   go_wp2_with (((with_reducible refine gate_callee (f := 18) rfl ?_); refine goesL_ (some 17) rfl rfl Tryz.func18 (by kernel_rfl) rfl #[.agg #[.slice A0_0 l0_0.length c0_0, .slice A0_1 l0_1.length c0_1, .slice A0_2 l0_2.length c0_2, .slice A0_3 l0_3.length c0_3, .int .i64 a0_4, .int .i64 a0_5]] rfl (by (try simp only [List.map_toArray, List.map_cons, List.map_nil]); rfl) ?_; (with_reducible refine (impl_DiskOk.calls k _ _ l0_0 _ _ l0_1 _ _ l0_2 _ _ l0_3 a0_4 a0_5 false _ ?side1 ?side2 ?side3 ?side4 ?side5 ?side6 ?side7 ?side8 ?side9 ?side10 A22.out).mono ?_); (case side1 => repeat (exact (Kd.C_below HR0_0.out HB.out))); (case side2 => exact HC0_0.out); (case side3 => repeat (exact (Kd.C_below HR0_1.out HB.out))); (case side4 => exact HC0_1.out); (case side5 => repeat (exact (Kd.C_below HR0_2.out HB.out))); (case side6 => exact HC0_2.out); (case side7 => repeat (exact (Kd.C_below HR0_3.out HB.out))); (case side8 => exact HC0_3.out); (case side9 => exact TabsE.below HTE.out HB.out); (case side10 => exact TabsP.below HTP.out HB.out); rintro e w31 ⟨rfl, hb⟩; refine ⟨_, rfl, ?_⟩; replace HO372 := Aside0.mk (Kd.R_below HO372.out hb); replace HO375 := Aside0.mk (Kd.R_below HO375.out hb); replace HO378 := Aside0.mk (Kd.R_below HO378.out hb); replace HO381 := Aside0.mk (Kd.R_below HO381.out hb); replace BK368 := Aside0.mk (bB hb BK368.out); replace BK369 := Aside0.mk (bB hb BK369.out); replace BK384 := Aside0.mk (bB hb BK384.out); replace HB := Aside0.mk (below_step HB.out hb); (try clear hb)))
   go_meet
   case rel => exact ⟨_, (true), (by rfl), H', ⟨by omega⟩, ⟨by exact HO372.out⟩, ⟨by exact HO375.out⟩, ⟨by exact HO378.out⟩, ⟨by exact HO381.out⟩, ⟨by exact BK368.out⟩, ⟨by exact BK369.out⟩, ⟨by exact BK384.out⟩, ⟨by repeat (with_reducible exact HB.out)⟩⟩
 case rest =>
  clear HC6
  try clear c1
  try clear c2
  try clear p2
  try clear p6
  try clear c8
  try clear c9
  try clear c14
  try clear c15
  try clear c18
  try clear c23
  try clear c24
  try clear c25
  try clear c28
  try clear c29
  try clear hcz10_0
  try clear hcz10_1
  try clear hcz10_2
  try clear hcz10_3
  try clear hcz10_4
  try clear hcz10_5
  try clear hcz16_0
  try clear hcz16_1
  try clear hcz16_2
  try clear hcz16_3
  try clear hcz16_4
  try clear hcz16_5
  try clear hcz20_0
  try clear hcz20_1
  try clear hcz20_2
  try clear hcz20_3
  try clear hcz20_4
  try clear hcz20_5
  try clear hcz26_0
  try clear hcz26_1
  try clear hcz26_2
  try clear hcz26_3
  try clear hcz26_4
  try clear hcz26_5
  try clear hcz30_0
  try clear hcz30_1
  try clear hcz30_2
  try clear hcz30_3
  try clear hcz30_4
  try clear hcz30_5
  try skip
  try skip
  try skip
  try skip
  try skip
  try skip
  try clear hfz16_0
  try clear hfz16_1
  try clear hfz16_2
  try clear hfz16_3
  try clear hfz16_4
  try clear hfz16_5
  try skip
  try skip
  try skip
  try skip
  try skip
  try skip
  try skip
  try skip
  try skip
  try skip
  try skip
  try skip
  try skip
  try skip
  try skip
  try skip
  try skip
  try skip
  obtain ⟨kq, x22_5, rfl, HA, HJ5, HO_385000, HO_385001, HO_385002, HO_385003, BK368, BK369, BK384, HB⟩ := hcut
  cases kq with
  | zero => exact absurd HA.out (by simp [impl_AppendFile.j0])
  | succ kj5 =>
   have H := HA.out
   clear HA
   simp only [impl_AppendFile.j0] at H
   by_cases c32 : x22_5 = true
   ·subst c32
    have H1 : (some (t370, t373, t376, t379, t382, t383, 3)) = some (r1, r2, r3, r4, r5, r6, r7) := by rw [if_pos rfl] at H; exact H
    clear H
    have H := H1
    clear H1
    simp only [Option.some.injEq, Prod.mk.injEq] at H
    obtain ⟨rfl, rfl, rfl, rfl, rfl, rfl, rfl⟩ := H
    have hcz35_0 : wc.cell? ⟨gb384, 0, none⟩ = some (.slice Ao13 t370.length co13) := (blk_cell BK384.out 0).trans rfl
    have hcz35_1 : wc.cell? ⟨gb384, 1, none⟩ = some (.slice Ao17 t373.length co17) := (blk_cell BK384.out 1).trans rfl
    have hcz35_2 : wc.cell? ⟨gb384, 2, none⟩ = some (.slice Ao18 t376.length co18) := (blk_cell BK384.out 2).trans rfl
    have hcz35_3 : wc.cell? ⟨gb384, 3, none⟩ = some (.slice Ao19 t379.length co19) := (blk_cell BK384.out 3).trans rfl
    have hcz35_4 : wc.cell? ⟨gb384, 4, none⟩ = some (.int .i64 t382) := (blk_cell BK384.out 4).trans rfl
    have hcz35_5 : wc.cell? ⟨gb384, 5, none⟩ = some (.int .i64 t383) := (blk_cell BK384.out 5).trans rfl
    have hcz37_0 : wc.cell? ⟨gb369, 0, none⟩ = some (.slice none 0 0) := (blk_cell BK369.out 0).trans rfl
    have hcz37_1 : wc.cell? ⟨gb369, 1, none⟩ = some (.slice none 0 0) := (blk_cell BK369.out 1).trans rfl
    have hcz37_2 : wc.cell? ⟨gb369, 2, none⟩ = some (.slice none 0 0) := (blk_cell BK369.out 2).trans rfl
    have hcz37_3 : wc.cell? ⟨gb369, 3, none⟩ = some (.slice none 0 0) := (blk_cell BK369.out 3).trans rfl
    have hcz37_4 : wc.cell? ⟨gb369, 4, none⟩ = some (.int .i64 0) := (blk_cell BK369.out 4).trans rfl
    have hcz37_5 : wc.cell? ⟨gb369, 5, none⟩ = some (.int .i64 0) := (blk_cell BK369.out 5).trans rfl
    have hfz37_0 := blk_frozen BK369.out 0
    have hfz37_1 := blk_frozen BK369.out 1
    have hfz37_2 := blk_frozen BK369.out 2
    have hfz37_3 := blk_frozen BK369.out 3
    have hfz37_4 := blk_frozen BK369.out 4
    have hfz37_5 := blk_frozen BK369.out 5
    go_wp2
    refine bodyPost_ret (results_ct rfl _ _ gb369 32 #[.slice Ao13 t370.length co13, .slice Ao17 t373.length co17, .slice Ao18 t376.length co18, .slice Ao19 t379.length co19, .int .i64 t382, .int .i64 t383] (0, 0) _ rfl (by refine blk_put (cs := #[.slice Ao13 t370.length co13, .slice Ao17 t373.length co17, .slice Ao18 t376.length co18, .slice Ao19 t379.length co19, .int .i64 t382, .int .i64 0]) ?_ 5 _ rfl; refine blk_put (cs := #[.slice Ao13 t370.length co13, .slice Ao17 t373.length co17, .slice Ao18 t376.length co18, .slice Ao19 t379.length co19, .int .i64 0, .int .i64 0]) ?_ 4 _ rfl; refine blk_put (cs := #[.slice Ao13 t370.length co13, .slice Ao17 t373.length co17, .slice Ao18 t376.length co18, .slice none 0 0, .int .i64 0, .int .i64 0]) ?_ 3 _ rfl; refine blk_put (cs := #[.slice Ao13 t370.length co13, .slice Ao17 t373.length co17, .slice none 0 0, .slice none 0 0, .int .i64 0, .int .i64 0]) ?_ 2 _ rfl; refine blk_put (cs := #[.slice Ao13 t370.length co13, .slice none 0 0, .slice none 0 0, .slice none 0 0, .int .i64 0, .int .i64 0]) ?_ 1 _ rfl; refine blk_put (cs := #[.slice none 0 0, .slice none 0 0, .slice none 0 0, .slice none 0 0, .int .i64 0, .int .i64 0]) ?_ 0 _ rfl; exact BK369.out) Tryz.underlying32 rfl (by kernel_rfl)) rfl ?_
    all_goals exact ⟨_, _, _, _, by first | rfl | (simp [errW_none, errW_some] <;> rfl) | (simp [*, errW_none, errW_some] <;> rfl) | (exfalso; simp only [decide_eq_true_eq, decide_eq_false_iff_not] at *; omega), by exact Kd.R_mono (Kd.R_far (p := ⟨gb369, 5, none⟩) (Kd.R_far (p := ⟨gb369, 4, none⟩) (Kd.R_far (p := ⟨gb369, 3, none⟩) (Kd.R_far (p := ⟨gb369, 2, none⟩) (Kd.R_far (p := ⟨gb369, 1, none⟩) (Kd.R_far (p := ⟨gb369, 0, none⟩) (Kd.R_types HO_385000.out BK369.out (by decide)) (fun _ hk => hk.2) (.slice Ao13 t370.length co13)) (fun _ hk => hk.2) (.slice Ao17 t373.length co17)) (fun _ hk => hk.2) (.slice Ao18 t376.length co18)) (fun _ hk => hk.2) (.slice Ao19 t379.length co19)) (fun _ hk => hk.2) (.int .i64 t382)) (fun _ hk => hk.2) (.int .i64 t383)) (fun _ hk => trivial), by exact Kd.R_mono (Kd.R_far (p := ⟨gb369, 5, none⟩) (Kd.R_far (p := ⟨gb369, 4, none⟩) (Kd.R_far (p := ⟨gb369, 3, none⟩) (Kd.R_far (p := ⟨gb369, 2, none⟩) (Kd.R_far (p := ⟨gb369, 1, none⟩) (Kd.R_far (p := ⟨gb369, 0, none⟩) (Kd.R_types HO_385001.out BK369.out (by decide)) (fun _ hk => hk.2) (.slice Ao13 t370.length co13)) (fun _ hk => hk.2) (.slice Ao17 t373.length co17)) (fun _ hk => hk.2) (.slice Ao18 t376.length co18)) (fun _ hk => hk.2) (.slice Ao19 t379.length co19)) (fun _ hk => hk.2) (.int .i64 t382)) (fun _ hk => hk.2) (.int .i64 t383)) (fun _ hk => hk.1), by exact Kd.R_mono (Kd.R_far (p := ⟨gb369, 5, none⟩) (Kd.R_far (p := ⟨gb369, 4, none⟩) (Kd.R_far (p := ⟨gb369, 3, none⟩) (Kd.R_far (p := ⟨gb369, 2, none⟩) (Kd.R_far (p := ⟨gb369, 1, none⟩) (Kd.R_far (p := ⟨gb369, 0, none⟩) (Kd.R_types HO_385002.out BK369.out (by decide)) (fun _ hk => hk.2) (.slice Ao13 t370.length co13)) (fun _ hk => hk.2) (.slice Ao17 t373.length co17)) (fun _ hk => hk.2) (.slice Ao18 t376.length co18)) (fun _ hk => hk.2) (.slice Ao19 t379.length co19)) (fun _ hk => hk.2) (.int .i64 t382)) (fun _ hk => hk.2) (.int .i64 t383)) (fun _ hk => hk.1), by exact Kd.R_mono (Kd.R_far (p := ⟨gb369, 5, none⟩) (Kd.R_far (p := ⟨gb369, 4, none⟩) (Kd.R_far (p := ⟨gb369, 3, none⟩) (Kd.R_far (p := ⟨gb369, 2, none⟩) (Kd.R_far (p := ⟨gb369, 1, none⟩) (Kd.R_far (p := ⟨gb369, 0, none⟩) (Kd.R_types HO_385003.out BK369.out (by decide)) (fun _ hk => hk.2) (.slice Ao13 t370.length co13)) (fun _ hk => hk.2) (.slice Ao17 t373.length co17)) (fun _ hk => hk.2) (.slice Ao18 t376.length co18)) (fun _ hk => hk.2) (.slice Ao19 t379.length co19)) (fun _ hk => hk.2) (.int .i64 t382)) (fun _ hk => hk.2) (.int .i64 t383)) (fun _ hk => trivial), by repeat (with_reducible first | exact HB.out | refine below_set ?_ GE369.out)⟩
   ·replace c32 := Bool.eq_false_iff.mpr c32
    subst c32
    have H1 : ((impl_UsedOn.f kj5 l0_0 l0_1 l0_2 l0_3 a0_4 a0_5).bind fun t387 => (if 0 ≤ t385 then (if t385 < (t370.length : Int) then (if 0 ≤ (mn (a2.size : Int) (wrap64 (a0_4 - t387))) then (if (mn (a2.size : Int) (wrap64 (a0_4 - t387))) ≤ (a2.size : Int) then (if ((rd_T57 t370 t385).f1).size + (a2.extract 0 ((mn (a2.size : Int) (wrap64 (a0_4 - t387))) : Int).toNat).size ≤ 9223372036854775807 then ((some (t370.set (t385 : Int).toNat (⟨(rd_T57 t370 t385).f0, ((rd_T57 t370 t385).f1) ++ (a2.extract 0 ((mn (a2.size : Int) (wrap64 (a0_4 - t387))) : Int).toNat), (rd_T57 t370 t385).f2⟩ : S57) : List (S57))).bind fun y389 => (if (mn (a2.size : Int) (wrap64 (a0_4 - t387))) < (a2.size : Int) then (some (y389, t373, t376, t379, t382, t383, 5)) else (some (y389, t373, t376, t379, t382, t383, 0)))) else (none)) else (none)) else (none)) else (none)) else (none))) = some (r1, r2, r3, r4, r5, r6, r7) := by rw [if_neg (show ¬ (false = true) by decide)] at H; exact H
    clear H
    have H := H1
    clear H1
    replace H := Option.bind_eq_some_iff.mp H
    obtain ⟨t387, A380, H⟩ := H
    replace H : (if 0 ≤ t385 then (if t385 < (t370.length : Int) then (if 0 ≤ (mn (a2.size : Int) (wrap64 (a0_4 - t387))) then (if (mn (a2.size : Int) (wrap64 (a0_4 - t387))) ≤ (a2.size : Int) then (if ((rd_T57 t370 t385).f1).size + (a2.extract 0 ((mn (a2.size : Int) (wrap64 (a0_4 - t387))) : Int).toNat).size ≤ 9223372036854775807 then ((some (t370.set (t385 : Int).toNat (⟨(rd_T57 t370 t385).f0, ((rd_T57 t370 t385).f1) ++ (a2.extract 0 ((mn (a2.size : Int) (wrap64 (a0_4 - t387))) : Int).toNat), (rd_T57 t370 t385).f2⟩ : S57) : List (S57))).bind fun y389 => (if (mn (a2.size : Int) (wrap64 (a0_4 - t387))) < (a2.size : Int) then (some (y389, t373, t376, t379, t382, t383, 5)) else (some (y389, t373, t376, t379, t382, t383, 0)))) else (none)) else (none)) else (none)) else (none)) else (none)) = some (r1, r2, r3, r4, r5, r6, r7) := H
    have A38 := Aside0.mk A380
    clear A380
    obtain ⟨ji39, hji39⟩ : ∃ j_ : Int, (mn (a2.size : Int) (wrap64 (a0_4 - t387))) = j_ := ⟨_, rfl⟩
    replace H : (if 0 ≤ t385 then (if t385 < (t370.length : Int) then (if 0 ≤ (ji39) then (if (ji39) ≤ (a2.size : Int) then (if ((rd_T57 t370 t385).f1).size + (a2.extract 0 ((ji39) : Int).toNat).size ≤ 9223372036854775807 then ((some (t370.set (t385 : Int).toNat (⟨(rd_T57 t370 t385).f0, ((rd_T57 t370 t385).f1) ++ (a2.extract 0 ((ji39) : Int).toNat), (rd_T57 t370 t385).f2⟩ : S57) : List (S57))).bind fun y389 => (if (ji39) < (a2.size : Int) then (some (y389, t373, t376, t379, t382, t383, 5)) else (some (y389, t373, t376, t379, t382, t383, 0)))) else (none)) else (none)) else (none)) else (none)) else (none)) = some (r1, r2, r3, r4, r5, r6, r7) := by (rw [hji39] at H; exact H)
    (try rw [hji39] at A38)
    have hji39_ : (if (wrap64 (a0_4 - t387)) < (a2.size : Int) then (wrap64 (a0_4 - t387)) else (a2.size : Int)) = ji39 := hji39
    by_cases c40 : 0 ≤ t385
    ·rw [if_pos c40] at H
     have c40b0 : decide (0 ≤ t385) = true := decide_eq_true c40
     clear c40
     by_cases c41 : t385 < (t370.length : Int)
     ·rw [if_pos c41] at H
      have c41b0 : decide (t385 < (t370.length : Int)) = true := decide_eq_true c41
      clear c41
      by_cases c42 : 0 ≤ (ji39)
      ·rw [if_pos c42] at H
       have c42b0 := eq_true c42
       clear c42
       by_cases c43 : (ji39) ≤ (a2.size : Int)
       ·rw [if_pos c43] at H
        have c43b0 := eq_true c43
        clear c43
        by_cases c44 : ((rd_T57 t370 t385).f1).size + (a2.extract 0 ((ji39) : Int).toNat).size ≤ 9223372036854775807
        ·rw [if_pos c44] at H
         try have c44b2 : (9223372036854775807 < ((rd_T57 t370 t385).f1).size + (a2.extract 0 ((ji39) : Int).toNat).size) = False := eq_false (Nat.not_lt.2 c44)
         try have c44e_ : (a2.extract 0 ((ji39) : Int).toNat).size = ((ji39) : Int).toNat := (by rw [ByteArray.size_extract]; omega)
         try have c44b9 : (9223372036854775807 < ((rd_T57 t370 t385).f1).size + ((ji39) : Int).toNat) = False := c44e_ ▸ c44b2
         obtain ⟨y389, hy389⟩ : ∃ y_ : List (S57), y_ = (t370.set (t385 : Int).toNat (⟨(rd_T57 t370 t385).f0, ((rd_T57 t370 t385).f1) ++ (a2.extract 0 ((ji39) : Int).toNat), (rd_T57 t370 t385).f2⟩ : S57)) := ⟨_, rfl⟩
         replace H : (if (ji39) < (a2.size : Int) then (some (y389, t373, t376, t379, t382, t383, 5)) else (some (y389, t373, t376, t379, t382, t383, 0))) = some (r1, r2, r3, r4, r5, r6, r7) := by (have H2_ := (Option.bind_some _ _).symm.trans H; rw [hy389]; with_reducible exact H2_)
         have Ny389 := Aside0.mk hy389
         clear hy389
         by_cases c46 : (ji39) < (a2.size : Int)
         ·rw [if_pos c46] at H
          have c46b0 : decide ((ji39) < (a2.size : Int)) = true := decide_eq_true c46
          clear c46
          simp only [Option.some.injEq, Prod.mk.injEq] at H
          obtain ⟨rfl, rfl, rfl, rfl, rfl, rfl, rfl⟩ := H
          try go_wp2
          replace HO_385000 := Aside0.mk (Kd.R_drew HO_385000.out)
          replace HO_385001 := Aside0.mk (Kd.R_drew HO_385001.out)
          replace HO_385002 := Aside0.mk (Kd.R_drew HO_385002.out)
          replace HO_385003 := Aside0.mk (Kd.R_drew HO_385003.out)
          replace BK368 := Aside0.mk (blk_drew BK368.out)
          replace BK369 := Aside0.mk (blk_drew BK369.out)
          replace BK384 := Aside0.mk (blk_drew BK384.out)
          replace HB := Aside0.mk (below_drew1 HB.out)
          refine start_ (n := 9) (S := fun w' => w'.cell? ⟨gb368, 0, none⟩ = some (.slice A0_0 l0_0.length c0_0) ∧ w'.cell? ⟨gb368, 1, none⟩ = some (.slice A0_1 l0_1.length c0_1) ∧ w'.cell? ⟨gb368, 2, none⟩ = some (.slice A0_2 l0_2.length c0_2) ∧ w'.cell? ⟨gb368, 3, none⟩ = some (.slice A0_3 l0_3.length c0_3) ∧ w'.cell? ⟨gb368, 4, none⟩ = some (.int .i64 a0_4) ∧ w'.cell? ⟨gb368, 5, none⟩ = some (.int .i64 a0_5)) (ds := []) #[false, false, false, false, false, false, false, false, false] (by kernel_rfl) rfl rfl ⟨(blk_cell BK368.out 0).trans rfl, (blk_cell BK368.out 1).trans rfl, (blk_cell BK368.out 2).trans rfl, (blk_cell BK368.out 3).trans rfl, (blk_cell BK368.out 4).trans rfl, (blk_cell BK368.out 5).trans rfl⟩ (fun hHeld => ?_); refine with_tabW impl_AppendFile.tab5 impl_AppendFile.bits5 (fun HT_ HW_ => ?_)
          generalize wc.drew = w47 at HO_385000 HO_385001 HO_385002 HO_385003 BK368 BK369 BK384 HB hHeld ⊢
          refine pure_ (i := 0) (N := some 24) (v := ?_) (a' := ?_) #[true, false, false, false, false, false, false, false, false] rfl rfl (any_of HT_.out (by kernel_rfl)) (fun _ _ _ h => h) (Or.inl ⟨by rfl, ?_⟩) ?_ ?_
          rotate_left
          ·intro w'
           go_simp
           with_reducible rfl
          rotate_left
          ·simp only [Act.put, List.setIfInBounds_toArray, List.set_cons_zero, List.set_cons_succ, i64_w, i32_w]
           rfl
          refine pure_ (i := 1) (N := some 25) (v := ?_) (a' := ?_) #[true, true, false, false, false, false, false, false, false] rfl rfl (any_of HT_.out (by kernel_rfl)) (fun _ _ _ h => h) (Or.inl ⟨by rfl, ?_⟩) ?_ ?_
          rotate_left
          ·intro w'
           go_simp
           with_reducible rfl
          rotate_left
          ·simp only [Act.put, List.setIfInBounds_toArray, List.set_cons_zero, List.set_cons_succ, i64_w, i32_w]
           rfl
          refine pure_ (i := 2) (N := some 26) (v := ?_) (a' := ?_) #[true, true, true, false, false, false, false, false, false] rfl rfl (any_of HT_.out (by kernel_rfl)) (fun _ _ _ h => h) (Or.inl ⟨by rfl, ?_⟩) ?_ ?_
          rotate_left
          ·intro w'
           go_simp
           with_reducible rfl
          rotate_left
          ·simp only [Act.put, List.setIfInBounds_toArray, List.set_cons_zero, List.set_cons_succ, i64_w, i32_w]
           rfl
          refine take_ (i := 3) (N := some 27) (v := ?_) (a' := ?_) #[true, true, true, true, false, false, false, false, false] rfl rfl (take_ofW HT_.out HW_.out (by kernel_rfl)) (fun _ _ _ h => h) (Or.inl ⟨by rfl, ?_⟩) hHeld ?_ ?_
          rotate_left
          ·rintro w' ⟨s0, s1, s2, s3, s4, s5⟩
           go_simp
           with_reducible rfl
          rotate_left
          ·simp only [Act.put, List.setIfInBounds_toArray, List.set_cons_zero, List.set_cons_succ, i64_w, i32_w]
           rfl
          refine take_ (i := 4) (N := some 28) (v := ?_) (a' := ?_) #[true, true, true, true, true, false, false, false, false] rfl rfl (take_ofW HT_.out HW_.out (by kernel_rfl)) (fun _ _ _ h => h) (Or.inl ⟨by rfl, ?_⟩) hHeld ?_ ?_
          rotate_left
          ·rintro w' ⟨s0, s1, s2, s3, s4, s5⟩
           go_simp
           with_reducible rfl
          rotate_left
          ·simp only [Act.put, List.setIfInBounds_toArray, List.set_cons_zero, List.set_cons_succ, i64_w, i32_w]
           rfl
          refine one_ (i := 5) (N := some 29) #[true, true, true, true, true, true, false, false, false] rfl rfl (one_of HT_.out (by kernel_rfl)) (by decide) (fun K hK => ?_)
          refine goes_ Tryz.func70 (by kernel_rfl) rfl #[.agg #[.slice A0_0 l0_0.length c0_0, .slice A0_1 l0_1.length c0_1, .slice A0_2 l0_2.length c0_2, .slice A0_3 l0_3.length c0_3, .int .i64 a0_4, .int .i64 a0_5]] (by rfl) rfl rfl (by (try simp only [List.map_toArray, List.map_cons, List.map_nil]); rfl) ?_
          with_reducible refine (impl_UsedOn.calls kj5 _ _ l0_0 _ _ l0_1 _ _ l0_2 _ _ l0_3 a0_4 a0_5 t387 _ ?side1 ?side2 ?side3 ?side4 ?side5 ?side6 ?side7 ?side8 A38.out).mono ?_
          (case side1 => repeat (exact (Kd.C_below HR0_0.out HB.out)))
          (case side2 => exact HC0_0.out)
          (case side3 => repeat (exact (Kd.C_below HR0_1.out HB.out)))
          (case side4 => exact HC0_1.out)
          (case side5 => repeat (exact (Kd.C_below HR0_2.out HB.out)))
          (case side6 => exact HC0_2.out)
          (case side7 => repeat (exact (Kd.C_below HR0_3.out HB.out)))
          (case side8 => exact HC0_3.out)
          rintro e w48 ⟨rfl, hb⟩
          refine ⟨_, rfl, ?_⟩
          replace HO_385000 := Aside0.mk (Kd.R_below HO_385000.out hb)
          replace HO_385001 := Aside0.mk (Kd.R_below HO_385001.out hb)
          replace HO_385002 := Aside0.mk (Kd.R_below HO_385002.out hb)
          replace HO_385003 := Aside0.mk (Kd.R_below HO_385003.out hb)
          replace BK368 := Aside0.mk (bB hb BK368.out)
          replace BK369 := Aside0.mk (bB hb BK369.out)
          replace BK384 := Aside0.mk (bB hb BK384.out)
          replace HB := Aside0.mk (below_step HB.out hb)
          (try clear hb)
          (try clear hb2)
          (try clear hk)
          (try clear hi)
          refine hK.out _ _ ⟨(blk_cell BK368.out 0).trans rfl, (blk_cell BK368.out 1).trans rfl, (blk_cell BK368.out 2).trans rfl, (blk_cell BK368.out 3).trans rfl, (blk_cell BK368.out 4).trans rfl, (blk_cell BK368.out 5).trans rfl⟩ (fun hHeld => ?_)
          clear hK K
          refine norm_ (a' := ?_) ?_ ?_
          rotate_left
          ·show Act.put _ (some 29) _ = _
           simp only [Act.put, List.setIfInBounds_toArray, List.set_cons_zero, List.set_cons_succ, i64_w, i32_w]
           rfl
          refine pure_ (i := 6) (N := some 30) (v := ?_) (a' := ?_) #[true, true, true, true, true, true, true, false, false] rfl rfl (any_of HT_.out (by kernel_rfl)) (fun _ _ _ h => h) (Or.inl ⟨by rfl, ?_⟩) ?_ ?_
          rotate_left
          ·intro w'
           go_simp
           with_reducible rfl
          rotate_left
          ·simp only [Act.put, List.setIfInBounds_toArray, List.set_cons_zero, List.set_cons_succ, i64_w, i32_w]
           rfl
          refine pure_ (i := 7) (N := some 31) (v := ?_) (a' := ?_) #[true, true, true, true, true, true, true, true, false] rfl rfl (any_of HT_.out (by kernel_rfl)) (fun _ _ _ h => h) (Or.inl ⟨by rfl, ?_⟩) ?_ ?_
          rotate_left
          ·intro w'
           go_simp
           with_reducible rfl
          rotate_left
          ·simp only [Act.put, List.setIfInBounds_toArray, List.set_cons_zero, List.set_cons_succ, i64_w, i32_w]
           rfl
          refine pure_ (i := 8) (N := some 10) (v := ?_) (a' := ?_) #[true, true, true, true, true, true, true, true, true] rfl rfl (any_of HT_.out (by kernel_rfl)) (fun _ _ _ h => h) (Or.inl ⟨by rfl, ?_⟩) ?_ ?_
          rotate_left
          ·intro w'
           go_simp
           with_reducible rfl
          rotate_left
          ·simp only [Act.put, List.setIfInBounds_toArray, List.set_cons_zero, List.set_cons_succ, i64_w, i32_w]
           rfl
          refine done_ (done_of HT_.out (by kernel_rfl)) ?_
          try go_wp2
          replace HO_385000 := Aside0.mk (Kd.R_drew HO_385000.out)
          replace HO_385001 := Aside0.mk (Kd.R_drew HO_385001.out)
          replace HO_385002 := Aside0.mk (Kd.R_drew HO_385002.out)
          replace HO_385003 := Aside0.mk (Kd.R_drew HO_385003.out)
          replace BK368 := Aside0.mk (blk_drew BK368.out)
          replace BK369 := Aside0.mk (blk_drew BK369.out)
          replace BK384 := Aside0.mk (blk_drew BK384.out)
          replace HB := Aside0.mk (below_drew1 HB.out)
          have p388 : 0 ≤ (t385 : Int) := of_decide_eq_true (by (with_reducible assumption))
          have q388 : t385 < (t370.length : Int) := of_decide_eq_true (by (with_reducible assumption))
          obtain ⟨ad388, e388, hx388_0, hx388_1, hx388_2⟩ := at_T57 (Kd.R_reads' HO_385000.out).2.2 t385 p388 q388
          cases e388
          replace p388 := eq_true p388
          replace q388 := eq_true q388
          have p45 : 0 ≤ (t385 : Int) := of_decide_eq_true (by (with_reducible assumption))
          have q45 : (t385 : Int) < ((t370.length : Int) : Int) := of_decide_eq_true (by (with_reducible assumption))
          obtain ⟨go45, co45, eo45, gb45, gl45, cl45, HG45⟩ := Kd.R_form HO_385000.out (by omega)
          (cases eo45)
          have GB45 := Aside0.mk gb45
          have GG45 := Aside0.mk HG45
          clear gb45 gl45 HG45
          (simp only [add_plain] at hx388_0)
          (simp only [add_plain] at hx388_1)
          (simp only [add_plain] at hx388_2)
          obtain ⟨ce45, hcl45, hM45, hcc45, hfr45⟩ := Kd.R_elem HO_385000.out z57 (t385 : Int) p45 q45
          obtain rfl := k57_openM hM45
          have hx45_0 : World.cell? _ ⟨go45, (t385 : Int).toNat * 3, none⟩ = some (.int .i64 ((rd_T57 t370 t385).f0)) := hcc45 0 _ rfl
          have hx45_1 : World.cell? _ ⟨go45, (t385 : Int).toNat * 3 + 1, none⟩ = some (.string ((rd_T57 t370 t385).f1)) := hcc45 1 _ rfl
          have hx45_2 : World.cell? _ ⟨go45, (t385 : Int).toNat * 3 + 2, none⟩ = some (.int .i64 ((rd_T57 t370 t385).f2)) := hcc45 2 _ rfl
          have hf45_0 : World.frozen? _ ⟨go45, (t385 : Int).toNat * 3, none⟩ = false := hfr45 0
          have hf45_1 : World.frozen? _ ⟨go45, (t385 : Int).toNat * 3 + 1, none⟩ = false := hfr45 1
          have hf45_2 : World.frozen? _ ⟨go45, (t385 : Int).toNat * 3 + 2, none⟩ = false := hfr45 2
          clear hcl45 hcc45 hfr45 hM45
          replace p45 := eq_true p45
          replace q45 := eq_true q45
          obtain ⟨ce50, hcl50, hM50, hcc50, hfr50⟩ := Kd.R_elem HO_385000.out z57 (t385 : Int) (of_decide_eq_true (by (with_reducible assumption))) (by have h_ : (t385 : Int) < ((t370.length : Int) : Int) := of_decide_eq_true (by (with_reducible assumption)); exact h_)
          obtain rfl := k57_openM hM50
          have HP50 := (Kd.R_seg HO_385000.out (t385 : Int) (of_decide_eq_true (by (with_reducible assumption))) (by have h_ : (t385 : Int) < ((t370.length : Int) : Int) := of_decide_eq_true (by (with_reducible assumption)); exact h_) (seg := [.string (((rd_T57 t370 t385).f1) ++ (a2.extract 0 ((ji39) : Int).toNat))]) (j := 1) hcl50 hcc50 (show 2 ≤ 3 from by decide) (x' := (⟨(rd_T57 t370 t385).f0, ((rd_T57 t370 t385).f1) ++ (a2.extract 0 ((ji39) : Int).toNat), (rd_T57 t370 t385).f2⟩ : S57)) (k57_mkM _ _ _ (⟨(rd_T57 t370 t385).f0, ((rd_T57 t370 t385).f1) ++ (a2.extract 0 ((ji39) : Int).toNat), (rd_T57 t370 t385).f2⟩ : S57) ) (fun _ hk => hk)).1
          rw [← Ny389.out] at HP50
          have HQ50 := Aside0.mk HP50
          clear hcl50 hcc50 hfr50 hM50 HP50
          refine start_ (n := 13) (S := fun w' => w'.cell? ⟨gb384, 0, none⟩ = some (.slice (some ⟨go45, 0, none⟩) t370.length co13) ∧ w'.cell? ⟨gb384, 1, none⟩ = some (.slice Ao17 t373.length co17) ∧ w'.cell? ⟨gb384, 2, none⟩ = some (.slice Ao18 t376.length co18) ∧ w'.cell? ⟨gb384, 3, none⟩ = some (.slice Ao19 t379.length co19) ∧ w'.cell? ⟨gb384, 4, none⟩ = some (.int .i64 t382) ∧ w'.cell? ⟨gb384, 5, none⟩ = some (.int .i64 t383) ∧ w'.cell? ⟨go45, ((t385).toNat * 3), none⟩ = some (.int .i64 ((rd_T57 t370 t385).f0)) ∧ w'.cell? ⟨go45, ((t385).toNat * 3) + 1, none⟩ = some (.string ((rd_T57 t370 t385).f1)) ∧ w'.cell? ⟨go45, ((t385).toNat * 3) + 2, none⟩ = some (.int .i64 ((rd_T57 t370 t385).f2))) (ds := [12]) (marks 13 0) (by kernel_rfl) rfl rfl ⟨(blk_cell BK384.out 0).trans rfl, (blk_cell BK384.out 1).trans rfl, (blk_cell BK384.out 2).trans rfl, (blk_cell BK384.out 3).trans rfl, (blk_cell BK384.out 4).trans rfl, (blk_cell BK384.out 5).trans rfl, hx388_0, hx388_1, hx388_2⟩ (fun hHeld => ?_); refine with_tabW impl_AppendFile.tab6 impl_AppendFile.bits6 (fun HT_ HW_ => ?_)
          generalize w48.drew = w49 at HO_385000 HO_385001 HO_385002 HO_385003 BK368 BK369 BK384 HB GG45 HQ50 hf45_0 hf45_1 hf45_2 hx388_0 hx388_1 hx388_2 hx45_0 hx45_1 hx45_2 hHeld ⊢
          refine pure_ (i := 0) (N := some 32) (v := ?_) (a' := ?_) (marks 13 1) rfl rfl (any_of HT_.out (by kernel_rfl)) (fun _ _ _ h => h) (Or.inl ⟨by rfl, ?_⟩) ?_ ?_
          rotate_left
          ·intro w'
           go_simp
           with_reducible rfl
          rotate_left
          ·simp only [Act.put, List.setIfInBounds_toArray, List.set_cons_zero, List.set_cons_succ, i64_w, i32_w]
           rfl
          refine pure_ (i := 2) (N := some 34) (v := ?_) (a' := ?_) (marks 13 5) rfl rfl (any_of HT_.out (by kernel_rfl)) (fun _ _ _ h => h) (Or.inl ⟨by rfl, ?_⟩) ?_ ?_
          rotate_left
          ·intro w'
           go_simp
           with_reducible rfl
          rotate_left
          ·simp only [Act.put, List.setIfInBounds_toArray, List.set_cons_zero, List.set_cons_succ, i64_w, i32_w]
           rfl
          refine pure_ (i := 6) (N := some 38) (v := ?_) (a' := ?_) (marks 13 69) rfl rfl (any_of HT_.out (by kernel_rfl)) (fun _ _ _ h => h) (Or.inl ⟨by rfl, ?_⟩) ?_ ?_
          rotate_left
          ·intro w'
           go_simp
           with_reducible rfl
          rotate_left
          ·simp only [Act.put, List.setIfInBounds_toArray, List.set_cons_zero, List.set_cons_succ, i64_w, i32_w]
           rfl
          refine pure_ (i := 7) (N := some 39) (v := ?_) (a' := ?_) (marks 13 197) rfl rfl (any_of HT_.out (by kernel_rfl)) (fun _ _ _ h => h) (Or.inl ⟨by rfl, ?_⟩) ?_ ?_
          rotate_left
          ·intro w'
           go_simp
           with_reducible rfl
          rotate_left
          ·simp only [Act.put, List.setIfInBounds_toArray, List.set_cons_zero, List.set_cons_succ, i64_w, i32_w]
           rfl
          refine pure_ (i := 8) (N := some 40) (v := ?_) (a' := ?_) (marks 13 453) rfl rfl (any_of HT_.out (by kernel_rfl)) (fun _ _ _ h => h) (Or.inl ⟨by rfl, ?_⟩) ?_ ?_
          rotate_left
          ·intro w'
           go_simp
           with_reducible rfl
          rotate_left
          ·simp only [Act.put, List.setIfInBounds_toArray, List.set_cons_zero, List.set_cons_succ, i64_w, i32_w]
           rfl
          refine take_ (i := 1) (N := some 33) (v := ?_) (a' := ?_) (marks 13 455) rfl rfl (take_ofW HT_.out HW_.out (by kernel_rfl)) (fun _ _ _ h => h) (Or.inl ⟨by rfl, ?_⟩) hHeld ?_ ?_
          rotate_left
          ·rintro w' ⟨s0, s1, s2, s3, s4, s5, s6, s7, s8⟩
           go_simp
           with_reducible rfl
          rotate_left
          ·simp only [Act.put, List.setIfInBounds_toArray, List.set_cons_zero, List.set_cons_succ, i64_w, i32_w]
           rfl
          refine pure_ (i := 3) (N := some 35) (v := ?_) (a' := ?_) (marks 13 463) rfl rfl (any_of HT_.out (by kernel_rfl)) (fun _ _ _ h => h) (Or.inl ⟨by rfl, ?_⟩) ?_ ?_
          rotate_left
          ·intro w'
           go_simp
           with_reducible rfl
          rotate_left
          ·simp only [Act.put, List.setIfInBounds_toArray, List.set_cons_zero, List.set_cons_succ, i64_w, i32_w]
           rfl
          refine pure_ (i := 4) (N := some 36) (v := ?_) (a' := ?_) (marks 13 479) rfl rfl (any_of HT_.out (by kernel_rfl)) (fun _ _ _ h => h) (Or.inl ⟨by rfl, ?_⟩) ?_ ?_
          rotate_left
          ·intro w'
           go_simp
           with_reducible rfl
          rotate_left
          ·simp only [Act.put, List.setIfInBounds_toArray, List.set_cons_zero, List.set_cons_succ, i64_w, i32_w]
           rfl
          refine take_ (i := 5) (N := some 37) (v := ?_) (a' := ?_) (marks 13 511) rfl rfl (take_ofW HT_.out HW_.out (by kernel_rfl)) (fun _ _ _ h => h) (Or.inl ⟨by rfl, ?_⟩) hHeld ?_ ?_
          rotate_left
          ·rintro w' ⟨s0, s1, s2, s3, s4, s5, s6, s7, s8⟩
           go_simp
           with_reducible rfl
          rotate_left
          ·simp only [Act.put, List.setIfInBounds_toArray, List.set_cons_zero, List.set_cons_succ, i64_w, i32_w]
           rfl
          refine pure_ (i := 9) (N := some 41) (v := ?_) (a' := ?_) (marks 13 1023) rfl rfl (any_of HT_.out (by kernel_rfl)) (fun _ _ _ h => h) (Or.inl ⟨by rfl, ?_⟩) ?_ ?_
          rotate_left
          ·intro w'
           go_simp
           with_reducible rfl
          rotate_left
          ·simp only [Act.put, List.setIfInBounds_toArray, List.set_cons_zero, List.set_cons_succ, i64_w, i32_w]
           rfl
          refine pure_ (i := 10) (N := some 42) (v := ?_) (a' := ?_) (marks 13 2047) rfl rfl (any_of HT_.out (by kernel_rfl)) (fun _ _ _ h => h) (Or.inl ⟨by rfl, ?_⟩) ?_ ?_
          rotate_left
          ·intro w'
           go_simp
           with_reducible rfl
          rotate_left
          ·simp only [Act.put, List.setIfInBounds_toArray, List.set_cons_zero, List.set_cons_succ, i64_w, i32_w]
           rfl
          refine pure_ (i := 11) (N := some 43) (v := ?_) (a' := ?_) (marks 13 4095) rfl rfl (any_of HT_.out (by kernel_rfl)) (fun _ _ _ h => h) (Or.inl ⟨by rfl, ?_⟩) ?_ ?_
          rotate_left
          ·intro w'
           go_simp
           with_reducible rfl
          rotate_left
          ·simp only [Act.put, List.setIfInBounds_toArray, List.set_cons_zero, List.set_cons_succ, i64_w, i32_w]
           rfl
          refine last_ (i := 12) (N := none) (marks 13 8191) rfl rfl (one_of HT_.out (by kernel_rfl)) (by decide) (fun K hK => ?_)
          refine skip_ (w1 := ?_) (by rfl) rfl ?_ ?_
          rotate_left
          ·go_simp
           rfl
          refine hK.out _ _ ?_
          clear hK K
          refine done_ (done_of HT_.out (by kernel_rfl)) ?_
          have n0_ : Aside0 (Kd.R k57 57 (w49.setCell ⟨go45, (t385 : Int).toNat * 3 + 1, none⟩ (.string (((rd_T57 t370 t385).f1) ++ (a2.extract 0 ((ji39) : Int).toNat)))) w.heap.size (fun _ => True) (.slice (some ⟨go45, 0, none⟩) t370.length co13) y389) := ⟨by exact HQ50.out⟩
          have n1_ : Aside0 (Kd.R k59 59 (w49.setCell ⟨go45, (t385 : Int).toNat * 3 + 1, none⟩ (.string (((rd_T57 t370 t385).f1) ++ (a2.extract 0 ((ji39) : Int).toNat)))) w.heap.size (fun k_ => some k_ ≠ (.slice Ao18 t376.length co18 : Value).ownBlock) (.slice Ao17 t373.length co17) t373) := ⟨by exact Kd.R_mono (Kd.R_far (p := ⟨go45, (t385 : Int).toNat * 3 + 1, none⟩) (Kd.R_types HO_385001.out GG45.out (by decide)) (fun _ hk => hk.2) (.string (((rd_T57 t370 t385).f1) ++ (a2.extract 0 ((ji39) : Int).toNat)))) (fun _ hk => hk.1)⟩
          have n2_ : Aside0 (Kd.R k59 59 (w49.setCell ⟨go45, (t385 : Int).toNat * 3 + 1, none⟩ (.string (((rd_T57 t370 t385).f1) ++ (a2.extract 0 ((ji39) : Int).toNat)))) w.heap.size (fun k_ => some k_ ≠ (.slice Ao17 t373.length co17 : Value).ownBlock) (.slice Ao18 t376.length co18) t376) := ⟨by exact Kd.R_mono (Kd.R_far (p := ⟨go45, (t385 : Int).toNat * 3 + 1, none⟩) (Kd.R_types HO_385002.out GG45.out (by decide)) (fun _ hk => hk.2) (.string (((rd_T57 t370 t385).f1) ++ (a2.extract 0 ((ji39) : Int).toNat)))) (fun _ hk => hk.1)⟩
          have n3_ : Aside0 (Kd.R Kd.string 9 (w49.setCell ⟨go45, (t385 : Int).toNat * 3 + 1, none⟩ (.string (((rd_T57 t370 t385).f1) ++ (a2.extract 0 ((ji39) : Int).toNat)))) w.heap.size (fun _ => True) (.slice Ao19 t379.length co19) t379) := ⟨by exact Kd.R_mono (Kd.R_far (p := ⟨go45, (t385 : Int).toNat * 3 + 1, none⟩) (Kd.R_types HO_385003.out GG45.out (by decide)) (fun _ hk => hk.2) (.string (((rd_T57 t370 t385).f1) ++ (a2.extract 0 ((ji39) : Int).toNat)))) (fun _ hk => trivial)⟩
          have n4_ : Aside0 ((w49.setCell ⟨go45, (t385 : Int).toNat * 3 + 1, none⟩ (.string (((rd_T57 t370 t385).f1) ++ (a2.extract 0 ((ji39) : Int).toNat)))).heap[gb368]? = some (.cells #[.slice A0_0 l0_0.length c0_0, .slice A0_1 l0_1.length c0_1, .slice A0_2 l0_2.length c0_2, .slice A0_3 l0_3.length c0_3, .int .i64 a0_4, .int .i64 a0_5] 32 (0, 0))) := ⟨by refine blk_far ?_ (by have h_ := Kd.R_ne HO_385000.out BK368.out (by decide); intro e_; exact h_ (by rw [e_]; rfl)) _; exact BK368.out⟩
          have n5_ : Aside0 ((w49.setCell ⟨go45, (t385 : Int).toNat * 3 + 1, none⟩ (.string (((rd_T57 t370 t385).f1) ++ (a2.extract 0 ((ji39) : Int).toNat)))).heap[gb369]? = some (.cells #[.slice none 0 0, .slice none 0 0, .slice none 0 0, .slice none 0 0, .int .i64 0, .int .i64 0] 32 (0, 0))) := ⟨by refine blk_far ?_ (by have h_ := Kd.R_ne HO_385000.out BK369.out (by decide); intro e_; exact h_ (by rw [e_]; rfl)) _; exact BK369.out⟩
          have n6_ : Aside0 ((w49.setCell ⟨go45, (t385 : Int).toNat * 3 + 1, none⟩ (.string (((rd_T57 t370 t385).f1) ++ (a2.extract 0 ((ji39) : Int).toNat)))).heap[gb384]? = some (.cells #[.slice (some ⟨go45, 0, none⟩) t370.length co13, .slice Ao17 t373.length co17, .slice Ao18 t376.length co18, .slice Ao19 t379.length co19, .int .i64 t382, .int .i64 t383] 32 (0, 0))) := ⟨by refine blk_far ?_ (by have h_ := Kd.R_ne HO_385000.out BK384.out (by decide); intro e_; exact h_ (by rw [e_]; rfl)) _; exact BK384.out⟩
          have n7_ : Aside0 (Below w.heap.size w (w49.setCell ⟨go45, (t385 : Int).toNat * 3 + 1, none⟩ (.string (((rd_T57 t370 t385).f1) ++ (a2.extract 0 ((ji39) : Int).toNat))))) := ⟨by repeat (with_reducible first | exact HB.out | refine below_set ?_ GB45.out)⟩
          (try clear HO_385000)
          (try clear HO_385001)
          (try clear HO_385002)
          (try clear HO_385003)
          (try clear BK368)
          (try clear BK369)
          (try clear BK384)
          (try clear HB)
          generalize (w49.setCell ⟨go45, (t385 : Int).toNat * 3 + 1, none⟩ (.string (((rd_T57 t370 t385).f1) ++ (a2.extract 0 ((ji39) : Int).toNat)))) = w51 at n0_ n1_ n2_ n3_ n4_ n5_ n6_ n7_ ⊢
          have HO_385000 := n0_
          have HO_385001 := n1_
          have HO_385002 := n2_
          have HO_385003 := n3_
          have BK368 := n4_
          have BK369 := n5_
          have BK384 := n6_
          have HB := n7_
          clear n0_ n1_ n2_ n3_ n4_ n5_ n6_ n7_
          have hcz54_0 : w51.cell? ⟨gb384, 0, none⟩ = some (.slice (some ⟨go45, 0, none⟩) t370.length co13) := (blk_cell BK384.out 0).trans rfl
          have hcz54_1 : w51.cell? ⟨gb384, 1, none⟩ = some (.slice Ao17 t373.length co17) := (blk_cell BK384.out 1).trans rfl
          have hcz54_2 : w51.cell? ⟨gb384, 2, none⟩ = some (.slice Ao18 t376.length co18) := (blk_cell BK384.out 2).trans rfl
          have hcz54_3 : w51.cell? ⟨gb384, 3, none⟩ = some (.slice Ao19 t379.length co19) := (blk_cell BK384.out 3).trans rfl
          have hcz54_4 : w51.cell? ⟨gb384, 4, none⟩ = some (.int .i64 t382) := (blk_cell BK384.out 4).trans rfl
          have hcz54_5 : w51.cell? ⟨gb384, 5, none⟩ = some (.int .i64 t383) := (blk_cell BK384.out 5).trans rfl
          have hcz56_0 : w51.cell? ⟨gb369, 0, none⟩ = some (.slice none 0 0) := (blk_cell BK369.out 0).trans rfl
          have hcz56_1 : w51.cell? ⟨gb369, 1, none⟩ = some (.slice none 0 0) := (blk_cell BK369.out 1).trans rfl
          have hcz56_2 : w51.cell? ⟨gb369, 2, none⟩ = some (.slice none 0 0) := (blk_cell BK369.out 2).trans rfl
          have hcz56_3 : w51.cell? ⟨gb369, 3, none⟩ = some (.slice none 0 0) := (blk_cell BK369.out 3).trans rfl
          have hcz56_4 : w51.cell? ⟨gb369, 4, none⟩ = some (.int .i64 0) := (blk_cell BK369.out 4).trans rfl
          have hcz56_5 : w51.cell? ⟨gb369, 5, none⟩ = some (.int .i64 0) := (blk_cell BK369.out 5).trans rfl
          have hfz56_0 := blk_frozen BK369.out 0
          have hfz56_1 := blk_frozen BK369.out 1
          have hfz56_2 := blk_frozen BK369.out 2
          have hfz56_3 := blk_frozen BK369.out 3
          have hfz56_4 := blk_frozen BK369.out 4
          have hfz56_5 := blk_frozen BK369.out 5
          try go_wp2
          refine bodyPost_ret (results_ct rfl _ _ gb369 32 #[.slice (some ⟨go45, 0, none⟩) t370.length co13, .slice Ao17 t373.length co17, .slice Ao18 t376.length co18, .slice Ao19 t379.length co19, .int .i64 t382, .int .i64 t383] (0, 0) _ rfl (by refine blk_put (cs := #[.slice (some ⟨go45, 0, none⟩) t370.length co13, .slice Ao17 t373.length co17, .slice Ao18 t376.length co18, .slice Ao19 t379.length co19, .int .i64 t382, .int .i64 0]) ?_ 5 _ rfl; refine blk_put (cs := #[.slice (some ⟨go45, 0, none⟩) t370.length co13, .slice Ao17 t373.length co17, .slice Ao18 t376.length co18, .slice Ao19 t379.length co19, .int .i64 0, .int .i64 0]) ?_ 4 _ rfl; refine blk_put (cs := #[.slice (some ⟨go45, 0, none⟩) t370.length co13, .slice Ao17 t373.length co17, .slice Ao18 t376.length co18, .slice none 0 0, .int .i64 0, .int .i64 0]) ?_ 3 _ rfl; refine blk_put (cs := #[.slice (some ⟨go45, 0, none⟩) t370.length co13, .slice Ao17 t373.length co17, .slice none 0 0, .slice none 0 0, .int .i64 0, .int .i64 0]) ?_ 2 _ rfl; refine blk_put (cs := #[.slice (some ⟨go45, 0, none⟩) t370.length co13, .slice none 0 0, .slice none 0 0, .slice none 0 0, .int .i64 0, .int .i64 0]) ?_ 1 _ rfl; refine blk_put (cs := #[.slice none 0 0, .slice none 0 0, .slice none 0 0, .slice none 0 0, .int .i64 0, .int .i64 0]) ?_ 0 _ rfl; exact BK369.out) Tryz.underlying32 rfl (by kernel_rfl)) rfl ?_
          all_goals exact ⟨_, _, _, _, by first | rfl | (simp [errW_none, errW_some] <;> rfl) | (simp only [← hji39]; first | rfl | (simp [errW_none, errW_some] <;> rfl)) | (simp [*, errW_none, errW_some] <;> rfl) | (exfalso; simp only [decide_eq_true_eq, decide_eq_false_iff_not] at *; omega), by exact Kd.R_mono (Kd.R_far (p := ⟨gb369, 5, none⟩) (Kd.R_far (p := ⟨gb369, 4, none⟩) (Kd.R_far (p := ⟨gb369, 3, none⟩) (Kd.R_far (p := ⟨gb369, 2, none⟩) (Kd.R_far (p := ⟨gb369, 1, none⟩) (Kd.R_far (p := ⟨gb369, 0, none⟩) (Kd.R_types HO_385000.out BK369.out (by decide)) (fun _ hk => hk.2) (.slice (some ⟨go45, 0, none⟩) t370.length co13)) (fun _ hk => hk.2) (.slice Ao17 t373.length co17)) (fun _ hk => hk.2) (.slice Ao18 t376.length co18)) (fun _ hk => hk.2) (.slice Ao19 t379.length co19)) (fun _ hk => hk.2) (.int .i64 t382)) (fun _ hk => hk.2) (.int .i64 t383)) (fun _ hk => trivial), by exact Kd.R_mono (Kd.R_far (p := ⟨gb369, 5, none⟩) (Kd.R_far (p := ⟨gb369, 4, none⟩) (Kd.R_far (p := ⟨gb369, 3, none⟩) (Kd.R_far (p := ⟨gb369, 2, none⟩) (Kd.R_far (p := ⟨gb369, 1, none⟩) (Kd.R_far (p := ⟨gb369, 0, none⟩) (Kd.R_types HO_385001.out BK369.out (by decide)) (fun _ hk => hk.2) (.slice (some ⟨go45, 0, none⟩) t370.length co13)) (fun _ hk => hk.2) (.slice Ao17 t373.length co17)) (fun _ hk => hk.2) (.slice Ao18 t376.length co18)) (fun _ hk => hk.2) (.slice Ao19 t379.length co19)) (fun _ hk => hk.2) (.int .i64 t382)) (fun _ hk => hk.2) (.int .i64 t383)) (fun _ hk => hk.1), by exact Kd.R_mono (Kd.R_far (p := ⟨gb369, 5, none⟩) (Kd.R_far (p := ⟨gb369, 4, none⟩) (Kd.R_far (p := ⟨gb369, 3, none⟩) (Kd.R_far (p := ⟨gb369, 2, none⟩) (Kd.R_far (p := ⟨gb369, 1, none⟩) (Kd.R_far (p := ⟨gb369, 0, none⟩) (Kd.R_types HO_385002.out BK369.out (by decide)) (fun _ hk => hk.2) (.slice (some ⟨go45, 0, none⟩) t370.length co13)) (fun _ hk => hk.2) (.slice Ao17 t373.length co17)) (fun _ hk => hk.2) (.slice Ao18 t376.length co18)) (fun _ hk => hk.2) (.slice Ao19 t379.length co19)) (fun _ hk => hk.2) (.int .i64 t382)) (fun _ hk => hk.2) (.int .i64 t383)) (fun _ hk => hk.1), by exact Kd.R_mono (Kd.R_far (p := ⟨gb369, 5, none⟩) (Kd.R_far (p := ⟨gb369, 4, none⟩) (Kd.R_far (p := ⟨gb369, 3, none⟩) (Kd.R_far (p := ⟨gb369, 2, none⟩) (Kd.R_far (p := ⟨gb369, 1, none⟩) (Kd.R_far (p := ⟨gb369, 0, none⟩) (Kd.R_types HO_385003.out BK369.out (by decide)) (fun _ hk => hk.2) (.slice (some ⟨go45, 0, none⟩) t370.length co13)) (fun _ hk => hk.2) (.slice Ao17 t373.length co17)) (fun _ hk => hk.2) (.slice Ao18 t376.length co18)) (fun _ hk => hk.2) (.slice Ao19 t379.length co19)) (fun _ hk => hk.2) (.int .i64 t382)) (fun _ hk => hk.2) (.int .i64 t383)) (fun _ hk => trivial), by repeat (with_reducible first | exact HB.out | refine below_set ?_ GE369.out)⟩
         ·rw [if_neg c46] at H
          have c46b0 : decide ((ji39) < (a2.size : Int)) = false := decide_eq_false c46
          clear c46
          simp only [Option.some.injEq, Prod.mk.injEq] at H
          obtain ⟨rfl, rfl, rfl, rfl, rfl, rfl, rfl⟩ := H
          try go_wp2
          replace HO_385000 := Aside0.mk (Kd.R_drew HO_385000.out)
          replace HO_385001 := Aside0.mk (Kd.R_drew HO_385001.out)
          replace HO_385002 := Aside0.mk (Kd.R_drew HO_385002.out)
          replace HO_385003 := Aside0.mk (Kd.R_drew HO_385003.out)
          replace BK368 := Aside0.mk (blk_drew BK368.out)
          replace BK369 := Aside0.mk (blk_drew BK369.out)
          replace BK384 := Aside0.mk (blk_drew BK384.out)
          replace HB := Aside0.mk (below_drew1 HB.out)
          refine start_ (n := 9) (S := fun w' => w'.cell? ⟨gb368, 0, none⟩ = some (.slice A0_0 l0_0.length c0_0) ∧ w'.cell? ⟨gb368, 1, none⟩ = some (.slice A0_1 l0_1.length c0_1) ∧ w'.cell? ⟨gb368, 2, none⟩ = some (.slice A0_2 l0_2.length c0_2) ∧ w'.cell? ⟨gb368, 3, none⟩ = some (.slice A0_3 l0_3.length c0_3) ∧ w'.cell? ⟨gb368, 4, none⟩ = some (.int .i64 a0_4) ∧ w'.cell? ⟨gb368, 5, none⟩ = some (.int .i64 a0_5)) (ds := []) #[false, false, false, false, false, false, false, false, false] (by kernel_rfl) rfl rfl ⟨(blk_cell BK368.out 0).trans rfl, (blk_cell BK368.out 1).trans rfl, (blk_cell BK368.out 2).trans rfl, (blk_cell BK368.out 3).trans rfl, (blk_cell BK368.out 4).trans rfl, (blk_cell BK368.out 5).trans rfl⟩ (fun hHeld => ?_); refine with_tabW impl_AppendFile.tab5 impl_AppendFile.bits5 (fun HT_ HW_ => ?_)
          generalize wc.drew = w57 at HO_385000 HO_385001 HO_385002 HO_385003 BK368 BK369 BK384 HB hHeld ⊢
          refine pure_ (i := 0) (N := some 24) (v := ?_) (a' := ?_) #[true, false, false, false, false, false, false, false, false] rfl rfl (any_of HT_.out (by kernel_rfl)) (fun _ _ _ h => h) (Or.inl ⟨by rfl, ?_⟩) ?_ ?_
          rotate_left
          ·intro w'
           go_simp
           with_reducible rfl
          rotate_left
          ·simp only [Act.put, List.setIfInBounds_toArray, List.set_cons_zero, List.set_cons_succ, i64_w, i32_w]
           rfl
          refine pure_ (i := 1) (N := some 25) (v := ?_) (a' := ?_) #[true, true, false, false, false, false, false, false, false] rfl rfl (any_of HT_.out (by kernel_rfl)) (fun _ _ _ h => h) (Or.inl ⟨by rfl, ?_⟩) ?_ ?_
          rotate_left
          ·intro w'
           go_simp
           with_reducible rfl
          rotate_left
          ·simp only [Act.put, List.setIfInBounds_toArray, List.set_cons_zero, List.set_cons_succ, i64_w, i32_w]
           rfl
          refine pure_ (i := 2) (N := some 26) (v := ?_) (a' := ?_) #[true, true, true, false, false, false, false, false, false] rfl rfl (any_of HT_.out (by kernel_rfl)) (fun _ _ _ h => h) (Or.inl ⟨by rfl, ?_⟩) ?_ ?_
          rotate_left
          ·intro w'
           go_simp
           with_reducible rfl
          rotate_left
          ·simp only [Act.put, List.setIfInBounds_toArray, List.set_cons_zero, List.set_cons_succ, i64_w, i32_w]
           rfl
          refine take_ (i := 3) (N := some 27) (v := ?_) (a' := ?_) #[true, true, true, true, false, false, false, false, false] rfl rfl (take_ofW HT_.out HW_.out (by kernel_rfl)) (fun _ _ _ h => h) (Or.inl ⟨by rfl, ?_⟩) hHeld ?_ ?_
          rotate_left
          ·rintro w' ⟨s0, s1, s2, s3, s4, s5⟩
           go_simp
           with_reducible rfl
          rotate_left
          ·simp only [Act.put, List.setIfInBounds_toArray, List.set_cons_zero, List.set_cons_succ, i64_w, i32_w]
           rfl
          refine take_ (i := 4) (N := some 28) (v := ?_) (a' := ?_) #[true, true, true, true, true, false, false, false, false] rfl rfl (take_ofW HT_.out HW_.out (by kernel_rfl)) (fun _ _ _ h => h) (Or.inl ⟨by rfl, ?_⟩) hHeld ?_ ?_
          rotate_left
          ·rintro w' ⟨s0, s1, s2, s3, s4, s5⟩
           go_simp
           with_reducible rfl
          rotate_left
          ·simp only [Act.put, List.setIfInBounds_toArray, List.set_cons_zero, List.set_cons_succ, i64_w, i32_w]
           rfl
          refine one_ (i := 5) (N := some 29) #[true, true, true, true, true, true, false, false, false] rfl rfl (one_of HT_.out (by kernel_rfl)) (by decide) (fun K hK => ?_)
          refine goes_ Tryz.func70 (by kernel_rfl) rfl #[.agg #[.slice A0_0 l0_0.length c0_0, .slice A0_1 l0_1.length c0_1, .slice A0_2 l0_2.length c0_2, .slice A0_3 l0_3.length c0_3, .int .i64 a0_4, .int .i64 a0_5]] (by rfl) rfl rfl (by (try simp only [List.map_toArray, List.map_cons, List.map_nil]); rfl) ?_
          with_reducible refine (impl_UsedOn.calls kj5 _ _ l0_0 _ _ l0_1 _ _ l0_2 _ _ l0_3 a0_4 a0_5 t387 _ ?side1 ?side2 ?side3 ?side4 ?side5 ?side6 ?side7 ?side8 A38.out).mono ?_
          (case side1 => repeat (exact (Kd.C_below HR0_0.out HB.out)))
          (case side2 => exact HC0_0.out)
          (case side3 => repeat (exact (Kd.C_below HR0_1.out HB.out)))
          (case side4 => exact HC0_1.out)
          (case side5 => repeat (exact (Kd.C_below HR0_2.out HB.out)))
          (case side6 => exact HC0_2.out)
          (case side7 => repeat (exact (Kd.C_below HR0_3.out HB.out)))
          (case side8 => exact HC0_3.out)
          rintro e w58 ⟨rfl, hb⟩
          refine ⟨_, rfl, ?_⟩
          replace HO_385000 := Aside0.mk (Kd.R_below HO_385000.out hb)
          replace HO_385001 := Aside0.mk (Kd.R_below HO_385001.out hb)
          replace HO_385002 := Aside0.mk (Kd.R_below HO_385002.out hb)
          replace HO_385003 := Aside0.mk (Kd.R_below HO_385003.out hb)
          replace BK368 := Aside0.mk (bB hb BK368.out)
          replace BK369 := Aside0.mk (bB hb BK369.out)
          replace BK384 := Aside0.mk (bB hb BK384.out)
          replace HB := Aside0.mk (below_step HB.out hb)
          (try clear hb)
          (try clear hb2)
          (try clear hk)
          (try clear hi)
          refine hK.out _ _ ⟨(blk_cell BK368.out 0).trans rfl, (blk_cell BK368.out 1).trans rfl, (blk_cell BK368.out 2).trans rfl, (blk_cell BK368.out 3).trans rfl, (blk_cell BK368.out 4).trans rfl, (blk_cell BK368.out 5).trans rfl⟩ (fun hHeld => ?_)
          clear hK K
          refine norm_ (a' := ?_) ?_ ?_
          rotate_left
          ·show Act.put _ (some 29) _ = _
           simp only [Act.put, List.setIfInBounds_toArray, List.set_cons_zero, List.set_cons_succ, i64_w, i32_w]
           rfl
          refine pure_ (i := 6) (N := some 30) (v := ?_) (a' := ?_) #[true, true, true, true, true, true, true, false, false] rfl rfl (any_of HT_.out (by kernel_rfl)) (fun _ _ _ h => h) (Or.inl ⟨by rfl, ?_⟩) ?_ ?_
          rotate_left
          ·intro w'
           go_simp
           with_reducible rfl
          rotate_left
          ·simp only [Act.put, List.setIfInBounds_toArray, List.set_cons_zero, List.set_cons_succ, i64_w, i32_w]
           rfl
          refine pure_ (i := 7) (N := some 31) (v := ?_) (a' := ?_) #[true, true, true, true, true, true, true, true, false] rfl rfl (any_of HT_.out (by kernel_rfl)) (fun _ _ _ h => h) (Or.inl ⟨by rfl, ?_⟩) ?_ ?_
          rotate_left
          ·intro w'
           go_simp
           with_reducible rfl
          rotate_left
          ·simp only [Act.put, List.setIfInBounds_toArray, List.set_cons_zero, List.set_cons_succ, i64_w, i32_w]
           rfl
          refine pure_ (i := 8) (N := some 10) (v := ?_) (a' := ?_) #[true, true, true, true, true, true, true, true, true] rfl rfl (any_of HT_.out (by kernel_rfl)) (fun _ _ _ h => h) (Or.inl ⟨by rfl, ?_⟩) ?_ ?_
          rotate_left
          ·intro w'
           go_simp
           with_reducible rfl
          rotate_left
          ·simp only [Act.put, List.setIfInBounds_toArray, List.set_cons_zero, List.set_cons_succ, i64_w, i32_w]
           rfl
          refine done_ (done_of HT_.out (by kernel_rfl)) ?_
          try go_wp2
          replace HO_385000 := Aside0.mk (Kd.R_drew HO_385000.out)
          replace HO_385001 := Aside0.mk (Kd.R_drew HO_385001.out)
          replace HO_385002 := Aside0.mk (Kd.R_drew HO_385002.out)
          replace HO_385003 := Aside0.mk (Kd.R_drew HO_385003.out)
          replace BK368 := Aside0.mk (blk_drew BK368.out)
          replace BK369 := Aside0.mk (blk_drew BK369.out)
          replace BK384 := Aside0.mk (blk_drew BK384.out)
          replace HB := Aside0.mk (below_drew1 HB.out)
          have p388 : 0 ≤ (t385 : Int) := of_decide_eq_true (by (with_reducible assumption))
          have q388 : t385 < (t370.length : Int) := of_decide_eq_true (by (with_reducible assumption))
          obtain ⟨ad388, e388, hx388_0, hx388_1, hx388_2⟩ := at_T57 (Kd.R_reads' HO_385000.out).2.2 t385 p388 q388
          cases e388
          replace p388 := eq_true p388
          replace q388 := eq_true q388
          have p45 : 0 ≤ (t385 : Int) := of_decide_eq_true (by (with_reducible assumption))
          have q45 : (t385 : Int) < ((t370.length : Int) : Int) := of_decide_eq_true (by (with_reducible assumption))
          obtain ⟨go45, co45, eo45, gb45, gl45, cl45, HG45⟩ := Kd.R_form HO_385000.out (by omega)
          (cases eo45)
          have GB45 := Aside0.mk gb45
          have GG45 := Aside0.mk HG45
          clear gb45 gl45 HG45
          (simp only [add_plain] at hx388_0)
          (simp only [add_plain] at hx388_1)
          (simp only [add_plain] at hx388_2)
          obtain ⟨ce45, hcl45, hM45, hcc45, hfr45⟩ := Kd.R_elem HO_385000.out z57 (t385 : Int) p45 q45
          obtain rfl := k57_openM hM45
          have hx45_0 : World.cell? _ ⟨go45, (t385 : Int).toNat * 3, none⟩ = some (.int .i64 ((rd_T57 t370 t385).f0)) := hcc45 0 _ rfl
          have hx45_1 : World.cell? _ ⟨go45, (t385 : Int).toNat * 3 + 1, none⟩ = some (.string ((rd_T57 t370 t385).f1)) := hcc45 1 _ rfl
          have hx45_2 : World.cell? _ ⟨go45, (t385 : Int).toNat * 3 + 2, none⟩ = some (.int .i64 ((rd_T57 t370 t385).f2)) := hcc45 2 _ rfl
          have hf45_0 : World.frozen? _ ⟨go45, (t385 : Int).toNat * 3, none⟩ = false := hfr45 0
          have hf45_1 : World.frozen? _ ⟨go45, (t385 : Int).toNat * 3 + 1, none⟩ = false := hfr45 1
          have hf45_2 : World.frozen? _ ⟨go45, (t385 : Int).toNat * 3 + 2, none⟩ = false := hfr45 2
          clear hcl45 hcc45 hfr45 hM45
          replace p45 := eq_true p45
          replace q45 := eq_true q45
          obtain ⟨ce60, hcl60, hM60, hcc60, hfr60⟩ := Kd.R_elem HO_385000.out z57 (t385 : Int) (of_decide_eq_true (by (with_reducible assumption))) (by have h_ : (t385 : Int) < ((t370.length : Int) : Int) := of_decide_eq_true (by (with_reducible assumption)); exact h_)
          obtain rfl := k57_openM hM60
          have HP60 := (Kd.R_seg HO_385000.out (t385 : Int) (of_decide_eq_true (by (with_reducible assumption))) (by have h_ : (t385 : Int) < ((t370.length : Int) : Int) := of_decide_eq_true (by (with_reducible assumption)); exact h_) (seg := [.string (((rd_T57 t370 t385).f1) ++ (a2.extract 0 ((ji39) : Int).toNat))]) (j := 1) hcl60 hcc60 (show 2 ≤ 3 from by decide) (x' := (⟨(rd_T57 t370 t385).f0, ((rd_T57 t370 t385).f1) ++ (a2.extract 0 ((ji39) : Int).toNat), (rd_T57 t370 t385).f2⟩ : S57)) (k57_mkM _ _ _ (⟨(rd_T57 t370 t385).f0, ((rd_T57 t370 t385).f1) ++ (a2.extract 0 ((ji39) : Int).toNat), (rd_T57 t370 t385).f2⟩ : S57) ) (fun _ hk => hk)).1
          rw [← Ny389.out] at HP60
          have HQ60 := Aside0.mk HP60
          clear hcl60 hcc60 hfr60 hM60 HP60
          refine start_ (n := 13) (S := fun w' => w'.cell? ⟨gb384, 0, none⟩ = some (.slice (some ⟨go45, 0, none⟩) t370.length co13) ∧ w'.cell? ⟨gb384, 1, none⟩ = some (.slice Ao17 t373.length co17) ∧ w'.cell? ⟨gb384, 2, none⟩ = some (.slice Ao18 t376.length co18) ∧ w'.cell? ⟨gb384, 3, none⟩ = some (.slice Ao19 t379.length co19) ∧ w'.cell? ⟨gb384, 4, none⟩ = some (.int .i64 t382) ∧ w'.cell? ⟨gb384, 5, none⟩ = some (.int .i64 t383) ∧ w'.cell? ⟨go45, ((t385).toNat * 3), none⟩ = some (.int .i64 ((rd_T57 t370 t385).f0)) ∧ w'.cell? ⟨go45, ((t385).toNat * 3) + 1, none⟩ = some (.string ((rd_T57 t370 t385).f1)) ∧ w'.cell? ⟨go45, ((t385).toNat * 3) + 2, none⟩ = some (.int .i64 ((rd_T57 t370 t385).f2))) (ds := [12]) (marks 13 0) (by kernel_rfl) rfl rfl ⟨(blk_cell BK384.out 0).trans rfl, (blk_cell BK384.out 1).trans rfl, (blk_cell BK384.out 2).trans rfl, (blk_cell BK384.out 3).trans rfl, (blk_cell BK384.out 4).trans rfl, (blk_cell BK384.out 5).trans rfl, hx388_0, hx388_1, hx388_2⟩ (fun hHeld => ?_); refine with_tabW impl_AppendFile.tab6 impl_AppendFile.bits6 (fun HT_ HW_ => ?_)
          generalize w58.drew = w59 at HO_385000 HO_385001 HO_385002 HO_385003 BK368 BK369 BK384 HB GG45 HQ60 hf45_0 hf45_1 hf45_2 hx388_0 hx388_1 hx388_2 hx45_0 hx45_1 hx45_2 hHeld ⊢
          refine pure_ (i := 0) (N := some 32) (v := ?_) (a' := ?_) (marks 13 1) rfl rfl (any_of HT_.out (by kernel_rfl)) (fun _ _ _ h => h) (Or.inl ⟨by rfl, ?_⟩) ?_ ?_
          rotate_left
          ·intro w'
           go_simp
           with_reducible rfl
          rotate_left
          ·simp only [Act.put, List.setIfInBounds_toArray, List.set_cons_zero, List.set_cons_succ, i64_w, i32_w]
           rfl
          refine pure_ (i := 2) (N := some 34) (v := ?_) (a' := ?_) (marks 13 5) rfl rfl (any_of HT_.out (by kernel_rfl)) (fun _ _ _ h => h) (Or.inl ⟨by rfl, ?_⟩) ?_ ?_
          rotate_left
          ·intro w'
           go_simp
           with_reducible rfl
          rotate_left
          ·simp only [Act.put, List.setIfInBounds_toArray, List.set_cons_zero, List.set_cons_succ, i64_w, i32_w]
           rfl
          refine pure_ (i := 6) (N := some 38) (v := ?_) (a' := ?_) (marks 13 69) rfl rfl (any_of HT_.out (by kernel_rfl)) (fun _ _ _ h => h) (Or.inl ⟨by rfl, ?_⟩) ?_ ?_
          rotate_left
          ·intro w'
           go_simp
           with_reducible rfl
          rotate_left
          ·simp only [Act.put, List.setIfInBounds_toArray, List.set_cons_zero, List.set_cons_succ, i64_w, i32_w]
           rfl
          refine pure_ (i := 7) (N := some 39) (v := ?_) (a' := ?_) (marks 13 197) rfl rfl (any_of HT_.out (by kernel_rfl)) (fun _ _ _ h => h) (Or.inl ⟨by rfl, ?_⟩) ?_ ?_
          rotate_left
          ·intro w'
           go_simp
           with_reducible rfl
          rotate_left
          ·simp only [Act.put, List.setIfInBounds_toArray, List.set_cons_zero, List.set_cons_succ, i64_w, i32_w]
           rfl
          refine pure_ (i := 8) (N := some 40) (v := ?_) (a' := ?_) (marks 13 453) rfl rfl (any_of HT_.out (by kernel_rfl)) (fun _ _ _ h => h) (Or.inl ⟨by rfl, ?_⟩) ?_ ?_
          rotate_left
          ·intro w'
           go_simp
           with_reducible rfl
          rotate_left
          ·simp only [Act.put, List.setIfInBounds_toArray, List.set_cons_zero, List.set_cons_succ, i64_w, i32_w]
           rfl
          refine take_ (i := 1) (N := some 33) (v := ?_) (a' := ?_) (marks 13 455) rfl rfl (take_ofW HT_.out HW_.out (by kernel_rfl)) (fun _ _ _ h => h) (Or.inl ⟨by rfl, ?_⟩) hHeld ?_ ?_
          rotate_left
          ·rintro w' ⟨s0, s1, s2, s3, s4, s5, s6, s7, s8⟩
           go_simp
           with_reducible rfl
          rotate_left
          ·simp only [Act.put, List.setIfInBounds_toArray, List.set_cons_zero, List.set_cons_succ, i64_w, i32_w]
           rfl
          refine pure_ (i := 3) (N := some 35) (v := ?_) (a' := ?_) (marks 13 463) rfl rfl (any_of HT_.out (by kernel_rfl)) (fun _ _ _ h => h) (Or.inl ⟨by rfl, ?_⟩) ?_ ?_
          rotate_left
          ·intro w'
           go_simp
           with_reducible rfl
          rotate_left
          ·simp only [Act.put, List.setIfInBounds_toArray, List.set_cons_zero, List.set_cons_succ, i64_w, i32_w]
           rfl
          refine pure_ (i := 4) (N := some 36) (v := ?_) (a' := ?_) (marks 13 479) rfl rfl (any_of HT_.out (by kernel_rfl)) (fun _ _ _ h => h) (Or.inl ⟨by rfl, ?_⟩) ?_ ?_
          rotate_left
          ·intro w'
           go_simp
           with_reducible rfl
          rotate_left
          ·simp only [Act.put, List.setIfInBounds_toArray, List.set_cons_zero, List.set_cons_succ, i64_w, i32_w]
           rfl
          refine take_ (i := 5) (N := some 37) (v := ?_) (a' := ?_) (marks 13 511) rfl rfl (take_ofW HT_.out HW_.out (by kernel_rfl)) (fun _ _ _ h => h) (Or.inl ⟨by rfl, ?_⟩) hHeld ?_ ?_
          rotate_left
          ·rintro w' ⟨s0, s1, s2, s3, s4, s5, s6, s7, s8⟩
           go_simp
           with_reducible rfl
          rotate_left
          ·simp only [Act.put, List.setIfInBounds_toArray, List.set_cons_zero, List.set_cons_succ, i64_w, i32_w]
           rfl
          refine pure_ (i := 9) (N := some 41) (v := ?_) (a' := ?_) (marks 13 1023) rfl rfl (any_of HT_.out (by kernel_rfl)) (fun _ _ _ h => h) (Or.inl ⟨by rfl, ?_⟩) ?_ ?_
          rotate_left
          ·intro w'
           go_simp
           with_reducible rfl
          rotate_left
          ·simp only [Act.put, List.setIfInBounds_toArray, List.set_cons_zero, List.set_cons_succ, i64_w, i32_w]
           rfl
          refine pure_ (i := 10) (N := some 42) (v := ?_) (a' := ?_) (marks 13 2047) rfl rfl (any_of HT_.out (by kernel_rfl)) (fun _ _ _ h => h) (Or.inl ⟨by rfl, ?_⟩) ?_ ?_
          rotate_left
          ·intro w'
           go_simp
           with_reducible rfl
          rotate_left
          ·simp only [Act.put, List.setIfInBounds_toArray, List.set_cons_zero, List.set_cons_succ, i64_w, i32_w]
           rfl
          refine pure_ (i := 11) (N := some 43) (v := ?_) (a' := ?_) (marks 13 4095) rfl rfl (any_of HT_.out (by kernel_rfl)) (fun _ _ _ h => h) (Or.inl ⟨by rfl, ?_⟩) ?_ ?_
          rotate_left
          ·intro w'
           go_simp
           with_reducible rfl
          rotate_left
          ·simp only [Act.put, List.setIfInBounds_toArray, List.set_cons_zero, List.set_cons_succ, i64_w, i32_w]
           rfl
          refine last_ (i := 12) (N := none) (marks 13 8191) rfl rfl (one_of HT_.out (by kernel_rfl)) (by decide) (fun K hK => ?_)
          refine skip_ (w1 := ?_) (by rfl) rfl ?_ ?_
          rotate_left
          ·go_simp
           rfl
          refine hK.out _ _ ?_
          clear hK K
          refine done_ (done_of HT_.out (by kernel_rfl)) ?_
          have n0_ : Aside0 (Kd.R k57 57 (w59.setCell ⟨go45, (t385 : Int).toNat * 3 + 1, none⟩ (.string (((rd_T57 t370 t385).f1) ++ (a2.extract 0 ((ji39) : Int).toNat)))) w.heap.size (fun _ => True) (.slice (some ⟨go45, 0, none⟩) t370.length co13) y389) := ⟨by exact HQ60.out⟩
          have n1_ : Aside0 (Kd.R k59 59 (w59.setCell ⟨go45, (t385 : Int).toNat * 3 + 1, none⟩ (.string (((rd_T57 t370 t385).f1) ++ (a2.extract 0 ((ji39) : Int).toNat)))) w.heap.size (fun k_ => some k_ ≠ (.slice Ao18 t376.length co18 : Value).ownBlock) (.slice Ao17 t373.length co17) t373) := ⟨by exact Kd.R_mono (Kd.R_far (p := ⟨go45, (t385 : Int).toNat * 3 + 1, none⟩) (Kd.R_types HO_385001.out GG45.out (by decide)) (fun _ hk => hk.2) (.string (((rd_T57 t370 t385).f1) ++ (a2.extract 0 ((ji39) : Int).toNat)))) (fun _ hk => hk.1)⟩
          have n2_ : Aside0 (Kd.R k59 59 (w59.setCell ⟨go45, (t385 : Int).toNat * 3 + 1, none⟩ (.string (((rd_T57 t370 t385).f1) ++ (a2.extract 0 ((ji39) : Int).toNat)))) w.heap.size (fun k_ => some k_ ≠ (.slice Ao17 t373.length co17 : Value).ownBlock) (.slice Ao18 t376.length co18) t376) := ⟨by exact Kd.R_mono (Kd.R_far (p := ⟨go45, (t385 : Int).toNat * 3 + 1, none⟩) (Kd.R_types HO_385002.out GG45.out (by decide)) (fun _ hk => hk.2) (.string (((rd_T57 t370 t385).f1) ++ (a2.extract 0 ((ji39) : Int).toNat)))) (fun _ hk => hk.1)⟩
          have n3_ : Aside0 (Kd.R Kd.string 9 (w59.setCell ⟨go45, (t385 : Int).toNat * 3 + 1, none⟩ (.string (((rd_T57 t370 t385).f1) ++ (a2.extract 0 ((ji39) : Int).toNat)))) w.heap.size (fun _ => True) (.slice Ao19 t379.length co19) t379) := ⟨by exact Kd.R_mono (Kd.R_far (p := ⟨go45, (t385 : Int).toNat * 3 + 1, none⟩) (Kd.R_types HO_385003.out GG45.out (by decide)) (fun _ hk => hk.2) (.string (((rd_T57 t370 t385).f1) ++ (a2.extract 0 ((ji39) : Int).toNat)))) (fun _ hk => trivial)⟩
          have n4_ : Aside0 ((w59.setCell ⟨go45, (t385 : Int).toNat * 3 + 1, none⟩ (.string (((rd_T57 t370 t385).f1) ++ (a2.extract 0 ((ji39) : Int).toNat)))).heap[gb368]? = some (.cells #[.slice A0_0 l0_0.length c0_0, .slice A0_1 l0_1.length c0_1, .slice A0_2 l0_2.length c0_2, .slice A0_3 l0_3.length c0_3, .int .i64 a0_4, .int .i64 a0_5] 32 (0, 0))) := ⟨by refine blk_far ?_ (by have h_ := Kd.R_ne HO_385000.out BK368.out (by decide); intro e_; exact h_ (by rw [e_]; rfl)) _; exact BK368.out⟩
          have n5_ : Aside0 ((w59.setCell ⟨go45, (t385 : Int).toNat * 3 + 1, none⟩ (.string (((rd_T57 t370 t385).f1) ++ (a2.extract 0 ((ji39) : Int).toNat)))).heap[gb369]? = some (.cells #[.slice none 0 0, .slice none 0 0, .slice none 0 0, .slice none 0 0, .int .i64 0, .int .i64 0] 32 (0, 0))) := ⟨by refine blk_far ?_ (by have h_ := Kd.R_ne HO_385000.out BK369.out (by decide); intro e_; exact h_ (by rw [e_]; rfl)) _; exact BK369.out⟩
          have n6_ : Aside0 ((w59.setCell ⟨go45, (t385 : Int).toNat * 3 + 1, none⟩ (.string (((rd_T57 t370 t385).f1) ++ (a2.extract 0 ((ji39) : Int).toNat)))).heap[gb384]? = some (.cells #[.slice (some ⟨go45, 0, none⟩) t370.length co13, .slice Ao17 t373.length co17, .slice Ao18 t376.length co18, .slice Ao19 t379.length co19, .int .i64 t382, .int .i64 t383] 32 (0, 0))) := ⟨by refine blk_far ?_ (by have h_ := Kd.R_ne HO_385000.out BK384.out (by decide); intro e_; exact h_ (by rw [e_]; rfl)) _; exact BK384.out⟩
          have n7_ : Aside0 (Below w.heap.size w (w59.setCell ⟨go45, (t385 : Int).toNat * 3 + 1, none⟩ (.string (((rd_T57 t370 t385).f1) ++ (a2.extract 0 ((ji39) : Int).toNat))))) := ⟨by repeat (with_reducible first | exact HB.out | refine below_set ?_ GB45.out)⟩
          (try clear HO_385000)
          (try clear HO_385001)
          (try clear HO_385002)
          (try clear HO_385003)
          (try clear BK368)
          (try clear BK369)
          (try clear BK384)
          (try clear HB)
          generalize (w59.setCell ⟨go45, (t385 : Int).toNat * 3 + 1, none⟩ (.string (((rd_T57 t370 t385).f1) ++ (a2.extract 0 ((ji39) : Int).toNat)))) = w61 at n0_ n1_ n2_ n3_ n4_ n5_ n6_ n7_ ⊢
          have HO_385000 := n0_
          have HO_385001 := n1_
          have HO_385002 := n2_
          have HO_385003 := n3_
          have BK368 := n4_
          have BK369 := n5_
          have BK384 := n6_
          have HB := n7_
          clear n0_ n1_ n2_ n3_ n4_ n5_ n6_ n7_
          have hcz64_0 : w61.cell? ⟨gb384, 0, none⟩ = some (.slice (some ⟨go45, 0, none⟩) t370.length co13) := (blk_cell BK384.out 0).trans rfl
          have hcz64_1 : w61.cell? ⟨gb384, 1, none⟩ = some (.slice Ao17 t373.length co17) := (blk_cell BK384.out 1).trans rfl
          have hcz64_2 : w61.cell? ⟨gb384, 2, none⟩ = some (.slice Ao18 t376.length co18) := (blk_cell BK384.out 2).trans rfl
          have hcz64_3 : w61.cell? ⟨gb384, 3, none⟩ = some (.slice Ao19 t379.length co19) := (blk_cell BK384.out 3).trans rfl
          have hcz64_4 : w61.cell? ⟨gb384, 4, none⟩ = some (.int .i64 t382) := (blk_cell BK384.out 4).trans rfl
          have hcz64_5 : w61.cell? ⟨gb384, 5, none⟩ = some (.int .i64 t383) := (blk_cell BK384.out 5).trans rfl
          have hcz66_0 : w61.cell? ⟨gb369, 0, none⟩ = some (.slice none 0 0) := (blk_cell BK369.out 0).trans rfl
          have hcz66_1 : w61.cell? ⟨gb369, 1, none⟩ = some (.slice none 0 0) := (blk_cell BK369.out 1).trans rfl
          have hcz66_2 : w61.cell? ⟨gb369, 2, none⟩ = some (.slice none 0 0) := (blk_cell BK369.out 2).trans rfl
          have hcz66_3 : w61.cell? ⟨gb369, 3, none⟩ = some (.slice none 0 0) := (blk_cell BK369.out 3).trans rfl
          have hcz66_4 : w61.cell? ⟨gb369, 4, none⟩ = some (.int .i64 0) := (blk_cell BK369.out 4).trans rfl
          have hcz66_5 : w61.cell? ⟨gb369, 5, none⟩ = some (.int .i64 0) := (blk_cell BK369.out 5).trans rfl
          have hfz66_0 := blk_frozen BK369.out 0
          have hfz66_1 := blk_frozen BK369.out 1
          have hfz66_2 := blk_frozen BK369.out 2
          have hfz66_3 := blk_frozen BK369.out 3
          have hfz66_4 := blk_frozen BK369.out 4
          have hfz66_5 := blk_frozen BK369.out 5
          try go_wp2
          refine bodyPost_ret (results_ct rfl _ _ gb369 32 #[.slice (some ⟨go45, 0, none⟩) t370.length co13, .slice Ao17 t373.length co17, .slice Ao18 t376.length co18, .slice Ao19 t379.length co19, .int .i64 t382, .int .i64 t383] (0, 0) _ rfl (by refine blk_put (cs := #[.slice (some ⟨go45, 0, none⟩) t370.length co13, .slice Ao17 t373.length co17, .slice Ao18 t376.length co18, .slice Ao19 t379.length co19, .int .i64 t382, .int .i64 0]) ?_ 5 _ rfl; refine blk_put (cs := #[.slice (some ⟨go45, 0, none⟩) t370.length co13, .slice Ao17 t373.length co17, .slice Ao18 t376.length co18, .slice Ao19 t379.length co19, .int .i64 0, .int .i64 0]) ?_ 4 _ rfl; refine blk_put (cs := #[.slice (some ⟨go45, 0, none⟩) t370.length co13, .slice Ao17 t373.length co17, .slice Ao18 t376.length co18, .slice none 0 0, .int .i64 0, .int .i64 0]) ?_ 3 _ rfl; refine blk_put (cs := #[.slice (some ⟨go45, 0, none⟩) t370.length co13, .slice Ao17 t373.length co17, .slice none 0 0, .slice none 0 0, .int .i64 0, .int .i64 0]) ?_ 2 _ rfl; refine blk_put (cs := #[.slice (some ⟨go45, 0, none⟩) t370.length co13, .slice none 0 0, .slice none 0 0, .slice none 0 0, .int .i64 0, .int .i64 0]) ?_ 1 _ rfl; refine blk_put (cs := #[.slice none 0 0, .slice none 0 0, .slice none 0 0, .slice none 0 0, .int .i64 0, .int .i64 0]) ?_ 0 _ rfl; exact BK369.out) Tryz.underlying32 rfl (by kernel_rfl)) rfl ?_
          all_goals exact ⟨_, _, _, _, by first | rfl | (simp [errW_none, errW_some] <;> rfl) | (simp only [← hji39]; first | rfl | (simp [errW_none, errW_some] <;> rfl)) | (simp [*, errW_none, errW_some] <;> rfl) | (exfalso; simp only [decide_eq_true_eq, decide_eq_false_iff_not] at *; omega), by exact Kd.R_mono (Kd.R_far (p := ⟨gb369, 5, none⟩) (Kd.R_far (p := ⟨gb369, 4, none⟩) (Kd.R_far (p := ⟨gb369, 3, none⟩) (Kd.R_far (p := ⟨gb369, 2, none⟩) (Kd.R_far (p := ⟨gb369, 1, none⟩) (Kd.R_far (p := ⟨gb369, 0, none⟩) (Kd.R_types HO_385000.out BK369.out (by decide)) (fun _ hk => hk.2) (.slice (some ⟨go45, 0, none⟩) t370.length co13)) (fun _ hk => hk.2) (.slice Ao17 t373.length co17)) (fun _ hk => hk.2) (.slice Ao18 t376.length co18)) (fun _ hk => hk.2) (.slice Ao19 t379.length co19)) (fun _ hk => hk.2) (.int .i64 t382)) (fun _ hk => hk.2) (.int .i64 t383)) (fun _ hk => trivial), by exact Kd.R_mono (Kd.R_far (p := ⟨gb369, 5, none⟩) (Kd.R_far (p := ⟨gb369, 4, none⟩) (Kd.R_far (p := ⟨gb369, 3, none⟩) (Kd.R_far (p := ⟨gb369, 2, none⟩) (Kd.R_far (p := ⟨gb369, 1, none⟩) (Kd.R_far (p := ⟨gb369, 0, none⟩) (Kd.R_types HO_385001.out BK369.out (by decide)) (fun _ hk => hk.2) (.slice (some ⟨go45, 0, none⟩) t370.length co13)) (fun _ hk => hk.2) (.slice Ao17 t373.length co17)) (fun _ hk => hk.2) (.slice Ao18 t376.length co18)) (fun _ hk => hk.2) (.slice Ao19 t379.length co19)) (fun _ hk => hk.2) (.int .i64 t382)) (fun _ hk => hk.2) (.int .i64 t383)) (fun _ hk => hk.1), by exact Kd.R_mono (Kd.R_far (p := ⟨gb369, 5, none⟩) (Kd.R_far (p := ⟨gb369, 4, none⟩) (Kd.R_far (p := ⟨gb369, 3, none⟩) (Kd.R_far (p := ⟨gb369, 2, none⟩) (Kd.R_far (p := ⟨gb369, 1, none⟩) (Kd.R_far (p := ⟨gb369, 0, none⟩) (Kd.R_types HO_385002.out BK369.out (by decide)) (fun _ hk => hk.2) (.slice (some ⟨go45, 0, none⟩) t370.length co13)) (fun _ hk => hk.2) (.slice Ao17 t373.length co17)) (fun _ hk => hk.2) (.slice Ao18 t376.length co18)) (fun _ hk => hk.2) (.slice Ao19 t379.length co19)) (fun _ hk => hk.2) (.int .i64 t382)) (fun _ hk => hk.2) (.int .i64 t383)) (fun _ hk => hk.1), by exact Kd.R_mono (Kd.R_far (p := ⟨gb369, 5, none⟩) (Kd.R_far (p := ⟨gb369, 4, none⟩) (Kd.R_far (p := ⟨gb369, 3, none⟩) (Kd.R_far (p := ⟨gb369, 2, none⟩) (Kd.R_far (p := ⟨gb369, 1, none⟩) (Kd.R_far (p := ⟨gb369, 0, none⟩) (Kd.R_types HO_385003.out BK369.out (by decide)) (fun _ hk => hk.2) (.slice (some ⟨go45, 0, none⟩) t370.length co13)) (fun _ hk => hk.2) (.slice Ao17 t373.length co17)) (fun _ hk => hk.2) (.slice Ao18 t376.length co18)) (fun _ hk => hk.2) (.slice Ao19 t379.length co19)) (fun _ hk => hk.2) (.int .i64 t382)) (fun _ hk => hk.2) (.int .i64 t383)) (fun _ hk => trivial), by repeat (with_reducible first | exact HB.out | refine below_set ?_ GE369.out)⟩
        ·rw [if_neg c44] at H
         exact absurd H (by simp)
       ·rw [if_neg c43] at H
        exact absurd H (by simp)
      ·rw [if_neg c42] at H
       exact absurd H (by simp)
     ·rw [if_neg c41] at H
      exact absurd H (by simp)
    ·rw [if_neg c40] at H
     exact absurd H (by simp)

end Go.Proofs.YtbcidclclckgfaaGreatDoor.MFnExactAppendFile
