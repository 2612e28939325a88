/- Each theorem here says that a call of one Go function answers what the Lean function beside it answers; its conditions stand in it. Written by a program of this session. -/
import Derived.Test.YthbffdjjmapaaaaGreatDoorMFnDisksx0
import Derived.Test.YthbffdjjmapaaaaGreatDoorMFnDisksx2
import Derived.Test.YthbffdjjmapaaaaGreatDoorMFnDisksx10
import Derived.Test.YthbffdjjmapaaaaGreatDoorMFnDisksx12
import Derived.Test.YthbffdjjmapaaaaGreatDoorMFnDisksx13
import Derived.Test.YthbffdjjmapaaaaGreatDoorMFnDisksx14
namespace Go.Proofs.YthbffdjjmapaaaaGreatDoor.MFnDisks
open Go.RowKit Go.Proofs.YthbffdjjmapaaaaGreatDoorW.PrintWords Go.Proofs.YthbffdjjmapaaaaGreatDoorW.PrintLast Go.Proofs.YthbffdjjmapaaaaGreatDoorW.PrintMore
attribute [local go_sem] max2_int min2_int max_two min_two max_three min_three max_four min_four   -- for this text's walks alone
set_option linter.unusedVariables false
set_option linter.unusedSimpArgs false

/-! ### spec_l05Name: function 52 -/
def spec_l05Name.f (s0_0 : List Int) (s0_1 : Int) (s0_2 : Int) : Option (ByteArray × Int × Int) := (spec_l01Pick.f s0_0 s0_1 s0_2 (([(⟨#[97]⟩ : ByteArray), (⟨#[98]⟩ : ByteArray), (⟨#[115, 48, 48, 48, 48, 48, 48, 48, 48, 46, 115, 101, 103]⟩ : ByteArray), (⟨#[115, 48, 48, 48, 48, 48, 48, 48, 51, 46, 115, 101, 103]⟩ : ByteArray), (⟨#[115, 48, 48, 48, 48, 48, 48, 48, 48, 46, 115, 101, 103, 46, 116, 109, 112]⟩ : ByteArray), (⟨#[99]⟩ : ByteArray), (⟨#[120]⟩ : ByteArray), (⟨#[]⟩ : ByteArray), (⟨#[65]⟩ : ByteArray)] : List ByteArray))).bind fun bt310 => (some (bt310.1, bt310.2.1, bt310.2.2))
set_option maxHeartbeats 8000000 in
set_option maxRecDepth 100000 in
theorem spec_l05Name.calls (g : Nat) (s0_0 : List Int) (s0_1 : Int) (s0_2 : Int) (r1 : ByteArray) (r2 : Int) (r3 : Int) (w0 w : World) (hI : IsS89 w0 w g s0_0 s0_1 s0_2) (hB : Below w0.heap.size w0 w) (h : spec_l05Name.f s0_0 s0_1 s0_2 = some (r1, r2, r3)) :
  Calls Tryz.prog 52 #[.pointer (some ⟨g, 0, none⟩)] w fun e w' => e = .returned (.string r1) ∧ IsS89 w0 w' g s0_0 r2 r3 ∧ Below w0.heap.size w0 w' ∧ KeepBut w w' g none := by
 have HI0 := Aside0.mk hI
 have HK := Aside0.mk (KeepBut.refl w g none)
 clear hI
 have HB := Aside0.mk hB
 clear hB
 have H : ((spec_l01Pick.f s0_0 s0_1 s0_2 (([(⟨#[97]⟩ : ByteArray), (⟨#[98]⟩ : ByteArray), (⟨#[115, 48, 48, 48, 48, 48, 48, 48, 48, 46, 115, 101, 103]⟩ : ByteArray), (⟨#[115, 48, 48, 48, 48, 48, 48, 48, 51, 46, 115, 101, 103]⟩ : ByteArray), (⟨#[115, 48, 48, 48, 48, 48, 48, 48, 48, 46, 115, 101, 103, 46, 116, 109, 112]⟩ : ByteArray), (⟨#[99]⟩ : ByteArray), (⟨#[120]⟩ : ByteArray), (⟨#[]⟩ : ByteArray), (⟨#[65]⟩ : ByteArray)] : List ByteArray))).bind fun bt310 => (some (bt310.1, bt310.2.1, bt310.2.2))) = some (r1, r2, r3) := h
 clear h
 obtain ⟨y307, hy307⟩ : ∃ y_ : List ByteArray, y_ = (([(⟨#[97]⟩ : ByteArray), (⟨#[98]⟩ : ByteArray), (⟨#[115, 48, 48, 48, 48, 48, 48, 48, 48, 46, 115, 101, 103]⟩ : ByteArray), (⟨#[115, 48, 48, 48, 48, 48, 48, 48, 51, 46, 115, 101, 103]⟩ : ByteArray), (⟨#[115, 48, 48, 48, 48, 48, 48, 48, 48, 46, 115, 101, 103, 46, 116, 109, 112]⟩ : ByteArray), (⟨#[99]⟩ : ByteArray), (⟨#[120]⟩ : ByteArray), (⟨#[]⟩ : ByteArray), (⟨#[65]⟩ : ByteArray)] : List ByteArray)) := ⟨_, rfl⟩
 replace H : ((spec_l01Pick.f s0_0 s0_1 s0_2 y307).bind fun bt310 => (some (bt310.1, bt310.2.1, bt310.2.2))) = some (r1, r2, r3) := by (rw [hy307]; with_reducible exact H)
 have Ny307 := Aside0.mk hy307
 clear hy307
 obtain ⟨⟨t310, t311, t312⟩, A2, H⟩ := bA H
 replace H : (some (t310, t311, t312)) = some (r1, r2, r3) := H
 simp only [Option.some.injEq, Prod.mk.injEq] at H
 obtain ⟨rfl, rfl, rfl⟩ := H
 go_enter Tryz.func52, Tryz.ntmps52
 go_wp2_with (first | ((with_reducible refine gate_dst (N := 4) rfl ?_); refine Kd.R_lit Kd.string _ 9 ?hg (N := 4) ?hd (xs := ([(⟨#[97]⟩ : ByteArray), (⟨#[98]⟩ : ByteArray), (⟨#[115, 48, 48, 48, 48, 48, 48, 48, 48, 46, 115, 101, 103]⟩ : ByteArray), (⟨#[115, 48, 48, 48, 48, 48, 48, 48, 51, 46, 115, 101, 103]⟩ : ByteArray), (⟨#[115, 48, 48, 48, 48, 48, 48, 48, 48, 46, 115, 101, 103, 46, 116, 109, 112]⟩ : ByteArray), (⟨#[99]⟩ : ByteArray), (⟨#[120]⟩ : ByteArray), (⟨#[]⟩ : ByteArray), (⟨#[65]⟩ : ByteArray)] : List ByteArray)) (inner := [.string (⟨#[97]⟩ : ByteArray), .string (⟨#[98]⟩ : ByteArray), .string (⟨#[115, 48, 48, 48, 48, 48, 48, 48, 48, 46, 115, 101, 103]⟩ : ByteArray), .string (⟨#[115, 48, 48, 48, 48, 48, 48, 48, 51, 46, 115, 101, 103]⟩ : ByteArray), .string (⟨#[115, 48, 48, 48, 48, 48, 48, 48, 48, 46, 115, 101, 103, 46, 116, 109, 112]⟩ : ByteArray), .string (⟨#[99]⟩ : ByteArray), .string (⟨#[120]⟩ : ByteArray), .string (⟨#[]⟩ : ByteArray), .string (⟨#[65]⟩ : ByteArray)]) (ok := fun _ => True) (okp := fun _ => True) ?hr ?hp (fun _ hk => hk) trivial (Below.refl _ _) (Nat.le_refl _) (by simp) ?_; (case hd => rfl); (case hg => rfl); (case hr => (go_simp; done)); (case hp => exact (Reps.one (show Kd.M Kd.string _ _ _ (⟨#[97]⟩ : ByteArray) [.string (⟨#[97]⟩ : ByteArray)] from rfl) (Reps.one (show Kd.M Kd.string _ _ _ (⟨#[98]⟩ : ByteArray) [.string (⟨#[98]⟩ : ByteArray)] from rfl) (Reps.one (show Kd.M Kd.string _ _ _ (⟨#[115, 48, 48, 48, 48, 48, 48, 48, 48, 46, 115, 101, 103]⟩ : ByteArray) [.string (⟨#[115, 48, 48, 48, 48, 48, 48, 48, 48, 46, 115, 101, 103]⟩ : ByteArray)] from rfl) (Reps.one (show Kd.M Kd.string _ _ _ (⟨#[115, 48, 48, 48, 48, 48, 48, 48, 51, 46, 115, 101, 103]⟩ : ByteArray) [.string (⟨#[115, 48, 48, 48, 48, 48, 48, 48, 51, 46, 115, 101, 103]⟩ : ByteArray)] from rfl) (Reps.one (show Kd.M Kd.string _ _ _ (⟨#[115, 48, 48, 48, 48, 48, 48, 48, 48, 46, 115, 101, 103, 46, 116, 109, 112]⟩ : ByteArray) [.string (⟨#[115, 48, 48, 48, 48, 48, 48, 48, 48, 46, 115, 101, 103, 46, 116, 109, 112]⟩ : ByteArray)] from rfl) (Reps.one (show Kd.M Kd.string _ _ _ (⟨#[99]⟩ : ByteArray) [.string (⟨#[99]⟩ : ByteArray)] from rfl) (Reps.one (show Kd.M Kd.string _ _ _ (⟨#[120]⟩ : ByteArray) [.string (⟨#[120]⟩ : ByteArray)] from rfl) (Reps.one (show Kd.M Kd.string _ _ _ (⟨#[]⟩ : ByteArray) [.string (⟨#[]⟩ : ByteArray)] from rfl) (Reps.one (show Kd.M Kd.string _ _ _ (⟨#[65]⟩ : ByteArray) [.string (⟨#[65]⟩ : ByteArray)] from rfl) (Reps.none _ _))))))))))); intro v308 w3 ho4 hb hg_ hnew_; clear hg_ hnew_; (rw [← Ny307.out] at ho4); have HO309 := Aside0.mk (Kd.R_lower ho4 (keep_size (w := w) (g := g) (row := none) HK.out)); replace HI0 := Aside0.mk (IsS89.below HI0.out hb); replace HK := Aside0.mk (KeepBut.trans HK.out (KeepBut.of_below hb g none) (.inl rfl)); replace HB := Aside0.mk (below_step HB.out hb); clear hb ho4; obtain ⟨Ao5, co5, eo5⟩ := Kd.R_slice HO309.out; subst eo5) | ((with_reducible refine gate_callee (f := 76) rfl ?_); refine goesL_ (some 5) rfl rfl Tryz.func76 (by kernel_rfl) rfl #[.pointer (some ⟨g, 0, none⟩), .slice Ao5 y307.length co5] rfl (by (try simp only [List.map_toArray, List.map_cons, List.map_nil]); rfl) ?_; (with_reducible refine (spec_l01Pick.calls g s0_0 s0_1 s0_2 _ _ y307 t310 t311 t312 w0 _ ?side1 ?side2 ?side3 ?side4 ?side5 A2.out).mono ?_); (case side1 => repeat (with_reducible exact HI0.out)); (case side2 => repeat (with_reducible exact HB.out)); (case side3 => repeat (exact (Kd.R_reads' HO309.out).2.2)); (case side4 => exact (Kd.R_reads' HO309.out).2.1); (case side5 => exact far_slice (IsS89.own_ne HI0.out HO309.out (by decide))); rintro e w6 ⟨rfl, hi, hb, hk⟩; refine ⟨_, rfl, ?_⟩; replace HO309 := Aside0.mk (Kd.R_mono (Kd.R_keep (IsS89.apart (show IsS89 w0 _ g s0_0 s0_1 s0_2 from by repeat (with_reducible exact HI0.out)) HO309.out (by decide)) hk (fun _ h => h.2)) (fun _ h => h.1)); replace HK := Aside0.mk (KeepBut.trans HK.out hk (.inl rfl)); replace HB := Aside0.mk (hb); replace HI0 := Aside0.mk (hi); (try clear hb); (try clear hk); (try clear hi)))
 all_goals (go_ret)
 all_goals exact ⟨by rfl, by repeat (with_reducible exact HI0.out), by repeat (with_reducible exact HB.out), by repeat (with_reducible exact HK.out)⟩

/-! ### spec_l05Ask: function 48 -/
def spec_l05Ask.f (k : Nat) (l0 : List Int) : Option ((List (S38)) × (List (S64)) × (List (S64)) × List ByteArray × Int × Int × ByteArray) := (spec_l01New.f k l0).bind fun bt314 => ((spec_l05Any.f k bt314.1 bt314.2.1 bt314.2.2).bind fun bt318 => ((spec_l05Name.f bt314.1 bt318.2.2.2.2.2.2.1 bt318.2.2.2.2.2.2.2).bind fun bt335 => (some (bt318.1, bt318.2.1, bt318.2.2.1, bt318.2.2.2.1, bt318.2.2.2.2.1, bt318.2.2.2.2.2.1, bt335.1))))
theorem spec_l05Ask.mono : ∀ a0 k, LeO (spec_l05Ask.f k a0) (spec_l05Ask.f (k + 1) a0) := by
 intro a0 k
 unfold spec_l05Ask.f
 repeat' first | (with_reducible exact spec_l01New.mono _ _) | (with_reducible exact spec_l05Any.mono _ _ _ _) | (with_reducible exact LeO.refl _) | (with_reducible refine LeO.bind ?_ (fun _ => ?_))
set_option maxHeartbeats 8000000 in
set_option maxRecDepth 100000 in
theorem spec_l05Ask.calls (k : Nat) (A0 : Option Addr) (c0 : Nat) (l0 : List Int) (r1 : List (S38)) (r2 : List (S64)) (r3 : List (S64)) (r4 : List ByteArray) (r5 : Int) (r6 : Int) (r7 : ByteArray) (w : World) (hr0 : Kd.C (Kd.int .u8) w A0 l0.length l0) (hc0 : l0.length ≤ c0) (h : spec_l05Ask.f k l0 = some (r1, r2, r3, r4, r5, r6, r7)) :
  Calls Tryz.prog 48 #[.slice A0 l0.length c0] w fun e w' => ∃ v0_ v1_ v2_ v3_ : Value, e = .returned (.tuple #[.agg #[v0_, v1_, v2_, v3_, .int .i64 r5, .int .i64 r6], .string r7]) ∧ Kd.R k38 38 w' w.heap.size (fun _ => True) v0_ r1 ∧ Kd.R k64 64 w' w.heap.size (fun k_ => some k_ ≠ (v2_ : Value).ownBlock) v1_ r2 ∧ Kd.R k64 64 w' w.heap.size (fun k_ => some k_ ≠ (v1_ : Value).ownBlock) v2_ r3 ∧ Kd.R Kd.string 9 w' w.heap.size (fun _ => True) v3_ r4 ∧ Below w.heap.size w w' := by
 have hu28 := Tryz.underlying28
 have HR0 := Aside0.mk hr0
 have HC0 := Aside0.mk hc0
 clear hr0 hc0
 have HB := Aside0.mk (Below.refl w.heap.size w)
 have H : ((spec_l01New.f k l0).bind fun bt314 => ((spec_l05Any.f k bt314.1 bt314.2.1 bt314.2.2).bind fun bt318 => ((spec_l05Name.f bt314.1 bt318.2.2.2.2.2.2.1 bt318.2.2.2.2.2.2.2).bind fun bt335 => (some (bt318.1, bt318.2.1, bt318.2.2.1, bt318.2.2.2.1, bt318.2.2.2.2.1, bt318.2.2.2.2.2.1, bt335.1))))) = some (r1, r2, r3, r4, r5, r6, r7) := h
 clear h
 obtain ⟨⟨t314, t315, t316⟩, A2, H⟩ := bA H
 replace H : ((spec_l05Any.f k t314 t315 t316).bind fun bt318 => ((spec_l05Name.f t314 bt318.2.2.2.2.2.2.1 bt318.2.2.2.2.2.2.2).bind fun bt335 => (some (bt318.1, bt318.2.1, bt318.2.2.1, bt318.2.2.2.1, bt318.2.2.2.2.1, bt318.2.2.2.2.2.1, bt335.1)))) = some (r1, r2, r3, r4, r5, r6, r7) := H
 obtain ⟨⟨t318, t321, t324, t327, t330, t331, t332, t333⟩, A3, H⟩ := bA H
 replace H : ((spec_l05Name.f t314 t332 t333).bind fun bt335 => (some (t318, t321, t324, t327, t330, t331, bt335.1))) = some (r1, r2, r3, r4, r5, r6, r7) := H
 obtain ⟨⟨t335, t336, t337⟩, A4, H⟩ := bA H
 replace H : (some (t318, t321, t324, t327, t330, t331, t335)) = some (r1, r2, r3, r4, r5, r6, r7) := H
 simp only [Option.some.injEq, Prod.mk.injEq] at H
 obtain ⟨rfl, rfl, rfl, rfl, rfl, rfl, rfl⟩ := H
 go_enter Tryz.func48, Tryz.ntmps48
 try go_wp2_with (first | ((with_reducible refine gate_dst (N := 2) rfl ?_); refine box_event ?hg (N := 2) ?hd (cs := #[.slice none 0 0, .slice none 0 0, .slice none 0 0, .slice none 0 0, .int .i64 0, .int .i64 0]) (t := 28) ?hr ?_; (case hd => rfl); (case hg => rfl); (case hr => first | (go_simp; done) | (go_simp; rfl)); intro gb313 hg w5 hbox hb; have n0_ := Aside0.mk (below_step (by repeat (first | (with_reducible first | exact HB.out | apply below_alloc | apply pw_below_drewN | apply below_drew1) | exact HB.out)) hb); have n1_ := Aside0.mk (hbox); have n2_ := Aside0.mk ((by rw [hg]; exact (below_size (by repeat (first | (with_reducible first | exact HB.out | apply below_alloc | apply pw_below_drewN | apply below_drew1) | exact HB.out))) : w.heap.size ≤ gb313)); have n3_ := Aside0.mk ((by rw [hg]; exact (below_size (by repeat (first | (with_reducible first | exact HB.out | apply below_alloc | apply pw_below_drewN | apply below_drew1) | exact HB.out))) : w.heap.size ≤ gb313)); clear HB; have HB := n0_; have BK313 := n1_; have GW313 := n2_; have GE313 := n3_; clear n0_ n1_ n2_ n3_; clear hb hbox hg) | ((with_reducible refine gate_callee (f := 37) rfl ?_); refine goesL_ (some 7) rfl rfl Tryz.func37 (by kernel_rfl) rfl #[.slice A0 l0.length c0] rfl (by (try simp only [List.map_toArray, List.map_cons, List.map_nil]); first | done | rfl | (simp only [List.length_drop, List.length_take]; rfl) | (go_simp; done) | (go_simp; unfold wrap64; (repeat (first | with_reducible rfl | omega | with_reducible congr 1)); done)) ?_; (with_reducible refine (spec_l01New.calls k _ _ l0 t314 t315 t316 w _ ?side1 ?side2 ?side3 A2.out).mono ?_); (case side1 => repeat (first | (with_reducible first | exact HB.out | apply below_alloc | apply pw_below_drewN | apply below_drew1 | refine below_set ?_ GE313.out) | exact HB.out)); (case side2 => exact HR0.out); (case side3 => exact HC0.out); rintro e w6 ⟨g317, rfl, hi, hb, hb2⟩; refine ⟨_, rfl, ?_⟩; have n0_ := Aside0.mk (blk_below (g := gb313) (o := .cells #[.slice none 0 0, .slice none 0 0, .slice none 0 0, .slice none 0 0, .int .i64 0, .int .i64 0] 28 (0, 0)) (by (with_reducible repeat (first | refine blk_drewN ?_ _ | refine blk_drew ?_ | refine blk_alloc ?_ _)); exact BK313.out) hb2); have n1_ := Aside0.mk (hb); have n2_ := Aside0.mk (hi); have n3_ := Aside0.mk (IsS89.ne_blk hi (blk_below (g := gb313) (o := .cells #[.slice none 0 0, .slice none 0 0, .slice none 0 0, .slice none 0 0, .int .i64 0, .int .i64 0] 28 (0, 0)) (by (with_reducible repeat (first | refine blk_drewN ?_ _ | refine blk_drew ?_ | refine blk_alloc ?_ _)); exact BK313.out) hb2) (by decide)); have n4_ := Aside0.mk (Ne.symm (IsS89.ne_blk hi (blk_below (g := gb313) (o := .cells #[.slice none 0 0, .slice none 0 0, .slice none 0 0, .slice none 0 0, .int .i64 0, .int .i64 0] 28 (0, 0)) (by (with_reducible repeat (first | refine blk_drewN ?_ _ | refine blk_drew ?_ | refine blk_alloc ?_ _)); exact BK313.out) hb2) (by decide))); clear BK313; clear HB; have BK313 := n0_; have HB := n1_; have HI317 := n2_; have NB317_313 := n3_; have NB313_317 := n4_; clear n0_ n1_ n2_ n3_ n4_; (try clear hb); (try clear hb2); (try clear hk); (try clear hi)) | ((with_reducible refine gate_callee (f := 36) rfl ?_); refine goesL_ (some 9) rfl rfl Tryz.func36 (by kernel_rfl) rfl #[.pointer (some ⟨g317, 0, none⟩)] rfl (by (try simp only [List.map_toArray, List.map_cons, List.map_nil]); first | done | rfl | (simp only [List.length_drop, List.length_take]; rfl) | (go_simp; done) | (go_simp; unfold wrap64; (repeat (first | with_reducible rfl | omega | with_reducible congr 1)); done)) ?_; (with_reducible refine (spec_l05Any.calls k g317 t314 t315 t316 t318 t321 t324 t327 t330 t331 t332 t333 w _ ?side1 ?side2 A3.out).mono ?_); (case side1 => repeat (first | (with_reducible first | exact HI317.out | apply IsS89.alloc | apply IsS89.drewN | apply IsS89.drew | apply IsS89.set_1 | apply IsS89.set_2 | refine IsS89.far ?_ NB317_313.out _) | exact HI317.out)); (case side2 => repeat (first | (with_reducible first | exact HB.out | apply below_alloc | apply pw_below_drewN | apply below_drew1 | refine below_set ?_ (IsS89.ge HI317.out) | refine below_set ?_ GE313.out) | exact HB.out)); rintro e w7 ⟨v319, v322, v325, v328, rfl, ho0, ho1, ho2, ho3, hi, hb, hk⟩; refine ⟨_, rfl, ?_⟩; have n0_ := Aside0.mk (KeepBut.blk hk (g' := gb313) (o := .cells #[.slice none 0 0, .slice none 0 0, .slice none 0 0, .slice none 0 0, .int .i64 0, .int .i64 0] 28 (0, 0)) (by (with_reducible repeat (first | refine blk_drewN ?_ _ | refine blk_drew ?_ | refine blk_alloc ?_ _)); exact BK313.out) NB313_317.out (by simp)); have n1_ := Aside0.mk (Kd.R_lower ho0 (below_size (by repeat (first | (with_reducible first | exact HB.out | apply below_alloc | apply pw_below_drewN | apply below_drew1 | refine below_set ?_ (IsS89.ge HI317.out) | refine below_set ?_ GE313.out) | exact HB.out)))); have n2_ := Aside0.mk (Kd.R_lower ho1 (below_size (by repeat (first | (with_reducible first | exact HB.out | apply below_alloc | apply pw_below_drewN | apply below_drew1 | refine below_set ?_ (IsS89.ge HI317.out) | refine below_set ?_ GE313.out) | exact HB.out)))); have n3_ := Aside0.mk (Kd.R_lower ho2 (below_size (by repeat (first | (with_reducible first | exact HB.out | apply below_alloc | apply pw_below_drewN | apply below_drew1 | refine below_set ?_ (IsS89.ge HI317.out) | refine below_set ?_ GE313.out) | exact HB.out)))); have n4_ := Aside0.mk (Kd.R_lower ho3 (below_size (by repeat (first | (with_reducible first | exact HB.out | apply below_alloc | apply pw_below_drewN | apply below_drew1 | refine below_set ?_ (IsS89.ge HI317.out) | refine below_set ?_ GE313.out) | exact HB.out)))); have n5_ := Aside0.mk (hb); have n6_ := Aside0.mk (hi); clear BK313; clear HB; clear HI317; have BK313 := n0_; have HO320 := n1_; have HO323 := n2_; have HO326 := n3_; have HO329 := n4_; have HB := n5_; have HI317 := n6_; clear n0_ n1_ n2_ n3_ n4_ n5_ n6_; (try clear hb); (try clear hb2); (try clear hk); (try clear hi); (try clear ho0); (try clear ho1); (try clear ho2); (try clear ho3)) | ((with_reducible refine gate_dst (N := 5) rfl ?_); refine box_event ?hg (N := 5) ?hd (cs := #[.slice none 0 0, .slice none 0 0, .slice none 0 0, .slice none 0 0, .int .i64 0, .int .i64 0]) (t := 28) ?hr ?_; (case hd => rfl); (case hg => rfl); (case hr => first | (go_simp; done) | (go_simp; rfl)); intro gb334 hg w8 hbox hb; have n0_ := Aside0.mk (Kd.R_below (by (with_reducible repeat (first | apply Kd.R_alloc | apply Kd.R_drewN | apply Kd.R_drew)); exact HO320.out) hb); have n1_ := Aside0.mk (Kd.R_below (by (with_reducible repeat (first | apply Kd.R_alloc | apply Kd.R_drewN | apply Kd.R_drew)); exact HO323.out) hb); have n2_ := Aside0.mk (Kd.R_below (by (with_reducible repeat (first | apply Kd.R_alloc | apply Kd.R_drewN | apply Kd.R_drew)); exact HO326.out) hb); have n3_ := Aside0.mk (Kd.R_below (by (with_reducible repeat (first | apply Kd.R_alloc | apply Kd.R_drewN | apply Kd.R_drew)); exact HO329.out) hb); have n4_ := Aside0.mk (blk_below (g := gb313) (o := .cells #[.slice none 0 0, .slice none 0 0, .slice none 0 0, .slice none 0 0, .int .i64 0, .int .i64 0] 28 (0, 0)) (by (with_reducible repeat (first | refine blk_drewN ?_ _ | refine blk_drew ?_ | refine blk_alloc ?_ _)); exact BK313.out) hb); have n5_ := Aside0.mk (IsS89.below (by repeat (first | (with_reducible first | exact HI317.out | apply IsS89.alloc | apply IsS89.drewN | apply IsS89.drew | apply IsS89.set_1 | apply IsS89.set_2 | refine IsS89.far ?_ NB317_313.out _) | exact HI317.out)) hb); have n6_ := Aside0.mk (below_step (by repeat (first | (with_reducible first | exact HB.out | apply below_alloc | apply pw_below_drewN | apply below_drew1 | refine below_set ?_ (IsS89.ge HI317.out) | refine below_set ?_ GE313.out) | exact HB.out)) hb); have n7_ := Aside0.mk (hbox); have n8_ := Aside0.mk ((by rw [hg]; exact (below_size (by repeat (first | (with_reducible first | exact HB.out | apply below_alloc | apply pw_below_drewN | apply below_drew1 | refine below_set ?_ (IsS89.ge HI317.out) | refine below_set ?_ GE313.out) | exact HB.out))) : w.heap.size ≤ gb334)); have n9_ := Aside0.mk ((by rw [hg]; exact (below_size (by repeat (first | (with_reducible first | exact HB.out | apply below_alloc | apply pw_below_drewN | apply below_drew1 | refine below_set ?_ (IsS89.ge HI317.out) | refine below_set ?_ GE313.out) | exact HB.out))) : w.heap.size ≤ gb334)); have n10_ := Aside0.mk ((by rw [hg]; exact Nat.ne_of_lt (blk_lt (g := gb313) (o := .cells #[.slice none 0 0, .slice none 0 0, .slice none 0 0, .slice none 0 0, .int .i64 0, .int .i64 0] 28 (0, 0)) (by (with_reducible repeat (first | refine blk_drewN ?_ _ | refine blk_drew ?_ | refine blk_alloc ?_ _)); exact BK313.out)) : gb313 ≠ gb334)); have n11_ := Aside0.mk ((by rw [hg]; exact Nat.ne_of_gt (blk_lt (g := gb313) (o := .cells #[.slice none 0 0, .slice none 0 0, .slice none 0 0, .slice none 0 0, .int .i64 0, .int .i64 0] 28 (0, 0)) (by (with_reducible repeat (first | refine blk_drewN ?_ _ | refine blk_drew ?_ | refine blk_alloc ?_ _)); exact BK313.out)) : gb334 ≠ gb313)); have n12_ := Aside0.mk ((by rw [hg]; exact Nat.ne_of_lt (IsS89.lt (show IsS89 w _ g317 t314 t332 t333 from by repeat (first | (with_reducible first | exact HI317.out | apply IsS89.alloc | apply IsS89.drewN | apply IsS89.drew | apply IsS89.set_1 | apply IsS89.set_2 | refine IsS89.far ?_ NB317_313.out _) | exact HI317.out))) : g317 ≠ gb334)); have n13_ := Aside0.mk ((by rw [hg]; exact Nat.ne_of_gt (IsS89.lt (show IsS89 w _ g317 t314 t332 t333 from by repeat (first | (with_reducible first | exact HI317.out | apply IsS89.alloc | apply IsS89.drewN | apply IsS89.drew | apply IsS89.set_1 | apply IsS89.set_2 | refine IsS89.far ?_ NB317_313.out _) | exact HI317.out))) : gb334 ≠ g317)); clear HO320; clear HO323; clear HO326; clear HO329; clear BK313; clear HI317; clear HB; have HO320 := n0_; have HO323 := n1_; have HO326 := n2_; have HO329 := n3_; have BK313 := n4_; have HI317 := n5_; have HB := n6_; have BK334 := n7_; have GW334 := n8_; have GE334 := n9_; have NB313_334 := n10_; have NB334_313 := n11_; have NB317_334 := n12_; have NB334_317 := n13_; clear n0_ n1_ n2_ n3_ n4_ n5_ n6_ n7_ n8_ n9_ n10_ n11_ n12_ n13_; clear hb hbox hg; obtain ⟨Ao9, co9, eo9⟩ := Kd.R_slice HO320.out; subst eo9; have hnb10 := NB334_313.out; have hnc10 := NB313_334.out; have hnb11 := NB334_317.out; have hnc11 := NB317_334.out; obtain ⟨hcz12_0, hcz12_1, hcz12_2, hcz12_3, hcz12_4, hcz12_5⟩ := b6of BK334.out; obtain ⟨hfz12_0, hfz12_1, hfz12_2, hfz12_3, hfz12_4, hfz12_5⟩ := z6of BK334.out; obtain ⟨Ao13, co13, eo13⟩ := Kd.R_slice HO323.out; subst eo13; obtain ⟨Ao14, co14, eo14⟩ := Kd.R_slice HO326.out; subst eo14; obtain ⟨Ao15, co15, eo15⟩ := Kd.R_slice HO329.out; subst eo15))
 have n0_ : Aside0 (Kd.R k38 38 ((((((w8.setCell ⟨gb334, 0, none⟩ (.slice Ao9 t318.length co9)).setCell ⟨gb334, 1, none⟩ (.slice Ao13 t321.length co13)).setCell ⟨gb334, 2, none⟩ (.slice Ao14 t324.length co14)).setCell ⟨gb334, 3, none⟩ (.slice Ao15 t327.length co15)).setCell ⟨gb334, 4, none⟩ (.int .i64 t330)).setCell ⟨gb334, 5, none⟩ (.int .i64 t331)) w.heap.size (fun _ => True) (.slice Ao9 t318.length co9) t318) := ⟨by (with_reducible repeat (first | apply Kd.R_alloc | apply Kd.R_drewN | apply Kd.R_drew)); exact Kd.R_mono (R6 (Kd.R_types HO320.out BK334.out (by decide)) (.slice Ao9 t318.length co9) (.slice Ao13 t321.length co13) (.slice Ao14 t324.length co14) (.slice Ao15 t327.length co15) (.int .i64 t330) (.int .i64 t331)) (fun _ hk => trivial)⟩
 have n1_ : Aside0 (Kd.R k64 64 ((((((w8.setCell ⟨gb334, 0, none⟩ (.slice Ao9 t318.length co9)).setCell ⟨gb334, 1, none⟩ (.slice Ao13 t321.length co13)).setCell ⟨gb334, 2, none⟩ (.slice Ao14 t324.length co14)).setCell ⟨gb334, 3, none⟩ (.slice Ao15 t327.length co15)).setCell ⟨gb334, 4, none⟩ (.int .i64 t330)).setCell ⟨gb334, 5, none⟩ (.int .i64 t331)) w.heap.size (fun k_ => some k_ ≠ (.slice Ao14 t324.length co14 : Value).ownBlock) (.slice Ao13 t321.length co13) t321) := ⟨by (with_reducible repeat (first | apply Kd.R_alloc | apply Kd.R_drewN | apply Kd.R_drew)); exact Kd.R_mono (R6 (Kd.R_types HO323.out BK334.out (by decide)) (.slice Ao9 t318.length co9) (.slice Ao13 t321.length co13) (.slice Ao14 t324.length co14) (.slice Ao15 t327.length co15) (.int .i64 t330) (.int .i64 t331)) (fun _ hk => hk.1)⟩
 have n2_ : Aside0 (Kd.R k64 64 ((((((w8.setCell ⟨gb334, 0, none⟩ (.slice Ao9 t318.length co9)).setCell ⟨gb334, 1, none⟩ (.slice Ao13 t321.length co13)).setCell ⟨gb334, 2, none⟩ (.slice Ao14 t324.length co14)).setCell ⟨gb334, 3, none⟩ (.slice Ao15 t327.length co15)).setCell ⟨gb334, 4, none⟩ (.int .i64 t330)).setCell ⟨gb334, 5, none⟩ (.int .i64 t331)) w.heap.size (fun k_ => some k_ ≠ (.slice Ao13 t321.length co13 : Value).ownBlock) (.slice Ao14 t324.length co14) t324) := ⟨by (with_reducible repeat (first | apply Kd.R_alloc | apply Kd.R_drewN | apply Kd.R_drew)); exact Kd.R_mono (R6 (Kd.R_types HO326.out BK334.out (by decide)) (.slice Ao9 t318.length co9) (.slice Ao13 t321.length co13) (.slice Ao14 t324.length co14) (.slice Ao15 t327.length co15) (.int .i64 t330) (.int .i64 t331)) (fun _ hk => hk.1)⟩
 have n3_ : Aside0 (Kd.R Kd.string 9 ((((((w8.setCell ⟨gb334, 0, none⟩ (.slice Ao9 t318.length co9)).setCell ⟨gb334, 1, none⟩ (.slice Ao13 t321.length co13)).setCell ⟨gb334, 2, none⟩ (.slice Ao14 t324.length co14)).setCell ⟨gb334, 3, none⟩ (.slice Ao15 t327.length co15)).setCell ⟨gb334, 4, none⟩ (.int .i64 t330)).setCell ⟨gb334, 5, none⟩ (.int .i64 t331)) w.heap.size (fun _ => True) (.slice Ao15 t327.length co15) t327) := ⟨by (with_reducible repeat (first | apply Kd.R_alloc | apply Kd.R_drewN | apply Kd.R_drew)); exact Kd.R_mono (R6 (Kd.R_types HO329.out BK334.out (by decide)) (.slice Ao9 t318.length co9) (.slice Ao13 t321.length co13) (.slice Ao14 t324.length co14) (.slice Ao15 t327.length co15) (.int .i64 t330) (.int .i64 t331)) (fun _ hk => trivial)⟩
 have n4_ : Aside0 (((((((w8.setCell ⟨gb334, 0, none⟩ (.slice Ao9 t318.length co9)).setCell ⟨gb334, 1, none⟩ (.slice Ao13 t321.length co13)).setCell ⟨gb334, 2, none⟩ (.slice Ao14 t324.length co14)).setCell ⟨gb334, 3, none⟩ (.slice Ao15 t327.length co15)).setCell ⟨gb334, 4, none⟩ (.int .i64 t330)).setCell ⟨gb334, 5, none⟩ (.int .i64 t331)).heap[gb313]? = some (.cells #[.slice none 0 0, .slice none 0 0, .slice none 0 0, .slice none 0 0, .int .i64 0, .int .i64 0] 28 (0, 0))) := ⟨by (with_reducible repeat (first | refine blk_drewN ?_ _ | refine blk_drew ?_ | refine blk_alloc ?_ _)); refine blk_far ?_ NB313_334.out _; (with_reducible repeat (first | refine blk_drewN ?_ _ | refine blk_drew ?_ | refine blk_alloc ?_ _)); refine blk_far ?_ NB313_334.out _; (with_reducible repeat (first | refine blk_drewN ?_ _ | refine blk_drew ?_ | refine blk_alloc ?_ _)); refine blk_far ?_ NB313_334.out _; (with_reducible repeat (first | refine blk_drewN ?_ _ | refine blk_drew ?_ | refine blk_alloc ?_ _)); refine blk_far ?_ NB313_334.out _; (with_reducible repeat (first | refine blk_drewN ?_ _ | refine blk_drew ?_ | refine blk_alloc ?_ _)); refine blk_far ?_ NB313_334.out _; (with_reducible repeat (first | refine blk_drewN ?_ _ | refine blk_drew ?_ | refine blk_alloc ?_ _)); refine blk_far ?_ NB313_334.out _; (with_reducible repeat (first | refine blk_drewN ?_ _ | refine blk_drew ?_ | refine blk_alloc ?_ _)); exact BK313.out⟩
 have n5_ : Aside0 (((((((w8.setCell ⟨gb334, 0, none⟩ (.slice Ao9 t318.length co9)).setCell ⟨gb334, 1, none⟩ (.slice Ao13 t321.length co13)).setCell ⟨gb334, 2, none⟩ (.slice Ao14 t324.length co14)).setCell ⟨gb334, 3, none⟩ (.slice Ao15 t327.length co15)).setCell ⟨gb334, 4, none⟩ (.int .i64 t330)).setCell ⟨gb334, 5, none⟩ (.int .i64 t331)).heap[gb334]? = some (.cells #[.slice Ao9 t318.length co9, .slice Ao13 t321.length co13, .slice Ao14 t324.length co14, .slice Ao15 t327.length co15, .int .i64 t330, .int .i64 t331] 28 (0, 0))) := ⟨by (with_reducible repeat (first | refine blk_drewN ?_ _ | refine blk_drew ?_ | refine blk_alloc ?_ _)); refine blk_put (cs := #[.slice Ao9 t318.length co9, .slice Ao13 t321.length co13, .slice Ao14 t324.length co14, .slice Ao15 t327.length co15, .int .i64 t330, .int .i64 0]) ?_ 5 _ rfl; (with_reducible repeat (first | refine blk_drewN ?_ _ | refine blk_drew ?_ | refine blk_alloc ?_ _)); refine blk_put (cs := #[.slice Ao9 t318.length co9, .slice Ao13 t321.length co13, .slice Ao14 t324.length co14, .slice Ao15 t327.length co15, .int .i64 0, .int .i64 0]) ?_ 4 _ rfl; (with_reducible repeat (first | refine blk_drewN ?_ _ | refine blk_drew ?_ | refine blk_alloc ?_ _)); refine blk_put (cs := #[.slice Ao9 t318.length co9, .slice Ao13 t321.length co13, .slice Ao14 t324.length co14, .slice none 0 0, .int .i64 0, .int .i64 0]) ?_ 3 _ rfl; (with_reducible repeat (first | refine blk_drewN ?_ _ | refine blk_drew ?_ | refine blk_alloc ?_ _)); refine blk_put (cs := #[.slice Ao9 t318.length co9, .slice Ao13 t321.length co13, .slice none 0 0, .slice none 0 0, .int .i64 0, .int .i64 0]) ?_ 2 _ rfl; (with_reducible repeat (first | refine blk_drewN ?_ _ | refine blk_drew ?_ | refine blk_alloc ?_ _)); refine blk_put (cs := #[.slice Ao9 t318.length co9, .slice none 0 0, .slice none 0 0, .slice none 0 0, .int .i64 0, .int .i64 0]) ?_ 1 _ rfl; (with_reducible repeat (first | refine blk_drewN ?_ _ | refine blk_drew ?_ | refine blk_alloc ?_ _)); refine blk_put (cs := #[.slice none 0 0, .slice none 0 0, .slice none 0 0, .slice none 0 0, .int .i64 0, .int .i64 0]) ?_ 0 _ rfl; (with_reducible repeat (first | refine blk_drewN ?_ _ | refine blk_drew ?_ | refine blk_alloc ?_ _)); exact BK334.out⟩
 have n6_ : Aside0 (IsS89 w ((((((w8.setCell ⟨gb334, 0, none⟩ (.slice Ao9 t318.length co9)).setCell ⟨gb334, 1, none⟩ (.slice Ao13 t321.length co13)).setCell ⟨gb334, 2, none⟩ (.slice Ao14 t324.length co14)).setCell ⟨gb334, 3, none⟩ (.slice Ao15 t327.length co15)).setCell ⟨gb334, 4, none⟩ (.int .i64 t330)).setCell ⟨gb334, 5, none⟩ (.int .i64 t331)) g317 t314 t332 t333) := ⟨by repeat (first | (with_reducible first | exact HI317.out | apply IsS89.alloc | apply IsS89.drewN | apply IsS89.drew | apply IsS89.set_1 | apply IsS89.set_2 | refine IsS89.far ?_ NB317_313.out _ | refine IsS89.far ?_ NB317_334.out _) | exact HI317.out)⟩
 have n7_ : Aside0 (Below w.heap.size w ((((((w8.setCell ⟨gb334, 0, none⟩ (.slice Ao9 t318.length co9)).setCell ⟨gb334, 1, none⟩ (.slice Ao13 t321.length co13)).setCell ⟨gb334, 2, none⟩ (.slice Ao14 t324.length co14)).setCell ⟨gb334, 3, none⟩ (.slice Ao15 t327.length co15)).setCell ⟨gb334, 4, none⟩ (.int .i64 t330)).setCell ⟨gb334, 5, none⟩ (.int .i64 t331))) := ⟨by repeat (first | (with_reducible first | exact HB.out | apply below_alloc | apply pw_below_drewN | apply below_drew1 | refine below_set ?_ (IsS89.ge HI317.out) | refine below_set ?_ GE313.out | refine below_set ?_ GE334.out) | exact HB.out)⟩
 (try clear HO320)
 (try clear HO323)
 (try clear HO326)
 (try clear HO329)
 (try clear BK313)
 (try clear BK334)
 (try clear HI317)
 (try clear HB)
 generalize ((((((w8.setCell ⟨gb334, 0, none⟩ (.slice Ao9 t318.length co9)).setCell ⟨gb334, 1, none⟩ (.slice Ao13 t321.length co13)).setCell ⟨gb334, 2, none⟩ (.slice Ao14 t324.length co14)).setCell ⟨gb334, 3, none⟩ (.slice Ao15 t327.length co15)).setCell ⟨gb334, 4, none⟩ (.int .i64 t330)).setCell ⟨gb334, 5, none⟩ (.int .i64 t331)) = w16 at n0_ n1_ n2_ n3_ n4_ n5_ n6_ n7_ ⊢
 have HO320 := n0_
 have HO323 := n1_
 have HO326 := n2_
 have HO329 := n3_
 have BK313 := n4_
 have BK334 := n5_
 have HI317 := n6_
 have HB := n7_
 clear n0_ n1_ n2_ n3_ n4_ n5_ n6_ n7_
 have n0_ := Aside0.mk (Kd.R_drew HO320.out)
 have n1_ := Aside0.mk (Kd.R_drew HO323.out)
 have n2_ := Aside0.mk (Kd.R_drew HO326.out)
 have n3_ := Aside0.mk (Kd.R_drew HO329.out)
 have n4_ := Aside0.mk (blk_drew BK313.out)
 have n5_ := Aside0.mk (blk_drew BK334.out)
 have n6_ := Aside0.mk (IsS89.drew HI317.out)
 have n7_ := Aside0.mk (below_drew1 HB.out)
 clear HO320 HO323 HO326 HO329 BK313 BK334 HI317 HB
 have HO320 := n0_
 have HO323 := n1_
 have HO326 := n2_
 have HO329 := n3_
 have BK313 := n4_
 have BK334 := n5_
 have HI317 := n6_
 have HB := n7_
 clear n0_ n1_ n2_ n3_ n4_ n5_ n6_ n7_
 refine start_ (n := 5) (S := fun w' => w'.cell? ⟨gb334, 0, none⟩ = some (.slice Ao9 t318.length co9) ∧ w'.cell? ⟨gb334, 1, none⟩ = some (.slice Ao13 t321.length co13) ∧ w'.cell? ⟨gb334, 2, none⟩ = some (.slice Ao14 t324.length co14) ∧ w'.cell? ⟨gb334, 3, none⟩ = some (.slice Ao15 t327.length co15) ∧ w'.cell? ⟨gb334, 4, none⟩ = some (.int .i64 t330) ∧ w'.cell? ⟨gb334, 5, none⟩ = some (.int .i64 t331)) (ds := []) #[false, false, false, false, false] (by kernel_rfl) rfl rfl ⟨(blk_cell BK334.out 0).trans rfl, (blk_cell BK334.out 1).trans rfl, (blk_cell BK334.out 2).trans rfl, (blk_cell BK334.out 3).trans rfl, (blk_cell BK334.out 4).trans rfl, (blk_cell BK334.out 5).trans rfl⟩ (fun hHeld => ?_)
 generalize w16.drew = w17 at HO320 HO323 HO326 HO329 BK313 BK334 HI317 HB hHeld ⊢
 refine pure_ (i := 1) (N := some 11) (v := ?_) (a' := ?_) #[false, true, false, false, false] rfl rfl (by kernel_rfl) (fun _ _ _ h => h) (Or.inl ⟨by rfl, ?_⟩) ?_ ?_
 rotate_left
 ·intro w'
  go_simp
  with_reducible rfl
 rotate_left
 ·simp only [Act.put, List.setIfInBounds_toArray, List.set_cons_zero, List.set_cons_succ, i64_w, i32_w]
  rfl
 refine take_ (i := 0) (N := some 10) (v := ?_) (a' := ?_) #[true, true, false, false, false] rfl rfl (by kernel_rfl) (fun _ _ _ h => h) (Or.inl ⟨by rfl, ?_⟩) hHeld ?_ ?_
 rotate_left
 ·rintro w' ⟨s0, s1, s2, s3, s4, s5⟩
  go_simp
  with_reducible rfl
 rotate_left
 ·simp only [Act.put, List.setIfInBounds_toArray, List.set_cons_zero, List.set_cons_succ, i64_w, i32_w]
  rfl
 refine one_ (i := 2) (N := some 12) #[true, true, true, false, false] rfl rfl (by kernel_rfl) (by decide) (fun K hK => ?_)
 refine goes_ Tryz.func52 (by kernel_rfl) rfl #[.pointer (some ⟨g317, 0, none⟩)] (by rfl) rfl rfl (by (try simp only [List.map_toArray, List.map_cons, List.map_nil]); first | done | rfl | (simp only [List.length_drop, List.length_take]; rfl) | (go_simp; done) | (go_simp; unfold wrap64; (repeat (first | with_reducible rfl | omega | with_reducible congr 1)); done)) ?_
 with_reducible refine (spec_l05Name.calls g317 t314 t332 t333 t335 t336 t337 w _ ?side1 ?side2 A4.out).mono ?_
 (case side1 => repeat (first | (with_reducible first | exact HI317.out | apply IsS89.alloc | apply IsS89.drewN | apply IsS89.drew | apply IsS89.set_1 | apply IsS89.set_2 | refine IsS89.far ?_ NB317_313.out _ | refine IsS89.far ?_ NB317_334.out _) | exact HI317.out))
 (case side2 => repeat (first | (with_reducible first | exact HB.out | apply below_alloc | apply pw_below_drewN | apply below_drew1 | refine below_set ?_ (IsS89.ge HI317.out) | refine below_set ?_ GE313.out | refine below_set ?_ GE334.out) | exact HB.out))
 rintro e w18 ⟨rfl, hi, hb, hk⟩
 refine ⟨_, rfl, ?_⟩
 have n0_ := Aside0.mk (KeepBut.blk hk (g' := gb313) (o := .cells #[.slice none 0 0, .slice none 0 0, .slice none 0 0, .slice none 0 0, .int .i64 0, .int .i64 0] 28 (0, 0)) (by (with_reducible repeat (first | refine blk_drewN ?_ _ | refine blk_drew ?_ | refine blk_alloc ?_ _)); exact BK313.out) NB313_317.out (by simp))
 have n1_ := Aside0.mk (Kd.R_mono (Kd.R_keep (IsS89.apart (show IsS89 w _ g317 t314 t332 t333 from by repeat (first | (with_reducible first | exact HI317.out | apply IsS89.alloc | apply IsS89.drewN | apply IsS89.drew | apply IsS89.set_1 | apply IsS89.set_2 | refine IsS89.far ?_ NB317_313.out _ | refine IsS89.far ?_ NB317_334.out _) | exact HI317.out)) (by (with_reducible repeat (first | apply Kd.R_alloc | apply Kd.R_drewN | apply Kd.R_drew)); exact HO320.out) (by decide)) hk (fun _ h => h.2)) (fun _ h => h.1))
 have n2_ := Aside0.mk (Kd.R_mono (Kd.R_keep (IsS89.apart (show IsS89 w _ g317 t314 t332 t333 from by repeat (first | (with_reducible first | exact HI317.out | apply IsS89.alloc | apply IsS89.drewN | apply IsS89.drew | apply IsS89.set_1 | apply IsS89.set_2 | refine IsS89.far ?_ NB317_313.out _ | refine IsS89.far ?_ NB317_334.out _) | exact HI317.out)) (by (with_reducible repeat (first | apply Kd.R_alloc | apply Kd.R_drewN | apply Kd.R_drew)); exact HO323.out) (by decide)) hk (fun _ h => h.2)) (fun _ h => h.1))
 have n3_ := Aside0.mk (Kd.R_mono (Kd.R_keep (IsS89.apart (show IsS89 w _ g317 t314 t332 t333 from by repeat (first | (with_reducible first | exact HI317.out | apply IsS89.alloc | apply IsS89.drewN | apply IsS89.drew | apply IsS89.set_1 | apply IsS89.set_2 | refine IsS89.far ?_ NB317_313.out _ | refine IsS89.far ?_ NB317_334.out _) | exact HI317.out)) (by (with_reducible repeat (first | apply Kd.R_alloc | apply Kd.R_drewN | apply Kd.R_drew)); exact HO326.out) (by decide)) hk (fun _ h => h.2)) (fun _ h => h.1))
 have n4_ := Aside0.mk (Kd.R_mono (Kd.R_keep (IsS89.apart (show IsS89 w _ g317 t314 t332 t333 from by repeat (first | (with_reducible first | exact HI317.out | apply IsS89.alloc | apply IsS89.drewN | apply IsS89.drew | apply IsS89.set_1 | apply IsS89.set_2 | refine IsS89.far ?_ NB317_313.out _ | refine IsS89.far ?_ NB317_334.out _) | exact HI317.out)) (by (with_reducible repeat (first | apply Kd.R_alloc | apply Kd.R_drewN | apply Kd.R_drew)); exact HO329.out) (by decide)) hk (fun _ h => h.2)) (fun _ h => h.1))
 have n5_ := Aside0.mk (KeepBut.blk hk (g' := gb334) (o := .cells #[.slice Ao9 t318.length co9, .slice Ao13 t321.length co13, .slice Ao14 t324.length co14, .slice Ao15 t327.length co15, .int .i64 t330, .int .i64 t331] 28 (0, 0)) (by (with_reducible repeat (first | refine blk_drewN ?_ _ | refine blk_drew ?_ | refine blk_alloc ?_ _)); exact BK334.out) NB334_317.out (by simp))
 have n6_ := Aside0.mk (hb)
 have n7_ := Aside0.mk (hi)
 clear BK313 HO320 HO323 HO326 HO329 BK334 HB HI317
 have BK313 := n0_
 have HO320 := n1_
 have HO323 := n2_
 have HO326 := n3_
 have HO329 := n4_
 have BK334 := n5_
 have HB := n6_
 have HI317 := n7_
 clear n0_ n1_ n2_ n3_ n4_ n5_ n6_ n7_
 (try clear hb)
 (try clear hb2)
 (try clear hk)
 (try clear hi)
 refine hK.out _ _ ⟨(blk_cell BK334.out 0).trans rfl, (blk_cell BK334.out 1).trans rfl, (blk_cell BK334.out 2).trans rfl, (blk_cell BK334.out 3).trans rfl, (blk_cell BK334.out 4).trans rfl, (blk_cell BK334.out 5).trans rfl⟩ (fun hHeld => ?_)
 clear hK K
 refine norm_ (a' := ?_) ?_ ?_
 rotate_left
 ·show Act.put _ (some 12) _ = _
  simp only [Act.put, List.setIfInBounds_toArray, List.set_cons_zero, List.set_cons_succ, i64_w, i32_w]
  rfl
 refine one_ (i := 3) (N := none) #[true, true, true, true, false] rfl rfl (by kernel_rfl) (by decide) (fun K hK => ?_)
 have hs19 : w18.cell? ⟨gb313, 0, none⟩ = some (.slice none 0 0) := (blk_cell BK313.out 0).trans rfl
 have hfs19 := blk_frozen BK313.out 0
 have hns19_1 := NB334_313.out
 have hms19_1 := NB313_334.out
 have hs20 : w18.cell? ⟨gb313, 1, none⟩ = some (.slice none 0 0) := (blk_cell BK313.out 1).trans rfl
 have hfs20 := blk_frozen BK313.out 1
 have hns20_1 := NB334_313.out
 have hms20_1 := NB313_334.out
 have hs21 : w18.cell? ⟨gb313, 2, none⟩ = some (.slice none 0 0) := (blk_cell BK313.out 2).trans rfl
 have hfs21 := blk_frozen BK313.out 2
 have hns21_1 := NB334_313.out
 have hms21_1 := NB313_334.out
 have hs22 : w18.cell? ⟨gb313, 3, none⟩ = some (.slice none 0 0) := (blk_cell BK313.out 3).trans rfl
 have hfs22 := blk_frozen BK313.out 3
 have hns22_1 := NB334_313.out
 have hms22_1 := NB313_334.out
 have hs23 : w18.cell? ⟨gb313, 4, none⟩ = some (.int .i64 0) := (blk_cell BK313.out 4).trans rfl
 have hfs23 := blk_frozen BK313.out 4
 have hns23_1 := NB334_313.out
 have hms23_1 := NB313_334.out
 have hs24 : w18.cell? ⟨gb313, 5, none⟩ = some (.int .i64 0) := (blk_cell BK313.out 5).trans rfl
 have hfs24 := blk_frozen BK313.out 5
 have hns24_1 := NB334_313.out
 have hms24_1 := NB313_334.out
 refine skip_ (w1 := ?_) (by rfl) rfl ?_ ?_
 rotate_left
 ·go_simp
  rfl
 refine hK.out _ _ ⟨((cell_far (p := ⟨gb313, _, none⟩) NB334_313.out _).trans (((cell_far (p := ⟨gb313, _, none⟩) NB334_313.out _).trans (((cell_far (p := ⟨gb313, _, none⟩) NB334_313.out _).trans (((cell_far (p := ⟨gb313, _, none⟩) NB334_313.out _).trans (((cell_far (p := ⟨gb313, _, none⟩) NB334_313.out _).trans (((cell_far (p := ⟨gb313, _, none⟩) NB334_313.out _).trans (hHeld.1)))))))))))), ((cell_far (p := ⟨gb313, _, none⟩) NB334_313.out _).trans (((cell_far (p := ⟨gb313, _, none⟩) NB334_313.out _).trans (((cell_far (p := ⟨gb313, _, none⟩) NB334_313.out _).trans (((cell_far (p := ⟨gb313, _, none⟩) NB334_313.out _).trans (((cell_far (p := ⟨gb313, _, none⟩) NB334_313.out _).trans (((cell_far (p := ⟨gb313, _, none⟩) NB334_313.out _).trans (hHeld.2.1)))))))))))), ((cell_far (p := ⟨gb313, _, none⟩) NB334_313.out _).trans (((cell_far (p := ⟨gb313, _, none⟩) NB334_313.out _).trans (((cell_far (p := ⟨gb313, _, none⟩) NB334_313.out _).trans (((cell_far (p := ⟨gb313, _, none⟩) NB334_313.out _).trans (((cell_far (p := ⟨gb313, _, none⟩) NB334_313.out _).trans (((cell_far (p := ⟨gb313, _, none⟩) NB334_313.out _).trans (hHeld.2.2.1)))))))))))), ((cell_far (p := ⟨gb313, _, none⟩) NB334_313.out _).trans (((cell_far (p := ⟨gb313, _, none⟩) NB334_313.out _).trans (((cell_far (p := ⟨gb313, _, none⟩) NB334_313.out _).trans (((cell_far (p := ⟨gb313, _, none⟩) NB334_313.out _).trans (((cell_far (p := ⟨gb313, _, none⟩) NB334_313.out _).trans (((cell_far (p := ⟨gb313, _, none⟩) NB334_313.out _).trans (hHeld.2.2.2.1)))))))))))), ((cell_far (p := ⟨gb313, _, none⟩) NB334_313.out _).trans (((cell_far (p := ⟨gb313, _, none⟩) NB334_313.out _).trans (((cell_far (p := ⟨gb313, _, none⟩) NB334_313.out _).trans (((cell_far (p := ⟨gb313, _, none⟩) NB334_313.out _).trans (((cell_far (p := ⟨gb313, _, none⟩) NB334_313.out _).trans (((cell_far (p := ⟨gb313, _, none⟩) NB334_313.out _).trans (hHeld.2.2.2.2.1)))))))))))), ((cell_far (p := ⟨gb313, _, none⟩) NB334_313.out _).trans (((cell_far (p := ⟨gb313, _, none⟩) NB334_313.out _).trans (((cell_far (p := ⟨gb313, _, none⟩) NB334_313.out _).trans (((cell_far (p := ⟨gb313, _, none⟩) NB334_313.out _).trans (((cell_far (p := ⟨gb313, _, none⟩) NB334_313.out _).trans (((cell_far (p := ⟨gb313, _, none⟩) NB334_313.out _).trans (hHeld.2.2.2.2.2))))))))))))⟩ (fun hHeld => ?_)
 clear hK K
 refine pure_ (i := 4) (N := some 3) (v := ?_) (a' := ?_) #[true, true, true, true, true] rfl rfl (by kernel_rfl) (fun _ _ _ h => h) (Or.inl ⟨by rfl, ?_⟩) ?_ ?_
 rotate_left
 ·intro w'
  go_simp
  with_reducible rfl
 rotate_left
 ·simp only [Act.put, List.setIfInBounds_toArray, List.set_cons_zero, List.set_cons_succ, i64_w, i32_w]
  rfl
 refine done_ (by kernel_rfl) ?_
 try go_wp2
 refine bodyPost_ret (results_ct rfl _ _ gb313 28 #[.slice Ao9 t318.length co9, .slice Ao13 t321.length co13, .slice Ao14 t324.length co14, .slice Ao15 t327.length co15, .int .i64 t330, .int .i64 t331] (0, 0) _ rfl (by (with_reducible repeat (first | refine blk_drewN ?_ _ | refine blk_drew ?_ | refine blk_alloc ?_ _)); refine blk_put (cs := #[.slice Ao9 t318.length co9, .slice Ao13 t321.length co13, .slice Ao14 t324.length co14, .slice Ao15 t327.length co15, .int .i64 t330, .int .i64 0]) ?_ 5 _ rfl; (with_reducible repeat (first | refine blk_drewN ?_ _ | refine blk_drew ?_ | refine blk_alloc ?_ _)); refine blk_put (cs := #[.slice Ao9 t318.length co9, .slice Ao13 t321.length co13, .slice Ao14 t324.length co14, .slice Ao15 t327.length co15, .int .i64 0, .int .i64 0]) ?_ 4 _ rfl; (with_reducible repeat (first | refine blk_drewN ?_ _ | refine blk_drew ?_ | refine blk_alloc ?_ _)); refine blk_put (cs := #[.slice Ao9 t318.length co9, .slice Ao13 t321.length co13, .slice Ao14 t324.length co14, .slice none 0 0, .int .i64 0, .int .i64 0]) ?_ 3 _ rfl; (with_reducible repeat (first | refine blk_drewN ?_ _ | refine blk_drew ?_ | refine blk_alloc ?_ _)); refine blk_put (cs := #[.slice Ao9 t318.length co9, .slice Ao13 t321.length co13, .slice none 0 0, .slice none 0 0, .int .i64 0, .int .i64 0]) ?_ 2 _ rfl; (with_reducible repeat (first | refine blk_drewN ?_ _ | refine blk_drew ?_ | refine blk_alloc ?_ _)); refine blk_put (cs := #[.slice Ao9 t318.length co9, .slice none 0 0, .slice none 0 0, .slice none 0 0, .int .i64 0, .int .i64 0]) ?_ 1 _ rfl; (with_reducible repeat (first | refine blk_drewN ?_ _ | refine blk_drew ?_ | refine blk_alloc ?_ _)); refine blk_put (cs := #[.slice none 0 0, .slice none 0 0, .slice none 0 0, .slice none 0 0, .int .i64 0, .int .i64 0]) ?_ 0 _ rfl; (with_reducible repeat (first | refine blk_drewN ?_ _ | refine blk_drew ?_ | refine blk_alloc ?_ _)); exact BK313.out) Tryz.underlying28 rfl (by kernel_rfl)) rfl ?_
 all_goals exact ⟨_, _, _, _, by rfl, by (with_reducible repeat (first | apply Kd.R_alloc | apply Kd.R_drewN | apply Kd.R_drew)); exact Kd.R_mono (R6 (Kd.R_types HO320.out BK313.out (by decide)) (.slice Ao9 t318.length co9) (.slice Ao13 t321.length co13) (.slice Ao14 t324.length co14) (.slice Ao15 t327.length co15) (.int .i64 t330) (.int .i64 t331)) (fun _ hk => trivial), by (with_reducible repeat (first | apply Kd.R_alloc | apply Kd.R_drewN | apply Kd.R_drew)); exact Kd.R_mono (R6 (Kd.R_types HO323.out BK313.out (by decide)) (.slice Ao9 t318.length co9) (.slice Ao13 t321.length co13) (.slice Ao14 t324.length co14) (.slice Ao15 t327.length co15) (.int .i64 t330) (.int .i64 t331)) (fun _ hk => hk.1), by (with_reducible repeat (first | apply Kd.R_alloc | apply Kd.R_drewN | apply Kd.R_drew)); exact Kd.R_mono (R6 (Kd.R_types HO326.out BK313.out (by decide)) (.slice Ao9 t318.length co9) (.slice Ao13 t321.length co13) (.slice Ao14 t324.length co14) (.slice Ao15 t327.length co15) (.int .i64 t330) (.int .i64 t331)) (fun _ hk => hk.1), by (with_reducible repeat (first | apply Kd.R_alloc | apply Kd.R_drewN | apply Kd.R_drew)); exact Kd.R_mono (R6 (Kd.R_types HO329.out BK313.out (by decide)) (.slice Ao9 t318.length co9) (.slice Ao13 t321.length co13) (.slice Ao14 t324.length co14) (.slice Ao15 t327.length co15) (.int .i64 t330) (.int .i64 t331)) (fun _ hk => trivial), by repeat (first | (with_reducible first | exact HB.out | apply below_alloc | apply pw_below_drewN | apply below_drew1 | refine below_set ?_ (IsS89.ge HI317.out) | refine below_set ?_ GE313.out | refine below_set ?_ GE334.out) | exact HB.out)⟩

/-! ### spec_DrawReadFile: function 10 -/
def spec_DrawReadFile.f (k : Nat) (l0 : List Int) : Option ((List (S38)) × (List (S64)) × (List (S64)) × List ByteArray × Int × Int × ByteArray) := (spec_l05Ask.f k l0).bind fun bt339 => (some (bt339.1, bt339.2.1, bt339.2.2.1, bt339.2.2.2.1, bt339.2.2.2.2.1, bt339.2.2.2.2.2.1, bt339.2.2.2.2.2.2))
theorem spec_DrawReadFile.mono : ∀ a0 k, LeO (spec_DrawReadFile.f k a0) (spec_DrawReadFile.f (k + 1) a0) := by
 intro a0 k
 unfold spec_DrawReadFile.f
 repeat' first | (with_reducible exact spec_l05Ask.mono _ _) | (with_reducible exact LeO.refl _) | (with_reducible refine LeO.bind ?_ (fun _ => ?_))
set_option maxHeartbeats 8000000 in
set_option maxRecDepth 100000 in
theorem spec_DrawReadFile.calls (k : Nat) (A0 : Option Addr) (c0 : Nat) (l0 : List Int) (r1 : List (S38)) (r2 : List (S64)) (r3 : List (S64)) (r4 : List ByteArray) (r5 : Int) (r6 : Int) (r7 : ByteArray) (w : World) (hr0 : Kd.C (Kd.int .u8) w A0 l0.length l0) (hc0 : l0.length ≤ c0) (h : spec_DrawReadFile.f k l0 = some (r1, r2, r3, r4, r5, r6, r7)) :
  Calls Tryz.prog 10 #[.slice A0 l0.length c0] w fun e w' => ∃ v0_ v1_ v2_ v3_ : Value, e = .returned (.tuple #[.agg #[v0_, v1_, v2_, v3_, .int .i64 r5, .int .i64 r6], .string r7]) ∧ Kd.R k38 38 w' w.heap.size (fun _ => True) v0_ r1 ∧ Kd.R k64 64 w' w.heap.size (fun k_ => some k_ ≠ (v2_ : Value).ownBlock) v1_ r2 ∧ Kd.R k64 64 w' w.heap.size (fun k_ => some k_ ≠ (v1_ : Value).ownBlock) v2_ r3 ∧ Kd.R Kd.string 9 w' w.heap.size (fun _ => True) v3_ r4 ∧ Below w.heap.size w w' := by
 have hu28 := Tryz.underlying28
 have HR0 := Aside0.mk hr0
 have HC0 := Aside0.mk hc0
 clear hr0 hc0
 have HB := Aside0.mk (Below.refl w.heap.size w)
 have H : ((spec_l05Ask.f k l0).bind fun bt339 => (some (bt339.1, bt339.2.1, bt339.2.2.1, bt339.2.2.2.1, bt339.2.2.2.2.1, bt339.2.2.2.2.2.1, bt339.2.2.2.2.2.2))) = some (r1, r2, r3, r4, r5, r6, r7) := h
 clear h
 obtain ⟨⟨t339, t342, t345, t348, t351, t352, t353⟩, A2, H⟩ := bA H
 replace H : (some (t339, t342, t345, t348, t351, t352, t353)) = some (r1, r2, r3, r4, r5, r6, r7) := H
 simp only [Option.some.injEq, Prod.mk.injEq] at H
 obtain ⟨rfl, rfl, rfl, rfl, rfl, rfl, rfl⟩ := H
 go_enter Tryz.func10, Tryz.ntmps10
 go_wp2_with (first | ((with_reducible refine gate_dst (N := 2) rfl ?_); refine box_event ?hg (N := 2) ?hd (cs := #[.slice none 0 0, .slice none 0 0, .slice none 0 0, .slice none 0 0, .int .i64 0, .int .i64 0]) (t := 28) ?hr ?_; (case hd => rfl); (case hg => rfl); (case hr => first | (go_simp; done) | (go_simp; rfl)); intro gb338 hg w3 hbox hb; have n0_ := Aside0.mk (below_step (by repeat (first | (with_reducible first | exact HB.out | apply below_alloc | apply pw_below_drewN | apply below_drew1) | exact HB.out)) hb); have n1_ := Aside0.mk (hbox); have n2_ := Aside0.mk ((by rw [hg]; exact (below_size (by repeat (first | (with_reducible first | exact HB.out | apply below_alloc | apply pw_below_drewN | apply below_drew1) | exact HB.out))) : w.heap.size ≤ gb338)); have n3_ := Aside0.mk ((by rw [hg]; exact (below_size (by repeat (first | (with_reducible first | exact HB.out | apply below_alloc | apply pw_below_drewN | apply below_drew1) | exact HB.out))) : w.heap.size ≤ gb338)); clear HB; have HB := n0_; have BK338 := n1_; have GW338 := n2_; have GE338 := n3_; clear n0_ n1_ n2_ n3_; clear hb hbox hg) | ((with_reducible refine gate_callee (f := 48) rfl ?_); refine goesL_ (some 5) rfl rfl Tryz.func48 (by kernel_rfl) rfl #[.slice A0 l0.length c0] rfl (by (try simp only [List.map_toArray, List.map_cons, List.map_nil]); first | done | rfl | (simp only [List.length_drop, List.length_take]; rfl) | (go_simp; done) | (go_simp; unfold wrap64; (repeat (first | with_reducible rfl | omega | with_reducible congr 1)); done)) ?_; (with_reducible refine (spec_l05Ask.calls k _ _ l0 t339 t342 t345 t348 t351 t352 t353 _ ?side1 ?side2 A2.out).mono ?_); (case side1 => repeat (first | exact (Kd.C_below HR0.out HB.out) | (with_reducible refine Kd.C_alloc ?_ _) | (with_reducible refine Kd.C_drewN ?_ _) | (with_reducible refine Kd.C_drew ?_))); (case side2 => exact HC0.out); rintro e w4 ⟨v340, v343, v346, v349, rfl, ho0, ho1, ho2, ho3, hb⟩; refine ⟨_, rfl, ?_⟩; have n0_ := Aside0.mk (Kd.R_lower ho0 (below_size (by repeat (first | (with_reducible first | exact HB.out | apply below_alloc | apply pw_below_drewN | apply below_drew1 | refine below_set ?_ GE338.out) | exact HB.out)))); have n1_ := Aside0.mk (Kd.R_lower ho1 (below_size (by repeat (first | (with_reducible first | exact HB.out | apply below_alloc | apply pw_below_drewN | apply below_drew1 | refine below_set ?_ GE338.out) | exact HB.out)))); have n2_ := Aside0.mk (Kd.R_lower ho2 (below_size (by repeat (first | (with_reducible first | exact HB.out | apply below_alloc | apply pw_below_drewN | apply below_drew1 | refine below_set ?_ GE338.out) | exact HB.out)))); have n3_ := Aside0.mk (Kd.R_lower ho3 (below_size (by repeat (first | (with_reducible first | exact HB.out | apply below_alloc | apply pw_below_drewN | apply below_drew1 | refine below_set ?_ GE338.out) | exact HB.out)))); have n4_ := Aside0.mk (blk_below (g := gb338) (o := .cells #[.slice none 0 0, .slice none 0 0, .slice none 0 0, .slice none 0 0, .int .i64 0, .int .i64 0] 28 (0, 0)) (by (with_reducible repeat (first | refine blk_drewN ?_ _ | refine blk_drew ?_ | refine blk_alloc ?_ _)); exact BK338.out) hb); have n5_ := Aside0.mk (below_step (by repeat (first | (with_reducible first | exact HB.out | apply below_alloc | apply pw_below_drewN | apply below_drew1 | refine below_set ?_ GE338.out) | exact HB.out)) hb); clear BK338; clear HB; have HO341 := n0_; have HO344 := n1_; have HO347 := n2_; have HO350 := n3_; have BK338 := n4_; have HB := n5_; clear n0_ n1_ n2_ n3_ n4_ n5_; (try clear hb); (try clear hb2); (try clear hk); (try clear hi); (try clear ho0); (try clear ho1); (try clear ho2); (try clear ho3); obtain ⟨Ao5, co5, eo5⟩ := Kd.R_slice HO341.out; subst eo5; obtain ⟨hcz6_0, hcz6_1, hcz6_2, hcz6_3, hcz6_4, hcz6_5⟩ := b6of BK338.out; obtain ⟨hfz6_0, hfz6_1, hfz6_2, hfz6_3, hfz6_4, hfz6_5⟩ := z6of BK338.out; obtain ⟨Ao7, co7, eo7⟩ := Kd.R_slice HO344.out; subst eo7; obtain ⟨Ao8, co8, eo8⟩ := Kd.R_slice HO347.out; subst eo8; obtain ⟨Ao9, co9, eo9⟩ := Kd.R_slice HO350.out; subst eo9))
 refine bodyPost_ret (results_ct rfl _ _ gb338 28 #[.slice Ao5 t339.length co5, .slice Ao7 t342.length co7, .slice Ao8 t345.length co8, .slice Ao9 t348.length co9, .int .i64 t351, .int .i64 t352] (0, 0) _ rfl (by (with_reducible repeat (first | refine blk_drewN ?_ _ | refine blk_drew ?_ | refine blk_alloc ?_ _)); refine blk_put (cs := #[.slice Ao5 t339.length co5, .slice Ao7 t342.length co7, .slice Ao8 t345.length co8, .slice Ao9 t348.length co9, .int .i64 t351, .int .i64 0]) ?_ 5 _ rfl; (with_reducible repeat (first | refine blk_drewN ?_ _ | refine blk_drew ?_ | refine blk_alloc ?_ _)); refine blk_put (cs := #[.slice Ao5 t339.length co5, .slice Ao7 t342.length co7, .slice Ao8 t345.length co8, .slice Ao9 t348.length co9, .int .i64 0, .int .i64 0]) ?_ 4 _ rfl; (with_reducible repeat (first | refine blk_drewN ?_ _ | refine blk_drew ?_ | refine blk_alloc ?_ _)); refine blk_put (cs := #[.slice Ao5 t339.length co5, .slice Ao7 t342.length co7, .slice Ao8 t345.length co8, .slice none 0 0, .int .i64 0, .int .i64 0]) ?_ 3 _ rfl; (with_reducible repeat (first | refine blk_drewN ?_ _ | refine blk_drew ?_ | refine blk_alloc ?_ _)); refine blk_put (cs := #[.slice Ao5 t339.length co5, .slice Ao7 t342.length co7, .slice none 0 0, .slice none 0 0, .int .i64 0, .int .i64 0]) ?_ 2 _ rfl; (with_reducible repeat (first | refine blk_drewN ?_ _ | refine blk_drew ?_ | refine blk_alloc ?_ _)); refine blk_put (cs := #[.slice Ao5 t339.length co5, .slice none 0 0, .slice none 0 0, .slice none 0 0, .int .i64 0, .int .i64 0]) ?_ 1 _ rfl; (with_reducible repeat (first | refine blk_drewN ?_ _ | refine blk_drew ?_ | refine blk_alloc ?_ _)); refine blk_put (cs := #[.slice none 0 0, .slice none 0 0, .slice none 0 0, .slice none 0 0, .int .i64 0, .int .i64 0]) ?_ 0 _ rfl; (with_reducible repeat (first | refine blk_drewN ?_ _ | refine blk_drew ?_ | refine blk_alloc ?_ _)); exact BK338.out) Tryz.underlying28 rfl (by kernel_rfl)) rfl ?_
 all_goals exact ⟨_, _, _, _, by rfl, by (with_reducible repeat (first | apply Kd.R_alloc | apply Kd.R_drewN | apply Kd.R_drew)); exact Kd.R_mono (R6 (Kd.R_types HO341.out BK338.out (by decide)) (.slice Ao5 t339.length co5) (.slice Ao7 t342.length co7) (.slice Ao8 t345.length co8) (.slice Ao9 t348.length co9) (.int .i64 t351) (.int .i64 t352)) (fun _ hk => trivial), by (with_reducible repeat (first | apply Kd.R_alloc | apply Kd.R_drewN | apply Kd.R_drew)); exact Kd.R_mono (R6 (Kd.R_types HO344.out BK338.out (by decide)) (.slice Ao5 t339.length co5) (.slice Ao7 t342.length co7) (.slice Ao8 t345.length co8) (.slice Ao9 t348.length co9) (.int .i64 t351) (.int .i64 t352)) (fun _ hk => hk.1), by (with_reducible repeat (first | apply Kd.R_alloc | apply Kd.R_drewN | apply Kd.R_drew)); exact Kd.R_mono (R6 (Kd.R_types HO347.out BK338.out (by decide)) (.slice Ao5 t339.length co5) (.slice Ao7 t342.length co7) (.slice Ao8 t345.length co8) (.slice Ao9 t348.length co9) (.int .i64 t351) (.int .i64 t352)) (fun _ hk => hk.1), by (with_reducible repeat (first | apply Kd.R_alloc | apply Kd.R_drewN | apply Kd.R_drew)); exact Kd.R_mono (R6 (Kd.R_types HO350.out BK338.out (by decide)) (.slice Ao5 t339.length co5) (.slice Ao7 t342.length co7) (.slice Ao8 t345.length co8) (.slice Ao9 t348.length co9) (.int .i64 t351) (.int .i64 t352)) (fun _ hk => trivial), by repeat (first | (with_reducible first | exact HB.out | apply below_alloc | apply pw_below_drewN | apply below_drew1 | refine below_set ?_ GE338.out) | exact HB.out)⟩

/-! ### impl_DiskNew: function 11 -/
def impl_DiskNew.f (a0 : Int) : Option ((List (S38)) × (List (S64)) × (List (S64)) × List ByteArray × Int × Int) := some (([] : List (S38)), ([] : List (S64)), ([] : List (S64)), ([] : List ByteArray), mx 0 a0, 1)
set_option maxHeartbeats 8000000 in
set_option maxRecDepth 100000 in
theorem impl_DiskNew.calls (a0 : Int) (r1 : List (S38)) (r2 : List (S64)) (r3 : List (S64)) (r4 : List ByteArray) (r5 : Int) (r6 : Int) (w : World) (h : impl_DiskNew.f a0 = some (r1, r2, r3, r4, r5, r6)) :
  Calls Tryz.prog 11 #[.int .i64 a0] w fun e w' => ∃ v0_ v1_ v2_ v3_ : Value, e = .returned (.agg #[v0_, v1_, v2_, v3_, .int .i64 r5, .int .i64 r6]) ∧ Kd.R k38 38 w' w.heap.size (fun _ => True) v0_ r1 ∧ Kd.R k64 64 w' w.heap.size (fun k_ => some k_ ≠ (v2_ : Value).ownBlock) v1_ r2 ∧ Kd.R k64 64 w' w.heap.size (fun k_ => some k_ ≠ (v1_ : Value).ownBlock) v2_ r3 ∧ Kd.R Kd.string 9 w' w.heap.size (fun _ => True) v3_ r4 ∧ Below w.heap.size w w' := by
 have HB := Aside0.mk (Below.refl w.heap.size w)
 have H : (some (([] : List (S38)), ([] : List (S64)), ([] : List (S64)), ([] : List ByteArray), mx 0 a0, 1)) = some (r1, r2, r3, r4, r5, r6) := h
 clear h
 obtain ⟨ji2, hji2⟩ : ∃ j_ : Int, (mx 0 a0) = j_ := ⟨_, rfl⟩
 replace H : (some (([] : List (S38)), ([] : List (S64)), ([] : List (S64)), ([] : List ByteArray), ji2, 1)) = some (r1, r2, r3, r4, r5, r6) := by (rw [hji2] at H; exact H)
 (try (skip))
 (try (skip))
 have hji2_ : (if 0 < a0 then a0 else 0) = ji2 := hji2
 simp only [Option.some.injEq, Prod.mk.injEq] at H
 obtain ⟨rfl, rfl, rfl, rfl, rfl, rfl⟩ := H
 go_enter Tryz.func11, Tryz.ntmps11
 go_wp2_with (((with_reducible refine gate_dst (N := 2) rfl ?_); refine box_event ?hg (N := 2) ?hd (cs := #[.slice none 0 0, .slice none 0 0, .slice none 0 0, .slice none 0 0, .int .i64 0, .int .i64 0]) (t := 28) ?hr ?_; (case hd => rfl); (case hg => rfl); (case hr => (go_simp; done)); intro gb354 hg w3 hbox hb; have BK354 := Aside0.mk (hbox); have GE354 := Aside0.mk ((by rw [hg]; exact (below_size HB.out) : w.heap.size ≤ gb354)); replace HB := Aside0.mk (below_step HB.out hb); clear hb hbox hg; obtain ⟨hcz4_0, hcz4_1, hcz4_2, hcz4_3, hcz4_4, hcz4_5⟩ := b6of BK354.out; obtain ⟨hfz4_0, hfz4_1, hfz4_2, hfz4_3, hfz4_4, hfz4_5⟩ := z6of BK354.out))
 refine bodyPost_ret (results_cell_row rfl _ _ gb354 28 #[.slice none 0 0, .slice none 0 0, .slice none 0 0, .slice none 0 0, .int .i64 ji2, .int .i64 1] (0, 0) _ rfl (by refine blk_put (cs := #[.slice none 0 0, .slice none 0 0, .slice none 0 0, .slice none 0 0, .int .i64 ji2, .int .i64 0]) ?_ 5 _ rfl; refine blk_put (cs := #[.slice none 0 0, .slice none 0 0, .slice none 0 0, .slice none 0 0, .int .i64 0, .int .i64 0]) ?_ 4 _ rfl; refine blk_put (cs := #[.slice none 0 0, .slice none 0 0, .slice none 0 0, .slice none 0 0, .int .i64 0, .int .i64 0]) ?_ 3 _ rfl; refine blk_put (cs := #[.slice none 0 0, .slice none 0 0, .slice none 0 0, .slice none 0 0, .int .i64 0, .int .i64 0]) ?_ 2 _ rfl; refine blk_put (cs := #[.slice none 0 0, .slice none 0 0, .slice none 0 0, .slice none 0 0, .int .i64 0, .int .i64 0]) ?_ 1 _ rfl; refine blk_put (cs := #[.slice none 0 0, .slice none 0 0, .slice none 0 0, .slice none 0 0, .int .i64 0, .int .i64 0]) ?_ 0 _ rfl; exact BK354.out) Tryz.underlying28 rfl (by kernel_rfl)) rfl ?_
 all_goals exact ⟨_, _, _, _, by first | rfl | (simp [errW_none, errW_some] <;> rfl) | (simp only [← hji2]; first | rfl | (simp [errW_none, errW_some] <;> rfl)) | (simp [*, errW_none, errW_some] <;> rfl) | (exfalso; simp only [decide_eq_true_eq, decide_eq_false_iff_not] at *; omega), by first | exact Kd.R_nil _ _ _ _ _ | exact Kd.N_nil _ _ _ _ _ | exact Kd.V_nil _ _ _ _ _ | exact Kd.Q_nil _ _ _ _ _ | exact Kd.S_nil _ _ _ _ _, by first | exact Kd.R_nil _ _ _ _ _ | exact Kd.N_nil _ _ _ _ _ | exact Kd.V_nil _ _ _ _ _ | exact Kd.Q_nil _ _ _ _ _ | exact Kd.S_nil _ _ _ _ _, by first | exact Kd.R_nil _ _ _ _ _ | exact Kd.N_nil _ _ _ _ _ | exact Kd.V_nil _ _ _ _ _ | exact Kd.Q_nil _ _ _ _ _ | exact Kd.S_nil _ _ _ _ _, by first | exact Kd.R_nil _ _ _ _ _ | exact Kd.N_nil _ _ _ _ _ | exact Kd.V_nil _ _ _ _ _ | exact Kd.Q_nil _ _ _ _ _ | exact Kd.S_nil _ _ _ _ _, by repeat (with_reducible first | exact HB.out | refine below_set ?_ GE354.out)⟩

/-! ### impl_Disk_nodeAt: function 50 -/
def impl_Disk_nodeAt.f (l0_0 : List (S38)) (l0_1 : List (S64)) (l0_2 : List (S64)) (l0_3 : List ByteArray) (a0_4 : Int) (a0_5 : Int) (a1 : ByteArray) : Option (Int) := (impl_placeOf.f l0_1 a1).bind fun t356 => (if t356 < 0 then (some (-1)) else (if 0 ≤ t356 then (if t356 < (l0_1.length : Int) then ((impl_Disk_nodeOf.f l0_0 l0_1 l0_2 l0_3 a0_4 a0_5 ((rd_T64 l0_1 t356).f1)).bind fun t358 => (some t358)) else (none)) else (none)))
def impl_Disk_nodeAt.T4 : Bool × List (List Nat × List Nat) := (true, [([], []), ([], []), ([1], [1]), ([], []), ([2, 3], [2, 3]), ([4], [4]), ([5], [5]), ([0, 6], [0, 6]), ([7, 7, 0, 1, 2, 3, 4, 5, 6, 7], [7])])
def impl_Disk_nodeAt.B4 : List Nat := [0, 0, 2, 0, 14, 30, 62, 127, 255]
set_option maxHeartbeats 8000000 in
set_option maxRecDepth 100000 in
theorem impl_Disk_nodeAt.calls (A0_0 : Option Addr) (c0_0 : Nat) (l0_0 : List (S38)) (A0_1 : Option Addr) (c0_1 : Nat) (l0_1 : List (S64)) (A0_2 : Option Addr) (c0_2 : Nat) (l0_2 : List (S64)) (A0_3 : Option Addr) (c0_3 : Nat) (l0_3 : List ByteArray) (a0_4 : Int) (a0_5 : Int) (a1 : ByteArray) (r : Int) (w : World) (hr0_0 : Kd.C k38 w A0_0 l0_0.length l0_0) (hc0_0 : l0_0.length ≤ c0_0) (hr0_1 : Kd.C k64 w A0_1 l0_1.length l0_1) (hc0_1 : l0_1.length ≤ c0_1) (hr0_2 : Kd.C k64 w A0_2 l0_2.length l0_2) (hc0_2 : l0_2.length ≤ c0_2) (hr0_3 : Kd.C Kd.string w A0_3 l0_3.length l0_3) (hc0_3 : l0_3.length ≤ c0_3) (h : impl_Disk_nodeAt.f l0_0 l0_1 l0_2 l0_3 a0_4 a0_5 a1 = some r) :
  Calls Tryz.prog 50 #[.agg #[.slice A0_0 l0_0.length c0_0, .slice A0_1 l0_1.length c0_1, .slice A0_2 l0_2.length c0_2, .slice A0_3 l0_3.length c0_3, .int .i64 a0_4, .int .i64 a0_5], .string a1] w fun e w' => e = .returned (.int .i64 r) ∧ Below w.heap.size w w' := by
 have HR0_0 := Aside0.mk hr0_0
 have HC0_0 := Aside0.mk hc0_0
 clear hr0_0 hc0_0
 have HR0_1 := Aside0.mk hr0_1
 have HC0_1 := Aside0.mk hc0_1
 clear hr0_1 hc0_1
 have HR0_2 := Aside0.mk hr0_2
 have HC0_2 := Aside0.mk hc0_2
 clear hr0_2 hc0_2
 have HR0_3 := Aside0.mk hr0_3
 have HC0_3 := Aside0.mk hc0_3
 clear hr0_3 hc0_3
 have HB := Aside0.mk (Below.refl w.heap.size w)
 have H : ((impl_placeOf.f l0_1 a1).bind fun t356 => (if t356 < 0 then (some (-1)) else (if 0 ≤ t356 then (if t356 < (l0_1.length : Int) then ((impl_Disk_nodeOf.f l0_0 l0_1 l0_2 l0_3 a0_4 a0_5 ((rd_T64 l0_1 t356).f1)).bind fun t358 => (some t358)) else (none)) else (none)))) = some r := h
 clear h
 obtain ⟨t356, A3, H⟩ := bA H
 replace H : (if t356 < 0 then (some (-1)) else (if 0 ≤ t356 then (if t356 < (l0_1.length : Int) then ((impl_Disk_nodeOf.f l0_0 l0_1 l0_2 l0_3 a0_4 a0_5 ((rd_T64 l0_1 t356).f1)).bind fun t358 => (some t358)) else (none)) else (none))) = some r := H
 by_cases c4 : t356 < 0
 ·rw [if_pos c4] at H
  have c4b0 : decide (t356 < 0) = true := decide_eq_true c4
  clear c4
  obtain rfl := Option.some.inj H
  go_enter Tryz.func50, Tryz.ntmps50
  go_wp2_with (first | ((with_reducible refine gate_dst (N := 2) rfl ?_); refine box_event ?hg (N := 2) ?hd (cs := #[.slice A0_0 l0_0.length c0_0, .slice A0_1 l0_1.length c0_1, .slice A0_2 l0_2.length c0_2, .slice A0_3 l0_3.length c0_3, .int .i64 a0_4, .int .i64 a0_5]) (t := 28) ?hr ?_; (case hd => rfl); (case hg => rfl); (case hr => (go_simp; done)); intro gb355 hg w5 hbox hb; have BK355 := Aside0.mk (hbox); replace HB := Aside0.mk (below_step HB.out hb); clear hb hbox hg; obtain ⟨hcz6_0, hcz6_1, hcz6_2, hcz6_3, hcz6_4, hcz6_5⟩ := b6of BK355.out; obtain ⟨hfz6_0, hfz6_1, hfz6_2, hfz6_3, hfz6_4, hfz6_5⟩ := z6of BK355.out) | ((with_reducible refine gate_callee (f := 51) rfl ?_); refine goesL_ (some 9) rfl rfl Tryz.func51 (by kernel_rfl) rfl #[.slice A0_1 l0_1.length c0_1, .string a1] rfl (by (try simp only [List.map_toArray, List.map_cons, List.map_nil]); rfl) ?_; (with_reducible refine (impl_placeOf.calls _ _ l0_1 a1 t356 _ ?side1 ?side2 A3.out).mono ?_); (case side1 => repeat (exact (Kd.C_below HR0_1.out HB.out))); (case side2 => exact HC0_1.out); rintro e w7 ⟨rfl, hb⟩; refine ⟨_, rfl, ?_⟩; replace BK355 := Aside0.mk (bB hb BK355.out); replace HB := Aside0.mk (below_step HB.out hb); (try clear hb)))
  all_goals (go_ret)
  all_goals exact ⟨by rfl, by repeat (with_reducible exact HB.out)⟩
 ·rw [if_neg c4] at H
  have c4b0 : decide (t356 < 0) = false := decide_eq_false c4
  clear c4
  by_cases c8 : 0 ≤ t356
  ·rw [if_pos c8] at H
   have c8b0 : decide (0 ≤ t356) = true := decide_eq_true c8
   clear c8
   by_cases c9 : t356 < (l0_1.length : Int)
   ·rw [if_pos c9] at H
    have c9b0 : decide (t356 < (l0_1.length : Int)) = true := decide_eq_true c9
    clear c9
    obtain ⟨t358, A10, H⟩ := bA H
    replace H : (some t358) = some r := H
    obtain rfl := Option.some.inj H
    go_enter Tryz.func50, Tryz.ntmps50
    try go_wp2_with (first | ((with_reducible refine gate_dst (N := 2) rfl ?_); refine box_event ?hg (N := 2) ?hd (cs := #[.slice A0_0 l0_0.length c0_0, .slice A0_1 l0_1.length c0_1, .slice A0_2 l0_2.length c0_2, .slice A0_3 l0_3.length c0_3, .int .i64 a0_4, .int .i64 a0_5]) (t := 28) ?hr ?_; (case hd => rfl); (case hg => rfl); (case hr => (go_simp; done)); intro gb355 hg w11 hbox hb; have BK355 := Aside0.mk (hbox); replace HB := Aside0.mk (below_step HB.out hb); clear hb hbox hg; obtain ⟨hcz12_0, hcz12_1, hcz12_2, hcz12_3, hcz12_4, hcz12_5⟩ := b6of BK355.out; obtain ⟨hfz12_0, hfz12_1, hfz12_2, hfz12_3, hfz12_4, hfz12_5⟩ := z6of BK355.out) | ((with_reducible refine gate_callee (f := 51) rfl ?_); refine goesL_ (some 9) rfl rfl Tryz.func51 (by kernel_rfl) rfl #[.slice A0_1 l0_1.length c0_1, .string a1] rfl (by (try simp only [List.map_toArray, List.map_cons, List.map_nil]); rfl) ?_; (with_reducible refine (impl_placeOf.calls _ _ l0_1 a1 t356 _ ?side1 ?side2 A3.out).mono ?_); (case side1 => repeat (exact (Kd.C_below HR0_1.out HB.out))); (case side2 => exact HC0_1.out); rintro e w13 ⟨rfl, hb⟩; refine ⟨_, rfl, ?_⟩; replace BK355 := Aside0.mk (bB hb BK355.out); replace HB := Aside0.mk (below_step HB.out hb); (try clear hb)))
    have p357 : 0 ≤ (t356 : Int) := of_decide_eq_true (by (with_reducible assumption))
    have q357 : t356 < (l0_1.length : Int) := of_decide_eq_true (by (with_reducible assumption))
    obtain ⟨ad357, e357, hx357_0, hx357_1⟩ := at_T64 HR0_1.out t356 p357 q357
    have hw357_1 := hx357_1
    cases e357
    replace hx357_0 := (HB.out.cell (World.block_lt_of_cell? w _ hx357_0)).trans hx357_0
    replace hx357_1 := (HB.out.cell (World.block_lt_of_cell? w _ hx357_1)).trans hx357_1
    replace p357 := eq_true p357
    replace q357 := eq_true q357
    have sq0_ : ∀ p_ : LaidBy w13, p_.W.cell? ⟨gb355, 0, none⟩ = some (.slice A0_0 l0_0.length c0_0) := fun p_ => p_.cell ((blk_cell BK355.out 0).trans rfl)
    have sq1_ : ∀ p_ : LaidBy w13, p_.W.cell? ⟨gb355, 1, none⟩ = some (.slice (some ad357) l0_1.length c0_1) := fun p_ => p_.cell ((blk_cell BK355.out 1).trans rfl)
    have sq2_ : ∀ p_ : LaidBy w13, p_.W.cell? ⟨gb355, 2, none⟩ = some (.slice A0_2 l0_2.length c0_2) := fun p_ => p_.cell ((blk_cell BK355.out 2).trans rfl)
    have sq3_ : ∀ p_ : LaidBy w13, p_.W.cell? ⟨gb355, 3, none⟩ = some (.slice A0_3 l0_3.length c0_3) := fun p_ => p_.cell ((blk_cell BK355.out 3).trans rfl)
    have sq4_ : ∀ p_ : LaidBy w13, p_.W.cell? ⟨gb355, 4, none⟩ = some (.int .i64 a0_4) := fun p_ => p_.cell ((blk_cell BK355.out 4).trans rfl)
    have sq5_ : ∀ p_ : LaidBy w13, p_.W.cell? ⟨gb355, 5, none⟩ = some (.int .i64 a0_5) := fun p_ => p_.cell ((blk_cell BK355.out 5).trans rfl)
    have sq7_ : ∀ p_ : LaidBy w13, p_.W.cell? ⟨(ad357.add ((t356).toNat * 2)).block, (ad357.add ((t356).toNat * 2)).off + 1, none⟩ = some (.int .i64 ((rd_T64 l0_1 t356).f1)) := fun p_ => p_.cell ((HB.out.cell (World.block_lt_of_cell? w _ hw357_1)).trans hw357_1)
    refine wp_region_laid (by kernel_rfl) (by kernel_rfl) ?_
    repeat (go_big_quiet_step ((go_at_call 77; with_reducible exact laid_of _ (impl_Disk_nodeOf.calls _ _ l0_0 _ _ l0_1 _ _ l0_2 _ _ l0_3 a0_4 a0_5 ((rd_T64 l0_1 t356).f1) t358 _ (Kd.C_below HR0_0.out (LaidBy.below _ HB.out)) HC0_0.out (Kd.C_below HR0_1.out (LaidBy.below _ HB.out)) HC0_1.out (Kd.C_below HR0_2.out (LaidBy.below _ HB.out)) HC0_2.out (Kd.C_below HR0_3.out (LaidBy.below _ HB.out)) HC0_3.out A10.out))))
    refine wpQuiet_nil ?_
    rintro w15 ⟨p_, hp_⟩
    have hq_ : Below w13.heap.size w13 w15 := hp_ ▸ p_.ok
    clear hp_ p_ sq0_ sq1_ sq2_ sq3_ sq4_ sq5_ sq7_
    have n0_ := Aside0.mk ((hq_.block gb355 (blk_lt BK355.out)).trans BK355.out)
    have n1_ := Aside0.mk (HB.out.trans (hq_.mono HB.out.size))
    clear BK355 HB
    have BK355 := n0_
    have HB := n1_
    clear hq_ n0_ n1_
    try go_wp2
    all_goals (go_ret)
    all_goals exact ⟨by rfl, by repeat (with_reducible exact HB.out)⟩
   ·rw [if_neg c9] at H
    exact absurd H (by simp)
  ·rw [if_neg c8] at H
   exact absurd H (by simp)

/-! ### impl_NodeAt: function 15 -/
def impl_NodeAt.f (l0_0 : List (S38)) (l0_1 : List (S64)) (l0_2 : List (S64)) (l0_3 : List ByteArray) (a0_4 : Int) (a0_5 : Int) (a1 : ByteArray) : Option (Int × ByteArray × Int × Bool) := (impl_Disk_nodeAt.f l0_0 l0_1 l0_2 l0_3 a0_4 a0_5 a1).bind fun t361 => (if t361 < 0 then (some (0, (⟨#[]⟩ : ByteArray), 0, false)) else (if 0 ≤ t361 then (if t361 < (l0_0.length : Int) then (some ((rd_T38 l0_0 t361).f0, (rd_T38 l0_0 t361).f1, (rd_T38 l0_0 t361).f2, true)) else (none)) else (none)))
set_option maxHeartbeats 8000000 in
set_option maxRecDepth 100000 in
theorem impl_NodeAt.calls (A0_0 : Option Addr) (c0_0 : Nat) (l0_0 : List (S38)) (A0_1 : Option Addr) (c0_1 : Nat) (l0_1 : List (S64)) (A0_2 : Option Addr) (c0_2 : Nat) (l0_2 : List (S64)) (A0_3 : Option Addr) (c0_3 : Nat) (l0_3 : List ByteArray) (a0_4 : Int) (a0_5 : Int) (a1 : ByteArray) (r1 : Int) (r2 : ByteArray) (r3 : Int) (r4 : Bool) (w : World) (hr0_0 : Kd.C k38 w A0_0 l0_0.length l0_0) (hc0_0 : l0_0.length ≤ c0_0) (hr0_1 : Kd.C k64 w A0_1 l0_1.length l0_1) (hc0_1 : l0_1.length ≤ c0_1) (hr0_2 : Kd.C k64 w A0_2 l0_2.length l0_2) (hc0_2 : l0_2.length ≤ c0_2) (hr0_3 : Kd.C Kd.string w A0_3 l0_3.length l0_3) (hc0_3 : l0_3.length ≤ c0_3) (h : impl_NodeAt.f l0_0 l0_1 l0_2 l0_3 a0_4 a0_5 a1 = some (r1, r2, r3, r4)) :
  Calls Tryz.prog 15 #[.agg #[.slice A0_0 l0_0.length c0_0, .slice A0_1 l0_1.length c0_1, .slice A0_2 l0_2.length c0_2, .slice A0_3 l0_3.length c0_3, .int .i64 a0_4, .int .i64 a0_5], .string a1] w fun e w' => e = .returned (.tuple #[.agg #[.int .i64 r1, .string r2, .int .i64 r3], .bool r4]) ∧ Below w.heap.size w w' := by
 have HR0_0 := Aside0.mk hr0_0
 have HC0_0 := Aside0.mk hc0_0
 clear hr0_0 hc0_0
 have HR0_1 := Aside0.mk hr0_1
 have HC0_1 := Aside0.mk hc0_1
 clear hr0_1 hc0_1
 have HR0_2 := Aside0.mk hr0_2
 have HC0_2 := Aside0.mk hc0_2
 clear hr0_2 hc0_2
 have HR0_3 := Aside0.mk hr0_3
 have HC0_3 := Aside0.mk hc0_3
 clear hr0_3 hc0_3
 have HB := Aside0.mk (Below.refl w.heap.size w)
 have H : ((impl_Disk_nodeAt.f l0_0 l0_1 l0_2 l0_3 a0_4 a0_5 a1).bind fun t361 => (if t361 < 0 then (some (0, (⟨#[]⟩ : ByteArray), 0, false)) else (if 0 ≤ t361 then (if t361 < (l0_0.length : Int) then (some ((rd_T38 l0_0 t361).f0, (rd_T38 l0_0 t361).f1, (rd_T38 l0_0 t361).f2, true)) else (none)) else (none)))) = some (r1, r2, r3, r4) := h
 clear h
 obtain ⟨t361, A3, H⟩ := bA H
 replace H : (if t361 < 0 then (some (0, (⟨#[]⟩ : ByteArray), 0, false)) else (if 0 ≤ t361 then (if t361 < (l0_0.length : Int) then (some ((rd_T38 l0_0 t361).f0, (rd_T38 l0_0 t361).f1, (rd_T38 l0_0 t361).f2, true)) else (none)) else (none))) = some (r1, r2, r3, r4) := H
 by_cases c4 : t361 < 0
 ·rw [if_pos c4] at H
  have c4b0 : decide (t361 < 0) = true := decide_eq_true c4
  clear c4
  simp only [Option.some.injEq, Prod.mk.injEq] at H
  obtain ⟨rfl, rfl, rfl, rfl⟩ := H
  go_enter Tryz.func15, Tryz.ntmps15
  go_wp2_with (first | ((with_reducible refine gate_dst (N := 2) rfl ?_); refine box_event ?hg (N := 2) ?hd (cs := #[.slice A0_0 l0_0.length c0_0, .slice A0_1 l0_1.length c0_1, .slice A0_2 l0_2.length c0_2, .slice A0_3 l0_3.length c0_3, .int .i64 a0_4, .int .i64 a0_5]) (t := 28) ?hr ?_; (case hd => rfl); (case hg => rfl); (case hr => (go_simp; done)); intro gb359 hg w5 hbox hb; have BK359 := Aside0.mk (hbox); replace HB := Aside0.mk (below_step HB.out hb); clear hb hbox hg) | ((with_reducible refine gate_dst (N := 4) rfl ?_); refine box_event ?hg (N := 4) ?hd (cs := #[.int .i64 0, .string (⟨#[]⟩ : ByteArray), .int .i64 0]) (t := 38) ?hr ?_; (case hd => rfl); (case hg => rfl); (case hr => (go_simp; done)); intro gb360 hg w6 hbox hb; have BK360 := Aside0.mk (hbox); have GE360 := Aside0.mk ((by rw [hg]; exact (below_size HB.out) : w.heap.size ≤ gb360)); replace BK359 := Aside0.mk (bB hb BK359.out); replace HB := Aside0.mk (below_step HB.out hb); clear hb hbox hg; obtain ⟨hcz8_0, hcz8_1, hcz8_2, hcz8_3, hcz8_4, hcz8_5⟩ := b6of BK359.out; obtain ⟨hfz8_0, hfz8_1, hfz8_2, hfz8_3, hfz8_4, hfz8_5⟩ := z6of BK359.out) | ((with_reducible refine gate_callee (f := 50) rfl ?_); refine goesL_ (some 9) rfl rfl Tryz.func50 (by kernel_rfl) rfl #[.agg #[.slice A0_0 l0_0.length c0_0, .slice A0_1 l0_1.length c0_1, .slice A0_2 l0_2.length c0_2, .slice A0_3 l0_3.length c0_3, .int .i64 a0_4, .int .i64 a0_5], .string a1] rfl (by (try simp only [List.map_toArray, List.map_cons, List.map_nil]); rfl) ?_; (with_reducible refine (impl_Disk_nodeAt.calls _ _ l0_0 _ _ l0_1 _ _ l0_2 _ _ l0_3 a0_4 a0_5 a1 t361 _ ?side1 ?side2 ?side3 ?side4 ?side5 ?side6 ?side7 ?side8 A3.out).mono ?_); (case side1 => repeat (exact (Kd.C_below HR0_0.out HB.out))); (case side2 => exact HC0_0.out); (case side3 => repeat (exact (Kd.C_below HR0_1.out HB.out))); (case side4 => exact HC0_1.out); (case side5 => repeat (exact (Kd.C_below HR0_2.out HB.out))); (case side6 => exact HC0_2.out); (case side7 => repeat (exact (Kd.C_below HR0_3.out HB.out))); (case side8 => exact HC0_3.out); rintro e w9 ⟨rfl, hb⟩; refine ⟨_, rfl, ?_⟩; replace BK359 := Aside0.mk (bB hb BK359.out); replace BK360 := Aside0.mk (bB hb BK360.out); replace HB := Aside0.mk (below_step HB.out hb); (try clear hb); have hcz10_0 : w9.cell? ⟨gb360, 0, none⟩ = some (.int .i64 0) := (blk_cell BK360.out 0).trans rfl; have hcz10_1 : w9.cell? ⟨gb360, 1, none⟩ = some (.string (⟨#[]⟩ : ByteArray)) := (blk_cell BK360.out 1).trans rfl; have hcz10_2 : w9.cell? ⟨gb360, 2, none⟩ = some (.int .i64 0) := (blk_cell BK360.out 2).trans rfl; have hfz10_0 := blk_frozen BK360.out 0; have hfz10_1 := blk_frozen BK360.out 1; have hfz10_2 := blk_frozen BK360.out 2))
  refine bodyPost_ret (results_ct rfl _ _ gb360 38 #[.int .i64 0, .string (⟨#[]⟩ : ByteArray), .int .i64 0] (0, 0) _ rfl (by refine blk_put (cs := #[.int .i64 0, .string (⟨#[]⟩ : ByteArray), .int .i64 0]) ?_ 2 _ rfl; refine blk_put (cs := #[.int .i64 0, .string (⟨#[]⟩ : ByteArray), .int .i64 0]) ?_ 1 _ rfl; refine blk_put (cs := #[.int .i64 0, .string (⟨#[]⟩ : ByteArray), .int .i64 0]) ?_ 0 _ rfl; exact BK360.out) Tryz.underlying38 rfl (by kernel_rfl)) rfl ?_
  all_goals exact ⟨by rfl, by repeat (with_reducible first | exact HB.out | refine below_set ?_ GE360.out)⟩
 ·rw [if_neg c4] at H
  have c4b0 : decide (t361 < 0) = false := decide_eq_false c4
  clear c4
  by_cases c11 : 0 ≤ t361
  ·rw [if_pos c11] at H
   have c11b0 : decide (0 ≤ t361) = true := decide_eq_true c11
   clear c11
   by_cases c12 : t361 < (l0_0.length : Int)
   ·rw [if_pos c12] at H
    have c12b0 : decide (t361 < (l0_0.length : Int)) = true := decide_eq_true c12
    clear c12
    simp only [Option.some.injEq, Prod.mk.injEq] at H
    obtain ⟨rfl, rfl, rfl, rfl⟩ := H
    go_enter Tryz.func15, Tryz.ntmps15
    go_wp2_with (first | ((with_reducible refine gate_dst (N := 2) rfl ?_); refine box_event ?hg (N := 2) ?hd (cs := #[.slice A0_0 l0_0.length c0_0, .slice A0_1 l0_1.length c0_1, .slice A0_2 l0_2.length c0_2, .slice A0_3 l0_3.length c0_3, .int .i64 a0_4, .int .i64 a0_5]) (t := 28) ?hr ?_; (case hd => rfl); (case hg => rfl); (case hr => (go_simp; done)); intro gb359 hg w13 hbox hb; have BK359 := Aside0.mk (hbox); replace HB := Aside0.mk (below_step HB.out hb); clear hb hbox hg) | ((with_reducible refine gate_dst (N := 4) rfl ?_); refine box_event ?hg (N := 4) ?hd (cs := #[.int .i64 0, .string (⟨#[]⟩ : ByteArray), .int .i64 0]) (t := 38) ?hr ?_; (case hd => rfl); (case hg => rfl); (case hr => (go_simp; done)); intro gb360 hg w14 hbox hb; have BK360 := Aside0.mk (hbox); have GE360 := Aside0.mk ((by rw [hg]; exact (below_size HB.out) : w.heap.size ≤ gb360)); replace BK359 := Aside0.mk (bB hb BK359.out); replace HB := Aside0.mk (below_step HB.out hb); clear hb hbox hg; obtain ⟨hcz16_0, hcz16_1, hcz16_2, hcz16_3, hcz16_4, hcz16_5⟩ := b6of BK359.out; obtain ⟨hfz16_0, hfz16_1, hfz16_2, hfz16_3, hfz16_4, hfz16_5⟩ := z6of BK359.out) | ((with_reducible refine gate_callee (f := 50) rfl ?_); refine goesL_ (some 9) rfl rfl Tryz.func50 (by kernel_rfl) rfl #[.agg #[.slice A0_0 l0_0.length c0_0, .slice A0_1 l0_1.length c0_1, .slice A0_2 l0_2.length c0_2, .slice A0_3 l0_3.length c0_3, .int .i64 a0_4, .int .i64 a0_5], .string a1] rfl (by (try simp only [List.map_toArray, List.map_cons, List.map_nil]); rfl) ?_; (with_reducible refine (impl_Disk_nodeAt.calls _ _ l0_0 _ _ l0_1 _ _ l0_2 _ _ l0_3 a0_4 a0_5 a1 t361 _ ?side1 ?side2 ?side3 ?side4 ?side5 ?side6 ?side7 ?side8 A3.out).mono ?_); (case side1 => repeat (exact (Kd.C_below HR0_0.out HB.out))); (case side2 => exact HC0_0.out); (case side3 => repeat (exact (Kd.C_below HR0_1.out HB.out))); (case side4 => exact HC0_1.out); (case side5 => repeat (exact (Kd.C_below HR0_2.out HB.out))); (case side6 => exact HC0_2.out); (case side7 => repeat (exact (Kd.C_below HR0_3.out HB.out))); (case side8 => exact HC0_3.out); rintro e w17 ⟨rfl, hb⟩; refine ⟨_, rfl, ?_⟩; replace BK359 := Aside0.mk (bB hb BK359.out); replace BK360 := Aside0.mk (bB hb BK360.out); replace HB := Aside0.mk (below_step HB.out hb); (try clear hb); obtain ⟨hcz18_0, hcz18_1, hcz18_2, hcz18_3, hcz18_4, hcz18_5⟩ := b6of BK359.out; obtain ⟨hfz18_0, hfz18_1, hfz18_2, hfz18_3, hfz18_4, hfz18_5⟩ := z6of BK359.out; have p362 : 0 ≤ (t361 : Int) := of_decide_eq_true (by (with_reducible assumption)); have q362 : t361 < (l0_0.length : Int) := of_decide_eq_true (by (with_reducible assumption)); obtain ⟨ad362, e362, hx362_0, hx362_1, hx362_2⟩ := at_T38 HR0_0.out t361 p362 q362; cases e362; replace hx362_0 := (HB.out.cell (World.block_lt_of_cell? w _ hx362_0)).trans hx362_0; replace hx362_1 := (HB.out.cell (World.block_lt_of_cell? w _ hx362_1)).trans hx362_1; replace hx362_2 := (HB.out.cell (World.block_lt_of_cell? w _ hx362_2)).trans hx362_2; replace p362 := eq_true p362; replace q362 := eq_true q362; have hcz19_0 : w17.cell? ⟨gb360, 0, none⟩ = some (.int .i64 0) := (blk_cell BK360.out 0).trans rfl; have hcz19_1 : w17.cell? ⟨gb360, 1, none⟩ = some (.string (⟨#[]⟩ : ByteArray)) := (blk_cell BK360.out 1).trans rfl; have hcz19_2 : w17.cell? ⟨gb360, 2, none⟩ = some (.int .i64 0) := (blk_cell BK360.out 2).trans rfl; have hfz19_0 := blk_frozen BK360.out 0; have hfz19_1 := blk_frozen BK360.out 1; have hfz19_2 := blk_frozen BK360.out 2))
    refine bodyPost_ret (results_ct rfl _ _ gb360 38 #[.int .i64 ((rd_T38 l0_0 t361).f0), .string ((rd_T38 l0_0 t361).f1), .int .i64 ((rd_T38 l0_0 t361).f2)] (0, 0) _ rfl (by refine blk_put (cs := #[.int .i64 ((rd_T38 l0_0 t361).f0), .string ((rd_T38 l0_0 t361).f1), .int .i64 0]) ?_ 2 _ rfl; refine blk_put (cs := #[.int .i64 ((rd_T38 l0_0 t361).f0), .string (⟨#[]⟩ : ByteArray), .int .i64 0]) ?_ 1 _ rfl; refine blk_put (cs := #[.int .i64 0, .string (⟨#[]⟩ : ByteArray), .int .i64 0]) ?_ 0 _ rfl; exact BK360.out) Tryz.underlying38 rfl (by kernel_rfl)) rfl ?_
    all_goals exact ⟨by rfl, by repeat (with_reducible first | exact HB.out | refine below_set ?_ GE360.out)⟩
   ·rw [if_neg c12] at H
    exact absurd H (by simp)
  ·rw [if_neg c11] at H
   exact absurd H (by simp)

/-! ### impl_ReadFile: function 12 -/
def impl_ReadFile.f (l0_0 : List (S38)) (l0_1 : List (S64)) (l0_2 : List (S64)) (l0_3 : List ByteArray) (a0_4 : Int) (a0_5 : Int) (a1 : ByteArray) : Option (ByteArray × Bool) := (impl_NodeAt.f l0_0 l0_1 l0_2 l0_3 a0_4 a0_5 a1).bind fun bt364 => (some (bt364.2.1, bt364.2.2.2))
set_option maxHeartbeats 8000000 in
set_option maxRecDepth 100000 in
theorem impl_ReadFile.calls (A0_0 : Option Addr) (c0_0 : Nat) (l0_0 : List (S38)) (A0_1 : Option Addr) (c0_1 : Nat) (l0_1 : List (S64)) (A0_2 : Option Addr) (c0_2 : Nat) (l0_2 : List (S64)) (A0_3 : Option Addr) (c0_3 : Nat) (l0_3 : List ByteArray) (a0_4 : Int) (a0_5 : Int) (a1 : ByteArray) (r1 : ByteArray) (r2 : Bool) (w : World) (hr0_0 : Kd.C k38 w A0_0 l0_0.length l0_0) (hc0_0 : l0_0.length ≤ c0_0) (hr0_1 : Kd.C k64 w A0_1 l0_1.length l0_1) (hc0_1 : l0_1.length ≤ c0_1) (hr0_2 : Kd.C k64 w A0_2 l0_2.length l0_2) (hc0_2 : l0_2.length ≤ c0_2) (hr0_3 : Kd.C Kd.string w A0_3 l0_3.length l0_3) (hc0_3 : l0_3.length ≤ c0_3) (h : impl_ReadFile.f l0_0 l0_1 l0_2 l0_3 a0_4 a0_5 a1 = some (r1, r2)) :
  Calls Tryz.prog 12 #[.agg #[.slice A0_0 l0_0.length c0_0, .slice A0_1 l0_1.length c0_1, .slice A0_2 l0_2.length c0_2, .slice A0_3 l0_3.length c0_3, .int .i64 a0_4, .int .i64 a0_5], .string a1] w fun e w' => e = .returned (.tuple #[.string r1, .bool r2]) ∧ Below w.heap.size w w' := by
 have HR0_0 := Aside0.mk hr0_0
 have HC0_0 := Aside0.mk hc0_0
 clear hr0_0 hc0_0
 have HR0_1 := Aside0.mk hr0_1
 have HC0_1 := Aside0.mk hc0_1
 clear hr0_1 hc0_1
 have HR0_2 := Aside0.mk hr0_2
 have HC0_2 := Aside0.mk hc0_2
 clear hr0_2 hc0_2
 have HR0_3 := Aside0.mk hr0_3
 have HC0_3 := Aside0.mk hc0_3
 clear hr0_3 hc0_3
 have HB := Aside0.mk (Below.refl w.heap.size w)
 have H : ((impl_NodeAt.f l0_0 l0_1 l0_2 l0_3 a0_4 a0_5 a1).bind fun bt364 => (some (bt364.2.1, bt364.2.2.2))) = some (r1, r2) := h
 clear h
 obtain ⟨⟨t364, t365, t366, t367⟩, A3, H⟩ := bA H
 replace H : (some (t365, t367)) = some (r1, r2) := H
 simp only [Option.some.injEq, Prod.mk.injEq] at H
 obtain ⟨rfl, rfl⟩ := H
 go_enter Tryz.func12, Tryz.ntmps12
 go_wp2_with (first | ((with_reducible refine gate_dst (N := 2) rfl ?_); refine box_event ?hg (N := 2) ?hd (cs := #[.slice A0_0 l0_0.length c0_0, .slice A0_1 l0_1.length c0_1, .slice A0_2 l0_2.length c0_2, .slice A0_3 l0_3.length c0_3, .int .i64 a0_4, .int .i64 a0_5]) (t := 28) ?hr ?_; (case hd => rfl); (case hg => rfl); (case hr => (go_simp; done)); intro gb363 hg w4 hbox hb; have BK363 := Aside0.mk (hbox); replace HB := Aside0.mk (below_step HB.out hb); clear hb hbox hg; obtain ⟨hcz5_0, hcz5_1, hcz5_2, hcz5_3, hcz5_4, hcz5_5⟩ := b6of BK363.out; obtain ⟨hfz5_0, hfz5_1, hfz5_2, hfz5_3, hfz5_4, hfz5_5⟩ := z6of BK363.out) | ((with_reducible refine gate_callee (f := 15) rfl ?_); refine goesL_ (some 11) rfl rfl Tryz.func15 (by kernel_rfl) rfl #[.agg #[.slice A0_0 l0_0.length c0_0, .slice A0_1 l0_1.length c0_1, .slice A0_2 l0_2.length c0_2, .slice A0_3 l0_3.length c0_3, .int .i64 a0_4, .int .i64 a0_5], .string a1] rfl (by (try simp only [List.map_toArray, List.map_cons, List.map_nil]); rfl) ?_; (with_reducible refine (impl_NodeAt.calls _ _ l0_0 _ _ l0_1 _ _ l0_2 _ _ l0_3 a0_4 a0_5 a1 t364 t365 t366 t367 _ ?side1 ?side2 ?side3 ?side4 ?side5 ?side6 ?side7 ?side8 A3.out).mono ?_); (case side1 => repeat (exact (Kd.C_below HR0_0.out HB.out))); (case side2 => exact HC0_0.out); (case side3 => repeat (exact (Kd.C_below HR0_1.out HB.out))); (case side4 => exact HC0_1.out); (case side5 => repeat (exact (Kd.C_below HR0_2.out HB.out))); (case side6 => exact HC0_2.out); (case side7 => repeat (exact (Kd.C_below HR0_3.out HB.out))); (case side8 => exact HC0_3.out); rintro e w6 ⟨rfl, hb⟩; refine ⟨_, rfl, ?_⟩; replace BK363 := Aside0.mk (bB hb BK363.out); replace HB := Aside0.mk (below_step HB.out hb); (try clear hb)) | ((with_reducible refine gate_dst (N := 6) rfl ?_); refine box_event ?hg (N := 6) ?hd (cs := #[.int .i64 0, .string (⟨#[]⟩ : ByteArray), .int .i64 0]) (t := 38) ?hr ?_; (case hd => rfl); (case hg => rfl); (case hr => (go_simp; done)); intro gb368 hg w7 hbox hb; have BK368 := Aside0.mk (hbox); have GE368 := Aside0.mk ((by rw [hg]; exact (below_size HB.out) : w.heap.size ≤ gb368)); replace BK363 := Aside0.mk (bB hb BK363.out); replace HB := Aside0.mk (below_step HB.out hb); clear hb hbox hg; have hcz9_0 : w7.cell? ⟨gb368, 0, none⟩ = some (.int .i64 0) := (blk_cell BK368.out 0).trans rfl; have hcz9_1 : w7.cell? ⟨gb368, 1, none⟩ = some (.string (⟨#[]⟩ : ByteArray)) := (blk_cell BK368.out 1).trans rfl; have hcz9_2 : w7.cell? ⟨gb368, 2, none⟩ = some (.int .i64 0) := (blk_cell BK368.out 2).trans rfl; have hfz9_0 := blk_frozen BK368.out 0; have hfz9_1 := blk_frozen BK368.out 1; have hfz9_2 := blk_frozen BK368.out 2))
 all_goals (go_ret2)
 all_goals exact ⟨by rfl, by repeat (with_reducible first | exact HB.out | refine below_set ?_ GE368.out)⟩

end Go.Proofs.YthbffdjjmapaaaaGreatDoor.MFnDisks
