/- Each theorem here says that a call of one Go function answers what the Lean function beside it answers; its conditions stand in it. Written by a program of this session. -/
import Derived.Test.YthbffdjjmapaaaaGreatDoorMFnDisksx0
import Derived.Test.YthbffdjjmapaaaaGreatDoorMFnDisksx2
import Derived.Test.YthbffdjjmapaaaaGreatDoorMFnDisksx6
namespace Go.Proofs.YthbffdjjmapaaaaGreatDoor.MFnDisks
open Go.RowKit Go.Proofs.YthbffdjjmapaaaaGreatDoorW.PrintWords Go.Proofs.YthbffdjjmapaaaaGreatDoorW.PrintLast Go.Proofs.YthbffdjjmapaaaaGreatDoorW.PrintMore
attribute [local go_sem] max2_int min2_int max_two min_two max_three min_three max_four min_four   -- for this text's walks alone
set_option linter.unusedVariables false
set_option linter.unusedSimpArgs false

/-! ### spec_NodeAt: function 49 -/
def spec_NodeAt.f (k : Nat) (l0_0 : List (S38)) (l0_1 : List (S64)) (l0_2 : List (S64)) (l0_3 : List ByteArray) (a0_4 : Int) (a0_5 : Int) (a1 : ByteArray) : Option (Int × ByteArray × Int × Bool) := (spec_EntryAt.f k l0_1 a1).bind fun t371 => ((spec_l05Node.f k l0_0 l0_1 l0_2 l0_3 a0_4 a0_5 t371).bind fun t372 => (if t372 < 0 then (some (0, (⟨#[]⟩ : ByteArray), 0, false)) else ((spec_l06Has.f k l0_1 a1).bind fun t373 => (if t373 = true then (if 0 ≤ t372 then (if t372 < (l0_0.length : Int) then (some ((rd_T38 l0_0 t372).f0, (rd_T38 l0_0 t372).f1, (rd_T38 l0_0 t372).f2, true)) else (none)) else (none)) else (some (0, (⟨#[]⟩ : ByteArray), 0, false))))))
theorem spec_NodeAt.mono : ∀ a0 a1 a2 a3 a4 a5 a6 k, LeO (spec_NodeAt.f k a0 a1 a2 a3 a4 a5 a6) (spec_NodeAt.f (k + 1) a0 a1 a2 a3 a4 a5 a6) := by
 intro a0 a1 a2 a3 a4 a5 a6 k
 unfold spec_NodeAt.f
 repeat' first | (with_reducible exact spec_EntryAt.mono _ _ _) | (with_reducible exact spec_l05Node.mono _ _ _ _ _ _ _ _) | (with_reducible exact spec_l06Has.mono _ _ _) | (with_reducible exact LeO.refl _) | (with_reducible refine LeO.ite ?_ ?_) | (with_reducible refine LeO.bind ?_ (fun _ => ?_))
set_option maxHeartbeats 8000000 in
set_option maxRecDepth 100000 in
theorem spec_NodeAt.calls (k : Nat) (A0_0 : Option Addr) (c0_0 : Nat) (l0_0 : List (S38)) (A0_1 : Option Addr) (c0_1 : Nat) (l0_1 : List (S64)) (A0_2 : Option Addr) (c0_2 : Nat) (l0_2 : List (S64)) (A0_3 : Option Addr) (c0_3 : Nat) (l0_3 : List ByteArray) (a0_4 : Int) (a0_5 : Int) (a1 : ByteArray) (r1 : Int) (r2 : ByteArray) (r3 : Int) (r4 : Bool) (w : World) (hr0_0 : Kd.C k38 w A0_0 l0_0.length l0_0) (hc0_0 : l0_0.length ≤ c0_0) (hr0_1 : Kd.C k64 w A0_1 l0_1.length l0_1) (hc0_1 : l0_1.length ≤ c0_1) (hr0_2 : Kd.C k64 w A0_2 l0_2.length l0_2) (hc0_2 : l0_2.length ≤ c0_2) (hr0_3 : Kd.C Kd.string w A0_3 l0_3.length l0_3) (hc0_3 : l0_3.length ≤ c0_3) (h : spec_NodeAt.f k l0_0 l0_1 l0_2 l0_3 a0_4 a0_5 a1 = some (r1, r2, r3, r4)) :
  Calls Tryz.prog 49 #[.agg #[.slice A0_0 l0_0.length c0_0, .slice A0_1 l0_1.length c0_1, .slice A0_2 l0_2.length c0_2, .slice A0_3 l0_3.length c0_3, .int .i64 a0_4, .int .i64 a0_5], .string a1] w fun e w' => e = .returned (.tuple #[.agg #[.int .i64 r1, .string r2, .int .i64 r3], .bool r4]) ∧ Below w.heap.size w w' := by
 have HR0_0 := Aside0.mk hr0_0
 have HC0_0 := Aside0.mk hc0_0
 clear hr0_0 hc0_0
 have HR0_1 := Aside0.mk hr0_1
 have HC0_1 := Aside0.mk hc0_1
 clear hr0_1 hc0_1
 have HR0_2 := Aside0.mk hr0_2
 have HC0_2 := Aside0.mk hc0_2
 clear hr0_2 hc0_2
 have HR0_3 := Aside0.mk hr0_3
 have HC0_3 := Aside0.mk hc0_3
 clear hr0_3 hc0_3
 have HB := Aside0.mk (Below.refl w.heap.size w)
 have H : ((spec_EntryAt.f k l0_1 a1).bind fun t371 => ((spec_l05Node.f k l0_0 l0_1 l0_2 l0_3 a0_4 a0_5 t371).bind fun t372 => (if t372 < 0 then (some (0, (⟨#[]⟩ : ByteArray), 0, false)) else ((spec_l06Has.f k l0_1 a1).bind fun t373 => (if t373 = true then (if 0 ≤ t372 then (if t372 < (l0_0.length : Int) then (some ((rd_T38 l0_0 t372).f0, (rd_T38 l0_0 t372).f1, (rd_T38 l0_0 t372).f2, true)) else (none)) else (none)) else (some (0, (⟨#[]⟩ : ByteArray), 0, false))))))) = some (r1, r2, r3, r4) := h
 clear h
 obtain ⟨t371, A3, H⟩ := bA H
 replace H : ((spec_l05Node.f k l0_0 l0_1 l0_2 l0_3 a0_4 a0_5 t371).bind fun t372 => (if t372 < 0 then (some (0, (⟨#[]⟩ : ByteArray), 0, false)) else ((spec_l06Has.f k l0_1 a1).bind fun t373 => (if t373 = true then (if 0 ≤ t372 then (if t372 < (l0_0.length : Int) then (some ((rd_T38 l0_0 t372).f0, (rd_T38 l0_0 t372).f1, (rd_T38 l0_0 t372).f2, true)) else (none)) else (none)) else (some (0, (⟨#[]⟩ : ByteArray), 0, false)))))) = some (r1, r2, r3, r4) := H
 obtain ⟨t372, A4, H⟩ := bA H
 replace H : (if t372 < 0 then (some (0, (⟨#[]⟩ : ByteArray), 0, false)) else ((spec_l06Has.f k l0_1 a1).bind fun t373 => (if t373 = true then (if 0 ≤ t372 then (if t372 < (l0_0.length : Int) then (some ((rd_T38 l0_0 t372).f0, (rd_T38 l0_0 t372).f1, (rd_T38 l0_0 t372).f2, true)) else (none)) else (none)) else (some (0, (⟨#[]⟩ : ByteArray), 0, false))))) = some (r1, r2, r3, r4) := H
 by_cases c5 : t372 < 0
 ·rw [if_pos c5] at H
  have c5b0 : decide (t372 < 0) = true := decide_eq_true c5
  clear c5
  simp only [Option.some.injEq, Prod.mk.injEq] at H
  obtain ⟨rfl, rfl, rfl, rfl⟩ := H
  go_enter Tryz.func49, Tryz.ntmps49
  try go_wp2_with (first | ((with_reducible refine gate_dst (N := 2) rfl ?_); refine box_event ?hg (N := 2) ?hd (cs := #[.slice A0_0 l0_0.length c0_0, .slice A0_1 l0_1.length c0_1, .slice A0_2 l0_2.length c0_2, .slice A0_3 l0_3.length c0_3, .int .i64 a0_4, .int .i64 a0_5]) (t := 28) ?hr ?_; (case hd => rfl); (case hg => rfl); (case hr => (go_simp; done)); intro gb369 hg w6 hbox hb; have BK369 := Aside0.mk (hbox); replace HB := Aside0.mk (below_step HB.out hb); clear hb hbox hg) | ((with_reducible refine gate_dst (N := 4) rfl ?_); refine box_event ?hg (N := 4) ?hd (cs := #[.int .i64 0, .string (⟨#[]⟩ : ByteArray), .int .i64 0]) (t := 38) ?hr ?_; (case hd => rfl); (case hg => rfl); (case hr => (go_simp; done)); intro gb370 hg w7 hbox hb; have BK370 := Aside0.mk (hbox); have GE370 := Aside0.mk ((by rw [hg]; exact (below_size HB.out) : w.heap.size ≤ gb370)); replace BK369 := Aside0.mk (bB hb BK369.out); replace HB := Aside0.mk (below_step HB.out hb); clear hb hbox hg))
  have sq0_ : ∀ p_ : LaidBy w7, p_.W.cell? ⟨gb369, 0, none⟩ = some (.slice A0_0 l0_0.length c0_0) := fun p_ => p_.cell ((blk_cell BK369.out 0).trans rfl)
  have sq1_ : ∀ p_ : LaidBy w7, p_.W.cell? ⟨gb369, 1, none⟩ = some (.slice A0_1 l0_1.length c0_1) := fun p_ => p_.cell ((blk_cell BK369.out 1).trans rfl)
  have sq2_ : ∀ p_ : LaidBy w7, p_.W.cell? ⟨gb369, 2, none⟩ = some (.slice A0_2 l0_2.length c0_2) := fun p_ => p_.cell ((blk_cell BK369.out 2).trans rfl)
  have sq3_ : ∀ p_ : LaidBy w7, p_.W.cell? ⟨gb369, 3, none⟩ = some (.slice A0_3 l0_3.length c0_3) := fun p_ => p_.cell ((blk_cell BK369.out 3).trans rfl)
  have sq4_ : ∀ p_ : LaidBy w7, p_.W.cell? ⟨gb369, 4, none⟩ = some (.int .i64 a0_4) := fun p_ => p_.cell ((blk_cell BK369.out 4).trans rfl)
  have sq5_ : ∀ p_ : LaidBy w7, p_.W.cell? ⟨gb369, 5, none⟩ = some (.int .i64 a0_5) := fun p_ => p_.cell ((blk_cell BK369.out 5).trans rfl)
  refine wp_region_laid (by kernel_rfl) (by kernel_rfl) ?_
  repeat (go_big_quiet_step (first | (go_at_call 59; with_reducible exact laid_drawn _ ((spec_EntryAt.calls k _ _ l0_1 a1 t371 _ (Kd.C_below HR0_1.out (LaidBy.below _ HB.out)) HC0_1.out A3.out).mono (by rintro e w' ⟨rfl, nd, rfl⟩; exact ⟨rfl, nd, rfl⟩))) | (go_at_call 73; with_reducible exact laid_of _ (spec_l05Node.calls k _ _ l0_0 _ _ l0_1 _ _ l0_2 _ _ l0_3 a0_4 a0_5 t371 t372 _ (Kd.C_below HR0_0.out (LaidBy.below _ HB.out)) HC0_0.out (Kd.C_below HR0_1.out (LaidBy.below _ HB.out)) HC0_1.out (Kd.C_below HR0_2.out (LaidBy.below _ HB.out)) HC0_2.out (Kd.C_below HR0_3.out (LaidBy.below _ HB.out)) HC0_3.out A4.out))))
  refine wpQuiet_nil ?_
  rintro w9 ⟨p_, hp_⟩
  have hq_ : Below w7.heap.size w7 w9 := hp_ ▸ p_.ok
  clear hp_ p_ sq0_ sq1_ sq2_ sq3_ sq4_ sq5_
  have n0_ := Aside0.mk ((hq_.block gb369 (blk_lt BK369.out)).trans BK369.out)
  have n1_ := Aside0.mk ((hq_.block gb370 (blk_lt BK370.out)).trans BK370.out)
  have n2_ := Aside0.mk (HB.out.trans (hq_.mono HB.out.size))
  clear BK369 BK370 HB
  have BK369 := n0_
  have BK370 := n1_
  have HB := n2_
  clear hq_ n0_ n1_ n2_
  have hcz11_0 : w9.cell? ⟨gb370, 0, none⟩ = some (.int .i64 0) := (blk_cell BK370.out 0).trans rfl
  have hcz11_1 : w9.cell? ⟨gb370, 1, none⟩ = some (.string (⟨#[]⟩ : ByteArray)) := (blk_cell BK370.out 1).trans rfl
  have hcz11_2 : w9.cell? ⟨gb370, 2, none⟩ = some (.int .i64 0) := (blk_cell BK370.out 2).trans rfl
  have hfz11_0 := blk_frozen BK370.out 0
  have hfz11_1 := blk_frozen BK370.out 1
  have hfz11_2 := blk_frozen BK370.out 2
  try go_wp2
  refine bodyPost_ret (results_ct rfl _ _ gb370 38 #[.int .i64 0, .string (⟨#[]⟩ : ByteArray), .int .i64 0] (0, 0) _ rfl (by refine blk_put (cs := #[.int .i64 0, .string (⟨#[]⟩ : ByteArray), .int .i64 0]) ?_ 2 _ rfl; refine blk_put (cs := #[.int .i64 0, .string (⟨#[]⟩ : ByteArray), .int .i64 0]) ?_ 1 _ rfl; refine blk_put (cs := #[.int .i64 0, .string (⟨#[]⟩ : ByteArray), .int .i64 0]) ?_ 0 _ rfl; exact BK370.out) Tryz.underlying38 rfl (by kernel_rfl)) rfl ?_
  all_goals exact ⟨by rfl, by repeat (with_reducible first | exact HB.out | refine below_set ?_ GE370.out)⟩
 ·rw [if_neg c5] at H
  have c5b0 : decide (t372 < 0) = false := decide_eq_false c5
  clear c5
  obtain ⟨t373, A12, H⟩ := bA H
  replace H : (if t373 = true then (if 0 ≤ t372 then (if t372 < (l0_0.length : Int) then (some ((rd_T38 l0_0 t372).f0, (rd_T38 l0_0 t372).f1, (rd_T38 l0_0 t372).f2, true)) else (none)) else (none)) else (some (0, (⟨#[]⟩ : ByteArray), 0, false))) = some (r1, r2, r3, r4) := H
  by_cases c13 : t373 = true
  ·subst c13
   have H1 : (if 0 ≤ t372 then (if t372 < (l0_0.length : Int) then (some ((rd_T38 l0_0 t372).f0, (rd_T38 l0_0 t372).f1, (rd_T38 l0_0 t372).f2, true)) else (none)) else (none)) = some (r1, r2, r3, r4) := by rw [if_pos rfl] at H; exact H
   clear H
   have H := H1
   clear H1
   by_cases c14 : 0 ≤ t372
   ·rw [if_pos c14] at H
    have c14b0 : decide (0 ≤ t372) = true := decide_eq_true c14
    clear c14
    by_cases c15 : t372 < (l0_0.length : Int)
    ·rw [if_pos c15] at H
     have c15b0 : decide (t372 < (l0_0.length : Int)) = true := decide_eq_true c15
     clear c15
     simp only [Option.some.injEq, Prod.mk.injEq] at H
     obtain ⟨rfl, rfl, rfl, rfl⟩ := H
     go_enter Tryz.func49, Tryz.ntmps49
     try go_wp2_with (first | ((with_reducible refine gate_dst (N := 2) rfl ?_); refine box_event ?hg (N := 2) ?hd (cs := #[.slice A0_0 l0_0.length c0_0, .slice A0_1 l0_1.length c0_1, .slice A0_2 l0_2.length c0_2, .slice A0_3 l0_3.length c0_3, .int .i64 a0_4, .int .i64 a0_5]) (t := 28) ?hr ?_; (case hd => rfl); (case hg => rfl); (case hr => (go_simp; done)); intro gb369 hg w16 hbox hb; have BK369 := Aside0.mk (hbox); replace HB := Aside0.mk (below_step HB.out hb); clear hb hbox hg) | ((with_reducible refine gate_dst (N := 4) rfl ?_); refine box_event ?hg (N := 4) ?hd (cs := #[.int .i64 0, .string (⟨#[]⟩ : ByteArray), .int .i64 0]) (t := 38) ?hr ?_; (case hd => rfl); (case hg => rfl); (case hr => (go_simp; done)); intro gb370 hg w17 hbox hb; have BK370 := Aside0.mk (hbox); have GE370 := Aside0.mk ((by rw [hg]; exact (below_size HB.out) : w.heap.size ≤ gb370)); replace BK369 := Aside0.mk (bB hb BK369.out); replace HB := Aside0.mk (below_step HB.out hb); clear hb hbox hg))
     have sq0_ : ∀ p_ : LaidBy w17, p_.W.cell? ⟨gb369, 0, none⟩ = some (.slice A0_0 l0_0.length c0_0) := fun p_ => p_.cell ((blk_cell BK369.out 0).trans rfl)
     have sq1_ : ∀ p_ : LaidBy w17, p_.W.cell? ⟨gb369, 1, none⟩ = some (.slice A0_1 l0_1.length c0_1) := fun p_ => p_.cell ((blk_cell BK369.out 1).trans rfl)
     have sq2_ : ∀ p_ : LaidBy w17, p_.W.cell? ⟨gb369, 2, none⟩ = some (.slice A0_2 l0_2.length c0_2) := fun p_ => p_.cell ((blk_cell BK369.out 2).trans rfl)
     have sq3_ : ∀ p_ : LaidBy w17, p_.W.cell? ⟨gb369, 3, none⟩ = some (.slice A0_3 l0_3.length c0_3) := fun p_ => p_.cell ((blk_cell BK369.out 3).trans rfl)
     have sq4_ : ∀ p_ : LaidBy w17, p_.W.cell? ⟨gb369, 4, none⟩ = some (.int .i64 a0_4) := fun p_ => p_.cell ((blk_cell BK369.out 4).trans rfl)
     have sq5_ : ∀ p_ : LaidBy w17, p_.W.cell? ⟨gb369, 5, none⟩ = some (.int .i64 a0_5) := fun p_ => p_.cell ((blk_cell BK369.out 5).trans rfl)
     refine wp_region_laid (by kernel_rfl) (by kernel_rfl) ?_
     repeat (go_big_quiet_step (first | (go_at_call 59; with_reducible exact laid_drawn _ ((spec_EntryAt.calls k _ _ l0_1 a1 t371 _ (Kd.C_below HR0_1.out (LaidBy.below _ HB.out)) HC0_1.out A3.out).mono (by rintro e w' ⟨rfl, nd, rfl⟩; exact ⟨rfl, nd, rfl⟩))) | (go_at_call 73; with_reducible exact laid_of _ (spec_l05Node.calls k _ _ l0_0 _ _ l0_1 _ _ l0_2 _ _ l0_3 a0_4 a0_5 t371 t372 _ (Kd.C_below HR0_0.out (LaidBy.below _ HB.out)) HC0_0.out (Kd.C_below HR0_1.out (LaidBy.below _ HB.out)) HC0_1.out (Kd.C_below HR0_2.out (LaidBy.below _ HB.out)) HC0_2.out (Kd.C_below HR0_3.out (LaidBy.below _ HB.out)) HC0_3.out A4.out))))
     refine wpQuiet_nil ?_
     rintro w19 ⟨p_, hp_⟩
     have hq_ : Below w17.heap.size w17 w19 := hp_ ▸ p_.ok
     clear hp_ p_ sq0_ sq1_ sq2_ sq3_ sq4_ sq5_
     have n0_ := Aside0.mk ((hq_.block gb369 (blk_lt BK369.out)).trans BK369.out)
     have n1_ := Aside0.mk ((hq_.block gb370 (blk_lt BK370.out)).trans BK370.out)
     have n2_ := Aside0.mk (HB.out.trans (hq_.mono HB.out.size))
     clear BK369 BK370 HB
     have BK369 := n0_
     have BK370 := n1_
     have HB := n2_
     clear hq_ n0_ n1_ n2_
     obtain ⟨hcz21_0, hcz21_1, hcz21_2, hcz21_3, hcz21_4, hcz21_5⟩ := b6of BK369.out
     obtain ⟨hfz21_0, hfz21_1, hfz21_2, hfz21_3, hfz21_4, hfz21_5⟩ := z6of BK369.out
     try go_wp2_with ((go_at_call 57; (with_reducible refine (spec_l06Has.calls k _ _ l0_1 a1 true _ ?side1 ?side2 A12.out).mono ?_); (case side1 => repeat (exact (Kd.C_below HR0_1.out HB.out))); (case side2 => exact HC0_1.out); rintro e w' ⟨rfl, ⟨nd, rfl⟩⟩; (try (rw [drewN_self w19]; generalize hq_ : World.drewN w19 _ = w19; have n0_ : Aside0 (w19.heap[gb369]? = some (.cells #[.slice A0_0 l0_0.length c0_0, .slice A0_1 l0_1.length c0_1, .slice A0_2 l0_2.length c0_2, .slice A0_3 l0_3.length c0_3, .int .i64 a0_4, .int .i64 a0_5] 28 (0, 0))) := ⟨by rw [← hq_]; exact (by (with_reducible repeat (refine blk_drewN ?_ _)); exact BK369.out)⟩; have n1_ : Aside0 (w19.heap[gb370]? = some (.cells #[.int .i64 0, .string (⟨#[]⟩ : ByteArray), .int .i64 0] 38 (0, 0))) := ⟨by rw [← hq_]; exact (by (with_reducible repeat (refine blk_drewN ?_ _)); exact BK370.out)⟩; have n2_ : Aside0 (Below w.heap.size w w19) := ⟨by rw [← hq_]; exact (by repeat (with_reducible first | exact HB.out | apply pw_below_drewN))⟩; clear BK369 BK370 HB hq_; have BK369 := n0_; have BK370 := n1_; have HB := n2_; clear n0_ n1_ n2_)); (try have hcy369_0 : w19.cell? ⟨gb369, 0, none⟩ = some (.slice A0_0 l0_0.length c0_0) := (blk_cell BK369.out 0).trans rfl); (try have hcy369_1 : w19.cell? ⟨gb369, 1, none⟩ = some (.slice A0_1 l0_1.length c0_1) := (blk_cell BK369.out 1).trans rfl); (try have hcy369_2 : w19.cell? ⟨gb369, 2, none⟩ = some (.slice A0_2 l0_2.length c0_2) := (blk_cell BK369.out 2).trans rfl); (try have hcy369_3 : w19.cell? ⟨gb369, 3, none⟩ = some (.slice A0_3 l0_3.length c0_3) := (blk_cell BK369.out 3).trans rfl); (try have hcy369_4 : w19.cell? ⟨gb369, 4, none⟩ = some (.int .i64 a0_4) := (blk_cell BK369.out 4).trans rfl); (try have hcy369_5 : w19.cell? ⟨gb369, 5, none⟩ = some (.int .i64 a0_5) := (blk_cell BK369.out 5).trans rfl); (try have hcy370_0 : w19.cell? ⟨gb370, 0, none⟩ = some (.int .i64 0) := (blk_cell BK370.out 0).trans rfl); (try have hcy370_1 : w19.cell? ⟨gb370, 1, none⟩ = some (.string (⟨#[]⟩ : ByteArray)) := (blk_cell BK370.out 1).trans rfl); (try have hcy370_2 : w19.cell? ⟨gb370, 2, none⟩ = some (.int .i64 0) := (blk_cell BK370.out 2).trans rfl); have p374 : 0 ≤ (t372 : Int) := of_decide_eq_true (by (with_reducible assumption)); have q374 : t372 < (l0_0.length : Int) := of_decide_eq_true (by (with_reducible assumption)); obtain ⟨ad374, e374, hx374_0, hx374_1, hx374_2⟩ := at_T38 HR0_0.out t372 p374 q374; cases e374; replace hx374_0 := (HB.out.cell (World.block_lt_of_cell? w _ hx374_0)).trans hx374_0; replace hx374_1 := (HB.out.cell (World.block_lt_of_cell? w _ hx374_1)).trans hx374_1; replace hx374_2 := (HB.out.cell (World.block_lt_of_cell? w _ hx374_2)).trans hx374_2; replace p374 := eq_true p374; replace q374 := eq_true q374; have hfz22_0 := blk_frozen BK370.out 0; have hfz22_1 := blk_frozen BK370.out 1; have hfz22_2 := blk_frozen BK370.out 2))
     refine bodyPost_ret (results_ct rfl _ _ gb370 38 #[.int .i64 ((rd_T38 l0_0 t372).f0), .string ((rd_T38 l0_0 t372).f1), .int .i64 ((rd_T38 l0_0 t372).f2)] (0, 0) _ rfl (by refine blk_put (cs := #[.int .i64 ((rd_T38 l0_0 t372).f0), .string ((rd_T38 l0_0 t372).f1), .int .i64 0]) ?_ 2 _ rfl; refine blk_put (cs := #[.int .i64 ((rd_T38 l0_0 t372).f0), .string (⟨#[]⟩ : ByteArray), .int .i64 0]) ?_ 1 _ rfl; refine blk_put (cs := #[.int .i64 0, .string (⟨#[]⟩ : ByteArray), .int .i64 0]) ?_ 0 _ rfl; exact BK370.out) Tryz.underlying38 rfl (by kernel_rfl)) rfl ?_
     all_goals exact ⟨by rfl, by repeat (with_reducible first | exact HB.out | refine below_set ?_ GE370.out)⟩
    ·rw [if_neg c15] at H
     exact absurd H (by simp)
   ·rw [if_neg c14] at H
    exact absurd H (by simp)
  ·replace c13 := Bool.eq_false_iff.mpr c13
   subst c13
   have H1 : (some (0, (⟨#[]⟩ : ByteArray), 0, false)) = some (r1, r2, r3, r4) := by rw [if_neg (show ¬ (false = true) by decide)] at H; exact H
   clear H
   have H := H1
   clear H1
   simp only [Option.some.injEq, Prod.mk.injEq] at H
   obtain ⟨rfl, rfl, rfl, rfl⟩ := H
   go_enter Tryz.func49, Tryz.ntmps49
   try go_wp2_with (first | ((with_reducible refine gate_dst (N := 2) rfl ?_); refine box_event ?hg (N := 2) ?hd (cs := #[.slice A0_0 l0_0.length c0_0, .slice A0_1 l0_1.length c0_1, .slice A0_2 l0_2.length c0_2, .slice A0_3 l0_3.length c0_3, .int .i64 a0_4, .int .i64 a0_5]) (t := 28) ?hr ?_; (case hd => rfl); (case hg => rfl); (case hr => (go_simp; done)); intro gb369 hg w23 hbox hb; have BK369 := Aside0.mk (hbox); replace HB := Aside0.mk (below_step HB.out hb); clear hb hbox hg) | ((with_reducible refine gate_dst (N := 4) rfl ?_); refine box_event ?hg (N := 4) ?hd (cs := #[.int .i64 0, .string (⟨#[]⟩ : ByteArray), .int .i64 0]) (t := 38) ?hr ?_; (case hd => rfl); (case hg => rfl); (case hr => (go_simp; done)); intro gb370 hg w24 hbox hb; have BK370 := Aside0.mk (hbox); have GE370 := Aside0.mk ((by rw [hg]; exact (below_size HB.out) : w.heap.size ≤ gb370)); replace BK369 := Aside0.mk (bB hb BK369.out); replace HB := Aside0.mk (below_step HB.out hb); clear hb hbox hg))
   have sq0_ : ∀ p_ : LaidBy w24, p_.W.cell? ⟨gb369, 0, none⟩ = some (.slice A0_0 l0_0.length c0_0) := fun p_ => p_.cell ((blk_cell BK369.out 0).trans rfl)
   have sq1_ : ∀ p_ : LaidBy w24, p_.W.cell? ⟨gb369, 1, none⟩ = some (.slice A0_1 l0_1.length c0_1) := fun p_ => p_.cell ((blk_cell BK369.out 1).trans rfl)
   have sq2_ : ∀ p_ : LaidBy w24, p_.W.cell? ⟨gb369, 2, none⟩ = some (.slice A0_2 l0_2.length c0_2) := fun p_ => p_.cell ((blk_cell BK369.out 2).trans rfl)
   have sq3_ : ∀ p_ : LaidBy w24, p_.W.cell? ⟨gb369, 3, none⟩ = some (.slice A0_3 l0_3.length c0_3) := fun p_ => p_.cell ((blk_cell BK369.out 3).trans rfl)
   have sq4_ : ∀ p_ : LaidBy w24, p_.W.cell? ⟨gb369, 4, none⟩ = some (.int .i64 a0_4) := fun p_ => p_.cell ((blk_cell BK369.out 4).trans rfl)
   have sq5_ : ∀ p_ : LaidBy w24, p_.W.cell? ⟨gb369, 5, none⟩ = some (.int .i64 a0_5) := fun p_ => p_.cell ((blk_cell BK369.out 5).trans rfl)
   refine wp_region_laid (by kernel_rfl) (by kernel_rfl) ?_
   repeat (go_big_quiet_step (first | (go_at_call 59; with_reducible exact laid_drawn _ ((spec_EntryAt.calls k _ _ l0_1 a1 t371 _ (Kd.C_below HR0_1.out (LaidBy.below _ HB.out)) HC0_1.out A3.out).mono (by rintro e w' ⟨rfl, nd, rfl⟩; exact ⟨rfl, nd, rfl⟩))) | (go_at_call 73; with_reducible exact laid_of _ (spec_l05Node.calls k _ _ l0_0 _ _ l0_1 _ _ l0_2 _ _ l0_3 a0_4 a0_5 t371 t372 _ (Kd.C_below HR0_0.out (LaidBy.below _ HB.out)) HC0_0.out (Kd.C_below HR0_1.out (LaidBy.below _ HB.out)) HC0_1.out (Kd.C_below HR0_2.out (LaidBy.below _ HB.out)) HC0_2.out (Kd.C_below HR0_3.out (LaidBy.below _ HB.out)) HC0_3.out A4.out))))
   refine wpQuiet_nil ?_
   rintro w26 ⟨p_, hp_⟩
   have hq_ : Below w24.heap.size w24 w26 := hp_ ▸ p_.ok
   clear hp_ p_ sq0_ sq1_ sq2_ sq3_ sq4_ sq5_
   have n0_ := Aside0.mk ((hq_.block gb369 (blk_lt BK369.out)).trans BK369.out)
   have n1_ := Aside0.mk ((hq_.block gb370 (blk_lt BK370.out)).trans BK370.out)
   have n2_ := Aside0.mk (HB.out.trans (hq_.mono HB.out.size))
   clear BK369 BK370 HB
   have BK369 := n0_
   have BK370 := n1_
   have HB := n2_
   clear hq_ n0_ n1_ n2_
   obtain ⟨hcz28_0, hcz28_1, hcz28_2, hcz28_3, hcz28_4, hcz28_5⟩ := b6of BK369.out
   obtain ⟨hfz28_0, hfz28_1, hfz28_2, hfz28_3, hfz28_4, hfz28_5⟩ := z6of BK369.out
   try go_wp2_with ((go_at_call 57; (with_reducible refine (spec_l06Has.calls k _ _ l0_1 a1 false _ ?side1 ?side2 A12.out).mono ?_); (case side1 => repeat (exact (Kd.C_below HR0_1.out HB.out))); (case side2 => exact HC0_1.out); rintro e w' ⟨rfl, ⟨nd, rfl⟩⟩; (try (rw [drewN_self w26]; generalize hq_ : World.drewN w26 _ = w26; have n0_ : Aside0 (w26.heap[gb369]? = some (.cells #[.slice A0_0 l0_0.length c0_0, .slice A0_1 l0_1.length c0_1, .slice A0_2 l0_2.length c0_2, .slice A0_3 l0_3.length c0_3, .int .i64 a0_4, .int .i64 a0_5] 28 (0, 0))) := ⟨by rw [← hq_]; exact (by (with_reducible repeat (refine blk_drewN ?_ _)); exact BK369.out)⟩; have n1_ : Aside0 (w26.heap[gb370]? = some (.cells #[.int .i64 0, .string (⟨#[]⟩ : ByteArray), .int .i64 0] 38 (0, 0))) := ⟨by rw [← hq_]; exact (by (with_reducible repeat (refine blk_drewN ?_ _)); exact BK370.out)⟩; have n2_ : Aside0 (Below w.heap.size w w26) := ⟨by rw [← hq_]; exact (by repeat (with_reducible first | exact HB.out | apply pw_below_drewN))⟩; clear BK369 BK370 HB hq_; have BK369 := n0_; have BK370 := n1_; have HB := n2_; clear n0_ n1_ n2_)); (try have hcy369_0 : w26.cell? ⟨gb369, 0, none⟩ = some (.slice A0_0 l0_0.length c0_0) := (blk_cell BK369.out 0).trans rfl); (try have hcy369_1 : w26.cell? ⟨gb369, 1, none⟩ = some (.slice A0_1 l0_1.length c0_1) := (blk_cell BK369.out 1).trans rfl); (try have hcy369_2 : w26.cell? ⟨gb369, 2, none⟩ = some (.slice A0_2 l0_2.length c0_2) := (blk_cell BK369.out 2).trans rfl); (try have hcy369_3 : w26.cell? ⟨gb369, 3, none⟩ = some (.slice A0_3 l0_3.length c0_3) := (blk_cell BK369.out 3).trans rfl); (try have hcy369_4 : w26.cell? ⟨gb369, 4, none⟩ = some (.int .i64 a0_4) := (blk_cell BK369.out 4).trans rfl); (try have hcy369_5 : w26.cell? ⟨gb369, 5, none⟩ = some (.int .i64 a0_5) := (blk_cell BK369.out 5).trans rfl); (try have hcy370_0 : w26.cell? ⟨gb370, 0, none⟩ = some (.int .i64 0) := (blk_cell BK370.out 0).trans rfl); (try have hcy370_1 : w26.cell? ⟨gb370, 1, none⟩ = some (.string (⟨#[]⟩ : ByteArray)) := (blk_cell BK370.out 1).trans rfl); (try have hcy370_2 : w26.cell? ⟨gb370, 2, none⟩ = some (.int .i64 0) := (blk_cell BK370.out 2).trans rfl); have hfz29_0 := blk_frozen BK370.out 0; have hfz29_1 := blk_frozen BK370.out 1; have hfz29_2 := blk_frozen BK370.out 2))
   refine bodyPost_ret (results_ct rfl _ _ gb370 38 #[.int .i64 0, .string (⟨#[]⟩ : ByteArray), .int .i64 0] (0, 0) _ rfl (by refine blk_put (cs := #[.int .i64 0, .string (⟨#[]⟩ : ByteArray), .int .i64 0]) ?_ 2 _ rfl; refine blk_put (cs := #[.int .i64 0, .string (⟨#[]⟩ : ByteArray), .int .i64 0]) ?_ 1 _ rfl; refine blk_put (cs := #[.int .i64 0, .string (⟨#[]⟩ : ByteArray), .int .i64 0]) ?_ 0 _ rfl; exact BK370.out) Tryz.underlying38 rfl (by kernel_rfl)) rfl ?_
   all_goals exact ⟨by rfl, by repeat (with_reducible first | exact HB.out | refine below_set ?_ GE370.out)⟩

/-! ### spec_ReadFile: function 13 -/
def spec_ReadFile.f (k : Nat) (l0_0 : List (S38)) (l0_1 : List (S64)) (l0_2 : List (S64)) (l0_3 : List ByteArray) (a0_4 : Int) (a0_5 : Int) (a1 : ByteArray) : Option (ByteArray × Bool) := (spec_NodeAt.f k l0_0 l0_1 l0_2 l0_3 a0_4 a0_5 a1).bind fun bt376 => (some (bt376.2.1, bt376.2.2.2))
theorem spec_ReadFile.mono : ∀ a0 a1 a2 a3 a4 a5 a6 k, LeO (spec_ReadFile.f k a0 a1 a2 a3 a4 a5 a6) (spec_ReadFile.f (k + 1) a0 a1 a2 a3 a4 a5 a6) := by
 intro a0 a1 a2 a3 a4 a5 a6 k
 unfold spec_ReadFile.f
 repeat' first | (with_reducible exact spec_NodeAt.mono _ _ _ _ _ _ _ _) | (with_reducible exact LeO.refl _) | (with_reducible refine LeO.bind ?_ (fun _ => ?_))
set_option maxHeartbeats 8000000 in
set_option maxRecDepth 100000 in
theorem spec_ReadFile.calls (k : Nat) (A0_0 : Option Addr) (c0_0 : Nat) (l0_0 : List (S38)) (A0_1 : Option Addr) (c0_1 : Nat) (l0_1 : List (S64)) (A0_2 : Option Addr) (c0_2 : Nat) (l0_2 : List (S64)) (A0_3 : Option Addr) (c0_3 : Nat) (l0_3 : List ByteArray) (a0_4 : Int) (a0_5 : Int) (a1 : ByteArray) (r1 : ByteArray) (r2 : Bool) (w : World) (hr0_0 : Kd.C k38 w A0_0 l0_0.length l0_0) (hc0_0 : l0_0.length ≤ c0_0) (hr0_1 : Kd.C k64 w A0_1 l0_1.length l0_1) (hc0_1 : l0_1.length ≤ c0_1) (hr0_2 : Kd.C k64 w A0_2 l0_2.length l0_2) (hc0_2 : l0_2.length ≤ c0_2) (hr0_3 : Kd.C Kd.string w A0_3 l0_3.length l0_3) (hc0_3 : l0_3.length ≤ c0_3) (h : spec_ReadFile.f k l0_0 l0_1 l0_2 l0_3 a0_4 a0_5 a1 = some (r1, r2)) :
  Calls Tryz.prog 13 #[.agg #[.slice A0_0 l0_0.length c0_0, .slice A0_1 l0_1.length c0_1, .slice A0_2 l0_2.length c0_2, .slice A0_3 l0_3.length c0_3, .int .i64 a0_4, .int .i64 a0_5], .string a1] w fun e w' => e = .returned (.tuple #[.string r1, .bool r2]) ∧ Below w.heap.size w w' := by
 have HR0_0 := Aside0.mk hr0_0
 have HC0_0 := Aside0.mk hc0_0
 clear hr0_0 hc0_0
 have HR0_1 := Aside0.mk hr0_1
 have HC0_1 := Aside0.mk hc0_1
 clear hr0_1 hc0_1
 have HR0_2 := Aside0.mk hr0_2
 have HC0_2 := Aside0.mk hc0_2
 clear hr0_2 hc0_2
 have HR0_3 := Aside0.mk hr0_3
 have HC0_3 := Aside0.mk hc0_3
 clear hr0_3 hc0_3
 have HB := Aside0.mk (Below.refl w.heap.size w)
 have H : ((spec_NodeAt.f k l0_0 l0_1 l0_2 l0_3 a0_4 a0_5 a1).bind fun bt376 => (some (bt376.2.1, bt376.2.2.2))) = some (r1, r2) := h
 clear h
 obtain ⟨⟨t376, t377, t378, t379⟩, A3, H⟩ := bA H
 replace H : (some (t377, t379)) = some (r1, r2) := H
 simp only [Option.some.injEq, Prod.mk.injEq] at H
 obtain ⟨rfl, rfl⟩ := H
 go_enter Tryz.func13, Tryz.ntmps13
 go_wp2_with (first | ((with_reducible refine gate_dst (N := 2) rfl ?_); refine box_event ?hg (N := 2) ?hd (cs := #[.slice A0_0 l0_0.length c0_0, .slice A0_1 l0_1.length c0_1, .slice A0_2 l0_2.length c0_2, .slice A0_3 l0_3.length c0_3, .int .i64 a0_4, .int .i64 a0_5]) (t := 28) ?hr ?_; (case hd => rfl); (case hg => rfl); (case hr => (go_simp; done)); intro gb375 hg w4 hbox hb; have BK375 := Aside0.mk (hbox); replace HB := Aside0.mk (below_step HB.out hb); clear hb hbox hg; obtain ⟨hcz5_0, hcz5_1, hcz5_2, hcz5_3, hcz5_4, hcz5_5⟩ := b6of BK375.out; obtain ⟨hfz5_0, hfz5_1, hfz5_2, hfz5_3, hfz5_4, hfz5_5⟩ := z6of BK375.out) | ((with_reducible refine gate_callee (f := 49) rfl ?_); refine goesL_ (some 11) rfl rfl Tryz.func49 (by kernel_rfl) rfl #[.agg #[.slice A0_0 l0_0.length c0_0, .slice A0_1 l0_1.length c0_1, .slice A0_2 l0_2.length c0_2, .slice A0_3 l0_3.length c0_3, .int .i64 a0_4, .int .i64 a0_5], .string a1] rfl (by (try simp only [List.map_toArray, List.map_cons, List.map_nil]); rfl) ?_; (with_reducible refine (spec_NodeAt.calls k _ _ l0_0 _ _ l0_1 _ _ l0_2 _ _ l0_3 a0_4 a0_5 a1 t376 t377 t378 t379 _ ?side1 ?side2 ?side3 ?side4 ?side5 ?side6 ?side7 ?side8 A3.out).mono ?_); (case side1 => repeat (exact (Kd.C_below HR0_0.out HB.out))); (case side2 => exact HC0_0.out); (case side3 => repeat (exact (Kd.C_below HR0_1.out HB.out))); (case side4 => exact HC0_1.out); (case side5 => repeat (exact (Kd.C_below HR0_2.out HB.out))); (case side6 => exact HC0_2.out); (case side7 => repeat (exact (Kd.C_below HR0_3.out HB.out))); (case side8 => exact HC0_3.out); rintro e w6 ⟨rfl, hb⟩; refine ⟨_, rfl, ?_⟩; replace BK375 := Aside0.mk (bB hb BK375.out); replace HB := Aside0.mk (below_step HB.out hb); (try clear hb)) | ((with_reducible refine gate_dst (N := 6) rfl ?_); refine box_event ?hg (N := 6) ?hd (cs := #[.int .i64 0, .string (⟨#[]⟩ : ByteArray), .int .i64 0]) (t := 38) ?hr ?_; (case hd => rfl); (case hg => rfl); (case hr => (go_simp; done)); intro gb380 hg w7 hbox hb; have BK380 := Aside0.mk (hbox); have GE380 := Aside0.mk ((by rw [hg]; exact (below_size HB.out) : w.heap.size ≤ gb380)); replace BK375 := Aside0.mk (bB hb BK375.out); replace HB := Aside0.mk (below_step HB.out hb); clear hb hbox hg; have hcz9_0 : w7.cell? ⟨gb380, 0, none⟩ = some (.int .i64 0) := (blk_cell BK380.out 0).trans rfl; have hcz9_1 : w7.cell? ⟨gb380, 1, none⟩ = some (.string (⟨#[]⟩ : ByteArray)) := (blk_cell BK380.out 1).trans rfl; have hcz9_2 : w7.cell? ⟨gb380, 2, none⟩ = some (.int .i64 0) := (blk_cell BK380.out 2).trans rfl; have hfz9_0 := blk_frozen BK380.out 0; have hfz9_1 := blk_frozen BK380.out 1; have hfz9_2 := blk_frozen BK380.out 2))
 all_goals (go_ret2)
 all_goals exact ⟨by rfl, by repeat (with_reducible first | exact HB.out | refine below_set ?_ GE380.out)⟩

/-! ### impl_FileNames: function 14 -/
def impl_FileNames.l0 : Nat → List ByteArray → List (S64) → Int → Int → Option (List ByteArray)
 | 0, _, _, _, _ => none
 | k + 1, x3, x8, x9, x10 => if x10 < x9 then (if 0 ≤ x10 then (if x10 < (x8.length : Int) then (if x3.length < 8796093022208 then (impl_FileNames.l0 k (x3 ++ [(rd_T64 x8 x10).f0]) x8 x9 (wrap64 (x10 + 1))) else (none)) else (none)) else (none)) else (some x3)
def impl_FileNames.f (k : Nat) (l0_0 : List (S38)) (l0_1 : List (S64)) (l0_2 : List (S64)) (l0_3 : List ByteArray) (a0_4 : Int) (a0_5 : Int) : Option (List ByteArray) := impl_FileNames.l0 k ([] : List ByteArray) l0_1 (l0_1.length : Int) 0
theorem impl_FileNames.mono_l : ∀ k, (∀ y0 y1 y2 y3, LeO (impl_FileNames.l0 k y0 y1 y2 y3) (impl_FileNames.l0 (k + 1) y0 y1 y2 y3))
 | 0 => fun _ _ _ _ r h => by simp [impl_FileNames.l0] at h
 | k + 1 => by
  have ih0 := impl_FileNames.mono_l k
  ·intro y0 y1 y2 y3
   unfold impl_FileNames.l0
   repeat' first | (with_reducible exact ih0 _ _ _ _) | (with_reducible exact LeO.refl _) | (with_reducible refine LeO.ite ?_ ?_)
theorem impl_FileNames.mono : ∀ a0 a1 a2 a3 a4 a5 k, LeO (impl_FileNames.f k a0 a1 a2 a3 a4 a5) (impl_FileNames.f (k + 1) a0 a1 a2 a3 a4 a5) := by
 intro a0 a1 a2 a3 a4 a5 k
 have ih0 := impl_FileNames.mono_l k
 unfold impl_FileNames.f
 repeat' (with_reducible exact ih0 _ _ _ _)
set_option maxHeartbeats 8000000 in
set_option maxRecDepth 100000 in
theorem impl_FileNames.calls (k : Nat) (A0_0 : Option Addr) (c0_0 : Nat) (l0_0 : List (S38)) (A0_1 : Option Addr) (c0_1 : Nat) (l0_1 : List (S64)) (A0_2 : Option Addr) (c0_2 : Nat) (l0_2 : List (S64)) (A0_3 : Option Addr) (c0_3 : Nat) (l0_3 : List ByteArray) (a0_4 : Int) (a0_5 : Int) (r : List ByteArray) (w : World) (hr0_0 : Kd.C k38 w A0_0 l0_0.length l0_0) (hc0_0 : l0_0.length ≤ c0_0) (hr0_1 : Kd.C k64 w A0_1 l0_1.length l0_1) (hc0_1 : l0_1.length ≤ c0_1) (hr0_2 : Kd.C k64 w A0_2 l0_2.length l0_2) (hc0_2 : l0_2.length ≤ c0_2) (hr0_3 : Kd.C Kd.string w A0_3 l0_3.length l0_3) (hc0_3 : l0_3.length ≤ c0_3) (h : impl_FileNames.f k l0_0 l0_1 l0_2 l0_3 a0_4 a0_5 = some r) :
  Calls Tryz.prog 14 #[.agg #[.slice A0_0 l0_0.length c0_0, .slice A0_1 l0_1.length c0_1, .slice A0_2 l0_2.length c0_2, .slice A0_3 l0_3.length c0_3, .int .i64 a0_4, .int .i64 a0_5]] w fun e w' => ∃ v0_ : Value, e = .returned (v0_) ∧ Kd.R Kd.string 9 w' w.heap.size (fun _ => True) v0_ r ∧ Below w.heap.size w w' := by
 clear hr0_0 hc0_0
 have HR0_1 := Aside0.mk hr0_1
 clear hr0_1 hc0_1
 clear hr0_2 hc0_2
 clear hr0_3 hc0_3
 have HB := Aside0.mk (Below.refl w.heap.size w)
 have H : (impl_FileNames.l0 k ([] : List ByteArray) l0_1 (l0_1.length : Int) 0) = some r := h
 clear h
 obtain ⟨y382, hy382⟩ : ∃ y_ : List ByteArray, y_ = ([] : List ByteArray) := ⟨_, rfl⟩
 replace H : (impl_FileNames.l0 k y382 l0_1 (l0_1.length : Int) 0) = some r := by (rw [hy382]; with_reducible exact H)
 have Ny382 := Aside0.mk hy382
 clear hy382
 have H' := Aside0.mk H
 clear H
 go_enter Tryz.func14, Tryz.ntmps14
 go_wp2_with (first | ((with_reducible refine gate_dst (N := 1) rfl ?_); refine box_event ?hg (N := 1) ?hd (cs := #[.slice A0_0 l0_0.length c0_0, .slice A0_1 l0_1.length c0_1, .slice A0_2 l0_2.length c0_2, .slice A0_3 l0_3.length c0_3, .int .i64 a0_4, .int .i64 a0_5]) (t := 28) ?hr ?_; (case hd => rfl); (case hg => rfl); (case hr => (go_simp; done)); intro gb381 hg w2 hbox hb; have BK381 := Aside0.mk (hbox); replace HB := Aside0.mk (below_step HB.out hb); clear hb hbox hg) | ((with_reducible refine gate_dst (N := 6) rfl ?_); refine Kd.R_lit Kd.string _ 9 ?hg (N := 6) ?hd (xs := ([] : List ByteArray)) (inner := []) (ok := fun _ => True) (okp := fun _ => True) ?hr ?hp (fun _ hk => hk) trivial (Below.refl _ _) (Nat.le_refl _) (by simp) ?_; (case hd => rfl); (case hg => rfl); (case hr => (go_simp; done)); (case hp => exact (Reps.none _ _)); intro v383 w3 ho4 hb hg_ hnew_; clear hg_ hnew_; (rw [← Ny382.out] at ho4); have HO384 := Aside0.mk (Kd.R_lower ho4 (below_size HB.out)); replace BK381 := Aside0.mk (bB hb BK381.out); replace HB := Aside0.mk (below_step HB.out hb); clear hb ho4; obtain ⟨hcz5_0, hcz5_1, hcz5_2, hcz5_3, hcz5_4, hcz5_5⟩ := b6of BK381.out; obtain ⟨hfz5_0, hfz5_1, hfz5_2, hfz5_3, hfz5_4, hfz5_5⟩ := z6of BK381.out))
 go_loopg [3, 10] k (fun kq v3 v10 w' => ∃ (x3_1 : List ByteArray) (x10_1 : Int), v10 = .int .i64 x10_1 ∧ Aside0 (impl_FileNames.l0 kq x3_1 l0_1 (l0_1.length : Int) x10_1 = some r) ∧ Aside0 (kq ≤ k) ∧ Aside0 (Kd.R Kd.string 9 w' w.heap.size (fun _ => True) v3 x3_1) ∧ Aside0 (w'.heap[gb381]? = some (.cells #[(.slice A0_0 l0_0.length c0_0), (.slice A0_1 l0_1.length c0_1), (.slice A0_2 l0_2.length c0_2), (.slice A0_3 l0_3.length c0_3), .int .i64 a0_4, .int .i64 a0_5] 28 (0, 0))) ∧ Aside0 (Below w.heap.size w w'))
 case atStart => exact ⟨(y382), (0), (by rfl), H', ⟨Nat.le_refl _⟩, ⟨by exact HO384.out⟩, ⟨by exact BK381.out⟩, ⟨by repeat (with_reducible exact HB.out)⟩⟩
 case round =>
  clear H'
  try clear c1
  try clear p2
  try clear hcz5_0
  try clear hcz5_1
  try clear hcz5_2
  try clear hcz5_3
  try clear hcz5_4
  try clear hcz5_5
  try clear hfz5_0
  try clear hfz5_1
  try clear hfz5_2
  try clear hfz5_3
  try clear hfz5_4
  try clear hfz5_5
  obtain ⟨x3_1, x10_1, rfl, HA, HK1, HO_3, BK381, HB⟩ := hrel
  cases gk with
  | zero => exact absurd HA.out (by simp [impl_FileNames.l0])
  | succ k1 =>
   have H := HA.out
   clear HA
   simp only [impl_FileNames.l0] at H
   by_cases c6 : x10_1 < (l0_1.length : Int)
   ·rw [if_pos c6] at H
    have c6b0 : decide (x10_1 < (l0_1.length : Int)) = true := decide_eq_true c6
    clear c6
    by_cases c7 : 0 ≤ x10_1
    ·rw [if_pos c7] at H
     have c7b0 : decide (0 ≤ x10_1) = true := decide_eq_true c7
     clear c7
     by_cases c8 : x10_1 < (l0_1.length : Int)
     ·rw [if_pos c8] at H
      have c8b0 : decide (x10_1 < (l0_1.length : Int)) = true := decide_eq_true c8
      clear c8
      by_cases c9 : x3_1.length < 8796093022208
      ·rw [if_pos c9] at H
       have LMc9 := Aside0.mk c9
       clear c9
       obtain ⟨y387, hy387⟩ : ∃ y_ : List ByteArray, y_ = (x3_1 ++ [(rd_T64 l0_1 x10_1).f0]) := ⟨_, rfl⟩
       replace H : (impl_FileNames.l0 k1 y387 l0_1 (l0_1.length : Int) (wrap64 (x10_1 + 1))) = some r := by (rw [hy387]; with_reducible exact H)
       have Ny387 := Aside0.mk hy387
       clear hy387
       have H' := Aside0.mk H
       clear H
       have p385 : 0 ≤ (x10_1 : Int) := of_decide_eq_true (by (with_reducible assumption))
       have q385 : x10_1 < (l0_1.length : Int) := of_decide_eq_true (by (with_reducible assumption))
       obtain ⟨ad385, e385, hx385_0, hx385_1⟩ := at_T64 HR0_1.out x10_1 p385 q385
       cases e385
       replace hx385_0 := (HB.out.cell (World.block_lt_of_cell? w _ hx385_0)).trans hx385_0
       replace hx385_1 := (HB.out.cell (World.block_lt_of_cell? w _ hx385_1)).trans hx385_1
       replace p385 := eq_true p385
       replace q385 := eq_true q385
       go_wp2_with (first | ((with_reducible refine gate_dst (N := 5) rfl ?_); refine box_event ?hg (N := 5) ?hd (cs := #[.string (⟨#[]⟩ : ByteArray), .int .i64 0]) (t := 64) ?hr ?_; (case hd => rfl); (case hg => rfl); (case hr => (go_simp; done)); intro gb386 hg w10 hbox hb; have BK386 := Aside0.mk (hbox); have GE386 := Aside0.mk ((by rw [hg]; exact (below_size HB.out) : w.heap.size ≤ gb386)); have NB381_386 := Aside0.mk ((by rw [hg]; exact Nat.ne_of_lt (blk_lt BK381.out) : gb381 ≠ gb386)); replace HO_3 := Aside0.mk (Kd.R_below HO_3.out hb); replace BK381 := Aside0.mk (bB hb BK381.out); replace HB := Aside0.mk (below_step HB.out hb); clear hb hbox hg; have hcz12_0 : w10.cell? ⟨gb386, 0, none⟩ = some (.string (⟨#[]⟩ : ByteArray)) := (blk_cell BK386.out 0).trans rfl; have hcz12_1 : w10.cell? ⟨gb386, 1, none⟩ = some (.int .i64 0) := (blk_cell BK386.out 1).trans rfl; have hfz12_0 := blk_frozen BK386.out 0; have hfz12_1 := blk_frozen BK386.out 1) | ((with_reducible refine gate_builtin (b := .append) (xs := #[.tmp 14, .tmp 17]) rfl ?_); at_builtin; refine Kd.R_append Kd.string (w0 := w) w.heap.size rfl (.tmp 14) (.tmp 17) 26 9 (.string ⟨#[]⟩) 16 rfl Tryz.underlying26 info9 rfl (by decide) (by omega) u3 x3_1 ((rd_T64 l0_1 x10_1).f0) [.string ((rd_T64 l0_1 x10_1).f0)] (fun _ => True) (fun _ => False) rfl (by (go_simp; done)) ?aP (fun _ hk => hk.elim) ?aF ?aO ?aB ?aS ?aL ?_; (case aP => exact rfl); (case aB => exact (by repeat (with_reducible first | exact HB.out | refine below_set ?_ GE386.out))); (case aF => exact (fun _ _ => trivial)); (case aO => exact (by exact Kd.R_mono (Kd.R_far (p := ⟨gb386, 1, none⟩) (Kd.R_far (p := ⟨gb386, 0, none⟩) (Kd.R_types HO_3.out BK386.out (by decide)) (fun _ hk => hk.2) (.string ((rd_T64 l0_1 x10_1).f0))) (fun _ hk => hk.2) (.int .i64 ((rd_T64 l0_1 x10_1).f1))) (fun _ hk => trivial))); (case aS => exact (below_size (by repeat (with_reducible first | exact HB.out | refine below_set ?_ GE386.out)))); (case aL => have := LMc9.out; omega); intro v388 w13 ho hb hg hat; rw [← Ny387.out] at ho; have HO389 := Aside0.mk (ho); replace BK381 := Aside0.mk (blk_grown (g := gb381) (o := .cells #[.slice A0_0 l0_0.length c0_0, .slice (some ad385) l0_1.length c0_1, .slice A0_2 l0_2.length c0_2, .slice A0_3 l0_3.length c0_3, .int .i64 a0_4, .int .i64 a0_5] 28 (0, 0)) (by refine blk_far ?_ NB381_386.out _; refine blk_far ?_ NB381_386.out _; exact BK381.out) hg (Kd.R_ne HO_3.out BK381.out (by decide))); replace BK386 := Aside0.mk (blk_grown (g := gb386) (o := .cells #[.string ((rd_T64 l0_1 x10_1).f0), .int .i64 ((rd_T64 l0_1 x10_1).f1)] 64 (0, 0)) (by refine blk_put (cs := #[.string ((rd_T64 l0_1 x10_1).f0), .int .i64 0]) ?_ 1 _ rfl; refine blk_put (cs := #[.string (⟨#[]⟩ : ByteArray), .int .i64 0]) ?_ 0 _ rfl; exact BK386.out) hg (Kd.R_ne HO_3.out BK386.out (by decide))); replace HB := Aside0.mk (hb); clear HO_3; clear ho hb hg hat))
       go_roundg k1
       case measure => have := HK1.out; omega
       case rel => exact ⟨(y387), (wrap64 (x10_1 + 1)), (by rfl), H', ⟨by have := HK1.out; omega⟩, ⟨by exact HO389.out⟩, ⟨by exact BK381.out⟩, ⟨by repeat (with_reducible exact HB.out)⟩⟩
      ·rw [if_neg c9] at H
       exact absurd H (by simp)
     ·rw [if_neg c8] at H
      exact absurd H (by simp)
    ·rw [if_neg c7] at H
     exact absurd H (by simp)
   ·rw [if_neg c6] at H
    have c6b0 : decide (x10_1 < (l0_1.length : Int)) = false := decide_eq_false c6
    clear c6
    obtain rfl := Option.some.inj H
    go_wp2
    all_goals (go_ret)
    all_goals exact ⟨_, by rfl, by exact HO_3.out, by repeat (with_reducible exact HB.out)⟩

/-! ### laws_sameTexts: function 16 -/
def laws_sameTexts.l0 : Nat → List ByteArray → List ByteArray → Int → Option (Bool)
 | 0, _, _, _ => none
 | k + 1, x0, x1, x5 => if x5 < (x0.length : Int) then (if 0 ≤ x5 then (if x5 < (x1.length : Int) then (if (rdOf ByteArray.empty x0 x5).toList = (rdOf ByteArray.empty x1 x5).toList then (laws_sameTexts.l0 k x0 x1 (wrap64 (x5 + 1))) else (some false)) else (none)) else (none)) else (some true)
def laws_sameTexts.f (k : Nat) (l0 : List ByteArray) (l1 : List ByteArray) : Option (Bool) := if (l0.length : Int) = (l1.length : Int) then (laws_sameTexts.l0 k l0 l1 0) else (some false)
theorem laws_sameTexts.mono_l : ∀ k, (∀ y0 y1 y2, LeO (laws_sameTexts.l0 k y0 y1 y2) (laws_sameTexts.l0 (k + 1) y0 y1 y2))
 | 0 => fun _ _ _ r h => by simp [laws_sameTexts.l0] at h
 | k + 1 => by
  have ih0 := laws_sameTexts.mono_l k
  ·intro y0 y1 y2
   unfold laws_sameTexts.l0
   repeat' first | (with_reducible exact ih0 _ _ _) | (with_reducible exact LeO.refl _) | (with_reducible refine LeO.ite ?_ ?_)
theorem laws_sameTexts.mono : ∀ a0 a1 k, LeO (laws_sameTexts.f k a0 a1) (laws_sameTexts.f (k + 1) a0 a1) := by
 intro a0 a1 k
 have ih0 := laws_sameTexts.mono_l k
 unfold laws_sameTexts.f
 repeat' first | (with_reducible exact ih0 _ _ _) | (with_reducible exact LeO.refl _) | (with_reducible refine LeO.ite ?_ ?_)
set_option maxHeartbeats 8000000 in
set_option maxRecDepth 100000 in
theorem laws_sameTexts.calls (k : Nat) (A0 : Option Addr) (c0 : Nat) (l0 : List ByteArray) (A1 : Option Addr) (c1 : Nat) (l1 : List ByteArray) (r : Bool) (w : World) (hr0 : Kd.C Kd.string w A0 l0.length l0) (hc0 : l0.length ≤ c0) (hr1 : Kd.C Kd.string w A1 l1.length l1) (hc1 : l1.length ≤ c1) (h : laws_sameTexts.f k l0 l1 = some r) :
  Calls Tryz.prog 16 #[.slice A0 l0.length c0, .slice A1 l1.length c1] w fun e w' => e = .returned (.bool r) ∧ Drawn0 w w' := by
 have HR0 := Aside0.mk hr0
 clear hr0 hc0
 have HR1 := Aside0.mk hr1
 clear hr1 hc1
 have H : (if (l0.length : Int) = (l1.length : Int) then (laws_sameTexts.l0 k l0 l1 0) else (some false)) = some r := h
 clear h
 by_cases c3 : (l0.length : Int) = (l1.length : Int)
 ·rw [if_pos c3] at H
  have c3b1 : ((l0.length : Int) != (l1.length : Int)) = false := bne_eq_false_iff_eq.mpr c3
  clear c3
  have H' := Aside0.mk H
  clear H
  go_enter Tryz.func16, Tryz.ntmps16
  go_wp2
  repeat (go_quiet (fail); try go_wp2)
  go_loopg [5] k (fun kq v5 w' => ∃ (x5_1 : Int), v5 = .int .i64 x5_1 ∧ Aside0 (laws_sameTexts.l0 kq l0 l1 x5_1 = some r) ∧ Aside0 (kq ≤ k) ∧ Drawn0 w w')
  case atStart => exact ⟨(0), (by rfl), H', ⟨Nat.le_refl _⟩, by repeat (exact Drawn0.refl _)⟩
  case round =>
   clear H'
   try clear c1
   try clear p2
   try clear c3
   try clear c3b1
   obtain ⟨x5_1, rfl, HA, HK1, ⟨m1, rfl⟩⟩ := hrel
   cases gk with
   | zero => exact absurd HA.out (by simp [laws_sameTexts.l0])
   | succ k1 =>
    have H := HA.out
    clear HA
    simp only [laws_sameTexts.l0] at H
    by_cases c4 : x5_1 < (l0.length : Int)
    ·rw [if_pos c4] at H
     have c4b0 : decide (x5_1 < (l0.length : Int)) = true := decide_eq_true c4
     clear c4
     by_cases c5 : 0 ≤ x5_1
     ·rw [if_pos c5] at H
      have c5b0 : decide (0 ≤ x5_1) = true := decide_eq_true c5
      clear c5
      by_cases c6 : x5_1 < (l1.length : Int)
      ·rw [if_pos c6] at H
       have c6b0 : decide (x5_1 < (l1.length : Int)) = true := decide_eq_true c6
       clear c6
       by_cases c7 : (rdOf ByteArray.empty l0 x5_1).toList = (rdOf ByteArray.empty l1 x5_1).toList
       ·rw [if_pos c7] at H
        have c7b0 : ((rdOf ByteArray.empty l0 x5_1).toList == (rdOf ByteArray.empty l1 x5_1).toList) = true := beq_iff_eq.mpr c7
        clear c7
        have H' := Aside0.mk H
        clear H
        have p390 : 0 ≤ (x5_1 : Int) := of_decide_eq_true (by (with_reducible assumption))
        have q390 : x5_1 < (l0.length : Int) := of_decide_eq_true (by (with_reducible assumption))
        obtain ⟨ad390, e390, hx390_0⟩ := Kd.at_string HR0.out x5_1 p390 q390
        cases e390
        replace p390 := eq_true p390
        replace q390 := eq_true q390
        have p391 : 0 ≤ (x5_1 : Int) := of_decide_eq_true (by (with_reducible assumption))
        have q391 : x5_1 < (l1.length : Int) := of_decide_eq_true (by (with_reducible assumption))
        obtain ⟨ad391, e391, hx391_0⟩ := Kd.at_string HR1.out x5_1 p391 q391
        cases e391
        replace p391 := eq_true p391
        replace q391 := eq_true q391
        go_wp2
        repeat (go_quiet (fail); try go_wp2)
        go_roundg k1
        case measure => have := HK1.out; omega
        case rel => exact ⟨(wrap64 (x5_1 + 1)), (by rfl), H', ⟨by have := HK1.out; omega⟩, by repeat (first | exact Drawn0.refl _ | apply Drawn0.step)⟩
       ·rw [if_neg c7] at H
        have c7b0 : ((rdOf ByteArray.empty l0 x5_1).toList == (rdOf ByteArray.empty l1 x5_1).toList) = false := beq_eq_false_iff_ne.mpr c7
        obtain rfl := Option.some.inj H
        have p390 : 0 ≤ (x5_1 : Int) := of_decide_eq_true (by (with_reducible assumption))
        have q390 : x5_1 < (l0.length : Int) := of_decide_eq_true (by (with_reducible assumption))
        obtain ⟨ad390, e390, hx390_0⟩ := Kd.at_string HR0.out x5_1 p390 q390
        cases e390
        replace p390 := eq_true p390
        replace q390 := eq_true q390
        have p391 : 0 ≤ (x5_1 : Int) := of_decide_eq_true (by (with_reducible assumption))
        have q391 : x5_1 < (l1.length : Int) := of_decide_eq_true (by (with_reducible assumption))
        obtain ⟨ad391, e391, hx391_0⟩ := Kd.at_string HR1.out x5_1 p391 q391
        cases e391
        replace p391 := eq_true p391
        replace q391 := eq_true q391
        go_wp2
        repeat (go_quiet (fail); try go_wp2)
        all_goals (go_ret)
        exact ⟨by first | rfl | (simp; done) | (simp [*]; done), by repeat (first | exact Drawn0.refl _ | apply Drawn0.step)⟩
      ·rw [if_neg c6] at H
       exact absurd H (by simp)
     ·rw [if_neg c5] at H
      exact absurd H (by simp)
    ·rw [if_neg c4] at H
     have c4b0 : decide (x5_1 < (l0.length : Int)) = false := decide_eq_false c4
     clear c4
     obtain rfl := Option.some.inj H
     go_wp2
     repeat (go_quiet (fail); try go_wp2)
     all_goals (go_ret)
     exact ⟨by first | rfl | (simp; done) | (simp [*]; done), by repeat (first | exact Drawn0.refl _ | apply Drawn0.step)⟩
 ·rw [if_neg c3] at H
  have c3b1 : ((l0.length : Int) != (l1.length : Int)) = true := bne_iff_ne.mpr c3
  obtain rfl := Option.some.inj H
  go_enter Tryz.func16, Tryz.ntmps16
  go_wp2
  repeat (go_quiet (fail); try go_wp2)
  all_goals (go_ret)
  exact ⟨by first | rfl | (simp; done) | (simp [*]; done), by repeat (exact Drawn0.refl _)⟩

end Go.Proofs.YthbffdjjmapaaaaGreatDoor.MFnDisks
