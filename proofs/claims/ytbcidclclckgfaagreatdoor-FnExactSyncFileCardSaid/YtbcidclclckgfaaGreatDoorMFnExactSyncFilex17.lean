/- Each theorem here says that a call of one Go function answers what the Lean function beside it answers; its conditions stand in it. Written by a program of this session. -/
import Derived.Test.YtbcidclclckgfaaGreatDoorMFnExactSyncFilex0
import Derived.Test.YtbcidclclckgfaaGreatDoorMFnExactSyncFilex16
namespace Go.Proofs.YtbcidclclckgfaaGreatDoor.MFnExactSyncFile
open Go.RowKit Go.Proofs.YtbcidclclckgfaaGreatDoorW.PrintWords Go.Proofs.YtbcidclclckgfaaGreatDoorW.PrintLast Go.Proofs.YtbcidclclckgfaaGreatDoorW.PrintMore
attribute [local go_sem] max2_int min2_int max_two min_two max_three min_three max_four min_four   -- for this text's walks alone
set_option linter.unusedVariables false
set_option linter.unusedSimpArgs false

/-! ### laws_heldNodeS: function 87 -/
def laws_heldNodeS.l0 : Nat → List (S57) → Int → Int → Option (Int)
 | 0, _, _, _ => none
 | k + 1, x0, x1, x5 => if x5 < (x0.length : Int) then (if 0 ≤ x5 then (if ((rd_T57 x0 x5).f0) = x1 then ((laws_markText.f k (wrap64 (x1 + 1))).bind fun t374 => (if ((rd_T57 x0 x5).f1).toList = t374.toList then (if ((rd_T57 x0 x5).f2) = (wrap64 ((wrap64 (x1 + 1)) + 1)) then (laws_heldNodeS.l0 k x0 (wrap64 ((wrap64 ((wrap64 (x1 + 1)) + 1)) + 1)) (wrap64 (x5 + 1))) else (some (-1))) else (some (-1)))) else (some (-1))) else (none)) else (some x1)
def laws_heldNodeS.f (k : Nat) (l0 : List (S57)) (a1 : Int) : Option (Int) := laws_heldNodeS.l0 k l0 a1 0
theorem laws_heldNodeS.mono_l : ∀ k, (∀ y0 y1 y2, LeO (laws_heldNodeS.l0 k y0 y1 y2) (laws_heldNodeS.l0 (k + 1) y0 y1 y2))
 | 0 => fun _ _ _ r h => by simp [laws_heldNodeS.l0] at h
 | k + 1 => by
  have ih0 := laws_heldNodeS.mono_l k
  ·intro y0 y1 y2
   unfold laws_heldNodeS.l0
   repeat' first | (with_reducible exact ih0 _ _ _) | (with_reducible exact laws_markText.mono _ _) | (with_reducible exact LeO.refl _) | (with_reducible refine LeO.ite ?_ ?_) | (with_reducible refine LeO.bind ?_ (fun _ => ?_))
theorem laws_heldNodeS.mono : ∀ a0 a1 k, LeO (laws_heldNodeS.f k a0 a1) (laws_heldNodeS.f (k + 1) a0 a1) := by
 intro a0 a1 k
 have ih0 := laws_heldNodeS.mono_l k
 unfold laws_heldNodeS.f
 repeat' (with_reducible exact ih0 _ _ _)
def laws_heldNodeS.B7 : List Nat := [0, 0, 3, 7, 15, 0, 32, 127]
set_option maxHeartbeats 8000000 in
set_option maxRecDepth 100000 in
theorem laws_heldNodeS.calls (k : Nat) (A0 : Option Addr) (c0 : Nat) (l0 : List (S57)) (a1 : Int) (r : Int) (w : World) (hr0 : Kd.C k57 w A0 l0.length l0) (hc0 : l0.length ≤ c0) (h : laws_heldNodeS.f k l0 a1 = some r) :
  Calls Tryz.prog 87 #[.slice A0 l0.length c0, .int .i64 a1] w fun e w' => e = .returned (.int .i64 r) ∧ Below w.heap.size w w' := by
 have HR0 := Aside0.mk hr0
 clear hr0 hc0
 have HB := Aside0.mk (Below.refl w.heap.size w)
 have H : (laws_heldNodeS.l0 k l0 a1 0) = some r := h
 clear h
 have H' := Aside0.mk H
 clear H
 go_enter Tryz.func87, Tryz.ntmps87
 go_wp2
 go_loopg [1, 5] k (fun kq v1 v5 w' => ∃ (x1_1 : Int) (x5_1 : Int), v1 = .int .i64 x1_1 ∧ v5 = .int .i64 x5_1 ∧ Aside0 (laws_heldNodeS.l0 kq l0 x1_1 x5_1 = some r) ∧ Aside0 (kq ≤ k) ∧ Aside0 (Below w.heap.size w w'))
 case atStart => exact ⟨(a1), (0), (by rfl), (by rfl), H', ⟨Nat.le_refl _⟩, ⟨by repeat (with_reducible exact HB.out)⟩⟩
 case round =>
  clear H'
  try clear p2
  obtain ⟨x1_1, x5_1, rfl, rfl, HA, HK1, HB⟩ := hrel
  cases gk with
  | zero => exact absurd HA.out (by simp [laws_heldNodeS.l0])
  | succ k1 =>
   have H := HA.out
   clear HA
   simp only [laws_heldNodeS.l0] at H
   by_cases c3 : x5_1 < (l0.length : Int)
   ·rw [if_pos c3] at H
    have c3b0 : decide (x5_1 < (l0.length : Int)) = true := decide_eq_true c3
    clear c3
    by_cases c4 : 0 ≤ x5_1
    ·rw [if_pos c4] at H
     have c4b0 : decide (0 ≤ x5_1) = true := decide_eq_true c4
     clear c4
     by_cases c5 : ((rd_T57 l0 x5_1).f0) = x1_1
     ·rw [if_pos c5] at H
      have c5b1 : (((rd_T57 l0 x5_1).f0) != x1_1) = false := bne_eq_false_iff_eq.mpr c5
      clear c5
      replace H := Option.bind_eq_some_iff.mp H
      obtain ⟨t374, A60, H⟩ := H
      replace H : (if ((rd_T57 l0 x5_1).f1).toList = t374.toList then (if ((rd_T57 l0 x5_1).f2) = (wrap64 ((wrap64 (x1_1 + 1)) + 1)) then (laws_heldNodeS.l0 k1 l0 (wrap64 ((wrap64 ((wrap64 (x1_1 + 1)) + 1)) + 1)) (wrap64 (x5_1 + 1))) else (some (-1))) else (some (-1))) = some r := H
      have A6 := Aside0.mk A60
      clear A60
      by_cases c7 : ((rd_T57 l0 x5_1).f1).toList = t374.toList
      ·rw [if_pos c7] at H
       have c7b0 : (((rd_T57 l0 x5_1).f1).toList == t374.toList) = true := beq_iff_eq.mpr c7
       clear c7
       by_cases c8 : ((rd_T57 l0 x5_1).f2) = (wrap64 ((wrap64 (x1_1 + 1)) + 1))
       ·rw [if_pos c8] at H
        have c8b1 : (((rd_T57 l0 x5_1).f2) != (wrap64 ((wrap64 (x1_1 + 1)) + 1))) = false := bne_eq_false_iff_eq.mpr c8
        clear c8
        have H' := Aside0.mk H
        clear H
        have p372 : 0 ≤ (x5_1 : Int) := of_decide_eq_true (by (with_reducible assumption))
        have q372 : x5_1 < (l0.length : Int) := of_decide_eq_true (by (with_reducible assumption))
        obtain ⟨ad372, e372, hx372_0, hx372_1, hx372_2⟩ := at_T57 HR0.out x5_1 p372 q372
        cases e372
        replace hx372_0 := (HB.out.cell (World.block_lt_of_cell? w _ hx372_0)).trans hx372_0
        replace hx372_1 := (HB.out.cell (World.block_lt_of_cell? w _ hx372_1)).trans hx372_1
        replace hx372_2 := (HB.out.cell (World.block_lt_of_cell? w _ hx372_2)).trans hx372_2
        replace p372 := eq_true p372
        replace q372 := eq_true q372
        try go_wp2
        have p373 : 0 ≤ (x5_1 : Int) := of_decide_eq_true (by (with_reducible assumption))
        have q373 : x5_1 < (l0.length : Int) := of_decide_eq_true (by (with_reducible assumption))
        obtain ⟨ad373, e373, hx373_0, hx373_1, hx373_2⟩ := at_T57 HR0.out x5_1 p373 q373
        have hw373_2 := hx373_2
        have hw373_1 := hx373_1
        have hw373_0 := hx373_0
        obtain rfl : ad372 = ad373 := (by injection e373)
        replace hx373_0 := (HB.out.cell (World.block_lt_of_cell? w _ hx373_0)).trans hx373_0
        replace hx373_1 := (HB.out.cell (World.block_lt_of_cell? w _ hx373_1)).trans hx373_1
        replace hx373_2 := (HB.out.cell (World.block_lt_of_cell? w _ hx373_2)).trans hx373_2
        replace p373 := eq_true p373
        replace q373 := eq_true q373
        have sq1_ : ∀ p_ : LaidBy wr, p_.W.cell? ⟨(ad372.add ((x5_1).toNat * 3)).block, (ad372.add ((x5_1).toNat * 3)).off + 1, none⟩ = some (.string ((rd_T57 l0 x5_1).f1)) := fun p_ => p_.cell ((HB.out.cell (World.block_lt_of_cell? w _ hw373_1)).trans hw373_1)
        refine wp_region_laid (by kernel_rfl) (by kernel_rfl) ?_
        repeat (go_big_quiet_step ((go_at_call 138; with_reducible exact laid_of _ (laws_markText.calls k1 (wrap64 (x1_1 + 1)) t374 _ A6.out))))
        refine wpQuiet_nil ?_
        rintro w10 ⟨p_, hp_⟩
        have hq_ : Below wr.heap.size wr w10 := hp_ ▸ p_.ok
        clear hp_ p_ sq1_
        have n0_ := Aside0.mk (HB.out.trans (hq_.mono HB.out.size))
        clear HB
        have HB := n0_
        clear hq_ n0_
        have p375 : 0 ≤ (x5_1 : Int) := of_decide_eq_true (by (with_reducible assumption))
        have q375 : x5_1 < (l0.length : Int) := of_decide_eq_true (by (with_reducible assumption))
        obtain ⟨ad375, e375, hx375_0, hx375_1, hx375_2⟩ := at_T57 HR0.out x5_1 p375 q375
        obtain rfl : ad372 = ad375 := (by injection e375)
        replace hx375_0 := (HB.out.cell (World.block_lt_of_cell? w _ hx375_0)).trans hx375_0
        replace hx375_1 := (HB.out.cell (World.block_lt_of_cell? w _ hx375_1)).trans hx375_1
        replace hx375_2 := (HB.out.cell (World.block_lt_of_cell? w _ hx375_2)).trans hx375_2
        replace p375 := eq_true p375
        replace q375 := eq_true q375
        try go_wp2
        go_roundg k1
        case measure => have := HK1.out; omega
        case rel => exact ⟨(wrap64 ((wrap64 ((wrap64 (x1_1 + 1)) + 1)) + 1)), (wrap64 (x5_1 + 1)), (by rfl), (by rfl), H', ⟨by have := HK1.out; omega⟩, ⟨by repeat (with_reducible exact HB.out)⟩⟩
       ·rw [if_neg c8] at H
        have c8b1 : (((rd_T57 l0 x5_1).f2) != (wrap64 ((wrap64 (x1_1 + 1)) + 1))) = true := bne_iff_ne.mpr c8
        obtain rfl := Option.some.inj H
        have p372 : 0 ≤ (x5_1 : Int) := of_decide_eq_true (by (with_reducible assumption))
        have q372 : x5_1 < (l0.length : Int) := of_decide_eq_true (by (with_reducible assumption))
        obtain ⟨ad372, e372, hx372_0, hx372_1, hx372_2⟩ := at_T57 HR0.out x5_1 p372 q372
        cases e372
        replace hx372_0 := (HB.out.cell (World.block_lt_of_cell? w _ hx372_0)).trans hx372_0
        replace hx372_1 := (HB.out.cell (World.block_lt_of_cell? w _ hx372_1)).trans hx372_1
        replace hx372_2 := (HB.out.cell (World.block_lt_of_cell? w _ hx372_2)).trans hx372_2
        replace p372 := eq_true p372
        replace q372 := eq_true q372
        try go_wp2
        have p373 : 0 ≤ (x5_1 : Int) := of_decide_eq_true (by (with_reducible assumption))
        have q373 : x5_1 < (l0.length : Int) := of_decide_eq_true (by (with_reducible assumption))
        obtain ⟨ad373, e373, hx373_0, hx373_1, hx373_2⟩ := at_T57 HR0.out x5_1 p373 q373
        have hw373_2 := hx373_2
        have hw373_1 := hx373_1
        have hw373_0 := hx373_0
        obtain rfl : ad372 = ad373 := (by injection e373)
        replace hx373_0 := (HB.out.cell (World.block_lt_of_cell? w _ hx373_0)).trans hx373_0
        replace hx373_1 := (HB.out.cell (World.block_lt_of_cell? w _ hx373_1)).trans hx373_1
        replace hx373_2 := (HB.out.cell (World.block_lt_of_cell? w _ hx373_2)).trans hx373_2
        replace p373 := eq_true p373
        replace q373 := eq_true q373
        have sq1_ : ∀ p_ : LaidBy wr, p_.W.cell? ⟨(ad372.add ((x5_1).toNat * 3)).block, (ad372.add ((x5_1).toNat * 3)).off + 1, none⟩ = some (.string ((rd_T57 l0 x5_1).f1)) := fun p_ => p_.cell ((HB.out.cell (World.block_lt_of_cell? w _ hw373_1)).trans hw373_1)
        refine wp_region_laid (by kernel_rfl) (by kernel_rfl) ?_
        repeat (go_big_quiet_step ((go_at_call 138; with_reducible exact laid_of _ (laws_markText.calls k1 (wrap64 (x1_1 + 1)) t374 _ A6.out))))
        refine wpQuiet_nil ?_
        rintro w12 ⟨p_, hp_⟩
        have hq_ : Below wr.heap.size wr w12 := hp_ ▸ p_.ok
        clear hp_ p_ sq1_
        have n0_ := Aside0.mk (HB.out.trans (hq_.mono HB.out.size))
        clear HB
        have HB := n0_
        clear hq_ n0_
        have p375 : 0 ≤ (x5_1 : Int) := of_decide_eq_true (by (with_reducible assumption))
        have q375 : x5_1 < (l0.length : Int) := of_decide_eq_true (by (with_reducible assumption))
        obtain ⟨ad375, e375, hx375_0, hx375_1, hx375_2⟩ := at_T57 HR0.out x5_1 p375 q375
        obtain rfl : ad372 = ad375 := (by injection e375)
        replace hx375_0 := (HB.out.cell (World.block_lt_of_cell? w _ hx375_0)).trans hx375_0
        replace hx375_1 := (HB.out.cell (World.block_lt_of_cell? w _ hx375_1)).trans hx375_1
        replace hx375_2 := (HB.out.cell (World.block_lt_of_cell? w _ hx375_2)).trans hx375_2
        replace p375 := eq_true p375
        replace q375 := eq_true q375
        try go_wp2
        all_goals (go_ret)
        all_goals exact ⟨by first | rfl | (simp [errW_none, errW_some] <;> rfl) | (simp [*, errW_none, errW_some] <;> rfl) | (exfalso; simp only [decide_eq_true_eq, decide_eq_false_iff_not] at *; omega), by repeat (with_reducible exact HB.out)⟩
      ·rw [if_neg c7] at H
       have c7b0 : (((rd_T57 l0 x5_1).f1).toList == t374.toList) = false := beq_eq_false_iff_ne.mpr c7
       obtain rfl := Option.some.inj H
       have p372 : 0 ≤ (x5_1 : Int) := of_decide_eq_true (by (with_reducible assumption))
       have q372 : x5_1 < (l0.length : Int) := of_decide_eq_true (by (with_reducible assumption))
       obtain ⟨ad372, e372, hx372_0, hx372_1, hx372_2⟩ := at_T57 HR0.out x5_1 p372 q372
       cases e372
       replace hx372_0 := (HB.out.cell (World.block_lt_of_cell? w _ hx372_0)).trans hx372_0
       replace hx372_1 := (HB.out.cell (World.block_lt_of_cell? w _ hx372_1)).trans hx372_1
       replace hx372_2 := (HB.out.cell (World.block_lt_of_cell? w _ hx372_2)).trans hx372_2
       replace p372 := eq_true p372
       replace q372 := eq_true q372
       try go_wp2
       have p373 : 0 ≤ (x5_1 : Int) := of_decide_eq_true (by (with_reducible assumption))
       have q373 : x5_1 < (l0.length : Int) := of_decide_eq_true (by (with_reducible assumption))
       obtain ⟨ad373, e373, hx373_0, hx373_1, hx373_2⟩ := at_T57 HR0.out x5_1 p373 q373
       have hw373_2 := hx373_2
       have hw373_1 := hx373_1
       have hw373_0 := hx373_0
       obtain rfl : ad372 = ad373 := (by injection e373)
       replace hx373_0 := (HB.out.cell (World.block_lt_of_cell? w _ hx373_0)).trans hx373_0
       replace hx373_1 := (HB.out.cell (World.block_lt_of_cell? w _ hx373_1)).trans hx373_1
       replace hx373_2 := (HB.out.cell (World.block_lt_of_cell? w _ hx373_2)).trans hx373_2
       replace p373 := eq_true p373
       replace q373 := eq_true q373
       have sq1_ : ∀ p_ : LaidBy wr, p_.W.cell? ⟨(ad372.add ((x5_1).toNat * 3)).block, (ad372.add ((x5_1).toNat * 3)).off + 1, none⟩ = some (.string ((rd_T57 l0 x5_1).f1)) := fun p_ => p_.cell ((HB.out.cell (World.block_lt_of_cell? w _ hw373_1)).trans hw373_1)
       refine wp_region_laid (by kernel_rfl) (by kernel_rfl) ?_
       repeat (go_big_quiet_step ((go_at_call 138; with_reducible exact laid_of _ (laws_markText.calls k1 (wrap64 (x1_1 + 1)) t374 _ A6.out))))
       refine wpQuiet_nil ?_
       rintro w14 ⟨p_, hp_⟩
       have hq_ : Below wr.heap.size wr w14 := hp_ ▸ p_.ok
       clear hp_ p_ sq1_
       have n0_ := Aside0.mk (HB.out.trans (hq_.mono HB.out.size))
       clear HB
       have HB := n0_
       clear hq_ n0_
       try go_wp2
       all_goals (go_ret)
       all_goals exact ⟨by first | rfl | (simp [errW_none, errW_some] <;> rfl) | (simp [*, errW_none, errW_some] <;> rfl) | (exfalso; simp only [decide_eq_true_eq, decide_eq_false_iff_not] at *; omega), by repeat (with_reducible exact HB.out)⟩
     ·rw [if_neg c5] at H
      have c5b1 : (((rd_T57 l0 x5_1).f0) != x1_1) = true := bne_iff_ne.mpr c5
      obtain rfl := Option.some.inj H
      have p372 : 0 ≤ (x5_1 : Int) := of_decide_eq_true (by (with_reducible assumption))
      have q372 : x5_1 < (l0.length : Int) := of_decide_eq_true (by (with_reducible assumption))
      obtain ⟨ad372, e372, hx372_0, hx372_1, hx372_2⟩ := at_T57 HR0.out x5_1 p372 q372
      cases e372
      replace hx372_0 := (HB.out.cell (World.block_lt_of_cell? w _ hx372_0)).trans hx372_0
      replace hx372_1 := (HB.out.cell (World.block_lt_of_cell? w _ hx372_1)).trans hx372_1
      replace hx372_2 := (HB.out.cell (World.block_lt_of_cell? w _ hx372_2)).trans hx372_2
      replace p372 := eq_true p372
      replace q372 := eq_true q372
      go_wp2
      all_goals (go_ret)
      all_goals exact ⟨by first | rfl | (simp [errW_none, errW_some] <;> rfl) | (simp [*, errW_none, errW_some] <;> rfl) | (exfalso; simp only [decide_eq_true_eq, decide_eq_false_iff_not] at *; omega), by repeat (with_reducible exact HB.out)⟩
    ·rw [if_neg c4] at H
     exact absurd H (by simp)
   ·rw [if_neg c3] at H
    have c3b0 : decide (x5_1 < (l0.length : Int)) = false := decide_eq_false c3
    clear c3
    obtain rfl := Option.some.inj H
    go_wp2
    all_goals (go_ret)
    all_goals exact ⟨by first | rfl | (simp [errW_none, errW_some] <;> rfl) | (simp [*, errW_none, errW_some] <;> rfl) | (exfalso; simp only [decide_eq_true_eq, decide_eq_false_iff_not] at *; omega), by repeat (with_reducible exact HB.out)⟩

/-! ### laws_heldEntryS: function 88 -/
def laws_heldEntryS.l0 : Nat → List (S59) → Int → Int → Option (Int)
 | 0, _, _, _ => none
 | k + 1, x0, x1, x5 => if x5 < (x0.length : Int) then (if 0 ≤ x5 then ((laws_markText.f k x1).bind fun t377 => (if ((rd_T59 x0 x5).f0).toList = t377.toList then (if ((rd_T59 x0 x5).f1) = (wrap64 (x1 + 1)) then (laws_heldEntryS.l0 k x0 (wrap64 ((wrap64 (x1 + 1)) + 1)) (wrap64 (x5 + 1))) else (some (-1))) else (some (-1)))) else (none)) else (some x1)
def laws_heldEntryS.f (k : Nat) (l0 : List (S59)) (a1 : Int) : Option (Int) := laws_heldEntryS.l0 k l0 a1 0
theorem laws_heldEntryS.mono_l : ∀ k, (∀ y0 y1 y2, LeO (laws_heldEntryS.l0 k y0 y1 y2) (laws_heldEntryS.l0 (k + 1) y0 y1 y2))
 | 0 => fun _ _ _ r h => by simp [laws_heldEntryS.l0] at h
 | k + 1 => by
  have ih0 := laws_heldEntryS.mono_l k
  ·intro y0 y1 y2
   unfold laws_heldEntryS.l0
   repeat' first | (with_reducible exact ih0 _ _ _) | (with_reducible exact laws_markText.mono _ _) | (with_reducible exact LeO.refl _) | (with_reducible refine LeO.ite ?_ ?_) | (with_reducible refine LeO.bind ?_ (fun _ => ?_))
theorem laws_heldEntryS.mono : ∀ a0 a1 k, LeO (laws_heldEntryS.f k a0 a1) (laws_heldEntryS.f (k + 1) a0 a1) := by
 intro a0 a1 k
 have ih0 := laws_heldEntryS.mono_l k
 unfold laws_heldEntryS.f
 repeat' (with_reducible exact ih0 _ _ _)
def laws_heldEntryS.T4 : Bool × List (List Nat × List Nat) := (true, [([], []), ([], []), ([0, 1], [0, 1]), ([2], [2]), ([3], [3]), ([], []), ([5], [5]), ([4, 6], [4, 6])])
def laws_heldEntryS.B4 : List Nat := [0, 0, 3, 7, 15, 0, 32, 127]
set_option maxHeartbeats 8000000 in
set_option maxRecDepth 100000 in
theorem laws_heldEntryS.calls (k : Nat) (A0 : Option Addr) (c0 : Nat) (l0 : List (S59)) (a1 : Int) (r : Int) (w : World) (hr0 : Kd.C k59 w A0 l0.length l0) (hc0 : l0.length ≤ c0) (h : laws_heldEntryS.f k l0 a1 = some r) :
  Calls Tryz.prog 88 #[.slice A0 l0.length c0, .int .i64 a1] w fun e w' => e = .returned (.int .i64 r) ∧ Below w.heap.size w w' := by
 have HR0 := Aside0.mk hr0
 clear hr0 hc0
 have HB := Aside0.mk (Below.refl w.heap.size w)
 have H : (laws_heldEntryS.l0 k l0 a1 0) = some r := h
 clear h
 have H' := Aside0.mk H
 clear H
 go_enter Tryz.func88, Tryz.ntmps88
 go_wp2
 go_loopg [1, 5] k (fun kq v1 v5 w' => ∃ (x1_1 : Int) (x5_1 : Int), v1 = .int .i64 x1_1 ∧ v5 = .int .i64 x5_1 ∧ Aside0 (laws_heldEntryS.l0 kq l0 x1_1 x5_1 = some r) ∧ Aside0 (kq ≤ k) ∧ Aside0 (Below w.heap.size w w'))
 case atStart => exact ⟨(a1), (0), (by rfl), (by rfl), H', ⟨Nat.le_refl _⟩, ⟨by repeat (with_reducible exact HB.out)⟩⟩
 case round =>
  clear H'
  try clear p2
  obtain ⟨x1_1, x5_1, rfl, rfl, HA, HK1, HB⟩ := hrel
  cases gk with
  | zero => exact absurd HA.out (by simp [laws_heldEntryS.l0])
  | succ k1 =>
   have H := HA.out
   clear HA
   simp only [laws_heldEntryS.l0] at H
   by_cases c3 : x5_1 < (l0.length : Int)
   ·rw [if_pos c3] at H
    have c3b0 : decide (x5_1 < (l0.length : Int)) = true := decide_eq_true c3
    clear c3
    by_cases c4 : 0 ≤ x5_1
    ·rw [if_pos c4] at H
     have c4b0 : decide (0 ≤ x5_1) = true := decide_eq_true c4
     clear c4
     replace H := Option.bind_eq_some_iff.mp H
     obtain ⟨t377, A50, H⟩ := H
     replace H : (if ((rd_T59 l0 x5_1).f0).toList = t377.toList then (if ((rd_T59 l0 x5_1).f1) = (wrap64 (x1_1 + 1)) then (laws_heldEntryS.l0 k1 l0 (wrap64 ((wrap64 (x1_1 + 1)) + 1)) (wrap64 (x5_1 + 1))) else (some (-1))) else (some (-1))) = some r := H
     have A5 := Aside0.mk A50
     clear A50
     by_cases c6 : ((rd_T59 l0 x5_1).f0).toList = t377.toList
     ·rw [if_pos c6] at H
      have c6b0 : (((rd_T59 l0 x5_1).f0).toList == t377.toList) = true := beq_iff_eq.mpr c6
      clear c6
      by_cases c7 : ((rd_T59 l0 x5_1).f1) = (wrap64 (x1_1 + 1))
      ·rw [if_pos c7] at H
       have c7b1 : (((rd_T59 l0 x5_1).f1) != (wrap64 (x1_1 + 1))) = false := bne_eq_false_iff_eq.mpr c7
       clear c7
       have H' := Aside0.mk H
       clear H
       try go_wp2
       have p376 : 0 ≤ (x5_1 : Int) := of_decide_eq_true (by (with_reducible assumption))
       have q376 : x5_1 < (l0.length : Int) := of_decide_eq_true (by (with_reducible assumption))
       obtain ⟨ad376, e376, hx376_0, hx376_1⟩ := at_T59 HR0.out x5_1 p376 q376
       have hw376_0 := hx376_0
       cases e376
       replace hx376_0 := (HB.out.cell (World.block_lt_of_cell? w _ hx376_0)).trans hx376_0
       replace hx376_1 := (HB.out.cell (World.block_lt_of_cell? w _ hx376_1)).trans hx376_1
       replace p376 := eq_true p376
       replace q376 := eq_true q376
       have sq0_ : ∀ p_ : LaidBy wr, p_.W.cell? (ad376.add ((x5_1).toNat * 2)) = some (.string ((rd_T59 l0 x5_1).f0)) := fun p_ => p_.cell ((HB.out.cell (World.block_lt_of_cell? w _ hw376_0)).trans hw376_0)
       refine wp_region_laid (by kernel_rfl) (by kernel_rfl) ?_
       repeat (go_big_quiet_step ((go_at_call 138; with_reducible exact laid_of _ (laws_markText.calls k1 x1_1 t377 _ A5.out))))
       refine wpQuiet_nil ?_
       rintro w9 ⟨p_, hp_⟩
       have hq_ : Below wr.heap.size wr w9 := hp_ ▸ p_.ok
       clear hp_ p_ sq0_
       have n0_ := Aside0.mk (HB.out.trans (hq_.mono HB.out.size))
       clear HB
       have HB := n0_
       clear hq_ n0_
       have p378 : 0 ≤ (x5_1 : Int) := of_decide_eq_true (by (with_reducible assumption))
       have q378 : x5_1 < (l0.length : Int) := of_decide_eq_true (by (with_reducible assumption))
       obtain ⟨ad378, e378, hx378_0, hx378_1⟩ := at_T59 HR0.out x5_1 p378 q378
       obtain rfl : ad376 = ad378 := (by injection e378)
       replace hx378_0 := (HB.out.cell (World.block_lt_of_cell? w _ hx378_0)).trans hx378_0
       replace hx378_1 := (HB.out.cell (World.block_lt_of_cell? w _ hx378_1)).trans hx378_1
       replace p378 := eq_true p378
       replace q378 := eq_true q378
       try go_wp2
       go_roundg k1
       case measure => have := HK1.out; omega
       case rel => exact ⟨(wrap64 ((wrap64 (x1_1 + 1)) + 1)), (wrap64 (x5_1 + 1)), (by rfl), (by rfl), H', ⟨by have := HK1.out; omega⟩, ⟨by repeat (with_reducible exact HB.out)⟩⟩
      ·rw [if_neg c7] at H
       have c7b1 : (((rd_T59 l0 x5_1).f1) != (wrap64 (x1_1 + 1))) = true := bne_iff_ne.mpr c7
       obtain rfl := Option.some.inj H
       try go_wp2
       have p376 : 0 ≤ (x5_1 : Int) := of_decide_eq_true (by (with_reducible assumption))
       have q376 : x5_1 < (l0.length : Int) := of_decide_eq_true (by (with_reducible assumption))
       obtain ⟨ad376, e376, hx376_0, hx376_1⟩ := at_T59 HR0.out x5_1 p376 q376
       have hw376_0 := hx376_0
       cases e376
       replace hx376_0 := (HB.out.cell (World.block_lt_of_cell? w _ hx376_0)).trans hx376_0
       replace hx376_1 := (HB.out.cell (World.block_lt_of_cell? w _ hx376_1)).trans hx376_1
       replace p376 := eq_true p376
       replace q376 := eq_true q376
       have sq0_ : ∀ p_ : LaidBy wr, p_.W.cell? (ad376.add ((x5_1).toNat * 2)) = some (.string ((rd_T59 l0 x5_1).f0)) := fun p_ => p_.cell ((HB.out.cell (World.block_lt_of_cell? w _ hw376_0)).trans hw376_0)
       refine wp_region_laid (by kernel_rfl) (by kernel_rfl) ?_
       repeat (go_big_quiet_step ((go_at_call 138; with_reducible exact laid_of _ (laws_markText.calls k1 x1_1 t377 _ A5.out))))
       refine wpQuiet_nil ?_
       rintro w11 ⟨p_, hp_⟩
       have hq_ : Below wr.heap.size wr w11 := hp_ ▸ p_.ok
       clear hp_ p_ sq0_
       have n0_ := Aside0.mk (HB.out.trans (hq_.mono HB.out.size))
       clear HB
       have HB := n0_
       clear hq_ n0_
       have p378 : 0 ≤ (x5_1 : Int) := of_decide_eq_true (by (with_reducible assumption))
       have q378 : x5_1 < (l0.length : Int) := of_decide_eq_true (by (with_reducible assumption))
       obtain ⟨ad378, e378, hx378_0, hx378_1⟩ := at_T59 HR0.out x5_1 p378 q378
       obtain rfl : ad376 = ad378 := (by injection e378)
       replace hx378_0 := (HB.out.cell (World.block_lt_of_cell? w _ hx378_0)).trans hx378_0
       replace hx378_1 := (HB.out.cell (World.block_lt_of_cell? w _ hx378_1)).trans hx378_1
       replace p378 := eq_true p378
       replace q378 := eq_true q378
       try go_wp2
       all_goals (go_ret)
       all_goals exact ⟨by first | rfl | (simp [errW_none, errW_some] <;> rfl) | (simp [*, errW_none, errW_some] <;> rfl) | (exfalso; simp only [decide_eq_true_eq, decide_eq_false_iff_not] at *; omega), by repeat (with_reducible exact HB.out)⟩
     ·rw [if_neg c6] at H
      have c6b0 : (((rd_T59 l0 x5_1).f0).toList == t377.toList) = false := beq_eq_false_iff_ne.mpr c6
      obtain rfl := Option.some.inj H
      try go_wp2
      have p376 : 0 ≤ (x5_1 : Int) := of_decide_eq_true (by (with_reducible assumption))
      have q376 : x5_1 < (l0.length : Int) := of_decide_eq_true (by (with_reducible assumption))
      obtain ⟨ad376, e376, hx376_0, hx376_1⟩ := at_T59 HR0.out x5_1 p376 q376
      have hw376_0 := hx376_0
      cases e376
      replace hx376_0 := (HB.out.cell (World.block_lt_of_cell? w _ hx376_0)).trans hx376_0
      replace hx376_1 := (HB.out.cell (World.block_lt_of_cell? w _ hx376_1)).trans hx376_1
      replace p376 := eq_true p376
      replace q376 := eq_true q376
      have sq0_ : ∀ p_ : LaidBy wr, p_.W.cell? (ad376.add ((x5_1).toNat * 2)) = some (.string ((rd_T59 l0 x5_1).f0)) := fun p_ => p_.cell ((HB.out.cell (World.block_lt_of_cell? w _ hw376_0)).trans hw376_0)
      refine wp_region_laid (by kernel_rfl) (by kernel_rfl) ?_
      repeat (go_big_quiet_step ((go_at_call 138; with_reducible exact laid_of _ (laws_markText.calls k1 x1_1 t377 _ A5.out))))
      refine wpQuiet_nil ?_
      rintro w13 ⟨p_, hp_⟩
      have hq_ : Below wr.heap.size wr w13 := hp_ ▸ p_.ok
      clear hp_ p_ sq0_
      have n0_ := Aside0.mk (HB.out.trans (hq_.mono HB.out.size))
      clear HB
      have HB := n0_
      clear hq_ n0_
      try go_wp2
      all_goals (go_ret)
      all_goals exact ⟨by first | rfl | (simp [errW_none, errW_some] <;> rfl) | (simp [*, errW_none, errW_some] <;> rfl) | (exfalso; simp only [decide_eq_true_eq, decide_eq_false_iff_not] at *; omega), by repeat (with_reducible exact HB.out)⟩
    ·rw [if_neg c4] at H
     exact absurd H (by simp)
   ·rw [if_neg c3] at H
    have c3b0 : decide (x5_1 < (l0.length : Int)) = false := decide_eq_false c3
    clear c3
    obtain rfl := Option.some.inj H
    go_wp2
    all_goals (go_ret)
    all_goals exact ⟨by first | rfl | (simp [errW_none, errW_some] <;> rfl) | (simp [*, errW_none, errW_some] <;> rfl) | (exfalso; simp only [decide_eq_true_eq, decide_eq_false_iff_not] at *; omega), by repeat (with_reducible exact HB.out)⟩

end Go.Proofs.YtbcidclclckgfaaGreatDoor.MFnExactSyncFile
