/- Each theorem here says that a call of one Go function answers what the Lean function beside it answers; its conditions stand in it. Written by a program of this session. -/
import Derived.Test.YtbcidclclckgfaaGreatDoorMFnExactDiskOkx0
namespace Go.Proofs.YtbcidclclckgfaaGreatDoor.MFnExactDiskOk
open Go.RowKit Go.Proofs.YtbcidclclckgfaaGreatDoorW.PrintWords Go.Proofs.YtbcidclclckgfaaGreatDoorW.PrintLast Go.Proofs.YtbcidclclckgfaaGreatDoorW.PrintMore
attribute [local go_sem] max2_int min2_int max_two min_two max_three min_three max_four min_four   -- for this text's walks alone
set_option linter.unusedVariables false
set_option linter.unusedSimpArgs false

/-! ### laws_eqNode: function 134 -/
def laws_eqNode.f (a0_0 : Int) (a0_1 : ByteArray) (a0_2 : Int) (a1_0 : Int) (a1_1 : ByteArray) (a1_2 : Int) : Option Bool := if a0_0 = a1_0 then (if a0_1.toList = a1_1.toList then (if a0_2 = a1_2 then (some true) else some false) else some false) else some false
set_option maxHeartbeats 2000000 in
set_option maxRecDepth 100000 in
theorem laws_eqNode.calls (a0_0 : Int) (a0_1 : ByteArray) (a0_2 : Int) (a1_0 : Int) (a1_1 : ByteArray) (a1_2 : Int) (r : Bool) (w : World) (h : laws_eqNode.f a0_0 a0_1 a0_2 a1_0 a1_1 a1_2 = some r) :
    Calls Tryz.prog 134 #[.agg #[.int .i64 a0_0, .string a0_1, .int .i64 a0_2], .agg #[.int .i64 a1_0, .string a1_1, .int .i64 a1_2]] w fun e w' => e = .returned (.bool r) ∧ Below w.heap.size w w' := by
  unfold laws_eqNode.f at h
  obtain ⟨b0, e0⟩ : ∃ b, (a0_0 == a1_0) = b := ⟨_, rfl⟩
  have n0 : (a0_0 != a1_0) = !b0 := by rw [bne, e0]
  obtain ⟨b1, e1⟩ : ∃ b, (a0_1.toList == a1_1.toList) = b := ⟨_, rfl⟩
  have n1 : (a0_1.toList != a1_1.toList) = !b1 := by rw [bne, e1]
  obtain ⟨b2, e2⟩ : ∃ b, (a0_2 == a1_2) = b := ⟨_, rfl⟩
  have n2 : (a0_2 != a1_2) = !b2 := by rw [bne, e2]
  obtain rfl : r = (b0 && (b1 && (b2 && true))) := Option.some.inj (by
    subst e0 e1 e2
    rw [← h]
    by_cases c0 : a0_0 = a1_0 <;> by_cases c1 : a0_1.toList = a1_1.toList <;> by_cases c2 : a0_2 = a1_2 <;> simp [c0, c1, c2])
  have BL := Aside0.mk (Below.refl w.heap.size w)
  clear h
  cases b0 <;> cases b1 <;> cases b2
  all_goals (go_enter Tryz.func134, Tryz.ntmps134; go_wp2_with (first | ((with_reducible refine gate_dst (N := 2) rfl ?_); refine box_event ?hg (N := 2) ?hd (cs := #[.int .i64 a0_0, .string a0_1, .int .i64 a0_2]) (t := 57) ?hr ?_; (case hd => rfl); (case hg => rfl); (case hr => first | (go_simp; done) | (go_simp; rfl)); intro g5 hg w5 hbox hb; have R0 := Aside0.mk hbox; have BL := Aside0.mk hb; clear hg hbox hb) | ((with_reducible refine gate_dst (N := 3) rfl ?_); refine box_event ?hg (N := 3) ?hd (cs := #[.int .i64 a1_0, .string a1_1, .int .i64 a1_2]) (t := 57) ?hr ?_; (case hd => rfl); (case hg => rfl); (case hr => first | (go_simp; done) | (go_simp; rfl)); intro g6 hg w6 hbox hb; have R1 := Aside0.mk hbox; have R0 := Aside0.mk ((hb.block g5 (blk_lt R0.out)).trans R0.out); have BL := Aside0.mk (BL.out.trans (hb.mono BL.out.size)); have q00 : w6.cell? ⟨g5, 0, none⟩ = some (.int .i64 a0_0) := (blk_cell R0.out 0).trans rfl; have z00 := blk_frozen R0.out 0; have q01 : w6.cell? ⟨g5, 1, none⟩ = some (.string a0_1) := (blk_cell R0.out 1).trans rfl; have z01 := blk_frozen R0.out 1; have q02 : w6.cell? ⟨g5, 2, none⟩ = some (.int .i64 a0_2) := (blk_cell R0.out 2).trans rfl; have z02 := blk_frozen R0.out 2; have q10 : w6.cell? ⟨g6, 0, none⟩ = some (.int .i64 a1_0) := (blk_cell R1.out 0).trans rfl; have z10 := blk_frozen R1.out 0; have q11 : w6.cell? ⟨g6, 1, none⟩ = some (.string a1_1) := (blk_cell R1.out 1).trans rfl; have z11 := blk_frozen R1.out 1; have q12 : w6.cell? ⟨g6, 2, none⟩ = some (.int .i64 a1_2) := (blk_cell R1.out 2).trans rfl; have z12 := blk_frozen R1.out 2; clear hg hbox hb)))
  all_goals go_ret
  all_goals exact ⟨rfl, BL.out⟩

/-! ### laws_eqNodeS: function 75 -/
def laws_eqNodeS.l0 : Nat → List (S57) → List (S57) → Int → Option (Bool)
 | 0, _, _, _ => none
 | k + 1, x0, x1, x5 => if x5 < (x0.length : Int) then (if 0 ≤ x5 then (if x5 < (x1.length : Int) then ((laws_eqNode.f ((rd_T57 x0 x5).f0) ((rd_T57 x0 x5).f1) ((rd_T57 x0 x5).f2) ((rd_T57 x1 x5).f0) ((rd_T57 x1 x5).f1) ((rd_T57 x1 x5).f2)).bind fun t258 => (if t258 = true then (laws_eqNodeS.l0 k x0 x1 (wrap64 (x5 + 1))) else (some false))) else (none)) else (none)) else (some true)
def laws_eqNodeS.f (k : Nat) (l0 : List (S57)) (l1 : List (S57)) : Option (Bool) := if (l0.length : Int) = (l1.length : Int) then (laws_eqNodeS.l0 k l0 l1 0) else (some false)
theorem laws_eqNodeS.mono_l : ∀ k, (∀ y0 y1 y2, LeO (laws_eqNodeS.l0 k y0 y1 y2) (laws_eqNodeS.l0 (k + 1) y0 y1 y2))
 | 0 => fun _ _ _ r h => by simp [laws_eqNodeS.l0] at h
 | k + 1 => by
  have ih0 := laws_eqNodeS.mono_l k
  ·intro y0 y1 y2
   unfold laws_eqNodeS.l0
   repeat' first
   | (with_reducible exact ih0 _ _ _)
   | (with_reducible exact LeO.refl _)
   | (with_reducible exact LeO.none _)
   | (with_reducible refine LeO.ite ?_ ?_)
   | (with_reducible refine LeO.bind ?_ (fun _ => ?_))
   | exact ih0 _ _ _
   | exact LeO.none _
   | refine LeO.ite ?_ ?_
   | refine LeO.bind ?_ (fun _ => ?_)
theorem laws_eqNodeS.mono : ∀ a0 a1 k, LeO (laws_eqNodeS.f k a0 a1) (laws_eqNodeS.f (k + 1) a0 a1) := by
 intro a0 a1 k
 have ih0 := laws_eqNodeS.mono_l k
 unfold laws_eqNodeS.f
 repeat' first
   | (with_reducible exact ih0 _ _ _)
   | (with_reducible exact LeO.refl _)
   | (with_reducible exact LeO.none _)
   | (with_reducible refine LeO.ite ?_ ?_)
   | (with_reducible refine LeO.bind ?_ (fun _ => ?_))
   | exact ih0 _ _ _
   | exact LeO.none _
   | refine LeO.ite ?_ ?_
   | refine LeO.bind ?_ (fun _ => ?_)
def laws_eqNodeS.B6 : List Nat := [0, 0, 3, 7, 0, 0, 48, 112, 255, 511]
set_option maxHeartbeats 8000000 in
set_option maxRecDepth 100000 in
theorem laws_eqNodeS.calls (k : Nat) (A0 : Option Addr) (c0 : Nat) (l0 : List (S57)) (A1 : Option Addr) (c1 : Nat) (l1 : List (S57)) (r : Bool) (w : World) (hr0 : Kd.C k57 w A0 l0.length l0) (hc0 : l0.length ≤ c0) (hr1 : Kd.C k57 w A1 l1.length l1) (hc1 : l1.length ≤ c1) (h : laws_eqNodeS.f k l0 l1 = some r) :
  Calls Tryz.prog 75 #[.slice A0 l0.length c0, .slice A1 l1.length c1] w fun e w' => e = .returned (.bool r) ∧ Below w.heap.size w w' := by
 have hu57 := Tryz.underlying57
 have HR0 := Aside0.mk hr0
 have HC0 := Aside0.mk hc0
 clear hr0 hc0
 have HR1 := Aside0.mk hr1
 have HC1 := Aside0.mk hc1
 clear hr1 hc1
 have HB := Aside0.mk (Below.refl w.heap.size w)
 have H : (if (l0.length : Int) = (l1.length : Int) then (laws_eqNodeS.l0 k l0 l1 0) else (some false)) = some r := h
 clear h
 by_cases c3 : (l0.length : Int) = (l1.length : Int)
 ·rw [if_pos c3] at H
  have c3b0 : ((l0.length : Int) == (l1.length : Int)) = true := beq_iff_eq.mpr c3
  have c3b1 : ((l0.length : Int) != (l1.length : Int)) = false := bne_eq_false_iff_eq.mpr c3
  have c3b2 : (l0.length == l1.length) = true := by first | simpa using c3 | (simp at c3 ⊢; omega)
  clear c3
  have H' := Aside0.mk H
  clear H
  go_enter Tryz.func75, Tryz.ntmps75
  go_wp2
  go_loopg [5] k (fun kq v5 w' => ∃ (x5_1 : Int), v5 = .int .i64 x5_1 ∧ Aside0 (laws_eqNodeS.l0 kq l0 l1 x5_1 = some r) ∧ Aside0 (kq ≤ k) ∧ Aside0 (Below w.heap.size w w'))
  case atStart => exact ⟨(0), (by first | rfl | (simp; done) | (simp [*]; done)), H', ⟨Nat.le_refl _⟩, ⟨by repeat (first | (with_reducible first | exact HB.out | apply below_alloc | apply pw_below_drewN | apply below_drew1) | exact HB.out)⟩⟩
  case round =>
   clear H'
   try clear c1
   try clear p2
   try clear c3
   try clear c3b0
   try clear c3b1
   try clear c3b2
   obtain ⟨x5_1, rfl, HA, HK1, HB⟩ := hrel
   cases gk with
   | zero => exact absurd HA.out (by simp [laws_eqNodeS.l0])
   | succ k1 =>
    have H := HA.out
    clear HA
    simp only [laws_eqNodeS.l0] at H
    by_cases c4 : x5_1 < (l0.length : Int)
    ·rw [if_pos c4] at H
     have c4b0 : decide (x5_1 < (l0.length : Int)) = true := decide_eq_true c4
     clear c4
     by_cases c5 : 0 ≤ x5_1
     ·rw [if_pos c5] at H
      have c5b0 : decide (0 ≤ x5_1) = true := decide_eq_true c5
      clear c5
      by_cases c6 : x5_1 < (l1.length : Int)
      ·rw [if_pos c6] at H
       have c6b0 : decide (x5_1 < (l1.length : Int)) = true := decide_eq_true c6
       clear c6
       replace H := Option.bind_eq_some_iff.mp H
       obtain ⟨t258, A70, H⟩ := H
       replace H : (if t258 = true then (laws_eqNodeS.l0 k1 l0 l1 (wrap64 (x5_1 + 1))) else (some false)) = some r := H
       have A7 := Aside0.mk A70
       clear A70
       by_cases c8 : t258 = true
       ·subst c8
        have H1 : (laws_eqNodeS.l0 k1 l0 l1 (wrap64 (x5_1 + 1))) = some r := by rw [if_pos rfl] at H; exact H
        clear H
        have H := H1
        clear H1
        have H' := Aside0.mk H
        clear H
        try go_wp2
        have p256 : 0 ≤ (x5_1 : Int) := of_decide_eq_true (by first | (with_reducible assumption) | assumption)
        have q256 : x5_1 < (l0.length : Int) := of_decide_eq_true (by first | (with_reducible assumption) | assumption)
        obtain ⟨ad256, e256, hx256_0, hx256_1, hx256_2⟩ := at_T57 HR0.out x5_1 p256 q256
        have hw256_2 := hx256_2
        have hw256_1 := hx256_1
        have hw256_0 := hx256_0
        cases e256
        replace hx256_0 := (HB.out.cell (World.block_lt_of_cell? w _ hx256_0)).trans hx256_0
        replace hx256_1 := (HB.out.cell (World.block_lt_of_cell? w _ hx256_1)).trans hx256_1
        replace hx256_2 := (HB.out.cell (World.block_lt_of_cell? w _ hx256_2)).trans hx256_2
        replace p256 := eq_true p256
        replace q256 := eq_true q256
        have p257 : 0 ≤ (x5_1 : Int) := of_decide_eq_true (by first | (with_reducible assumption) | assumption)
        have q257 : x5_1 < (l1.length : Int) := of_decide_eq_true (by first | (with_reducible assumption) | assumption)
        obtain ⟨ad257, e257, hx257_0, hx257_1, hx257_2⟩ := at_T57 HR1.out x5_1 p257 q257
        have hw257_2 := hx257_2
        have hw257_1 := hx257_1
        have hw257_0 := hx257_0
        cases e257
        replace hx257_0 := (HB.out.cell (World.block_lt_of_cell? w _ hx257_0)).trans hx257_0
        replace hx257_1 := (HB.out.cell (World.block_lt_of_cell? w _ hx257_1)).trans hx257_1
        replace hx257_2 := (HB.out.cell (World.block_lt_of_cell? w _ hx257_2)).trans hx257_2
        replace p257 := eq_true p257
        replace q257 := eq_true q257
        have sq0_ : ∀ p_ : LaidBy wr, p_.W.cell? (ad256.add ((x5_1).toNat * 3)) = some (.int .i64 ((rd_T57 l0 x5_1).f0)) := fun p_ => p_.cell ((HB.out.cell (World.block_lt_of_cell? w _ hw256_0)).trans hw256_0)
        have sq1_ : ∀ p_ : LaidBy wr, p_.W.cell? ⟨(ad256.add ((x5_1).toNat * 3)).block, (ad256.add ((x5_1).toNat * 3)).off + 1, none⟩ = some (.string ((rd_T57 l0 x5_1).f1)) := fun p_ => p_.cell ((HB.out.cell (World.block_lt_of_cell? w _ hw256_1)).trans hw256_1)
        have sq2_ : ∀ p_ : LaidBy wr, p_.W.cell? ⟨(ad256.add ((x5_1).toNat * 3)).block, (ad256.add ((x5_1).toNat * 3)).off + 2, none⟩ = some (.int .i64 ((rd_T57 l0 x5_1).f2)) := fun p_ => p_.cell ((HB.out.cell (World.block_lt_of_cell? w _ hw256_2)).trans hw256_2)
        have sq3_ : ∀ p_ : LaidBy wr, p_.W.cell? (ad257.add ((x5_1).toNat * 3)) = some (.int .i64 ((rd_T57 l1 x5_1).f0)) := fun p_ => p_.cell ((HB.out.cell (World.block_lt_of_cell? w _ hw257_0)).trans hw257_0)
        have sq4_ : ∀ p_ : LaidBy wr, p_.W.cell? ⟨(ad257.add ((x5_1).toNat * 3)).block, (ad257.add ((x5_1).toNat * 3)).off + 1, none⟩ = some (.string ((rd_T57 l1 x5_1).f1)) := fun p_ => p_.cell ((HB.out.cell (World.block_lt_of_cell? w _ hw257_1)).trans hw257_1)
        have sq5_ : ∀ p_ : LaidBy wr, p_.W.cell? ⟨(ad257.add ((x5_1).toNat * 3)).block, (ad257.add ((x5_1).toNat * 3)).off + 2, none⟩ = some (.int .i64 ((rd_T57 l1 x5_1).f2)) := fun p_ => p_.cell ((HB.out.cell (World.block_lt_of_cell? w _ hw257_2)).trans hw257_2)
        refine wp_region_laid (by kernel_rfl) (by kernel_rfl) ?_
        repeat (go_big_quiet_step (first | (go_at_call 134; with_reducible exact laid_of _ (laws_eqNode.calls ((rd_T57 l0 x5_1).f0) ((rd_T57 l0 x5_1).f1) ((rd_T57 l0 x5_1).f2) ((rd_T57 l1 x5_1).f0) ((rd_T57 l1 x5_1).f1) ((rd_T57 l1 x5_1).f2) true _ A7.out))))
        refine wpQuiet_nil ?_
        rintro w10 ⟨p_, hp_⟩
        have hq_ : Below wr.heap.size wr w10 := hp_ ▸ p_.ok
        clear hp_ p_ sq0_ sq1_ sq2_ sq3_ sq4_ sq5_
        have n0_ := Aside0.mk (HB.out.trans (hq_.mono HB.out.size))
        clear HB
        have HB := n0_
        clear hq_ n0_
        try go_wp2
        go_roundg k1
        case measure => have := HK1.out; omega
        case rel => exact ⟨(wrap64 (x5_1 + 1)), (by first | rfl | (simp; done) | (simp [*]; done)), H', ⟨by have := HK1.out; omega⟩, ⟨by repeat (first | (with_reducible first | exact HB.out | apply below_alloc | apply pw_below_drewN | apply below_drew1) | exact HB.out)⟩⟩
       ·replace c8 := Bool.eq_false_iff.mpr c8
        subst c8
        have H1 : (some false) = some r := by rw [if_neg (show ¬ (false = true) by decide)] at H; exact H
        clear H
        have H := H1
        clear H1
        obtain rfl := Option.some.inj H
        try go_wp2
        have p256 : 0 ≤ (x5_1 : Int) := of_decide_eq_true (by first | (with_reducible assumption) | assumption)
        have q256 : x5_1 < (l0.length : Int) := of_decide_eq_true (by first | (with_reducible assumption) | assumption)
        obtain ⟨ad256, e256, hx256_0, hx256_1, hx256_2⟩ := at_T57 HR0.out x5_1 p256 q256
        have hw256_2 := hx256_2
        have hw256_1 := hx256_1
        have hw256_0 := hx256_0
        cases e256
        replace hx256_0 := (HB.out.cell (World.block_lt_of_cell? w _ hx256_0)).trans hx256_0
        replace hx256_1 := (HB.out.cell (World.block_lt_of_cell? w _ hx256_1)).trans hx256_1
        replace hx256_2 := (HB.out.cell (World.block_lt_of_cell? w _ hx256_2)).trans hx256_2
        replace p256 := eq_true p256
        replace q256 := eq_true q256
        have p257 : 0 ≤ (x5_1 : Int) := of_decide_eq_true (by first | (with_reducible assumption) | assumption)
        have q257 : x5_1 < (l1.length : Int) := of_decide_eq_true (by first | (with_reducible assumption) | assumption)
        obtain ⟨ad257, e257, hx257_0, hx257_1, hx257_2⟩ := at_T57 HR1.out x5_1 p257 q257
        have hw257_2 := hx257_2
        have hw257_1 := hx257_1
        have hw257_0 := hx257_0
        cases e257
        replace hx257_0 := (HB.out.cell (World.block_lt_of_cell? w _ hx257_0)).trans hx257_0
        replace hx257_1 := (HB.out.cell (World.block_lt_of_cell? w _ hx257_1)).trans hx257_1
        replace hx257_2 := (HB.out.cell (World.block_lt_of_cell? w _ hx257_2)).trans hx257_2
        replace p257 := eq_true p257
        replace q257 := eq_true q257
        have sq0_ : ∀ p_ : LaidBy wr, p_.W.cell? (ad256.add ((x5_1).toNat * 3)) = some (.int .i64 ((rd_T57 l0 x5_1).f0)) := fun p_ => p_.cell ((HB.out.cell (World.block_lt_of_cell? w _ hw256_0)).trans hw256_0)
        have sq1_ : ∀ p_ : LaidBy wr, p_.W.cell? ⟨(ad256.add ((x5_1).toNat * 3)).block, (ad256.add ((x5_1).toNat * 3)).off + 1, none⟩ = some (.string ((rd_T57 l0 x5_1).f1)) := fun p_ => p_.cell ((HB.out.cell (World.block_lt_of_cell? w _ hw256_1)).trans hw256_1)
        have sq2_ : ∀ p_ : LaidBy wr, p_.W.cell? ⟨(ad256.add ((x5_1).toNat * 3)).block, (ad256.add ((x5_1).toNat * 3)).off + 2, none⟩ = some (.int .i64 ((rd_T57 l0 x5_1).f2)) := fun p_ => p_.cell ((HB.out.cell (World.block_lt_of_cell? w _ hw256_2)).trans hw256_2)
        have sq3_ : ∀ p_ : LaidBy wr, p_.W.cell? (ad257.add ((x5_1).toNat * 3)) = some (.int .i64 ((rd_T57 l1 x5_1).f0)) := fun p_ => p_.cell ((HB.out.cell (World.block_lt_of_cell? w _ hw257_0)).trans hw257_0)
        have sq4_ : ∀ p_ : LaidBy wr, p_.W.cell? ⟨(ad257.add ((x5_1).toNat * 3)).block, (ad257.add ((x5_1).toNat * 3)).off + 1, none⟩ = some (.string ((rd_T57 l1 x5_1).f1)) := fun p_ => p_.cell ((HB.out.cell (World.block_lt_of_cell? w _ hw257_1)).trans hw257_1)
        have sq5_ : ∀ p_ : LaidBy wr, p_.W.cell? ⟨(ad257.add ((x5_1).toNat * 3)).block, (ad257.add ((x5_1).toNat * 3)).off + 2, none⟩ = some (.int .i64 ((rd_T57 l1 x5_1).f2)) := fun p_ => p_.cell ((HB.out.cell (World.block_lt_of_cell? w _ hw257_2)).trans hw257_2)
        refine wp_region_laid (by kernel_rfl) (by kernel_rfl) ?_
        repeat (go_big_quiet_step (first | (go_at_call 134; with_reducible exact laid_of _ (laws_eqNode.calls ((rd_T57 l0 x5_1).f0) ((rd_T57 l0 x5_1).f1) ((rd_T57 l0 x5_1).f2) ((rd_T57 l1 x5_1).f0) ((rd_T57 l1 x5_1).f1) ((rd_T57 l1 x5_1).f2) false _ A7.out))))
        refine wpQuiet_nil ?_
        rintro w12 ⟨p_, hp_⟩
        have hq_ : Below wr.heap.size wr w12 := hp_ ▸ p_.ok
        clear hp_ p_ sq0_ sq1_ sq2_ sq3_ sq4_ sq5_
        have n0_ := Aside0.mk (HB.out.trans (hq_.mono HB.out.size))
        clear HB
        have HB := n0_
        clear hq_ n0_
        try go_wp2
        all_goals (first | go_ret | (exfalso; simp only [decide_eq_true_eq, decide_eq_false_iff_not] at *; omega))
        all_goals exact ⟨by first | rfl | (simp [errW_none, errW_some] <;> rfl) | (simp [*, errW_none, errW_some] <;> rfl) | (exfalso; simp only [decide_eq_true_eq, decide_eq_false_iff_not] at *; omega), by repeat (first | (with_reducible first | exact HB.out | apply below_alloc | apply pw_below_drewN | apply below_drew1) | exact HB.out)⟩
      ·rw [if_neg c6] at H
       exact absurd H (by simp)
     ·rw [if_neg c5] at H
      exact absurd H (by simp)
    ·rw [if_neg c4] at H
     have c4b0 : decide (x5_1 < (l0.length : Int)) = false := decide_eq_false c4
     clear c4
     obtain rfl := Option.some.inj H
     go_wp2
     all_goals (first | go_ret | (exfalso; simp only [decide_eq_true_eq, decide_eq_false_iff_not] at *; omega))
     all_goals exact ⟨by first | rfl | (simp [errW_none, errW_some] <;> rfl) | (simp [*, errW_none, errW_some] <;> rfl) | (exfalso; simp only [decide_eq_true_eq, decide_eq_false_iff_not] at *; omega), by repeat (first | (with_reducible first | exact HB.out | apply below_alloc | apply pw_below_drewN | apply below_drew1) | exact HB.out)⟩
 ·rw [if_neg c3] at H
  have c3b0 : ((l0.length : Int) == (l1.length : Int)) = false := beq_eq_false_iff_ne.mpr c3
  have c3b1 : ((l0.length : Int) != (l1.length : Int)) = true := bne_iff_ne.mpr c3
  have c3b2 : (l0.length == l1.length) = false := by first | simpa using c3 | (simp at c3 ⊢; omega)
  obtain rfl := Option.some.inj H
  go_enter Tryz.func75, Tryz.ntmps75
  go_wp2
  all_goals (first | go_ret | (exfalso; simp only [decide_eq_true_eq, decide_eq_false_iff_not] at *; omega))
  all_goals exact ⟨by first | rfl | (simp [errW_none, errW_some] <;> rfl) | (simp [*, errW_none, errW_some] <;> rfl) | (exfalso; simp only [decide_eq_true_eq, decide_eq_false_iff_not] at *; omega), by repeat (first | (with_reducible first | exact HB.out | apply below_alloc | apply pw_below_drewN | apply below_drew1) | exact HB.out)⟩

/-! ### laws_eqEntry: function 135 -/
def laws_eqEntry.f (a0_0 : ByteArray) (a0_1 : Int) (a1_0 : ByteArray) (a1_1 : Int) : Option Bool := if a0_0.toList = a1_0.toList then (if a0_1 = a1_1 then (some true) else some false) else some false
set_option maxHeartbeats 2000000 in
set_option maxRecDepth 100000 in
theorem laws_eqEntry.calls (a0_0 : ByteArray) (a0_1 : Int) (a1_0 : ByteArray) (a1_1 : Int) (r : Bool) (w : World) (h : laws_eqEntry.f a0_0 a0_1 a1_0 a1_1 = some r) :
    Calls Tryz.prog 135 #[.agg #[.string a0_0, .int .i64 a0_1], .agg #[.string a1_0, .int .i64 a1_1]] w fun e w' => e = .returned (.bool r) ∧ Below w.heap.size w w' := by
  unfold laws_eqEntry.f at h
  obtain ⟨b0, e0⟩ : ∃ b, (a0_0.toList == a1_0.toList) = b := ⟨_, rfl⟩
  have n0 : (a0_0.toList != a1_0.toList) = !b0 := by rw [bne, e0]
  obtain ⟨b1, e1⟩ : ∃ b, (a0_1 == a1_1) = b := ⟨_, rfl⟩
  have n1 : (a0_1 != a1_1) = !b1 := by rw [bne, e1]
  obtain rfl : r = (b0 && (b1 && true)) := Option.some.inj (by
    subst e0 e1
    rw [← h]
    by_cases c0 : a0_0.toList = a1_0.toList <;> by_cases c1 : a0_1 = a1_1 <;> simp [c0, c1])
  have BL := Aside0.mk (Below.refl w.heap.size w)
  clear h
  cases b0 <;> cases b1
  all_goals (go_enter Tryz.func135, Tryz.ntmps135; go_wp2_with (first | ((with_reducible refine gate_dst (N := 2) rfl ?_); refine box_event ?hg (N := 2) ?hd (cs := #[.string a0_0, .int .i64 a0_1]) (t := 59) ?hr ?_; (case hd => rfl); (case hg => rfl); (case hr => first | (go_simp; done) | (go_simp; rfl)); intro g5 hg w5 hbox hb; have R0 := Aside0.mk hbox; have BL := Aside0.mk hb; clear hg hbox hb) | ((with_reducible refine gate_dst (N := 3) rfl ?_); refine box_event ?hg (N := 3) ?hd (cs := #[.string a1_0, .int .i64 a1_1]) (t := 59) ?hr ?_; (case hd => rfl); (case hg => rfl); (case hr => first | (go_simp; done) | (go_simp; rfl)); intro g6 hg w6 hbox hb; have R1 := Aside0.mk hbox; have R0 := Aside0.mk ((hb.block g5 (blk_lt R0.out)).trans R0.out); have BL := Aside0.mk (BL.out.trans (hb.mono BL.out.size)); have q00 : w6.cell? ⟨g5, 0, none⟩ = some (.string a0_0) := (blk_cell R0.out 0).trans rfl; have z00 := blk_frozen R0.out 0; have q01 : w6.cell? ⟨g5, 1, none⟩ = some (.int .i64 a0_1) := (blk_cell R0.out 1).trans rfl; have z01 := blk_frozen R0.out 1; have q10 : w6.cell? ⟨g6, 0, none⟩ = some (.string a1_0) := (blk_cell R1.out 0).trans rfl; have z10 := blk_frozen R1.out 0; have q11 : w6.cell? ⟨g6, 1, none⟩ = some (.int .i64 a1_1) := (blk_cell R1.out 1).trans rfl; have z11 := blk_frozen R1.out 1; clear hg hbox hb)))
  all_goals go_ret
  all_goals exact ⟨rfl, BL.out⟩

/-! ### laws_eqEntryS: function 76 -/
def laws_eqEntryS.l0 : Nat → List (S59) → List (S59) → Int → Option (Bool)
 | 0, _, _, _ => none
 | k + 1, x0, x1, x5 => if x5 < (x0.length : Int) then (if 0 ≤ x5 then (if x5 < (x1.length : Int) then ((laws_eqEntry.f ((rd_T59 x0 x5).f0) ((rd_T59 x0 x5).f1) ((rd_T59 x1 x5).f0) ((rd_T59 x1 x5).f1)).bind fun t261 => (if t261 = true then (laws_eqEntryS.l0 k x0 x1 (wrap64 (x5 + 1))) else (some false))) else (none)) else (none)) else (some true)
def laws_eqEntryS.f (k : Nat) (l0 : List (S59)) (l1 : List (S59)) : Option (Bool) := if (l0.length : Int) = (l1.length : Int) then (laws_eqEntryS.l0 k l0 l1 0) else (some false)
theorem laws_eqEntryS.mono_l : ∀ k, (∀ y0 y1 y2, LeO (laws_eqEntryS.l0 k y0 y1 y2) (laws_eqEntryS.l0 (k + 1) y0 y1 y2))
 | 0 => fun _ _ _ r h => by simp [laws_eqEntryS.l0] at h
 | k + 1 => by
  have ih0 := laws_eqEntryS.mono_l k
  ·intro y0 y1 y2
   unfold laws_eqEntryS.l0
   repeat' first
   | (with_reducible exact ih0 _ _ _)
   | (with_reducible exact LeO.refl _)
   | (with_reducible exact LeO.none _)
   | (with_reducible refine LeO.ite ?_ ?_)
   | (with_reducible refine LeO.bind ?_ (fun _ => ?_))
   | exact ih0 _ _ _
   | exact LeO.none _
   | refine LeO.ite ?_ ?_
   | refine LeO.bind ?_ (fun _ => ?_)
theorem laws_eqEntryS.mono : ∀ a0 a1 k, LeO (laws_eqEntryS.f k a0 a1) (laws_eqEntryS.f (k + 1) a0 a1) := by
 intro a0 a1 k
 have ih0 := laws_eqEntryS.mono_l k
 unfold laws_eqEntryS.f
 repeat' first
   | (with_reducible exact ih0 _ _ _)
   | (with_reducible exact LeO.refl _)
   | (with_reducible exact LeO.none _)
   | (with_reducible refine LeO.ite ?_ ?_)
   | (with_reducible refine LeO.bind ?_ (fun _ => ?_))
   | exact ih0 _ _ _
   | exact LeO.none _
   | refine LeO.ite ?_ ?_
   | refine LeO.bind ?_ (fun _ => ?_)
def laws_eqEntryS.B6 : List Nat := [0, 0, 3, 7, 0, 0, 48, 112, 255, 511]
set_option maxHeartbeats 8000000 in
set_option maxRecDepth 100000 in
theorem laws_eqEntryS.calls (k : Nat) (A0 : Option Addr) (c0 : Nat) (l0 : List (S59)) (A1 : Option Addr) (c1 : Nat) (l1 : List (S59)) (r : Bool) (w : World) (hr0 : Kd.C k59 w A0 l0.length l0) (hc0 : l0.length ≤ c0) (hr1 : Kd.C k59 w A1 l1.length l1) (hc1 : l1.length ≤ c1) (h : laws_eqEntryS.f k l0 l1 = some r) :
  Calls Tryz.prog 76 #[.slice A0 l0.length c0, .slice A1 l1.length c1] w fun e w' => e = .returned (.bool r) ∧ Below w.heap.size w w' := by
 have hu59 := Tryz.underlying59
 have HR0 := Aside0.mk hr0
 have HC0 := Aside0.mk hc0
 clear hr0 hc0
 have HR1 := Aside0.mk hr1
 have HC1 := Aside0.mk hc1
 clear hr1 hc1
 have HB := Aside0.mk (Below.refl w.heap.size w)
 have H : (if (l0.length : Int) = (l1.length : Int) then (laws_eqEntryS.l0 k l0 l1 0) else (some false)) = some r := h
 clear h
 by_cases c3 : (l0.length : Int) = (l1.length : Int)
 ·rw [if_pos c3] at H
  have c3b0 : ((l0.length : Int) == (l1.length : Int)) = true := beq_iff_eq.mpr c3
  have c3b1 : ((l0.length : Int) != (l1.length : Int)) = false := bne_eq_false_iff_eq.mpr c3
  have c3b2 : (l0.length == l1.length) = true := by first | simpa using c3 | (simp at c3 ⊢; omega)
  clear c3
  have H' := Aside0.mk H
  clear H
  go_enter Tryz.func76, Tryz.ntmps76
  go_wp2
  go_loopg [5] k (fun kq v5 w' => ∃ (x5_1 : Int), v5 = .int .i64 x5_1 ∧ Aside0 (laws_eqEntryS.l0 kq l0 l1 x5_1 = some r) ∧ Aside0 (kq ≤ k) ∧ Aside0 (Below w.heap.size w w'))
  case atStart => exact ⟨(0), (by first | rfl | (simp; done) | (simp [*]; done)), H', ⟨Nat.le_refl _⟩, ⟨by repeat (first | (with_reducible first | exact HB.out | apply below_alloc | apply pw_below_drewN | apply below_drew1) | exact HB.out)⟩⟩
  case round =>
   clear H'
   try clear c1
   try clear p2
   try clear c3
   try clear c3b0
   try clear c3b1
   try clear c3b2
   obtain ⟨x5_1, rfl, HA, HK1, HB⟩ := hrel
   cases gk with
   | zero => exact absurd HA.out (by simp [laws_eqEntryS.l0])
   | succ k1 =>
    have H := HA.out
    clear HA
    simp only [laws_eqEntryS.l0] at H
    by_cases c4 : x5_1 < (l0.length : Int)
    ·rw [if_pos c4] at H
     have c4b0 : decide (x5_1 < (l0.length : Int)) = true := decide_eq_true c4
     clear c4
     by_cases c5 : 0 ≤ x5_1
     ·rw [if_pos c5] at H
      have c5b0 : decide (0 ≤ x5_1) = true := decide_eq_true c5
      clear c5
      by_cases c6 : x5_1 < (l1.length : Int)
      ·rw [if_pos c6] at H
       have c6b0 : decide (x5_1 < (l1.length : Int)) = true := decide_eq_true c6
       clear c6
       replace H := Option.bind_eq_some_iff.mp H
       obtain ⟨t261, A70, H⟩ := H
       replace H : (if t261 = true then (laws_eqEntryS.l0 k1 l0 l1 (wrap64 (x5_1 + 1))) else (some false)) = some r := H
       have A7 := Aside0.mk A70
       clear A70
       by_cases c8 : t261 = true
       ·subst c8
        have H1 : (laws_eqEntryS.l0 k1 l0 l1 (wrap64 (x5_1 + 1))) = some r := by rw [if_pos rfl] at H; exact H
        clear H
        have H := H1
        clear H1
        have H' := Aside0.mk H
        clear H
        try go_wp2
        have p259 : 0 ≤ (x5_1 : Int) := of_decide_eq_true (by first | (with_reducible assumption) | assumption)
        have q259 : x5_1 < (l0.length : Int) := of_decide_eq_true (by first | (with_reducible assumption) | assumption)
        obtain ⟨ad259, e259, hx259_0, hx259_1⟩ := at_T59 HR0.out x5_1 p259 q259
        have hw259_1 := hx259_1
        have hw259_0 := hx259_0
        cases e259
        replace hx259_0 := (HB.out.cell (World.block_lt_of_cell? w _ hx259_0)).trans hx259_0
        replace hx259_1 := (HB.out.cell (World.block_lt_of_cell? w _ hx259_1)).trans hx259_1
        replace p259 := eq_true p259
        replace q259 := eq_true q259
        have p260 : 0 ≤ (x5_1 : Int) := of_decide_eq_true (by first | (with_reducible assumption) | assumption)
        have q260 : x5_1 < (l1.length : Int) := of_decide_eq_true (by first | (with_reducible assumption) | assumption)
        obtain ⟨ad260, e260, hx260_0, hx260_1⟩ := at_T59 HR1.out x5_1 p260 q260
        have hw260_1 := hx260_1
        have hw260_0 := hx260_0
        cases e260
        replace hx260_0 := (HB.out.cell (World.block_lt_of_cell? w _ hx260_0)).trans hx260_0
        replace hx260_1 := (HB.out.cell (World.block_lt_of_cell? w _ hx260_1)).trans hx260_1
        replace p260 := eq_true p260
        replace q260 := eq_true q260
        have sq0_ : ∀ p_ : LaidBy wr, p_.W.cell? (ad259.add ((x5_1).toNat * 2)) = some (.string ((rd_T59 l0 x5_1).f0)) := fun p_ => p_.cell ((HB.out.cell (World.block_lt_of_cell? w _ hw259_0)).trans hw259_0)
        have sq1_ : ∀ p_ : LaidBy wr, p_.W.cell? ⟨(ad259.add ((x5_1).toNat * 2)).block, (ad259.add ((x5_1).toNat * 2)).off + 1, none⟩ = some (.int .i64 ((rd_T59 l0 x5_1).f1)) := fun p_ => p_.cell ((HB.out.cell (World.block_lt_of_cell? w _ hw259_1)).trans hw259_1)
        have sq2_ : ∀ p_ : LaidBy wr, p_.W.cell? (ad260.add ((x5_1).toNat * 2)) = some (.string ((rd_T59 l1 x5_1).f0)) := fun p_ => p_.cell ((HB.out.cell (World.block_lt_of_cell? w _ hw260_0)).trans hw260_0)
        have sq3_ : ∀ p_ : LaidBy wr, p_.W.cell? ⟨(ad260.add ((x5_1).toNat * 2)).block, (ad260.add ((x5_1).toNat * 2)).off + 1, none⟩ = some (.int .i64 ((rd_T59 l1 x5_1).f1)) := fun p_ => p_.cell ((HB.out.cell (World.block_lt_of_cell? w _ hw260_1)).trans hw260_1)
        refine wp_region_laid (by kernel_rfl) (by kernel_rfl) ?_
        repeat (go_big_quiet_step (first | (go_at_call 135; with_reducible exact laid_of _ (laws_eqEntry.calls ((rd_T59 l0 x5_1).f0) ((rd_T59 l0 x5_1).f1) ((rd_T59 l1 x5_1).f0) ((rd_T59 l1 x5_1).f1) true _ A7.out))))
        refine wpQuiet_nil ?_
        rintro w10 ⟨p_, hp_⟩
        have hq_ : Below wr.heap.size wr w10 := hp_ ▸ p_.ok
        clear hp_ p_ sq0_ sq1_ sq2_ sq3_
        have n0_ := Aside0.mk (HB.out.trans (hq_.mono HB.out.size))
        clear HB
        have HB := n0_
        clear hq_ n0_
        try go_wp2
        go_roundg k1
        case measure => have := HK1.out; omega
        case rel => exact ⟨(wrap64 (x5_1 + 1)), (by first | rfl | (simp; done) | (simp [*]; done)), H', ⟨by have := HK1.out; omega⟩, ⟨by repeat (first | (with_reducible first | exact HB.out | apply below_alloc | apply pw_below_drewN | apply below_drew1) | exact HB.out)⟩⟩
       ·replace c8 := Bool.eq_false_iff.mpr c8
        subst c8
        have H1 : (some false) = some r := by rw [if_neg (show ¬ (false = true) by decide)] at H; exact H
        clear H
        have H := H1
        clear H1
        obtain rfl := Option.some.inj H
        try go_wp2
        have p259 : 0 ≤ (x5_1 : Int) := of_decide_eq_true (by first | (with_reducible assumption) | assumption)
        have q259 : x5_1 < (l0.length : Int) := of_decide_eq_true (by first | (with_reducible assumption) | assumption)
        obtain ⟨ad259, e259, hx259_0, hx259_1⟩ := at_T59 HR0.out x5_1 p259 q259
        have hw259_1 := hx259_1
        have hw259_0 := hx259_0
        cases e259
        replace hx259_0 := (HB.out.cell (World.block_lt_of_cell? w _ hx259_0)).trans hx259_0
        replace hx259_1 := (HB.out.cell (World.block_lt_of_cell? w _ hx259_1)).trans hx259_1
        replace p259 := eq_true p259
        replace q259 := eq_true q259
        have p260 : 0 ≤ (x5_1 : Int) := of_decide_eq_true (by first | (with_reducible assumption) | assumption)
        have q260 : x5_1 < (l1.length : Int) := of_decide_eq_true (by first | (with_reducible assumption) | assumption)
        obtain ⟨ad260, e260, hx260_0, hx260_1⟩ := at_T59 HR1.out x5_1 p260 q260
        have hw260_1 := hx260_1
        have hw260_0 := hx260_0
        cases e260
        replace hx260_0 := (HB.out.cell (World.block_lt_of_cell? w _ hx260_0)).trans hx260_0
        replace hx260_1 := (HB.out.cell (World.block_lt_of_cell? w _ hx260_1)).trans hx260_1
        replace p260 := eq_true p260
        replace q260 := eq_true q260
        have sq0_ : ∀ p_ : LaidBy wr, p_.W.cell? (ad259.add ((x5_1).toNat * 2)) = some (.string ((rd_T59 l0 x5_1).f0)) := fun p_ => p_.cell ((HB.out.cell (World.block_lt_of_cell? w _ hw259_0)).trans hw259_0)
        have sq1_ : ∀ p_ : LaidBy wr, p_.W.cell? ⟨(ad259.add ((x5_1).toNat * 2)).block, (ad259.add ((x5_1).toNat * 2)).off + 1, none⟩ = some (.int .i64 ((rd_T59 l0 x5_1).f1)) := fun p_ => p_.cell ((HB.out.cell (World.block_lt_of_cell? w _ hw259_1)).trans hw259_1)
        have sq2_ : ∀ p_ : LaidBy wr, p_.W.cell? (ad260.add ((x5_1).toNat * 2)) = some (.string ((rd_T59 l1 x5_1).f0)) := fun p_ => p_.cell ((HB.out.cell (World.block_lt_of_cell? w _ hw260_0)).trans hw260_0)
        have sq3_ : ∀ p_ : LaidBy wr, p_.W.cell? ⟨(ad260.add ((x5_1).toNat * 2)).block, (ad260.add ((x5_1).toNat * 2)).off + 1, none⟩ = some (.int .i64 ((rd_T59 l1 x5_1).f1)) := fun p_ => p_.cell ((HB.out.cell (World.block_lt_of_cell? w _ hw260_1)).trans hw260_1)
        refine wp_region_laid (by kernel_rfl) (by kernel_rfl) ?_
        repeat (go_big_quiet_step (first | (go_at_call 135; with_reducible exact laid_of _ (laws_eqEntry.calls ((rd_T59 l0 x5_1).f0) ((rd_T59 l0 x5_1).f1) ((rd_T59 l1 x5_1).f0) ((rd_T59 l1 x5_1).f1) false _ A7.out))))
        refine wpQuiet_nil ?_
        rintro w12 ⟨p_, hp_⟩
        have hq_ : Below wr.heap.size wr w12 := hp_ ▸ p_.ok
        clear hp_ p_ sq0_ sq1_ sq2_ sq3_
        have n0_ := Aside0.mk (HB.out.trans (hq_.mono HB.out.size))
        clear HB
        have HB := n0_
        clear hq_ n0_
        try go_wp2
        all_goals (first | go_ret | (exfalso; simp only [decide_eq_true_eq, decide_eq_false_iff_not] at *; omega))
        all_goals exact ⟨by first | rfl | (simp [errW_none, errW_some] <;> rfl) | (simp [*, errW_none, errW_some] <;> rfl) | (exfalso; simp only [decide_eq_true_eq, decide_eq_false_iff_not] at *; omega), by repeat (first | (with_reducible first | exact HB.out | apply below_alloc | apply pw_below_drewN | apply below_drew1) | exact HB.out)⟩
      ·rw [if_neg c6] at H
       exact absurd H (by simp)
     ·rw [if_neg c5] at H
      exact absurd H (by simp)
    ·rw [if_neg c4] at H
     have c4b0 : decide (x5_1 < (l0.length : Int)) = false := decide_eq_false c4
     clear c4
     obtain rfl := Option.some.inj H
     go_wp2
     all_goals (first | go_ret | (exfalso; simp only [decide_eq_true_eq, decide_eq_false_iff_not] at *; omega))
     all_goals exact ⟨by first | rfl | (simp [errW_none, errW_some] <;> rfl) | (simp [*, errW_none, errW_some] <;> rfl) | (exfalso; simp only [decide_eq_true_eq, decide_eq_false_iff_not] at *; omega), by repeat (first | (with_reducible first | exact HB.out | apply below_alloc | apply pw_below_drewN | apply below_drew1) | exact HB.out)⟩
 ·rw [if_neg c3] at H
  have c3b0 : ((l0.length : Int) == (l1.length : Int)) = false := beq_eq_false_iff_ne.mpr c3
  have c3b1 : ((l0.length : Int) != (l1.length : Int)) = true := bne_iff_ne.mpr c3
  have c3b2 : (l0.length == l1.length) = false := by first | simpa using c3 | (simp at c3 ⊢; omega)
  obtain rfl := Option.some.inj H
  go_enter Tryz.func76, Tryz.ntmps76
  go_wp2
  all_goals (first | go_ret | (exfalso; simp only [decide_eq_true_eq, decide_eq_false_iff_not] at *; omega))
  all_goals exact ⟨by first | rfl | (simp [errW_none, errW_some] <;> rfl) | (simp [*, errW_none, errW_some] <;> rfl) | (exfalso; simp only [decide_eq_true_eq, decide_eq_false_iff_not] at *; omega), by repeat (first | (with_reducible first | exact HB.out | apply below_alloc | apply pw_below_drewN | apply below_drew1) | exact HB.out)⟩

end Go.Proofs.YtbcidclclckgfaaGreatDoor.MFnExactDiskOk
