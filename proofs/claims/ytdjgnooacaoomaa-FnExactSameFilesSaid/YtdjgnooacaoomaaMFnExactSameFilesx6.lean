/- Each theorem here says that a call of one Go function answers what the Lean function beside it answers; its conditions stand in it. Written by a program of this session. -/
import Derived.Test.YtdjgnooacaoomaaMFnExactSameFilesx0
import Derived.Test.YtdjgnooacaoomaaMFnExactSameFilesx5
namespace Go.Proofs.Ytdjgnooacaoomaa.MFnExactSameFiles
open Go.RowKit Go.Proofs.YtdjgnooacaoomaaW.PrintWords Go.Proofs.YtdjgnooacaoomaaW.PrintLast Go.Proofs.YtdjgnooacaoomaaW.PrintMore
attribute [local go_sem] max2_int min2_int max_two min_two max_three min_three max_four min_four   -- for this text's walks alone
set_option linter.unusedVariables false
set_option linter.unusedSimpArgs false

/-! ### slices_Equal_string_string: function 90 -/
def slices_Equal_string_string.l0 : Nat → List ByteArray → List ByteArray → Int → Int → Option (Bool)
 | 0, _, _, _, _ => none
 | k + 1, x0, x1, x12, x13 => if x13 < x12 then (if 0 ≤ x13 then (if x13 < (x0.length : Int) then (if x13 < (x1.length : Int) then (if (rdOf ByteArray.empty x0 x13).toList = (rdOf ByteArray.empty x1 x13).toList then (slices_Equal_string_string.l0 k x0 x1 x12 (wrap64 (x13 + 1))) else (some false)) else (none)) else (none)) else (none)) else (some true)
def slices_Equal_string_string.f (k : Nat) (l0 : List ByteArray) (l1 : List ByteArray) : Option (Bool) := if (l0.length : Int) = (l1.length : Int) then (slices_Equal_string_string.l0 k l0 l1 (l0.length : Int) 0) else (some false)
theorem slices_Equal_string_string.mono_l : ∀ k, (∀ y0 y1 y2 y3, LeO (slices_Equal_string_string.l0 k y0 y1 y2 y3) (slices_Equal_string_string.l0 (k + 1) y0 y1 y2 y3))
 | 0 => fun _ _ _ _ r h => by simp [slices_Equal_string_string.l0] at h
 | k + 1 => by
  have ih0 := slices_Equal_string_string.mono_l k
  ·intro y0 y1 y2 y3
   unfold slices_Equal_string_string.l0
   repeat' first
   | (with_reducible exact ih0 _ _ _ _)
   | (with_reducible exact LeO.refl _)
   | (with_reducible exact LeO.none _)
   | (with_reducible refine LeO.ite ?_ ?_)
   | (with_reducible refine LeO.bind ?_ (fun _ => ?_))
   | exact ih0 _ _ _ _
   | exact LeO.none _
   | refine LeO.ite ?_ ?_
   | refine LeO.bind ?_ (fun _ => ?_)
theorem slices_Equal_string_string.mono : ∀ a0 a1 k, LeO (slices_Equal_string_string.f k a0 a1) (slices_Equal_string_string.f (k + 1) a0 a1) := by
 intro a0 a1 k
 have ih0 := slices_Equal_string_string.mono_l k
 unfold slices_Equal_string_string.f
 repeat' first
   | (with_reducible exact ih0 _ _ _ _)
   | (with_reducible exact LeO.refl _)
   | (with_reducible exact LeO.none _)
   | (with_reducible refine LeO.ite ?_ ?_)
   | (with_reducible refine LeO.bind ?_ (fun _ => ?_))
   | exact ih0 _ _ _ _
   | exact LeO.none _
   | refine LeO.ite ?_ ?_
   | refine LeO.bind ?_ (fun _ => ?_)
set_option maxHeartbeats 8000000 in
set_option maxRecDepth 100000 in
theorem slices_Equal_string_string.calls (k : Nat) (A0 : Option Addr) (c0 : Nat) (l0 : List ByteArray) (A1 : Option Addr) (c1 : Nat) (l1 : List ByteArray) (r : Bool) (w : World) (hr0 : Kd.C Kd.string w A0 l0.length l0) (hc0 : l0.length ≤ c0) (hr1 : Kd.C Kd.string w A1 l1.length l1) (hc1 : l1.length ≤ c1) (h : slices_Equal_string_string.f k l0 l1 = some r) :
  Calls Try.prog 90 #[.slice A0 l0.length c0, .slice A1 l1.length c1] w fun e w' => e = .returned (.bool r) ∧ Drawn0 w w' := by
 have HR0 := Aside0.mk hr0
 have HC0 := Aside0.mk hc0
 clear hr0 hc0
 have HR1 := Aside0.mk hr1
 have HC1 := Aside0.mk hc1
 clear hr1 hc1
 have H : (if (l0.length : Int) = (l1.length : Int) then (slices_Equal_string_string.l0 k l0 l1 (l0.length : Int) 0) else (some false)) = some r := h
 clear h
 by_cases c3 : (l0.length : Int) = (l1.length : Int)
 ·rw [if_pos c3] at H
  have c3b0 : ((l0.length : Int) == (l1.length : Int)) = true := beq_iff_eq.mpr c3
  have c3b1 : ((l0.length : Int) != (l1.length : Int)) = false := bne_eq_false_iff_eq.mpr c3
  have c3b2 : (l0.length == l1.length) = true := by first | simpa using c3 | (simp at c3 ⊢; omega)
  clear c3
  have H' := Aside0.mk H
  clear H
  go_enter Try.func90, Try.ntmps90
  go_wp2
  repeat (go_quiet (fail); try go_wp2)
  go_loopg [13] k (fun kq v13 w' => ∃ (x13_1 : Int), v13 = .int .i64 x13_1 ∧ Aside0 (slices_Equal_string_string.l0 kq l0 l1 (l0.length : Int) x13_1 = some r) ∧ Aside0 (kq ≤ k) ∧ Drawn0 w w')
  case atStart => exact ⟨(0), (by first | rfl | (simp; done) | (simp [*]; done)), H', ⟨Nat.le_refl _⟩, by repeat (first | exact Drawn0.refl _ | apply Drawn0.step)⟩
  case round =>
   clear H'
   try clear c1
   try clear p2
   try clear c3
   try clear c3b0
   try clear c3b1
   try clear c3b2
   obtain ⟨x13_1, rfl, HA, HK1, ⟨m1, rfl⟩⟩ := hrel
   cases gk with
   | zero => exact absurd HA.out (by simp [slices_Equal_string_string.l0])
   | succ k1 =>
    have H := HA.out
    clear HA
    simp only [slices_Equal_string_string.l0] at H
    by_cases c4 : x13_1 < (l0.length : Int)
    ·rw [if_pos c4] at H
     have c4b0 : decide (x13_1 < (l0.length : Int)) = true := decide_eq_true c4
     clear c4
     by_cases c5 : 0 ≤ x13_1
     ·rw [if_pos c5] at H
      have c5b0 : decide (0 ≤ x13_1) = true := decide_eq_true c5
      clear c5
      by_cases c6 : x13_1 < (l0.length : Int)
      ·rw [if_pos c6] at H
       have c6b0 : decide (x13_1 < (l0.length : Int)) = true := decide_eq_true c6
       clear c6
       by_cases c7 : x13_1 < (l1.length : Int)
       ·rw [if_pos c7] at H
        have c7b0 : decide (x13_1 < (l1.length : Int)) = true := decide_eq_true c7
        clear c7
        by_cases c8 : (rdOf ByteArray.empty l0 x13_1).toList = (rdOf ByteArray.empty l1 x13_1).toList
        ·rw [if_pos c8] at H
         have c8b0 : ((rdOf ByteArray.empty l0 x13_1).toList == (rdOf ByteArray.empty l1 x13_1).toList) = true := beq_iff_eq.mpr c8
         have c8b1 : ((rdOf ByteArray.empty l0 x13_1).toList != (rdOf ByteArray.empty l1 x13_1).toList) = false := bne_eq_false_iff_eq.mpr c8
         clear c8
         have H' := Aside0.mk H
         clear H
         have p220 : 0 ≤ (x13_1 : Int) := of_decide_eq_true (by first | (with_reducible assumption) | assumption)
         have q220 : x13_1 < (l0.length : Int) := of_decide_eq_true (by first | (with_reducible assumption) | assumption)
         obtain ⟨ad220, e220, hx220_0⟩ := Kd.at_string HR0.out x13_1 p220 q220
         cases e220
         replace p220 := eq_true p220
         replace q220 := eq_true q220
         have p221 : 0 ≤ (x13_1 : Int) := of_decide_eq_true (by first | (with_reducible assumption) | assumption)
         have q221 : x13_1 < (l1.length : Int) := of_decide_eq_true (by first | (with_reducible assumption) | assumption)
         obtain ⟨ad221, e221, hx221_0⟩ := Kd.at_string HR1.out x13_1 p221 q221
         cases e221
         replace p221 := eq_true p221
         replace q221 := eq_true q221
         go_wp2
         repeat (go_quiet (fail); try go_wp2)
         go_roundg k1
         case measure => have := HK1.out; omega
         case rel => exact ⟨(wrap64 (x13_1 + 1)), (by first | rfl | (simp; done) | (simp [*]; done)), H', ⟨by have := HK1.out; omega⟩, by repeat (first | exact Drawn0.refl _ | apply Drawn0.step)⟩
        ·rw [if_neg c8] at H
         have c8b0 : ((rdOf ByteArray.empty l0 x13_1).toList == (rdOf ByteArray.empty l1 x13_1).toList) = false := beq_eq_false_iff_ne.mpr c8
         have c8b1 : ((rdOf ByteArray.empty l0 x13_1).toList != (rdOf ByteArray.empty l1 x13_1).toList) = true := bne_iff_ne.mpr c8
         obtain rfl := Option.some.inj H
         have p220 : 0 ≤ (x13_1 : Int) := of_decide_eq_true (by first | (with_reducible assumption) | assumption)
         have q220 : x13_1 < (l0.length : Int) := of_decide_eq_true (by first | (with_reducible assumption) | assumption)
         obtain ⟨ad220, e220, hx220_0⟩ := Kd.at_string HR0.out x13_1 p220 q220
         cases e220
         replace p220 := eq_true p220
         replace q220 := eq_true q220
         have p221 : 0 ≤ (x13_1 : Int) := of_decide_eq_true (by first | (with_reducible assumption) | assumption)
         have q221 : x13_1 < (l1.length : Int) := of_decide_eq_true (by first | (with_reducible assumption) | assumption)
         obtain ⟨ad221, e221, hx221_0⟩ := Kd.at_string HR1.out x13_1 p221 q221
         cases e221
         replace p221 := eq_true p221
         replace q221 := eq_true q221
         go_wp2
         repeat (go_quiet (fail); try go_wp2)
         all_goals (first | go_ret | (exfalso; simp only [decide_eq_true_eq, decide_eq_false_iff_not] at *; omega))
         exact ⟨by first | rfl | (simp; done) | (simp [*]; done), by repeat (first | exact Drawn0.refl _ | apply Drawn0.step)⟩
       ·rw [if_neg c7] at H
        exact absurd H (by simp)
      ·rw [if_neg c6] at H
       exact absurd H (by simp)
     ·rw [if_neg c5] at H
      exact absurd H (by simp)
    ·rw [if_neg c4] at H
     have c4b0 : decide (x13_1 < (l0.length : Int)) = false := decide_eq_false c4
     clear c4
     obtain rfl := Option.some.inj H
     go_wp2
     repeat (go_quiet (fail); try go_wp2)
     all_goals (first | go_ret | (exfalso; simp only [decide_eq_true_eq, decide_eq_false_iff_not] at *; omega))
     exact ⟨by first | rfl | (simp; done) | (simp [*]; done), by repeat (first | exact Drawn0.refl _ | apply Drawn0.step)⟩
 ·rw [if_neg c3] at H
  have c3b0 : ((l0.length : Int) == (l1.length : Int)) = false := beq_eq_false_iff_ne.mpr c3
  have c3b1 : ((l0.length : Int) != (l1.length : Int)) = true := bne_iff_ne.mpr c3
  have c3b2 : (l0.length == l1.length) = false := by first | simpa using c3 | (simp at c3 ⊢; omega)
  obtain rfl := Option.some.inj H
  go_enter Try.func90, Try.ntmps90
  go_wp2
  repeat (go_quiet (fail); try go_wp2)
  all_goals (first | go_ret | (exfalso; simp only [decide_eq_true_eq, decide_eq_false_iff_not] at *; omega))
  exact ⟨by first | rfl | (simp; done) | (simp [*]; done), by repeat (first | exact Drawn0.refl _ | apply Drawn0.step)⟩

/-! ### impl_SameFiles: function 61 -/
theorem sf_range {α : Type} (p : α → Bool) : ∀ (l : List α) (i : Nat), -1 ≤ idxOf p l i ∧ idxOf p l i < ((i + l.length : Nat) : Int)
  | [], i => by rw [idxOf]; simp; omega
  | x :: l, i => by
    rw [idxOf, List.length_cons]
    have := sf_range p l (i + 1)
    split <;> omega
theorem sf_read (l0_0 : List S70) (l0_1 : List S104) (l0_2 : List S104) (l0_3 : List ByteArray) (a0_4 : Int) (a0_5 : Int) (s : ByteArray) : ∃ y, impl_ReadFile.f l0_0 l0_1 l0_2 l0_3 a0_4 a0_5 s = some y := by
  unfold impl_ReadFile.f impl_NodeAt.f impl_Disk_nodeAt.f impl_placeOf.f
  dsimp only [Option.bind_some]
  have h := sf_range (fun x : S104 => x.f0.toList == s.toList) l0_1 0
  generalize idxOf (fun x : S104 => x.f0.toList == s.toList) l0_1 0 = i at h
  by_cases c : i < 0
  · rw [if_pos c]
    exact ⟨_, rfl⟩
  · rw [if_neg c, if_pos (by omega), if_pos (by omega)]
    unfold impl_Disk_nodeOf.f
    dsimp only [Option.bind_some]
    have h2 := sf_range (fun x : S70 => x.f0 == (rd_T104 l0_1 i).f1) l0_0 0
    generalize idxOf (fun x : S70 => x.f0 == (rd_T104 l0_1 i).f1) l0_0 0 = j at h2
    by_cases c2 : j < 0
    · rw [if_pos c2]
      exact ⟨_, rfl⟩
    · rw [if_neg c2, if_pos (by omega), if_pos (by omega)]
      exact ⟨_, rfl⟩
def sfr (l0_0 : List S70) (l0_1 : List S104) (l0_2 : List S104) (l0_3 : List ByteArray) (a0_4 : Int) (a0_5 : Int) (s : ByteArray) : ByteArray × Bool := (impl_ReadFile.f l0_0 l0_1 l0_2 l0_3 a0_4 a0_5 s).getD (⟨#[]⟩, false)
theorem sfr_eq (l0_0 : List S70) (l0_1 : List S104) (l0_2 : List S104) (l0_3 : List ByteArray) (a0_4 : Int) (a0_5 : Int) (s : ByteArray) : impl_ReadFile.f l0_0 l0_1 l0_2 l0_3 a0_4 a0_5 s = some ((sfr l0_0 l0_1 l0_2 l0_3 a0_4 a0_5 s).1, (sfr l0_0 l0_1 l0_2 l0_3 a0_4 a0_5 s).2) := by
  obtain ⟨y, h⟩ := sf_read l0_0 l0_1 l0_2 l0_3 a0_4 a0_5 s
  unfold sfr
  rw [h]; rfl
def sfd (l0_0 : List S70) (l0_1 : List S104) (l0_2 : List S104) (l0_3 : List ByteArray) (a0_4 : Int) (a0_5 : Int) (l1_0 : List S70) (l1_1 : List S104) (l1_2 : List S104) (l1_3 : List ByteArray) (a1_4 : Int) (a1_5 : Int) (x : S104) : Bool := !((sfr l0_0 l0_1 l0_2 l0_3 a0_4 a0_5 x.f0).1.toList == (sfr l1_0 l1_1 l1_2 l1_3 a1_4 a1_5 x.f0).1.toList) || !((sfr l0_0 l0_1 l0_2 l0_3 a0_4 a0_5 x.f0).2 == (sfr l1_0 l1_1 l1_2 l1_3 a1_4 a1_5 x.f0).2)
set_option maxHeartbeats 4000000 in
theorem sf_lit (A0_0 : Option Addr) (c0_0 : Nat) (l0_0 : List (S70)) (A0_1 : Option Addr) (c0_1 : Nat) (l0_1 : List (S104)) (A0_2 : Option Addr) (c0_2 : Nat) (l0_2 : List (S104)) (A0_3 : Option Addr) (c0_3 : Nat) (l0_3 : List ByteArray) (a0_4 : Int) (a0_5 : Int) (A1_0 : Option Addr) (c1_0 : Nat) (l1_0 : List (S70)) (A1_1 : Option Addr) (c1_1 : Nat) (l1_1 : List (S104)) (A1_2 : Option Addr) (c1_2 : Nat) (l1_2 : List (S104)) (A1_3 : Option Addr) (c1_3 : Nat) (l1_3 : List ByteArray) (a1_4 : Int) (a1_5 : Int) (B B2 : Nat) (w : World) (hB : B < w.heap.size ∧ B2 < w.heap.size) (hr0_0 : Kd.C k70 w A0_0 l0_0.length l0_0) (hc0_0 : l0_0.length ≤ c0_0) (hr0_1 : Kd.C k104 w A0_1 l0_1.length l0_1) (hc0_1 : l0_1.length ≤ c0_1) (hr0_2 : Kd.C k104 w A0_2 l0_2.length l0_2) (hc0_2 : l0_2.length ≤ c0_2) (hr0_3 : Kd.C Kd.string w A0_3 l0_3.length l0_3) (hc0_3 : l0_3.length ≤ c0_3) (hr1_0 : Kd.C k70 w A1_0 l1_0.length l1_0) (hc1_0 : l1_0.length ≤ c1_0) (hr1_1 : Kd.C k104 w A1_1 l1_1.length l1_1) (hc1_1 : l1_1.length ≤ c1_1) (hr1_2 : Kd.C k104 w A1_2 l1_2.length l1_2) (hc1_2 : l1_2.length ≤ c1_2) (hr1_3 : Kd.C Kd.string w A1_3 l1_3.length l1_3) (hc1_3 : l1_3.length ≤ c1_3)
    (k0 : w.heap[B]? = some (.cells #[.slice A0_0 l0_0.length c0_0, .slice A0_1 l0_1.length c0_1, .slice A0_2 l0_2.length c0_2, .slice A0_3 l0_3.length c0_3, .int .i64 a0_4, .int .i64 a0_5] 47)) (k1 : w.heap[B2]? = some (.cells #[.slice A1_0 l1_0.length c1_0, .slice A1_1 l1_1.length c1_1, .slice A1_2 l1_2.length c1_2, .slice A1_3 l1_3.length c1_3, .int .i64 a1_4, .int .i64 a1_5] 47)) (W : World) (x : S104) (hb : Below w.heap.size w W) :
    Calls Try.prog 99 (#[.agg #[.string x.f0, .int .i64 x.f1]] ++ #[.pointer (some ⟨B, 0, none⟩), .pointer (some ⟨B2, 0, none⟩)]) W fun e w' => e = .returned (.bool (sfd l0_0 l0_1 l0_2 l0_3 a0_4 a0_5 l1_0 l1_1 l1_2 l1_3 a1_4 a1_5 x)) ∧ Below w.heap.size w w' := by
  have q0 : W.heap[B]? = some (.cells #[.slice A0_0 l0_0.length c0_0, .slice A0_1 l0_1.length c0_1, .slice A0_2 l0_2.length c0_2, .slice A0_3 l0_3.length c0_3, .int .i64 a0_4, .int .i64 a0_5] 47) := (hb.block B hB.1).trans k0
  have q1 : W.heap[B2]? = some (.cells #[.slice A1_0 l1_0.length c1_0, .slice A1_1 l1_1.length c1_1, .slice A1_2 l1_2.length c1_2, .slice A1_3 l1_3.length c1_3, .int .i64 a1_4, .int .i64 a1_5] 47) := (hb.block B2 hB.2).trans k1
  clear k0 k1
  have F0 := sfr_eq l0_0 l0_1 l0_2 l0_3 a0_4 a0_5 x.f0
  have F1 := sfr_eq l1_0 l1_1 l1_2 l1_3 a1_4 a1_5 x.f0
  unfold sfd
  generalize sfr l0_0 l0_1 l0_2 l0_3 a0_4 a0_5 x.f0 = y0 at F0 ⊢
  generalize sfr l1_0 l1_1 l1_2 l1_3 a1_4 a1_5 x.f0 = y1 at F1 ⊢
  obtain ⟨s0, b0⟩ := y0
  obtain ⟨s1, b1⟩ := y1
  have G0 := fun w' (h : Below w.heap.size w w') => impl_ReadFile.calls A0_0 c0_0 l0_0 A0_1 c0_1 l0_1 A0_2 c0_2 l0_2 A0_3 c0_3 l0_3 a0_4 a0_5 x.f0 s0 b0 w' (Kd.C_below hr0_0 h) hc0_0 (Kd.C_below hr0_1 h) hc0_1 (Kd.C_below hr0_2 h) hc0_2 (Kd.C_below hr0_3 h) hc0_3 F0
  have G1 := fun w' (h : Below w.heap.size w w') => impl_ReadFile.calls A1_0 c1_0 l1_0 A1_1 c1_1 l1_1 A1_2 c1_2 l1_2 A1_3 c1_3 l1_3 a1_4 a1_5 x.f0 s1 b1 w' (Kd.C_below hr1_0 h) hc1_0 (Kd.C_below hr1_1 h) hc1_1 (Kd.C_below hr1_2 h) hc1_2 (Kd.C_below hr1_3 h) hc1_3 F1
  have HG0 := Aside0.mk G0
  have HG1 := Aside0.mk G1
  clear G0 G1 F0 F1 hr0_0 hc0_0 hr0_1 hc0_1 hr0_2 hc0_2 hr0_3 hc0_3 hr1_0 hc1_0 hr1_1 hc1_1 hr1_2 hc1_2 hr1_3 hc1_3
  have HB := Aside0.mk hb
  have Q0 := Aside0.mk q0
  have Q1 := Aside0.mk q1
  have hB2 := Aside0.mk hB
  show Calls Try.prog 99 #[.agg #[.string x.f0, .int .i64 x.f1], .pointer (some ⟨B, 0, none⟩), .pointer (some ⟨B2, 0, none⟩)] W _
  have hBW : B < W.heap.size ∧ B2 < W.heap.size := ⟨Nat.lt_of_lt_of_le hB.1 hb.size, Nat.lt_of_lt_of_le hB.2 hb.size⟩
  clear hb hB q0 q1
  go_enter Try.func99, Try.ntmps99
  go_wp2_with (first | ((with_reducible refine gate_dst (N := 3) rfl ?_); refine box_event ?hg (N := 3) ?hd (cs := #[.string x.f0, .int .i64 x.f1]) (t := 104) ?hr ?_; (case hd => rfl); (case hg => rfl); (case hr => first | (go_simp; done) | (go_simp; rfl)); intro g5 hg w5 hbox b5; have R0 := Aside0.mk ((b5.block B hBW.1).trans Q0.out); have R1 := Aside0.mk ((b5.block B2 hBW.2).trans Q1.out); have R2 := Aside0.mk hbox; have B5 := Aside0.mk (HB.out.trans (b5.mono HB.out.size)); have S5 := Aside0.mk b5.size; have c5_0_0 : w5.cell? ⟨B, 0, none⟩ = some (.slice A0_0 l0_0.length c0_0) := (blk_cell R0.out 0).trans rfl; have c5_0_1 : w5.cell? ⟨B, 1, none⟩ = some (.slice A0_1 l0_1.length c0_1) := (blk_cell R0.out 1).trans rfl; have c5_0_2 : w5.cell? ⟨B, 2, none⟩ = some (.slice A0_2 l0_2.length c0_2) := (blk_cell R0.out 2).trans rfl; have c5_0_3 : w5.cell? ⟨B, 3, none⟩ = some (.slice A0_3 l0_3.length c0_3) := (blk_cell R0.out 3).trans rfl; have c5_0_4 : w5.cell? ⟨B, 4, none⟩ = some (.int .i64 a0_4) := (blk_cell R0.out 4).trans rfl; have c5_0_5 : w5.cell? ⟨B, 5, none⟩ = some (.int .i64 a0_5) := (blk_cell R0.out 5).trans rfl; have z5_0_0 := blk_frozen R0.out 0; have z5_0_1 := blk_frozen R0.out 1; have z5_0_2 := blk_frozen R0.out 2; have z5_0_3 := blk_frozen R0.out 3; have z5_0_4 := blk_frozen R0.out 4; have z5_0_5 := blk_frozen R0.out 5; have c5_1_0 : w5.cell? ⟨B2, 0, none⟩ = some (.slice A1_0 l1_0.length c1_0) := (blk_cell R1.out 0).trans rfl; have c5_1_1 : w5.cell? ⟨B2, 1, none⟩ = some (.slice A1_1 l1_1.length c1_1) := (blk_cell R1.out 1).trans rfl; have c5_1_2 : w5.cell? ⟨B2, 2, none⟩ = some (.slice A1_2 l1_2.length c1_2) := (blk_cell R1.out 2).trans rfl; have c5_1_3 : w5.cell? ⟨B2, 3, none⟩ = some (.slice A1_3 l1_3.length c1_3) := (blk_cell R1.out 3).trans rfl; have c5_1_4 : w5.cell? ⟨B2, 4, none⟩ = some (.int .i64 a1_4) := (blk_cell R1.out 4).trans rfl; have c5_1_5 : w5.cell? ⟨B2, 5, none⟩ = some (.int .i64 a1_5) := (blk_cell R1.out 5).trans rfl; have z5_1_0 := blk_frozen R1.out 0; have z5_1_1 := blk_frozen R1.out 1; have z5_1_2 := blk_frozen R1.out 2; have z5_1_3 := blk_frozen R1.out 3; have z5_1_4 := blk_frozen R1.out 4; have z5_1_5 := blk_frozen R1.out 5; have c5_2_0 : w5.cell? ⟨g5, 0, none⟩ = some (.string x.f0) := (blk_cell R2.out 0).trans rfl; have c5_2_1 : w5.cell? ⟨g5, 1, none⟩ = some (.int .i64 x.f1) := (blk_cell R2.out 1).trans rfl; have z5_2_0 := blk_frozen R2.out 0; have z5_2_1 := blk_frozen R2.out 1; clear hg hbox b5) | (go_at_call 59; (with_reducible refine (HG0.out _ (by repeat (first | (with_reducible first | exact B5.out | apply below_alloc | apply pw_below_drewN | apply below_drew1) | exact B5.out))).mono ?_); rintro e1 w1 ⟨rfl, b1⟩; have B1 := Aside0.mk (B5.out.trans (b1.mono B5.out.size)); have r0 := (b1.block B (by have := S5.out; omega)).trans R0.out; have r1 := (b1.block B2 (by have := S5.out; omega)).trans R1.out; have r2 := (b1.block g5 (blk_lt R2.out)).trans R2.out; have c1_0_0 : w1.cell? ⟨B, 0, none⟩ = some (.slice A0_0 l0_0.length c0_0) := (blk_cell r0 0).trans rfl; have c1_0_1 : w1.cell? ⟨B, 1, none⟩ = some (.slice A0_1 l0_1.length c0_1) := (blk_cell r0 1).trans rfl; have c1_0_2 : w1.cell? ⟨B, 2, none⟩ = some (.slice A0_2 l0_2.length c0_2) := (blk_cell r0 2).trans rfl; have c1_0_3 : w1.cell? ⟨B, 3, none⟩ = some (.slice A0_3 l0_3.length c0_3) := (blk_cell r0 3).trans rfl; have c1_0_4 : w1.cell? ⟨B, 4, none⟩ = some (.int .i64 a0_4) := (blk_cell r0 4).trans rfl; have c1_0_5 : w1.cell? ⟨B, 5, none⟩ = some (.int .i64 a0_5) := (blk_cell r0 5).trans rfl; have z1_0_0 := blk_frozen r0 0; have z1_0_1 := blk_frozen r0 1; have z1_0_2 := blk_frozen r0 2; have z1_0_3 := blk_frozen r0 3; have z1_0_4 := blk_frozen r0 4; have z1_0_5 := blk_frozen r0 5; have c1_1_0 : w1.cell? ⟨B2, 0, none⟩ = some (.slice A1_0 l1_0.length c1_0) := (blk_cell r1 0).trans rfl; have c1_1_1 : w1.cell? ⟨B2, 1, none⟩ = some (.slice A1_1 l1_1.length c1_1) := (blk_cell r1 1).trans rfl; have c1_1_2 : w1.cell? ⟨B2, 2, none⟩ = some (.slice A1_2 l1_2.length c1_2) := (blk_cell r1 2).trans rfl; have c1_1_3 : w1.cell? ⟨B2, 3, none⟩ = some (.slice A1_3 l1_3.length c1_3) := (blk_cell r1 3).trans rfl; have c1_1_4 : w1.cell? ⟨B2, 4, none⟩ = some (.int .i64 a1_4) := (blk_cell r1 4).trans rfl; have c1_1_5 : w1.cell? ⟨B2, 5, none⟩ = some (.int .i64 a1_5) := (blk_cell r1 5).trans rfl; have z1_1_0 := blk_frozen r1 0; have z1_1_1 := blk_frozen r1 1; have z1_1_2 := blk_frozen r1 2; have z1_1_3 := blk_frozen r1 3; have z1_1_4 := blk_frozen r1 4; have z1_1_5 := blk_frozen r1 5; have c1_2_0 : w1.cell? ⟨g5, 0, none⟩ = some (.string x.f0) := (blk_cell r2 0).trans rfl; have c1_2_1 : w1.cell? ⟨g5, 1, none⟩ = some (.int .i64 x.f1) := (blk_cell r2 1).trans rfl; have z1_2_0 := blk_frozen r2 0; have z1_2_1 := blk_frozen r2 1; clear r0 r1 r2 b1) | (go_at_call 59; (with_reducible refine (HG1.out _ (by repeat (first | (with_reducible first | exact B1.out | apply below_alloc | apply pw_below_drewN | apply below_drew1) | exact B1.out))).mono ?_); rintro e2 w2 ⟨rfl, b2⟩; have HB2 := Aside0.mk (B1.out.trans (b2.mono B1.out.size)); clear b2))
  all_goals rename_i hq_
  · go_ret
    exact ⟨by rw [show (s0.toList == s1.toList) = true by rw [hq_]; exact beq_self_eq_true _]; rfl, HB2.out⟩
  · go_ret
    exact ⟨by rw [show (s0.toList == s1.toList) = false from beq_eq_false_iff_ne.mpr hq_]; rfl, HB2.out⟩
theorem sf_pos {α : Type} (p : α → Bool) : ∀ (l : List α) (i : Nat), decide (0 ≤ idxOf p l i) = l.any p
  | [], i => by simp [idxOf]
  | x :: l, i => by
    rw [idxOf, List.any_cons]
    by_cases h : p x = true
    · rw [if_pos h, h]; simp
    · rw [if_neg h, sf_pos p l (i + 1)]; simp [h]
set_option maxHeartbeats 2000000 in
theorem sf_any (A0_0 : Option Addr) (c0_0 : Nat) (l0_0 : List (S70)) (A0_1 : Option Addr) (c0_1 : Nat) (l0_1 : List (S104)) (A0_2 : Option Addr) (c0_2 : Nat) (l0_2 : List (S104)) (A0_3 : Option Addr) (c0_3 : Nat) (l0_3 : List ByteArray) (a0_4 : Int) (a0_5 : Int) (A1_0 : Option Addr) (c1_0 : Nat) (l1_0 : List (S70)) (A1_1 : Option Addr) (c1_1 : Nat) (l1_1 : List (S104)) (A1_2 : Option Addr) (c1_2 : Nat) (l1_2 : List (S104)) (A1_3 : Option Addr) (c1_3 : Nat) (l1_3 : List ByteArray) (a1_4 : Int) (a1_5 : Int) (B B2 : Nat) (w : World) (hB : B < w.heap.size ∧ B2 < w.heap.size) (hr0_0 : Kd.C k70 w A0_0 l0_0.length l0_0) (hc0_0 : l0_0.length ≤ c0_0) (hr0_1 : Kd.C k104 w A0_1 l0_1.length l0_1) (hc0_1 : l0_1.length ≤ c0_1) (hr0_2 : Kd.C k104 w A0_2 l0_2.length l0_2) (hc0_2 : l0_2.length ≤ c0_2) (hr0_3 : Kd.C Kd.string w A0_3 l0_3.length l0_3) (hc0_3 : l0_3.length ≤ c0_3) (hr1_0 : Kd.C k70 w A1_0 l1_0.length l1_0) (hc1_0 : l1_0.length ≤ c1_0) (hr1_1 : Kd.C k104 w A1_1 l1_1.length l1_1) (hc1_1 : l1_1.length ≤ c1_1) (hr1_2 : Kd.C k104 w A1_2 l1_2.length l1_2) (hc1_2 : l1_2.length ≤ c1_2) (hr1_3 : Kd.C Kd.string w A1_3 l1_3.length l1_3) (hc1_3 : l1_3.length ≤ c1_3)
    (k0 : w.heap[B]? = some (.cells #[.slice A0_0 l0_0.length c0_0, .slice A0_1 l0_1.length c0_1, .slice A0_2 l0_2.length c0_2, .slice A0_3 l0_3.length c0_3, .int .i64 a0_4, .int .i64 a0_5] 47)) (k1 : w.heap[B2]? = some (.cells #[.slice A1_0 l1_0.length c1_0, .slice A1_1 l1_1.length c1_1, .slice A1_2 l1_2.length c1_2, .slice A1_3 l1_3.length c1_3, .int .i64 a1_4, .int .i64 a1_5] 47)) :
    Calls Try.prog 98 #[.slice A0_1 l0_1.length c0_1, .func (.func 99) #[] #[.pointer (some ⟨B, 0, none⟩), .pointer (some ⟨B2, 0, none⟩)]] w fun e w' => e = .returned (.bool (l0_1.any (sfd l0_0 l0_1 l0_2 l0_3 a0_4 a0_5 l1_0 l1_1 l1_2 l1_3 a1_4 a1_5))) ∧ Below w.heap.size w w' := by
  have eg : ∀ args w, (callFunc 99 args).run Try.prog w = .ok (.enter 99 args) w := enters_of Try.func99 (by kernel_rfl) rfl
  have h := idxEntry 99 #[.pointer (some ⟨B, 0, none⟩), .pointer (some ⟨B2, 0, none⟩)] (sfd l0_0 l0_1 l0_2 l0_3 a0_4 a0_5 l1_0 l1_1 l1_2 l1_3 a1_4 a1_5) eg A0_1 c0_1 l0_1 w hr0_1 (fun W x hb => sf_lit A0_0 c0_0 l0_0 A0_1 c0_1 l0_1 A0_2 c0_2 l0_2 A0_3 c0_3 l0_3 a0_4 a0_5 A1_0 c1_0 l1_0 A1_1 c1_1 l1_1 A1_2 c1_2 l1_2 A1_3 c1_3 l1_3 a1_4 a1_5 B B2 w hB hr0_0 hc0_0 hr0_1 hc0_1 hr0_2 hc0_2 hr0_3 hc0_3 hr1_0 hc1_0 hr1_1 hc1_1 hr1_2 hc1_2 hr1_3 hc1_3 k0 k1 W x hb)
  rw [← sf_pos (sfd l0_0 l0_1 l0_2 l0_3 a0_4 a0_5 l1_0 l1_1 l1_2 l1_3 a1_4 a1_5) l0_1 0]
  generalize idxOf (sfd l0_0 l0_1 l0_2 l0_3 a0_4 a0_5 l1_0 l1_1 l1_2 l1_3 a1_4 a1_5) l0_1 0 = i at h ⊢
  clear hr0_0 hc0_0 hr0_1 hc0_1 hr0_2 hc0_2 hr0_3 hc0_3 hr1_0 hc1_0 hr1_1 hc1_1 hr1_2 hc1_2 hr1_3 hc1_3 k0 k1 hB
  go_enter Try.func98, Try.ntmps98
  go_wp2_with (go_at_call 105; refine h.mono ?_; rintro e w1 ⟨rfl, b1⟩; have B1 := Aside0.mk b1; clear b1)
  go_ret
  exact ⟨rfl, B1.out⟩
def impl_SameFiles.f (k : Nat) (l0_0 : List S70) (l0_1 : List S104) (l0_2 : List S104) (l0_3 : List ByteArray) (a0_4 : Int) (a0_5 : Int) (l1_0 : List S70) (l1_1 : List S104) (l1_2 : List S104) (l1_3 : List ByteArray) (a1_4 : Int) (a1_5 : Int) : Option Bool := (impl_FileNames.f k l0_0 l0_1 l0_2 l0_3 a0_4 a0_5).bind fun t1 => (impl_FileNames.f k l1_0 l1_1 l1_2 l1_3 a1_4 a1_5).bind fun t2 => (slices_Equal_string_string.f k t1 t2).bind fun t3 => if t3 = true then some (!l0_1.any (sfd l0_0 l0_1 l0_2 l0_3 a0_4 a0_5 l1_0 l1_1 l1_2 l1_3 a1_4 a1_5)) else some false
theorem impl_SameFiles.mono : ∀ l0_0 l0_1 l0_2 l0_3 a0_4 a0_5 l1_0 l1_1 l1_2 l1_3 a1_4 a1_5 k, LeO (impl_SameFiles.f k l0_0 l0_1 l0_2 l0_3 a0_4 a0_5 l1_0 l1_1 l1_2 l1_3 a1_4 a1_5) (impl_SameFiles.f (k + 1) l0_0 l0_1 l0_2 l0_3 a0_4 a0_5 l1_0 l1_1 l1_2 l1_3 a1_4 a1_5) := by
  intro l0_0 l0_1 l0_2 l0_3 a0_4 a0_5 l1_0 l1_1 l1_2 l1_3 a1_4 a1_5 k
  unfold impl_SameFiles.f
  exact LeO.bind (impl_FileNames.mono _ _ _ _ _ _ k) fun t1 => LeO.bind (impl_FileNames.mono _ _ _ _ _ _ k) fun t2 => LeO.bind (slices_Equal_string_string.mono _ _ k) fun t3 => LeO.refl _
set_option maxHeartbeats 8000000 in
set_option maxRecDepth 100000 in
theorem impl_SameFiles.calls (k : Nat) (A0_0 : Option Addr) (c0_0 : Nat) (l0_0 : List (S70)) (A0_1 : Option Addr) (c0_1 : Nat) (l0_1 : List (S104)) (A0_2 : Option Addr) (c0_2 : Nat) (l0_2 : List (S104)) (A0_3 : Option Addr) (c0_3 : Nat) (l0_3 : List ByteArray) (a0_4 : Int) (a0_5 : Int) (A1_0 : Option Addr) (c1_0 : Nat) (l1_0 : List (S70)) (A1_1 : Option Addr) (c1_1 : Nat) (l1_1 : List (S104)) (A1_2 : Option Addr) (c1_2 : Nat) (l1_2 : List (S104)) (A1_3 : Option Addr) (c1_3 : Nat) (l1_3 : List ByteArray) (a1_4 : Int) (a1_5 : Int) (r : Bool) (w : World) (hr0_0 : Kd.C k70 w A0_0 l0_0.length l0_0) (hc0_0 : l0_0.length ≤ c0_0) (hr0_1 : Kd.C k104 w A0_1 l0_1.length l0_1) (hc0_1 : l0_1.length ≤ c0_1) (hr0_2 : Kd.C k104 w A0_2 l0_2.length l0_2) (hc0_2 : l0_2.length ≤ c0_2) (hr0_3 : Kd.C Kd.string w A0_3 l0_3.length l0_3) (hc0_3 : l0_3.length ≤ c0_3) (hr1_0 : Kd.C k70 w A1_0 l1_0.length l1_0) (hc1_0 : l1_0.length ≤ c1_0) (hr1_1 : Kd.C k104 w A1_1 l1_1.length l1_1) (hc1_1 : l1_1.length ≤ c1_1) (hr1_2 : Kd.C k104 w A1_2 l1_2.length l1_2) (hc1_2 : l1_2.length ≤ c1_2) (hr1_3 : Kd.C Kd.string w A1_3 l1_3.length l1_3) (hc1_3 : l1_3.length ≤ c1_3) (h : impl_SameFiles.f k l0_0 l0_1 l0_2 l0_3 a0_4 a0_5 l1_0 l1_1 l1_2 l1_3 a1_4 a1_5 = some r) :
    Calls Try.prog 61 #[.agg #[.slice A0_0 l0_0.length c0_0, .slice A0_1 l0_1.length c0_1, .slice A0_2 l0_2.length c0_2, .slice A0_3 l0_3.length c0_3, .int .i64 a0_4, .int .i64 a0_5], .agg #[.slice A1_0 l1_0.length c1_0, .slice A1_1 l1_1.length c1_1, .slice A1_2 l1_2.length c1_2, .slice A1_3 l1_3.length c1_3, .int .i64 a1_4, .int .i64 a1_5]] w fun e w' => e = .returned (.bool r) ∧ Below w.heap.size w w' := by
  unfold impl_SameFiles.f at h
  obtain ⟨t1, h1, h⟩ := Option.bind_eq_some_iff.mp h
  obtain ⟨t2, h2, h⟩ := Option.bind_eq_some_iff.mp h
  obtain ⟨t3, h3, h⟩ := Option.bind_eq_some_iff.mp h
  have HA := Aside0.mk (fun B B2 w' (hb : Below w.heap.size w w') hB k0 k1 => sf_any A0_0 c0_0 l0_0 A0_1 c0_1 l0_1 A0_2 c0_2 l0_2 A0_3 c0_3 l0_3 a0_4 a0_5 A1_0 c1_0 l1_0 A1_1 c1_1 l1_1 A1_2 c1_2 l1_2 A1_3 c1_3 l1_3 a1_4 a1_5 B B2 w' hB (Kd.C_below hr0_0 hb) hc0_0 (Kd.C_below hr0_1 hb) hc0_1 (Kd.C_below hr0_2 hb) hc0_2 (Kd.C_below hr0_3 hb) hc0_3 (Kd.C_below hr1_0 hb) hc1_0 (Kd.C_below hr1_1 hb) hc1_1 (Kd.C_below hr1_2 hb) hc1_2 (Kd.C_below hr1_3 hb) hc1_3 k0 k1)
  have H1 := Aside0.mk (fun w' (hb : Below w.heap.size w w') => impl_FileNames.calls k A0_0 c0_0 l0_0 A0_1 c0_1 l0_1 A0_2 c0_2 l0_2 A0_3 c0_3 l0_3 a0_4 a0_5 t1 w' (Kd.C_below hr0_0 hb) hc0_0 (Kd.C_below hr0_1 hb) hc0_1 (Kd.C_below hr0_2 hb) hc0_2 (Kd.C_below hr0_3 hb) hc0_3 h1)
  have H2 := Aside0.mk (fun w' (hb : Below w.heap.size w w') => impl_FileNames.calls k A1_0 c1_0 l1_0 A1_1 c1_1 l1_1 A1_2 c1_2 l1_2 A1_3 c1_3 l1_3 a1_4 a1_5 t2 w' (Kd.C_below hr1_0 hb) hc1_0 (Kd.C_below hr1_1 hb) hc1_1 (Kd.C_below hr1_2 hb) hc1_2 (Kd.C_below hr1_3 hb) hc1_3 h2)
  clear h1 h2 hr0_0 hc0_0 hr0_1 hc0_1 hr0_2 hc0_2 hr0_3 hc0_3 hr1_0 hc1_0 hr1_1 hc1_1 hr1_2 hc1_2 hr1_3 hc1_3
  generalize l0_1.any (sfd l0_0 l0_1 l0_2 l0_3 a0_4 a0_5 l1_0 l1_1 l1_2 l1_3 a1_4 a1_5) = bq at HA h
  have H3 := Aside0.mk h3
  clear h3
  have HB := Aside0.mk (Below.refl w.heap.size w)
  cases t3 with
  | false =>
    rw [if_neg Bool.false_ne_true] at h
    obtain rfl := Option.some.inj h
    go_enter Try.func61, Try.ntmps61
    go_wp2_with (first | ((with_reducible refine gate_dst (N := 2) rfl ?_); refine box_event ?hg (N := 2) ?hd (cs := #[.slice A0_0 l0_0.length c0_0, .slice A0_1 l0_1.length c0_1, .slice A0_2 l0_2.length c0_2, .slice A0_3 l0_3.length c0_3, .int .i64 a0_4, .int .i64 a0_5]) (t := 47) ?hr ?_; (case hd => rfl); (case hg => rfl); (case hr => first | (go_simp; done) | (go_simp; rfl)); intro g5 hg w5 hbox b5; have R0 := Aside0.mk hbox; have B5 := Aside0.mk b5; clear hg hbox b5) | ((with_reducible refine gate_dst (N := 3) rfl ?_); refine box_event ?hg (N := 3) ?hd (cs := #[.slice A1_0 l1_0.length c1_0, .slice A1_1 l1_1.length c1_1, .slice A1_2 l1_2.length c1_2, .slice A1_3 l1_3.length c1_3, .int .i64 a1_4, .int .i64 a1_5]) (t := 47) ?hr ?_; (case hd => rfl); (case hg => rfl); (case hr => first | (go_simp; done) | (go_simp; rfl)); intro g6 hg w6 hbox b6; have R1 := Aside0.mk hbox; have R00 := (b6.block g5 (blk_lt R0.out)).trans R0.out; have S0 := Aside0.mk R00; have B6 := Aside0.mk (B5.out.trans (b6.mono B5.out.size)); have c6_0_0 : w6.cell? ⟨g5, 0, none⟩ = some (.slice A0_0 l0_0.length c0_0) := (blk_cell S0.out 0).trans rfl; have c6_0_1 : w6.cell? ⟨g5, 1, none⟩ = some (.slice A0_1 l0_1.length c0_1) := (blk_cell S0.out 1).trans rfl; have c6_0_2 : w6.cell? ⟨g5, 2, none⟩ = some (.slice A0_2 l0_2.length c0_2) := (blk_cell S0.out 2).trans rfl; have c6_0_3 : w6.cell? ⟨g5, 3, none⟩ = some (.slice A0_3 l0_3.length c0_3) := (blk_cell S0.out 3).trans rfl; have c6_0_4 : w6.cell? ⟨g5, 4, none⟩ = some (.int .i64 a0_4) := (blk_cell S0.out 4).trans rfl; have c6_0_5 : w6.cell? ⟨g5, 5, none⟩ = some (.int .i64 a0_5) := (blk_cell S0.out 5).trans rfl; have z6_0_0 := blk_frozen S0.out 0; have z6_0_1 := blk_frozen S0.out 1; have z6_0_2 := blk_frozen S0.out 2; have z6_0_3 := blk_frozen S0.out 3; have z6_0_4 := blk_frozen S0.out 4; have z6_0_5 := blk_frozen S0.out 5; have c6_1_0 : w6.cell? ⟨g6, 0, none⟩ = some (.slice A1_0 l1_0.length c1_0) := (blk_cell R1.out 0).trans rfl; have c6_1_1 : w6.cell? ⟨g6, 1, none⟩ = some (.slice A1_1 l1_1.length c1_1) := (blk_cell R1.out 1).trans rfl; have c6_1_2 : w6.cell? ⟨g6, 2, none⟩ = some (.slice A1_2 l1_2.length c1_2) := (blk_cell R1.out 2).trans rfl; have c6_1_3 : w6.cell? ⟨g6, 3, none⟩ = some (.slice A1_3 l1_3.length c1_3) := (blk_cell R1.out 3).trans rfl; have c6_1_4 : w6.cell? ⟨g6, 4, none⟩ = some (.int .i64 a1_4) := (blk_cell R1.out 4).trans rfl; have c6_1_5 : w6.cell? ⟨g6, 5, none⟩ = some (.int .i64 a1_5) := (blk_cell R1.out 5).trans rfl; have z6_1_0 := blk_frozen R1.out 0; have z6_1_1 := blk_frozen R1.out 1; have z6_1_2 := blk_frozen R1.out 2; have z6_1_3 := blk_frozen R1.out 3; have z6_1_4 := blk_frozen R1.out 4; have z6_1_5 := blk_frozen R1.out 5; clear hg hbox b6 R00))
    clear c6_0_0 z6_0_0 c6_0_1 z6_0_1 c6_0_2 z6_0_2 c6_0_3 z6_0_3 c6_0_4 z6_0_4 c6_0_5 z6_0_5 c6_1_0 z6_1_0 c6_1_1 z6_1_1 c6_1_2 z6_1_2 c6_1_3 z6_1_3 c6_1_4 z6_1_4 c6_1_5 z6_1_5
    have Z70 := Aside0.mk (show w6.drew.heap[g5]? = some (.cells #[.slice A0_0 l0_0.length c0_0, .slice A0_1 l0_1.length c0_1, .slice A0_2 l0_2.length c0_2, .slice A0_3 l0_3.length c0_3, .int .i64 a0_4, .int .i64 a0_5] 47) from S0.out)
    have Z71 := Aside0.mk (show w6.drew.heap[g6]? = some (.cells #[.slice A1_0 l1_0.length c1_0, .slice A1_1 l1_1.length c1_1, .slice A1_2 l1_2.length c1_2, .slice A1_3 l1_3.length c1_3, .int .i64 a1_4, .int .i64 a1_5] 47) from R1.out)
    have BZ7 := Aside0.mk (below_drew B6.out)
    refine start_ (n := 13) (S := fun w' => w'.cell? ⟨g5, 0, none⟩ = some (.slice A0_0 l0_0.length c0_0) ∧ w'.cell? ⟨g5, 1, none⟩ = some (.slice A0_1 l0_1.length c0_1) ∧ w'.cell? ⟨g5, 2, none⟩ = some (.slice A0_2 l0_2.length c0_2) ∧ w'.cell? ⟨g5, 3, none⟩ = some (.slice A0_3 l0_3.length c0_3) ∧ w'.cell? ⟨g5, 4, none⟩ = some (.int .i64 a0_4) ∧ w'.cell? ⟨g5, 5, none⟩ = some (.int .i64 a0_5) ∧ w'.cell? ⟨g6, 0, none⟩ = some (.slice A1_0 l1_0.length c1_0) ∧ w'.cell? ⟨g6, 1, none⟩ = some (.slice A1_1 l1_1.length c1_1) ∧ w'.cell? ⟨g6, 2, none⟩ = some (.slice A1_2 l1_2.length c1_2) ∧ w'.cell? ⟨g6, 3, none⟩ = some (.slice A1_3 l1_3.length c1_3) ∧ w'.cell? ⟨g6, 4, none⟩ = some (.int .i64 a1_4) ∧ w'.cell? ⟨g6, 5, none⟩ = some (.int .i64 a1_5)) (ds := []) #[false, false, false, false, false, false, false, false, false, false, false, false, false] (by kernel_rfl) rfl rfl ⟨(blk_cell Z70.out 0).trans rfl, (blk_cell Z70.out 1).trans rfl, (blk_cell Z70.out 2).trans rfl, (blk_cell Z70.out 3).trans rfl, (blk_cell Z70.out 4).trans rfl, (blk_cell Z70.out 5).trans rfl, (blk_cell Z71.out 0).trans rfl, (blk_cell Z71.out 1).trans rfl, (blk_cell Z71.out 2).trans rfl, (blk_cell Z71.out 3).trans rfl, (blk_cell Z71.out 4).trans rfl, (blk_cell Z71.out 5).trans rfl⟩ (fun hHeld => ?_)
    generalize w6.drew = w7 at Z70 Z71 BZ7 hHeld ⊢
    refine take_ (i := 0) (N := some 5) (v := ?_) (a' := ?_) #[true, false, false, false, false, false, false, false, false, false, false, false, false] rfl rfl (by kernel_rfl) (fun _ _ _ h => h) (Or.inl ⟨by rfl, ?_⟩) hHeld ?_ ?_
    rotate_left
    · rintro w' ⟨s0, s1, s2, s3, s4, s5, s6, s7, s8, s9, s10, s11⟩
      go_simp
      with_reducible rfl
    rotate_left
    · simp only [Act.put, List.setIfInBounds_toArray, List.set_cons_zero, List.set_cons_succ, i64_w, i32_w]
      rfl
    refine take_ (i := 2) (N := some 7) (v := ?_) (a' := ?_) #[true, false, true, false, false, false, false, false, false, false, false, false, false] rfl rfl (by kernel_rfl) (fun _ _ _ h => h) (Or.inl ⟨by rfl, ?_⟩) hHeld ?_ ?_
    rotate_left
    · rintro w' ⟨s0, s1, s2, s3, s4, s5, s6, s7, s8, s9, s10, s11⟩
      go_simp
      with_reducible rfl
    rotate_left
    · simp only [Act.put, List.setIfInBounds_toArray, List.set_cons_zero, List.set_cons_succ, i64_w, i32_w]
      rfl
    refine one_ (i := 1) (N := some 6) #[true, true, true, false, false, false, false, false, false, false, false, false, false] rfl rfl (by kernel_rfl) (by decide) (fun K hK => ?_)
    refine goes_ Try.func44 (by kernel_rfl) rfl #[.agg #[.slice A0_0 l0_0.length c0_0, .slice A0_1 l0_1.length c0_1, .slice A0_2 l0_2.length c0_2, .slice A0_3 l0_3.length c0_3, .int .i64 a0_4, .int .i64 a0_5]] (by rfl) rfl rfl (by (try simp only [List.map_toArray, List.map_cons, List.map_nil]); first | done | rfl) ?_
    refine (H1.out _ BZ7.out).mono ?_
    rintro e w8 ⟨v8, rfl, o8, hb⟩
    obtain ⟨A8, q8, rfl⟩ := Kd.R_slice o8
    have O8 := Aside0.mk o8
    clear o8
    refine ⟨_, rfl, ?_⟩
    have Z80 := Aside0.mk ((hb.block g5 (blk_lt Z70.out)).trans Z70.out)
    have Z81 := Aside0.mk ((hb.block g6 (blk_lt Z71.out)).trans Z71.out)
    have BZ8 := Aside0.mk (BZ7.out.trans (hb.mono BZ7.out.size))
    clear hb
    refine hK.out _ _ ⟨(blk_cell Z80.out 0).trans rfl, (blk_cell Z80.out 1).trans rfl, (blk_cell Z80.out 2).trans rfl, (blk_cell Z80.out 3).trans rfl, (blk_cell Z80.out 4).trans rfl, (blk_cell Z80.out 5).trans rfl, (blk_cell Z81.out 0).trans rfl, (blk_cell Z81.out 1).trans rfl, (blk_cell Z81.out 2).trans rfl, (blk_cell Z81.out 3).trans rfl, (blk_cell Z81.out 4).trans rfl, (blk_cell Z81.out 5).trans rfl⟩ (fun hHeld => ?_)
    clear hK K
    refine norm_ (a' := ?_) ?_ ?_
    rotate_left
    · show Act.put _ (some 6) _ = _
      simp only [Act.put, List.setIfInBounds_toArray, List.set_cons_zero, List.set_cons_succ, i64_w, i32_w]
      rfl
    refine one_ (i := 3) (N := some 8) #[true, true, true, true, false, false, false, false, false, false, false, false, false] rfl rfl (by kernel_rfl) (by decide) (fun K hK => ?_)
    refine goes_ Try.func44 (by kernel_rfl) rfl #[.agg #[.slice A1_0 l1_0.length c1_0, .slice A1_1 l1_1.length c1_1, .slice A1_2 l1_2.length c1_2, .slice A1_3 l1_3.length c1_3, .int .i64 a1_4, .int .i64 a1_5]] (by rfl) rfl rfl (by (try simp only [List.map_toArray, List.map_cons, List.map_nil]); first | done | rfl) ?_
    refine (H2.out _ BZ8.out).mono ?_
    rintro e w9 ⟨v9, rfl, o9, hb⟩
    obtain ⟨A9, q9, rfl⟩ := Kd.R_slice o9
    have O9 := Aside0.mk o9
    have O89 := Aside0.mk (Kd.R_below O8.out hb)
    clear o9
    refine ⟨_, rfl, ?_⟩
    have Z90 := Aside0.mk ((hb.block g5 (blk_lt Z80.out)).trans Z80.out)
    have Z91 := Aside0.mk ((hb.block g6 (blk_lt Z81.out)).trans Z81.out)
    have BZ9 := Aside0.mk (BZ8.out.trans (hb.mono BZ8.out.size))
    clear hb
    refine hK.out _ _ ⟨(blk_cell Z90.out 0).trans rfl, (blk_cell Z90.out 1).trans rfl, (blk_cell Z90.out 2).trans rfl, (blk_cell Z90.out 3).trans rfl, (blk_cell Z90.out 4).trans rfl, (blk_cell Z90.out 5).trans rfl, (blk_cell Z91.out 0).trans rfl, (blk_cell Z91.out 1).trans rfl, (blk_cell Z91.out 2).trans rfl, (blk_cell Z91.out 3).trans rfl, (blk_cell Z91.out 4).trans rfl, (blk_cell Z91.out 5).trans rfl⟩ (fun hHeld => ?_)
    clear hK K
    refine norm_ (a' := ?_) ?_ ?_
    rotate_left
    · show Act.put _ (some 8) _ = _
      simp only [Act.put, List.setIfInBounds_toArray, List.set_cons_zero, List.set_cons_succ, i64_w, i32_w]
      rfl
    refine one_ (i := 4) (N := some 9) #[true, true, true, true, true, false, false, false, false, false, false, false, false] rfl rfl (by kernel_rfl) (by decide) (fun K hK => ?_)
    refine goes_ Try.func90 (by kernel_rfl) rfl #[.slice A8 t1.length q8, .slice A9 t2.length q9] (by rfl) rfl rfl (by (try simp only [List.map_toArray, List.map_cons, List.map_nil]); first | done | rfl) ?_
    refine (slices_Equal_string_string.calls k A8 q8 t1 A9 q9 t2 _ w9 (Kd.R_reads' O89.out).2.2 (Kd.R_reads' O89.out).2.1 (Kd.R_reads' O9.out).2.2 (Kd.R_reads' O9.out).2.1 H3.out).mono ?_
    rintro e w10 ⟨rfl, qd, rfl⟩
    have hb := pw_below_drewN (Below.refl w9.heap.size w9) qd
    generalize w9.drewN qd = w10 at hb ⊢
    refine ⟨_, rfl, ?_⟩
    have Z100 := Aside0.mk ((hb.block g5 (blk_lt Z90.out)).trans Z90.out)
    have Z101 := Aside0.mk ((hb.block g6 (blk_lt Z91.out)).trans Z91.out)
    have BZ10 := Aside0.mk (BZ9.out.trans (hb.mono BZ9.out.size))
    clear hb
    refine hK.out _ _ ⟨(blk_cell Z100.out 0).trans rfl, (blk_cell Z100.out 1).trans rfl, (blk_cell Z100.out 2).trans rfl, (blk_cell Z100.out 3).trans rfl, (blk_cell Z100.out 4).trans rfl, (blk_cell Z100.out 5).trans rfl, (blk_cell Z101.out 0).trans rfl, (blk_cell Z101.out 1).trans rfl, (blk_cell Z101.out 2).trans rfl, (blk_cell Z101.out 3).trans rfl, (blk_cell Z101.out 4).trans rfl, (blk_cell Z101.out 5).trans rfl⟩ (fun hHeld => ?_)
    clear hK K
    refine norm_ (a' := ?_) ?_ ?_
    rotate_left
    · show Act.put _ (some 9) _ = _
      simp only [Act.put, List.setIfInBounds_toArray, List.set_cons_zero, List.set_cons_succ, i64_w, i32_w]
      rfl
    refine pure_ (i := 5) (N := some 10) (v := ?_) (a' := ?_) #[true, true, true, true, true, true, false, false, false, false, false, false, false] rfl rfl (by kernel_rfl) (fun _ _ _ h => h) (Or.inl ⟨by rfl, ?_⟩) ?_ ?_
    rotate_left
    · intro w'
      go_simp
      with_reducible rfl
    rotate_left
    · simp only [Act.put, List.setIfInBounds_toArray, List.set_cons_zero, List.set_cons_succ, i64_w, i32_w]
      rfl
    refine pure_ (i := 6) (N := some 11) (v := undef) (a' := ?_) #[true, true, true, true, true, true, true, false, false, false, false, false, false] rfl rfl (by kernel_rfl) (fun _ _ _ h => h) (Or.inr ⟨by rfl, rfl⟩) ?_ ?_
    rotate_left
    · simp only [Act.put, List.setIfInBounds_toArray, List.set_cons_zero, List.set_cons_succ, i64_w, i32_w]
      rfl
    refine pure_ (i := 7) (N := some 12) (v := undef) (a' := ?_) #[true, true, true, true, true, true, true, true, false, false, false, false, false] rfl rfl (by kernel_rfl) (fun _ _ _ h => h) (Or.inr ⟨by rfl, rfl⟩) ?_ ?_
    rotate_left
    · simp only [Act.put, List.setIfInBounds_toArray, List.set_cons_zero, List.set_cons_succ, i64_w, i32_w]
      rfl
    refine pure_ (i := 8) (N := some 13) (v := undef) (a' := ?_) #[true, true, true, true, true, true, true, true, true, false, false, false, false] rfl rfl (by kernel_rfl) (fun _ _ _ h => h) (Or.inr ⟨by rfl, rfl⟩) ?_ ?_
    rotate_left
    · simp only [Act.put, List.setIfInBounds_toArray, List.set_cons_zero, List.set_cons_succ, i64_w, i32_w]
      rfl
    refine pure_ (i := 9) (N := some 14) (v := undef) (a' := ?_) #[true, true, true, true, true, true, true, true, true, true, false, false, false] rfl rfl (by kernel_rfl) (fun _ _ _ h => h) (Or.inr ⟨by rfl, rfl⟩) ?_ ?_
    rotate_left
    · simp only [Act.put, List.setIfInBounds_toArray, List.set_cons_zero, List.set_cons_succ, i64_w, i32_w]
      rfl
    refine pure_ (i := 10) (N := some 15) (v := undef) (a' := ?_) #[true, true, true, true, true, true, true, true, true, true, true, false, false] rfl rfl (by kernel_rfl) (fun _ _ _ h => h) (Or.inr ⟨by rfl, rfl⟩) ?_ ?_
    rotate_left
    · simp only [Act.put, List.setIfInBounds_toArray, List.set_cons_zero, List.set_cons_succ, i64_w, i32_w]
      rfl
    refine pure_ (i := 11) (N := some 16) (v := ?_) (a' := ?_) #[true, true, true, true, true, true, true, true, true, true, true, true, false] rfl rfl (by kernel_rfl) (fun _ _ _ h => h) (Or.inl ⟨by rfl, ?_⟩) ?_ ?_
    rotate_left
    · intro w'
      go_simp
      with_reducible rfl
    rotate_left
    · simp only [Act.put, List.setIfInBounds_toArray, List.set_cons_zero, List.set_cons_succ, i64_w, i32_w]
      rfl
    refine pure_ (i := 12) (N := some 4) (v := ?_) (a' := ?_) #[true, true, true, true, true, true, true, true, true, true, true, true, true] rfl rfl (by kernel_rfl) (fun _ _ _ h => h) (Or.inl ⟨by rfl, ?_⟩) ?_ ?_
    rotate_left
    · intro w'
      go_simp
      with_reducible rfl
    rotate_left
    · simp only [Act.put, List.setIfInBounds_toArray, List.set_cons_zero, List.set_cons_succ, i64_w, i32_w]
      rfl
    refine done_ (by kernel_rfl) ?_
    go_wp2
    go_ret
    exact ⟨rfl, BZ10.out⟩
  | true =>
    rw [if_pos rfl] at h
    obtain rfl := Option.some.inj h
    go_enter Try.func61, Try.ntmps61
    go_wp2_with (first | ((with_reducible refine gate_dst (N := 2) rfl ?_); refine box_event ?hg (N := 2) ?hd (cs := #[.slice A0_0 l0_0.length c0_0, .slice A0_1 l0_1.length c0_1, .slice A0_2 l0_2.length c0_2, .slice A0_3 l0_3.length c0_3, .int .i64 a0_4, .int .i64 a0_5]) (t := 47) ?hr ?_; (case hd => rfl); (case hg => rfl); (case hr => first | (go_simp; done) | (go_simp; rfl)); intro g5 hg w5 hbox b5; have R0 := Aside0.mk hbox; have B5 := Aside0.mk b5; clear hg hbox b5) | ((with_reducible refine gate_dst (N := 3) rfl ?_); refine box_event ?hg (N := 3) ?hd (cs := #[.slice A1_0 l1_0.length c1_0, .slice A1_1 l1_1.length c1_1, .slice A1_2 l1_2.length c1_2, .slice A1_3 l1_3.length c1_3, .int .i64 a1_4, .int .i64 a1_5]) (t := 47) ?hr ?_; (case hd => rfl); (case hg => rfl); (case hr => first | (go_simp; done) | (go_simp; rfl)); intro g6 hg w6 hbox b6; have R1 := Aside0.mk hbox; have R00 := (b6.block g5 (blk_lt R0.out)).trans R0.out; have S0 := Aside0.mk R00; have B6 := Aside0.mk (B5.out.trans (b6.mono B5.out.size)); have c6_0_0 : w6.cell? ⟨g5, 0, none⟩ = some (.slice A0_0 l0_0.length c0_0) := (blk_cell S0.out 0).trans rfl; have c6_0_1 : w6.cell? ⟨g5, 1, none⟩ = some (.slice A0_1 l0_1.length c0_1) := (blk_cell S0.out 1).trans rfl; have c6_0_2 : w6.cell? ⟨g5, 2, none⟩ = some (.slice A0_2 l0_2.length c0_2) := (blk_cell S0.out 2).trans rfl; have c6_0_3 : w6.cell? ⟨g5, 3, none⟩ = some (.slice A0_3 l0_3.length c0_3) := (blk_cell S0.out 3).trans rfl; have c6_0_4 : w6.cell? ⟨g5, 4, none⟩ = some (.int .i64 a0_4) := (blk_cell S0.out 4).trans rfl; have c6_0_5 : w6.cell? ⟨g5, 5, none⟩ = some (.int .i64 a0_5) := (blk_cell S0.out 5).trans rfl; have z6_0_0 := blk_frozen S0.out 0; have z6_0_1 := blk_frozen S0.out 1; have z6_0_2 := blk_frozen S0.out 2; have z6_0_3 := blk_frozen S0.out 3; have z6_0_4 := blk_frozen S0.out 4; have z6_0_5 := blk_frozen S0.out 5; have c6_1_0 : w6.cell? ⟨g6, 0, none⟩ = some (.slice A1_0 l1_0.length c1_0) := (blk_cell R1.out 0).trans rfl; have c6_1_1 : w6.cell? ⟨g6, 1, none⟩ = some (.slice A1_1 l1_1.length c1_1) := (blk_cell R1.out 1).trans rfl; have c6_1_2 : w6.cell? ⟨g6, 2, none⟩ = some (.slice A1_2 l1_2.length c1_2) := (blk_cell R1.out 2).trans rfl; have c6_1_3 : w6.cell? ⟨g6, 3, none⟩ = some (.slice A1_3 l1_3.length c1_3) := (blk_cell R1.out 3).trans rfl; have c6_1_4 : w6.cell? ⟨g6, 4, none⟩ = some (.int .i64 a1_4) := (blk_cell R1.out 4).trans rfl; have c6_1_5 : w6.cell? ⟨g6, 5, none⟩ = some (.int .i64 a1_5) := (blk_cell R1.out 5).trans rfl; have z6_1_0 := blk_frozen R1.out 0; have z6_1_1 := blk_frozen R1.out 1; have z6_1_2 := blk_frozen R1.out 2; have z6_1_3 := blk_frozen R1.out 3; have z6_1_4 := blk_frozen R1.out 4; have z6_1_5 := blk_frozen R1.out 5; clear hg hbox b6 R00))
    clear c6_0_0 z6_0_0 c6_0_1 z6_0_1 c6_0_2 z6_0_2 c6_0_3 z6_0_3 c6_0_4 z6_0_4 c6_0_5 z6_0_5 c6_1_0 z6_1_0 c6_1_1 z6_1_1 c6_1_2 z6_1_2 c6_1_3 z6_1_3 c6_1_4 z6_1_4 c6_1_5 z6_1_5
    have Z70 := Aside0.mk (show w6.drew.heap[g5]? = some (.cells #[.slice A0_0 l0_0.length c0_0, .slice A0_1 l0_1.length c0_1, .slice A0_2 l0_2.length c0_2, .slice A0_3 l0_3.length c0_3, .int .i64 a0_4, .int .i64 a0_5] 47) from S0.out)
    have Z71 := Aside0.mk (show w6.drew.heap[g6]? = some (.cells #[.slice A1_0 l1_0.length c1_0, .slice A1_1 l1_1.length c1_1, .slice A1_2 l1_2.length c1_2, .slice A1_3 l1_3.length c1_3, .int .i64 a1_4, .int .i64 a1_5] 47) from R1.out)
    have BZ7 := Aside0.mk (below_drew B6.out)
    refine start_ (n := 13) (S := fun w' => w'.cell? ⟨g5, 0, none⟩ = some (.slice A0_0 l0_0.length c0_0) ∧ w'.cell? ⟨g5, 1, none⟩ = some (.slice A0_1 l0_1.length c0_1) ∧ w'.cell? ⟨g5, 2, none⟩ = some (.slice A0_2 l0_2.length c0_2) ∧ w'.cell? ⟨g5, 3, none⟩ = some (.slice A0_3 l0_3.length c0_3) ∧ w'.cell? ⟨g5, 4, none⟩ = some (.int .i64 a0_4) ∧ w'.cell? ⟨g5, 5, none⟩ = some (.int .i64 a0_5) ∧ w'.cell? ⟨g6, 0, none⟩ = some (.slice A1_0 l1_0.length c1_0) ∧ w'.cell? ⟨g6, 1, none⟩ = some (.slice A1_1 l1_1.length c1_1) ∧ w'.cell? ⟨g6, 2, none⟩ = some (.slice A1_2 l1_2.length c1_2) ∧ w'.cell? ⟨g6, 3, none⟩ = some (.slice A1_3 l1_3.length c1_3) ∧ w'.cell? ⟨g6, 4, none⟩ = some (.int .i64 a1_4) ∧ w'.cell? ⟨g6, 5, none⟩ = some (.int .i64 a1_5)) (ds := []) #[false, false, false, false, false, false, false, false, false, false, false, false, false] (by kernel_rfl) rfl rfl ⟨(blk_cell Z70.out 0).trans rfl, (blk_cell Z70.out 1).trans rfl, (blk_cell Z70.out 2).trans rfl, (blk_cell Z70.out 3).trans rfl, (blk_cell Z70.out 4).trans rfl, (blk_cell Z70.out 5).trans rfl, (blk_cell Z71.out 0).trans rfl, (blk_cell Z71.out 1).trans rfl, (blk_cell Z71.out 2).trans rfl, (blk_cell Z71.out 3).trans rfl, (blk_cell Z71.out 4).trans rfl, (blk_cell Z71.out 5).trans rfl⟩ (fun hHeld => ?_)
    generalize w6.drew = w7 at Z70 Z71 BZ7 hHeld ⊢
    refine take_ (i := 0) (N := some 5) (v := ?_) (a' := ?_) #[true, false, false, false, false, false, false, false, false, false, false, false, false] rfl rfl (by kernel_rfl) (fun _ _ _ h => h) (Or.inl ⟨by rfl, ?_⟩) hHeld ?_ ?_
    rotate_left
    · rintro w' ⟨s0, s1, s2, s3, s4, s5, s6, s7, s8, s9, s10, s11⟩
      go_simp
      with_reducible rfl
    rotate_left
    · simp only [Act.put, List.setIfInBounds_toArray, List.set_cons_zero, List.set_cons_succ, i64_w, i32_w]
      rfl
    refine take_ (i := 2) (N := some 7) (v := ?_) (a' := ?_) #[true, false, true, false, false, false, false, false, false, false, false, false, false] rfl rfl (by kernel_rfl) (fun _ _ _ h => h) (Or.inl ⟨by rfl, ?_⟩) hHeld ?_ ?_
    rotate_left
    · rintro w' ⟨s0, s1, s2, s3, s4, s5, s6, s7, s8, s9, s10, s11⟩
      go_simp
      with_reducible rfl
    rotate_left
    · simp only [Act.put, List.setIfInBounds_toArray, List.set_cons_zero, List.set_cons_succ, i64_w, i32_w]
      rfl
    refine one_ (i := 1) (N := some 6) #[true, true, true, false, false, false, false, false, false, false, false, false, false] rfl rfl (by kernel_rfl) (by decide) (fun K hK => ?_)
    refine goes_ Try.func44 (by kernel_rfl) rfl #[.agg #[.slice A0_0 l0_0.length c0_0, .slice A0_1 l0_1.length c0_1, .slice A0_2 l0_2.length c0_2, .slice A0_3 l0_3.length c0_3, .int .i64 a0_4, .int .i64 a0_5]] (by rfl) rfl rfl (by (try simp only [List.map_toArray, List.map_cons, List.map_nil]); first | done | rfl) ?_
    refine (H1.out _ BZ7.out).mono ?_
    rintro e w8 ⟨v8, rfl, o8, hb⟩
    obtain ⟨A8, q8, rfl⟩ := Kd.R_slice o8
    have O8 := Aside0.mk o8
    clear o8
    refine ⟨_, rfl, ?_⟩
    have Z80 := Aside0.mk ((hb.block g5 (blk_lt Z70.out)).trans Z70.out)
    have Z81 := Aside0.mk ((hb.block g6 (blk_lt Z71.out)).trans Z71.out)
    have BZ8 := Aside0.mk (BZ7.out.trans (hb.mono BZ7.out.size))
    clear hb
    refine hK.out _ _ ⟨(blk_cell Z80.out 0).trans rfl, (blk_cell Z80.out 1).trans rfl, (blk_cell Z80.out 2).trans rfl, (blk_cell Z80.out 3).trans rfl, (blk_cell Z80.out 4).trans rfl, (blk_cell Z80.out 5).trans rfl, (blk_cell Z81.out 0).trans rfl, (blk_cell Z81.out 1).trans rfl, (blk_cell Z81.out 2).trans rfl, (blk_cell Z81.out 3).trans rfl, (blk_cell Z81.out 4).trans rfl, (blk_cell Z81.out 5).trans rfl⟩ (fun hHeld => ?_)
    clear hK K
    refine norm_ (a' := ?_) ?_ ?_
    rotate_left
    · show Act.put _ (some 6) _ = _
      simp only [Act.put, List.setIfInBounds_toArray, List.set_cons_zero, List.set_cons_succ, i64_w, i32_w]
      rfl
    refine one_ (i := 3) (N := some 8) #[true, true, true, true, false, false, false, false, false, false, false, false, false] rfl rfl (by kernel_rfl) (by decide) (fun K hK => ?_)
    refine goes_ Try.func44 (by kernel_rfl) rfl #[.agg #[.slice A1_0 l1_0.length c1_0, .slice A1_1 l1_1.length c1_1, .slice A1_2 l1_2.length c1_2, .slice A1_3 l1_3.length c1_3, .int .i64 a1_4, .int .i64 a1_5]] (by rfl) rfl rfl (by (try simp only [List.map_toArray, List.map_cons, List.map_nil]); first | done | rfl) ?_
    refine (H2.out _ BZ8.out).mono ?_
    rintro e w9 ⟨v9, rfl, o9, hb⟩
    obtain ⟨A9, q9, rfl⟩ := Kd.R_slice o9
    have O9 := Aside0.mk o9
    have O89 := Aside0.mk (Kd.R_below O8.out hb)
    clear o9
    refine ⟨_, rfl, ?_⟩
    have Z90 := Aside0.mk ((hb.block g5 (blk_lt Z80.out)).trans Z80.out)
    have Z91 := Aside0.mk ((hb.block g6 (blk_lt Z81.out)).trans Z81.out)
    have BZ9 := Aside0.mk (BZ8.out.trans (hb.mono BZ8.out.size))
    clear hb
    refine hK.out _ _ ⟨(blk_cell Z90.out 0).trans rfl, (blk_cell Z90.out 1).trans rfl, (blk_cell Z90.out 2).trans rfl, (blk_cell Z90.out 3).trans rfl, (blk_cell Z90.out 4).trans rfl, (blk_cell Z90.out 5).trans rfl, (blk_cell Z91.out 0).trans rfl, (blk_cell Z91.out 1).trans rfl, (blk_cell Z91.out 2).trans rfl, (blk_cell Z91.out 3).trans rfl, (blk_cell Z91.out 4).trans rfl, (blk_cell Z91.out 5).trans rfl⟩ (fun hHeld => ?_)
    clear hK K
    refine norm_ (a' := ?_) ?_ ?_
    rotate_left
    · show Act.put _ (some 8) _ = _
      simp only [Act.put, List.setIfInBounds_toArray, List.set_cons_zero, List.set_cons_succ, i64_w, i32_w]
      rfl
    refine one_ (i := 4) (N := some 9) #[true, true, true, true, true, false, false, false, false, false, false, false, false] rfl rfl (by kernel_rfl) (by decide) (fun K hK => ?_)
    refine goes_ Try.func90 (by kernel_rfl) rfl #[.slice A8 t1.length q8, .slice A9 t2.length q9] (by rfl) rfl rfl (by (try simp only [List.map_toArray, List.map_cons, List.map_nil]); first | done | rfl) ?_
    refine (slices_Equal_string_string.calls k A8 q8 t1 A9 q9 t2 _ w9 (Kd.R_reads' O89.out).2.2 (Kd.R_reads' O89.out).2.1 (Kd.R_reads' O9.out).2.2 (Kd.R_reads' O9.out).2.1 H3.out).mono ?_
    rintro e w10 ⟨rfl, qd, rfl⟩
    have hb := pw_below_drewN (Below.refl w9.heap.size w9) qd
    generalize w9.drewN qd = w10 at hb ⊢
    refine ⟨_, rfl, ?_⟩
    have Z100 := Aside0.mk ((hb.block g5 (blk_lt Z90.out)).trans Z90.out)
    have Z101 := Aside0.mk ((hb.block g6 (blk_lt Z91.out)).trans Z91.out)
    have BZ10 := Aside0.mk (BZ9.out.trans (hb.mono BZ9.out.size))
    clear hb
    refine hK.out _ _ ⟨(blk_cell Z100.out 0).trans rfl, (blk_cell Z100.out 1).trans rfl, (blk_cell Z100.out 2).trans rfl, (blk_cell Z100.out 3).trans rfl, (blk_cell Z100.out 4).trans rfl, (blk_cell Z100.out 5).trans rfl, (blk_cell Z101.out 0).trans rfl, (blk_cell Z101.out 1).trans rfl, (blk_cell Z101.out 2).trans rfl, (blk_cell Z101.out 3).trans rfl, (blk_cell Z101.out 4).trans rfl, (blk_cell Z101.out 5).trans rfl⟩ (fun hHeld => ?_)
    clear hK K
    refine norm_ (a' := ?_) ?_ ?_
    rotate_left
    · show Act.put _ (some 9) _ = _
      simp only [Act.put, List.setIfInBounds_toArray, List.set_cons_zero, List.set_cons_succ, i64_w, i32_w]
      rfl
    refine pure_ (i := 5) (N := some 10) (v := ?_) (a' := ?_) #[true, true, true, true, true, true, false, false, false, false, false, false, false] rfl rfl (by kernel_rfl) (fun _ _ _ h => h) (Or.inl ⟨by rfl, ?_⟩) ?_ ?_
    rotate_left
    · intro w'
      go_simp
      with_reducible rfl
    rotate_left
    · simp only [Act.put, List.setIfInBounds_toArray, List.set_cons_zero, List.set_cons_succ, i64_w, i32_w]
      rfl
    refine pure_ (i := 6) (N := some 11) (v := ?_) (a' := ?_) #[true, true, true, true, true, true, true, false, false, false, false, false, false] rfl rfl (by kernel_rfl) (fun _ _ _ h => h) (Or.inl ⟨by rfl, ?_⟩) ?_ ?_
    rotate_left
    · intro w'
      go_simp
      with_reducible rfl
    rotate_left
    · simp only [Act.put, List.setIfInBounds_toArray, List.set_cons_zero, List.set_cons_succ, i64_w, i32_w]
      rfl
    refine pure_ (i := 8) (N := some 13) (v := ?_) (a' := ?_) #[true, true, true, true, true, true, true, false, true, false, false, false, false] rfl rfl (by kernel_rfl) (fun _ _ _ h => h) (Or.inl ⟨by rfl, ?_⟩) ?_ ?_
    rotate_left
    · intro w'
      go_simp
      with_reducible rfl
    rotate_left
    · simp only [Act.put, List.setIfInBounds_toArray, List.set_cons_zero, List.set_cons_succ, i64_w, i32_w]
      rfl
    refine take_ (i := 7) (N := some 12) (v := ?_) (a' := ?_) #[true, true, true, true, true, true, true, true, true, false, false, false, false] rfl rfl (by kernel_rfl) (fun _ _ _ h => h) (Or.inl ⟨by rfl, ?_⟩) hHeld ?_ ?_
    rotate_left
    · rintro w' ⟨s0, s1, s2, s3, s4, s5, s6, s7, s8, s9, s10, s11⟩
      go_simp
      with_reducible rfl
    rotate_left
    · simp only [Act.put, List.setIfInBounds_toArray, List.set_cons_zero, List.set_cons_succ, i64_w, i32_w]
      rfl
    refine one_ (i := 9) (N := some 14) #[true, true, true, true, true, true, true, true, true, true, false, false, false] rfl rfl (by kernel_rfl) (by decide) (fun K hK => ?_)
    refine goes_ Try.func98 (by kernel_rfl) rfl #[.slice A0_1 l0_1.length c0_1, .func (.func 99) #[] #[.pointer (some ⟨g5, 0, none⟩), .pointer (some ⟨g6, 0, none⟩)]] (by rfl) rfl rfl (by (try simp only [List.map_toArray, List.map_cons, List.map_nil]); first | done | rfl) ?_
    refine (HA.out g5 g6 _ BZ10.out ⟨blk_lt Z100.out, blk_lt Z101.out⟩ Z100.out Z101.out).mono ?_
    rintro e w11 ⟨rfl, hb⟩
    refine ⟨_, rfl, ?_⟩
    have Z110 := Aside0.mk ((hb.block g5 (blk_lt Z100.out)).trans Z100.out)
    have Z111 := Aside0.mk ((hb.block g6 (blk_lt Z101.out)).trans Z101.out)
    have BZ11 := Aside0.mk (BZ10.out.trans (hb.mono BZ10.out.size))
    clear hb
    refine hK.out _ _ ⟨(blk_cell Z110.out 0).trans rfl, (blk_cell Z110.out 1).trans rfl, (blk_cell Z110.out 2).trans rfl, (blk_cell Z110.out 3).trans rfl, (blk_cell Z110.out 4).trans rfl, (blk_cell Z110.out 5).trans rfl, (blk_cell Z111.out 0).trans rfl, (blk_cell Z111.out 1).trans rfl, (blk_cell Z111.out 2).trans rfl, (blk_cell Z111.out 3).trans rfl, (blk_cell Z111.out 4).trans rfl, (blk_cell Z111.out 5).trans rfl⟩ (fun hHeld => ?_)
    clear hK K
    refine norm_ (a' := ?_) ?_ ?_
    rotate_left
    · show Act.put _ (some 14) _ = _
      simp only [Act.put, List.setIfInBounds_toArray, List.set_cons_zero, List.set_cons_succ, i64_w, i32_w]
      rfl
    refine pure_ (i := 10) (N := some 15) (v := ?_) (a' := ?_) #[true, true, true, true, true, true, true, true, true, true, true, false, false] rfl rfl (by kernel_rfl) (fun _ _ _ h => h) (Or.inl ⟨by rfl, ?_⟩) ?_ ?_
    rotate_left
    · intro w'
      go_simp
      with_reducible rfl
    rotate_left
    · simp only [Act.put, List.setIfInBounds_toArray, List.set_cons_zero, List.set_cons_succ, i64_w, i32_w]
      rfl
    refine pure_ (i := 11) (N := some 16) (v := ?_) (a' := ?_) #[true, true, true, true, true, true, true, true, true, true, true, true, false] rfl rfl (by kernel_rfl) (fun _ _ _ h => h) (Or.inl ⟨by rfl, ?_⟩) ?_ ?_
    rotate_left
    · intro w'
      go_simp
      with_reducible rfl
    rotate_left
    · simp only [Act.put, List.setIfInBounds_toArray, List.set_cons_zero, List.set_cons_succ, i64_w, i32_w]
      rfl
    refine pure_ (i := 12) (N := some 4) (v := ?_) (a' := ?_) #[true, true, true, true, true, true, true, true, true, true, true, true, true] rfl rfl (by kernel_rfl) (fun _ _ _ h => h) (Or.inl ⟨by rfl, ?_⟩) ?_ ?_
    rotate_left
    · intro w'
      go_simp
      with_reducible rfl
    rotate_left
    · simp only [Act.put, List.setIfInBounds_toArray, List.set_cons_zero, List.set_cons_succ, i64_w, i32_w]
      rfl
    refine done_ (by kernel_rfl) ?_
    go_wp2
    go_ret
    exact ⟨rfl, BZ11.out⟩

end Go.Proofs.Ytdjgnooacaoomaa.MFnExactSameFiles
