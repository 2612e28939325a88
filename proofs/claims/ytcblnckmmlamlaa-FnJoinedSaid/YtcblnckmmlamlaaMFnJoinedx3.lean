/- Each theorem here says that a call of one Go function answers what the Lean function beside it answers; its conditions stand in it. Written by a program of this session. -/
import Derived.Test.YtcblnckmmlamlaaMFnJoinedx0
import Derived.Test.YtcblnckmmlamlaaMFnJoinedx1
import Derived.Test.YtcblnckmmlamlaaMFnJoinedx2
namespace Go.Proofs.Ytcblnckmmlamlaa.MFnJoined
open Go.RowKit Go.Proofs.YtcblnckmmlamlaaW.PrintWords Go.Proofs.YtcblnckmmlamlaaW.PrintLast Go.Proofs.YtcblnckmmlamlaaW.PrintMore
attribute [local go_sem] max2_int min2_int max_two min_two max_three min_three max_four min_four   -- for this text's walks alone
set_option linter.unusedVariables false
set_option linter.unusedSimpArgs false

/-! ### laws_FnJoined: function 14 -/
def laws_FnJoined.f (k : Nat) (l0 : List Int) : Option (Bool) := (laws_big.f l0).bind fun t203 => (if t203 = true then (some true) else ((spec_DrawSumOf.f k l0).bind fun t204 => ((spec_DrawSumMore.f k l0).bind fun bt205 => ((spec_DrawSumShift.f k l0).bind fun bt207 => ((impl_SumOf.f k t204).bind fun t209 => ((impl_SumOf.f k bt205.2).bind fun t210 => ((impl_SumJoined.f k t209 t210 (bt205.2.size : Int)).bind fun t211 => (if t204.size + bt205.2.size ≤ 9223372036854775807 then ((spec_SumOf.f k (t204 ++ bt205.2)).bind fun t212 => (if t211 = t212 then ((impl_SumShift.f k bt207.1 bt207.2).bind fun t213 => ((spec_SumShift.f k bt207.1 bt207.2).bind fun t214 => (if t213 = t214 then ((impl_SumShift.f k 128 1).bind fun t215 => (some (t215 == 2197175160))) else (some false)))) else (some false))) else (none)))))))))
theorem laws_FnJoined.mono : ∀ a0 k, LeO (laws_FnJoined.f k a0) (laws_FnJoined.f (k + 1) a0) := by
  intro a0 k
  unfold laws_FnJoined.f
  repeat' first
      | (with_reducible exact impl_SumJoined.mono _ _ _ _)
      | (with_reducible exact impl_SumOf.mono _ _)
      | (with_reducible exact impl_SumShift.mono _ _ _)
      | (with_reducible exact spec_DrawSumMore.mono _ _)
      | (with_reducible exact spec_DrawSumOf.mono _ _)
      | (with_reducible exact spec_DrawSumShift.mono _ _)
      | (with_reducible exact spec_SumOf.mono _ _)
      | (with_reducible exact spec_SumShift.mono _ _ _)
      | (with_reducible exact LeO.refl _)
      | (with_reducible exact LeO.none _)
      | (with_reducible refine LeO.ite ?_ ?_)
      | (with_reducible refine LeO.bind ?_ (fun _ => ?_))
      | exact impl_SumJoined.mono _ _ _ _
      | exact impl_SumOf.mono _ _
      | exact impl_SumShift.mono _ _ _
      | exact spec_DrawSumMore.mono _ _
      | exact spec_DrawSumOf.mono _ _
      | exact spec_DrawSumShift.mono _ _
      | exact spec_SumOf.mono _ _
      | exact spec_SumShift.mono _ _ _
      | exact LeO.none _
      | refine LeO.ite ?_ ?_
      | refine LeO.bind ?_ (fun _ => ?_)
set_option maxHeartbeats 8000000 in
set_option maxRecDepth 100000 in
theorem laws_FnJoined.calls (k : Nat) (A0 : Option Addr) (c0 : Nat) (l0 : List Int) (r : Bool) (w : World) (hr0 : Kd.C (Kd.int .u8) w A0 l0.length l0) (hc0 : l0.length ≤ c0) (h : laws_FnJoined.f k l0 = some r) (hr_ : Aside0 (r = true)) :
    Calls Try.prog 14 #[.slice A0 l0.length c0] w fun e w' => e = .returned (.bool r) ∧ Below w.heap.size w w' := by
  have HR0 := Aside0.mk hr0
  have HC0 := Aside0.mk hc0
  clear hr0 hc0
  have HB := Aside0.mk (Below.refl w.heap.size w)
  have H : ((laws_big.f l0).bind fun t203 => (if t203 = true then (some true) else ((spec_DrawSumOf.f k l0).bind fun t204 => ((spec_DrawSumMore.f k l0).bind fun bt205 => ((spec_DrawSumShift.f k l0).bind fun bt207 => ((impl_SumOf.f k t204).bind fun t209 => ((impl_SumOf.f k bt205.2).bind fun t210 => ((impl_SumJoined.f k t209 t210 (bt205.2.size : Int)).bind fun t211 => (if t204.size + bt205.2.size ≤ 9223372036854775807 then ((spec_SumOf.f k (t204 ++ bt205.2)).bind fun t212 => (if t211 = t212 then ((impl_SumShift.f k bt207.1 bt207.2).bind fun t213 => ((spec_SumShift.f k bt207.1 bt207.2).bind fun t214 => (if t213 = t214 then ((impl_SumShift.f k 128 1).bind fun t215 => (some (t215 == 2197175160))) else (some false)))) else (some false))) else (none)))))))))) = some r := h
  clear h
  replace H := Option.bind_eq_some_iff.mp H
  obtain ⟨t203, A20, H⟩ := H
  replace H : (if t203 = true then (some true) else ((spec_DrawSumOf.f k l0).bind fun t204 => ((spec_DrawSumMore.f k l0).bind fun bt205 => ((spec_DrawSumShift.f k l0).bind fun bt207 => ((impl_SumOf.f k t204).bind fun t209 => ((impl_SumOf.f k bt205.2).bind fun t210 => ((impl_SumJoined.f k t209 t210 (bt205.2.size : Int)).bind fun t211 => (if t204.size + bt205.2.size ≤ 9223372036854775807 then ((spec_SumOf.f k (t204 ++ bt205.2)).bind fun t212 => (if t211 = t212 then ((impl_SumShift.f k bt207.1 bt207.2).bind fun t213 => ((spec_SumShift.f k bt207.1 bt207.2).bind fun t214 => (if t213 = t214 then ((impl_SumShift.f k 128 1).bind fun t215 => (some (t215 == 2197175160))) else (some false)))) else (some false))) else (none))))))))) = some r := H
  have A2 := Aside0.mk A20
  clear A20
  by_cases c3 : t203 = true
  · subst c3
    have H1 : (some true) = some r := by rw [if_pos rfl] at H; exact H
    clear H
    have H := H1
    clear H1
    obtain rfl := Option.some.inj H
    go_enter Try.func14, Try.ntmps14
    go_wp2_with (first | ((with_reducible refine gate_callee (f := 42) rfl ?_); refine goesL_ (some 9) rfl rfl Try.func42 (by kernel_rfl) rfl #[.slice A0 l0.length c0] rfl (by (try simp only [List.map_toArray, List.map_cons, List.map_nil]); first | done | rfl | (simp only [List.length_drop, List.length_take]; rfl)) ?_; (with_reducible refine (laws_big.calls _ _ l0 true _ ?side1 ?side2 A2.out).mono ?_); (case side1 => repeat (first | exact HR0.out | (with_reducible refine Kd.C_alloc ?_ _) | (with_reducible refine Kd.C_drewN ?_ _) | (with_reducible refine Kd.C_drew ?_))); (case side2 => exact HC0.out); rintro e w' ⟨rfl, ⟨nd, rfl⟩⟩; refine ⟨_, rfl, ?_⟩))
    all_goals go_ret
    all_goals exact ⟨by first | rfl | (simp [errW_none, errW_some] <;> rfl) | (simp [*, errW_none, errW_some] <;> rfl), by repeat (first | (with_reducible first | exact HB.out | apply below_alloc | apply pw_below_drewN | apply below_drew1) | exact HB.out)⟩
  · replace c3 := Bool.eq_false_iff.mpr c3
    subst c3
    have H1 : ((spec_DrawSumOf.f k l0).bind fun t204 => ((spec_DrawSumMore.f k l0).bind fun bt205 => ((spec_DrawSumShift.f k l0).bind fun bt207 => ((impl_SumOf.f k t204).bind fun t209 => ((impl_SumOf.f k bt205.2).bind fun t210 => ((impl_SumJoined.f k t209 t210 (bt205.2.size : Int)).bind fun t211 => (if t204.size + bt205.2.size ≤ 9223372036854775807 then ((spec_SumOf.f k (t204 ++ bt205.2)).bind fun t212 => (if t211 = t212 then ((impl_SumShift.f k bt207.1 bt207.2).bind fun t213 => ((spec_SumShift.f k bt207.1 bt207.2).bind fun t214 => (if t213 = t214 then ((impl_SumShift.f k 128 1).bind fun t215 => (some (t215 == 2197175160))) else (some false)))) else (some false))) else (none)))))))) = some r := by rw [if_neg (show ¬ (false = true) by decide)] at H; exact H
    clear H
    have H := H1
    clear H1
    replace H := Option.bind_eq_some_iff.mp H
    obtain ⟨t204, A40, H⟩ := H
    replace H : ((spec_DrawSumMore.f k l0).bind fun bt205 => ((spec_DrawSumShift.f k l0).bind fun bt207 => ((impl_SumOf.f k t204).bind fun t209 => ((impl_SumOf.f k bt205.2).bind fun t210 => ((impl_SumJoined.f k t209 t210 (bt205.2.size : Int)).bind fun t211 => (if t204.size + bt205.2.size ≤ 9223372036854775807 then ((spec_SumOf.f k (t204 ++ bt205.2)).bind fun t212 => (if t211 = t212 then ((impl_SumShift.f k bt207.1 bt207.2).bind fun t213 => ((spec_SumShift.f k bt207.1 bt207.2).bind fun t214 => (if t213 = t214 then ((impl_SumShift.f k 128 1).bind fun t215 => (some (t215 == 2197175160))) else (some false)))) else (some false))) else (none))))))) = some r := H
    have A4 := Aside0.mk A40
    clear A40
    replace H := Option.bind_eq_some_iff.mp H
    obtain ⟨⟨t205, t206⟩, A50, H⟩ := H
    replace H : ((spec_DrawSumShift.f k l0).bind fun bt207 => ((impl_SumOf.f k t204).bind fun t209 => ((impl_SumOf.f k t206).bind fun t210 => ((impl_SumJoined.f k t209 t210 (t206.size : Int)).bind fun t211 => (if t204.size + t206.size ≤ 9223372036854775807 then ((spec_SumOf.f k (t204 ++ t206)).bind fun t212 => (if t211 = t212 then ((impl_SumShift.f k bt207.1 bt207.2).bind fun t213 => ((spec_SumShift.f k bt207.1 bt207.2).bind fun t214 => (if t213 = t214 then ((impl_SumShift.f k 128 1).bind fun t215 => (some (t215 == 2197175160))) else (some false)))) else (some false))) else (none)))))) = some r := H
    have A5 := Aside0.mk A50
    clear A50
    replace H := Option.bind_eq_some_iff.mp H
    obtain ⟨⟨t207, t208⟩, A60, H⟩ := H
    replace H : ((impl_SumOf.f k t204).bind fun t209 => ((impl_SumOf.f k t206).bind fun t210 => ((impl_SumJoined.f k t209 t210 (t206.size : Int)).bind fun t211 => (if t204.size + t206.size ≤ 9223372036854775807 then ((spec_SumOf.f k (t204 ++ t206)).bind fun t212 => (if t211 = t212 then ((impl_SumShift.f k t207 t208).bind fun t213 => ((spec_SumShift.f k t207 t208).bind fun t214 => (if t213 = t214 then ((impl_SumShift.f k 128 1).bind fun t215 => (some (t215 == 2197175160))) else (some false)))) else (some false))) else (none))))) = some r := H
    have A6 := Aside0.mk A60
    clear A60
    replace H := Option.bind_eq_some_iff.mp H
    obtain ⟨t209, A70, H⟩ := H
    replace H : ((impl_SumOf.f k t206).bind fun t210 => ((impl_SumJoined.f k t209 t210 (t206.size : Int)).bind fun t211 => (if t204.size + t206.size ≤ 9223372036854775807 then ((spec_SumOf.f k (t204 ++ t206)).bind fun t212 => (if t211 = t212 then ((impl_SumShift.f k t207 t208).bind fun t213 => ((spec_SumShift.f k t207 t208).bind fun t214 => (if t213 = t214 then ((impl_SumShift.f k 128 1).bind fun t215 => (some (t215 == 2197175160))) else (some false)))) else (some false))) else (none)))) = some r := H
    have A7 := Aside0.mk A70
    clear A70
    replace H := Option.bind_eq_some_iff.mp H
    obtain ⟨t210, A80, H⟩ := H
    replace H : ((impl_SumJoined.f k t209 t210 (t206.size : Int)).bind fun t211 => (if t204.size + t206.size ≤ 9223372036854775807 then ((spec_SumOf.f k (t204 ++ t206)).bind fun t212 => (if t211 = t212 then ((impl_SumShift.f k t207 t208).bind fun t213 => ((spec_SumShift.f k t207 t208).bind fun t214 => (if t213 = t214 then ((impl_SumShift.f k 128 1).bind fun t215 => (some (t215 == 2197175160))) else (some false)))) else (some false))) else (none))) = some r := H
    have A8 := Aside0.mk A80
    clear A80
    replace H := Option.bind_eq_some_iff.mp H
    obtain ⟨t211, A90, H⟩ := H
    replace H : (if t204.size + t206.size ≤ 9223372036854775807 then ((spec_SumOf.f k (t204 ++ t206)).bind fun t212 => (if t211 = t212 then ((impl_SumShift.f k t207 t208).bind fun t213 => ((spec_SumShift.f k t207 t208).bind fun t214 => (if t213 = t214 then ((impl_SumShift.f k 128 1).bind fun t215 => (some (t215 == 2197175160))) else (some false)))) else (some false))) else (none)) = some r := H
    have A9 := Aside0.mk A90
    clear A90
    by_cases c10 : t204.size + t206.size ≤ 9223372036854775807
    · rw [if_pos c10] at H
      have c10b0 := eq_true c10
      have c10b1 : decide (t204.size + t206.size ≤ 9223372036854775807) = true := decide_eq_true c10
      try have c10b2 : (9223372036854775807 < t204.size + t206.size) = False := eq_false (Nat.not_lt.2 c10)
      replace H := Option.bind_eq_some_iff.mp H
      obtain ⟨t212, A110, H⟩ := H
      replace H : (if t211 = t212 then ((impl_SumShift.f k t207 t208).bind fun t213 => ((spec_SumShift.f k t207 t208).bind fun t214 => (if t213 = t214 then ((impl_SumShift.f k 128 1).bind fun t215 => (some (t215 == 2197175160))) else (some false)))) else (some false)) = some r := H
      have A11 := Aside0.mk A110
      clear A110
      by_cases c12 : t211 = t212
      · rw [if_pos c12] at H
        have c12b0 : (t211 == t212) = true := beq_iff_eq.mpr c12
        have c12b1 : (t211 != t212) = false := bne_eq_false_iff_eq.mpr c12
        clear c12
        replace H := Option.bind_eq_some_iff.mp H
        obtain ⟨t213, A130, H⟩ := H
        replace H : ((spec_SumShift.f k t207 t208).bind fun t214 => (if t213 = t214 then ((impl_SumShift.f k 128 1).bind fun t215 => (some (t215 == 2197175160))) else (some false))) = some r := H
        have A13 := Aside0.mk A130
        clear A130
        replace H := Option.bind_eq_some_iff.mp H
        obtain ⟨t214, A140, H⟩ := H
        replace H : (if t213 = t214 then ((impl_SumShift.f k 128 1).bind fun t215 => (some (t215 == 2197175160))) else (some false)) = some r := H
        have A14 := Aside0.mk A140
        clear A140
        by_cases c15 : t213 = t214
        · rw [if_pos c15] at H
          have c15b0 : (t213 == t214) = true := beq_iff_eq.mpr c15
          have c15b1 : (t213 != t214) = false := bne_eq_false_iff_eq.mpr c15
          clear c15
          replace H := Option.bind_eq_some_iff.mp H
          obtain ⟨t215, A160, H⟩ := H
          replace H : (some (t215 == 2197175160)) = some r := H
          have A16 := Aside0.mk A160
          clear A160
          obtain rfl := Option.some.inj H
          go_enter Try.func14, Try.ntmps14
          go_wp2_with (first | ((with_reducible refine gate_callee (f := 42) rfl ?_); refine goesL_ (some 9) rfl rfl Try.func42 (by kernel_rfl) rfl #[.slice A0 l0.length c0] rfl (by (try simp only [List.map_toArray, List.map_cons, List.map_nil]); first | done | rfl | (simp only [List.length_drop, List.length_take]; rfl)) ?_; (with_reducible refine (laws_big.calls _ _ l0 false _ ?side1 ?side2 A2.out).mono ?_); (case side1 => repeat (first | exact HR0.out | (with_reducible refine Kd.C_alloc ?_ _) | (with_reducible refine Kd.C_drewN ?_ _) | (with_reducible refine Kd.C_drew ?_))); (case side2 => exact HC0.out); rintro e w' ⟨rfl, ⟨nd, rfl⟩⟩; refine ⟨_, rfl, ?_⟩) | ((with_reducible refine gate_callee (f := 43) rfl ?_); refine goesL_ (some 11) rfl rfl Try.func43 (by kernel_rfl) rfl #[.slice A0 l0.length c0] rfl (by (try simp only [List.map_toArray, List.map_cons, List.map_nil]); first | done | rfl | (simp only [List.length_drop, List.length_take]; rfl)) ?_; (with_reducible refine (spec_DrawSumOf.calls k _ _ l0 t204 _ ?side1 ?side2 A4.out).mono ?_); (case side1 => repeat (first | exact HR0.out | (with_reducible refine Kd.C_alloc ?_ _) | (with_reducible refine Kd.C_drewN ?_ _) | (with_reducible refine Kd.C_drew ?_))); (case side2 => exact HC0.out); rintro e w17 ⟨rfl, hb⟩; refine ⟨_, rfl, ?_⟩; have n0_ := Aside0.mk (below_step (by repeat (first | (with_reducible first | exact HB.out | apply below_alloc | apply pw_below_drewN | apply below_drew1) | exact HB.out)) hb); clear HB; have HB := n0_; clear n0_; (try clear hb); (try clear hb2); (try clear hk); (try clear hi)) | ((with_reducible refine gate_callee (f := 44) rfl ?_); refine goesL_ (some 14) rfl rfl Try.func44 (by kernel_rfl) rfl #[.slice A0 l0.length c0] rfl (by (try simp only [List.map_toArray, List.map_cons, List.map_nil]); first | done | rfl | (simp only [List.length_drop, List.length_take]; rfl)) ?_; (with_reducible refine (spec_DrawSumMore.calls k _ _ l0 t205 t206 _ ?side1 ?side2 A5.out).mono ?_); (case side1 => repeat (first | exact (Kd.C_below HR0.out HB.out) | (with_reducible refine Kd.C_alloc ?_ _) | (with_reducible refine Kd.C_drewN ?_ _) | (with_reducible refine Kd.C_drew ?_))); (case side2 => exact HC0.out); rintro e w18 ⟨rfl, hb⟩; refine ⟨_, rfl, ?_⟩; have n0_ := Aside0.mk (below_step (by repeat (first | (with_reducible first | exact HB.out | apply below_alloc | apply pw_below_drewN | apply below_drew1) | exact HB.out)) hb); clear HB; have HB := n0_; clear n0_; (try clear hb); (try clear hb2); (try clear hk); (try clear hi)) | ((with_reducible refine gate_callee (f := 48) rfl ?_); refine goesL_ (some 19) rfl rfl Try.func48 (by kernel_rfl) rfl #[.slice A0 l0.length c0] rfl (by (try simp only [List.map_toArray, List.map_cons, List.map_nil]); first | done | rfl | (simp only [List.length_drop, List.length_take]; rfl)) ?_; (with_reducible refine (spec_DrawSumShift.calls k _ _ l0 t207 t208 _ ?side1 ?side2 A6.out).mono ?_); (case side1 => repeat (first | exact (Kd.C_below HR0.out HB.out) | (with_reducible refine Kd.C_alloc ?_ _) | (with_reducible refine Kd.C_drewN ?_ _) | (with_reducible refine Kd.C_drew ?_))); (case side2 => exact HC0.out); rintro e w19 ⟨rfl, hb⟩; refine ⟨_, rfl, ?_⟩; have n0_ := Aside0.mk (below_step (by repeat (first | (with_reducible first | exact HB.out | apply below_alloc | apply pw_below_drewN | apply below_drew1) | exact HB.out)) hb); clear HB; have HB := n0_; clear n0_; (try clear hb); (try clear hb2); (try clear hk); (try clear hi)) | ((with_reducible refine gate_callee (f := 16) rfl ?_); refine goesL_ (some 23) rfl rfl Try.func16 (by kernel_rfl) rfl #[.string t204] rfl (by (try simp only [List.map_toArray, List.map_cons, List.map_nil]); first | done | rfl | (simp only [List.length_drop, List.length_take]; rfl)) ?_; (with_reducible refine (impl_SumOf.calls k t204 t209 _ A7.out).mono ?_); rintro e w' ⟨rfl, ⟨nd, rfl⟩⟩; refine ⟨_, rfl, ?_⟩) | ((with_reducible refine gate_callee (f := 16) rfl ?_); refine goesL_ (some 25) rfl rfl Try.func16 (by kernel_rfl) rfl #[.string t206] rfl (by (try simp only [List.map_toArray, List.map_cons, List.map_nil]); first | done | rfl | (simp only [List.length_drop, List.length_take]; rfl)) ?_; (with_reducible refine (impl_SumOf.calls k t206 t210 _ A8.out).mono ?_); rintro e w' ⟨rfl, ⟨nd, rfl⟩⟩; refine ⟨_, rfl, ?_⟩) | ((with_reducible refine gate_callee (f := 24) rfl ?_); refine goesL_ (some 28) rfl rfl Try.func24 (by kernel_rfl) rfl #[.int .i64 t209, .int .i64 t210, .int .i64 (t206.size : Int)] rfl (by (try simp only [List.map_toArray, List.map_cons, List.map_nil]); first | done | rfl | (simp only [List.length_drop, List.length_take]; rfl)) ?_; (with_reducible refine (impl_SumJoined.calls k t209 t210 (t206.size : Int) t211 _ A9.out).mono ?_); rintro e w20 ⟨rfl, hb⟩; refine ⟨_, rfl, ?_⟩; have n0_ := Aside0.mk (below_step (by repeat (first | (with_reducible first | exact HB.out | apply below_alloc | apply pw_below_drewN | apply below_drew1) | exact HB.out)) hb); clear HB; have HB := n0_; clear n0_; (try clear hb); (try clear hb2); (try clear hk); (try clear hi)) | ((with_reducible refine gate_callee (f := 15) rfl ?_); refine goesL_ (some 32) rfl rfl Try.func15 (by kernel_rfl) rfl #[.string (t204 ++ t206)] rfl (by (try simp only [List.map_toArray, List.map_cons, List.map_nil]); first | done | rfl | (simp only [List.length_drop, List.length_take]; rfl)) ?_; (with_reducible refine (spec_SumOf.calls k (t204 ++ t206) t212 _ A11.out).mono ?_); rintro e w' ⟨rfl, ⟨nd, rfl⟩⟩; refine ⟨_, rfl, ?_⟩) | (go_at_call 22; (with_reducible refine (impl_SumShift.calls k t207 t208 t213 _ A13.out).mono ?_); rintro e w21 ⟨rfl, hb⟩; have n0_ := Aside0.mk (below_step (by repeat (first | (with_reducible first | exact HB.out | apply below_alloc | apply pw_below_drewN | apply below_drew1) | exact HB.out)) hb); clear HB; have HB := n0_; clear n0_; (try clear hb); (try clear hb2); (try clear hk); (try clear hi)) | (go_at_call 21; (with_reducible refine (spec_SumShift.calls k t207 t208 t214 _ A14.out).mono ?_); rintro e w' ⟨rfl, ⟨nd, rfl⟩⟩) | (go_at_call 22; (with_reducible refine (impl_SumShift.calls k 128 1 t215 _ A16.out).mono ?_); rintro e w22 ⟨rfl, hb⟩; have n0_ := Aside0.mk (below_step (by repeat (first | (with_reducible first | exact HB.out | apply below_alloc | apply pw_below_drewN | apply below_drew1) | exact HB.out)) hb); clear HB; have HB := n0_; clear n0_; (try clear hb); (try clear hb2); (try clear hk); (try clear hi)))
          all_goals go_ret
          all_goals exact ⟨by first | rfl | (simp [errW_none, errW_some] <;> rfl) | (simp [*, errW_none, errW_some] <;> rfl), by repeat (first | (with_reducible first | exact HB.out | apply below_alloc | apply pw_below_drewN | apply below_drew1) | exact HB.out)⟩
        · rw [if_neg c15] at H
          have c15b0 : (t213 == t214) = false := beq_eq_false_iff_ne.mpr c15
          have c15b1 : (t213 != t214) = true := bne_iff_ne.mpr c15
          exact absurd ((Option.some.inj H).trans hr_.out) (by decide)
      · rw [if_neg c12] at H
        have c12b0 : (t211 == t212) = false := beq_eq_false_iff_ne.mpr c12
        have c12b1 : (t211 != t212) = true := bne_iff_ne.mpr c12
        exact absurd ((Option.some.inj H).trans hr_.out) (by decide)
    · rw [if_neg c10] at H
      exact absurd H (by simp)

/-- THE ONE PURE STATEMENT of laws_FnJoined: yours. -/
def laws_FnJoined.Pure : Prop := ∀ (l0 : List Int), l0.length ≤ maxLen → l0.length * 1 ≤ 140737488351232 → (∀ x ∈ l0, (Lit.int .u8 x).wf = true) → ∃ k, laws_FnJoined.f k l0 = some true
theorem laws_FnJoined.walk (P : laws_FnJoined.Pure) (a0 : Option Addr) (len0 cap0 : Nat) (z0 : List Int) (w : World) (w0 : (a0 = none ∧ len0 = 0 ∧ cap0 = 0 ∧ z0 = []) ∨ ∃ x, a0 = some x ∧ len0 ≤ cap0 ∧ cap0 ≤ maxLen ∧ z0.length = cap0 ∧ (∀ i, i < z0.length → w.cell? (x.add i) = some (.int .u8 (z0.getD i 0))) ∧ ∀ n ∈ z0, (Lit.int .u8 n).wf = true) (y0 : len0 * 1 ≤ 140737488351232) :
    Calls Try.prog 14 #[.slice a0 len0 cap0] w fun e w' => e = .returned (.bool true) ∧ Below w.heap.size w w' := by
  obtain ⟨l0, rfl, hr0, hm0, hw0, hc0⟩ := ReadsInt.ofRowC w0
  obtain ⟨k, h⟩ := P l0 hm0 y0 hw0
  refine (laws_FnJoined.calls k _ _ l0 true w (Kd.C_of_reads (d := (0 : Int)) (h1 := fun _ => rfl) hr0) hc0 h ⟨rfl⟩).mono ?_
  rintro e w' ⟨rfl, hd⟩
  exact ⟨rfl, hd⟩

end Go.Proofs.Ytcblnckmmlamlaa.MFnJoined
