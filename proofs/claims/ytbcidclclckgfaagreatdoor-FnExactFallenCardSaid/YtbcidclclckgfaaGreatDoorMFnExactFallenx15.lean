/- Each theorem here says that a call of one Go function answers what the Lean function beside it answers; its conditions stand in it. Written by a program of this session. -/
import Derived.Test.YtbcidclclckgfaaGreatDoorMFnExactFallenx0
import Derived.Test.YtbcidclclckgfaaGreatDoorMFnExactFallenx13
import Derived.Test.YtbcidclclckgfaaGreatDoorMFnExactFallenx14
namespace Go.Proofs.YtbcidclclckgfaaGreatDoor.MFnExactFallen
open Go.RowKit Go.Proofs.YtbcidclclckgfaaGreatDoorW.PrintWords Go.Proofs.YtbcidclclckgfaaGreatDoorW.PrintLast Go.Proofs.YtbcidclclckgfaaGreatDoorW.PrintMore
attribute [local go_sem] max2_int min2_int max_two min_two max_three min_three max_four min_four   -- for this text's walks alone
set_option linter.unusedVariables false
set_option linter.unusedSimpArgs false

/-! ### impl_ReadDecimal: function 130 -/
theorem var_below {P : Program} {w W : World} {name : String} {cs : Array Value} (h : w.var? P name = some cs) (hb : Below w.heap.size w W) : W.var? P name = some cs := by
  unfold World.var? at *
  cases hg : P.globalNamed name with
  | none => simp [hg] at h
  | some g =>
    simp only [hg, Option.bind_some] at h ⊢
    have hlt : g < w.heap.size := by
      rcases Nat.lt_or_ge g w.heap.size with h' | h'
      · exact h'
      · rw [Array.getElem?_eq_none h'] at h; simp at h
    rw [hb.block g hlt]
    exact h
/-- The library's two errors are there. -/
structure TabsE (w : World) : Prop where
  syn : ∃ tp p, w.var? Tryz.prog "strconv.ErrSyntax" = some #[.iface tp p]
  rng : ∃ tp p, w.var? Tryz.prog "strconv.ErrRange" = some #[.iface tp p]
theorem TabsE.below {w W : World} (h : TabsE w) (hb : Below w.heap.size w W) : TabsE W := by
  obtain ⟨⟨a, b, h1⟩, c, d, h2⟩ := h
  exact ⟨⟨a, b, var_below h1 hb⟩, c, d, var_below h2 hb⟩
/-- strconv.Atoi at every text: a number and no error, or an error. -/
theorem atoi_any (s : ByteArray) (hlim : s.size ≤ 281474976710656) (w : World) (hTE : TabsE w) :
    Calls Tryz.prog 155 #[.string s] w fun e w' => (∃ v er, e = .returned (.tuple #[.int .i64 v, er]) ∧ ((er = .nilIface ∧ Lib.atoiAll s.data.toList = .ok v) ∨ (∃ t p, er = .iface t p ∧ ∀ v', Lib.atoiAll s.data.toList ≠ .ok v'))) ∧ Below w.heap.size w w' := by
  cases hv : Lib.atoiAll s.data.toList
  · rename_i v
    have h := Any.strconv_Atoi_ok Tryz.laysC172 s (by omega) v hv w
    refine (h : Calls Tryz.prog 155 _ _ _).mono ?_
    rintro e w' ⟨rfl, hw⟩
    refine ⟨⟨v, _, rfl, .inl ⟨rfl, rfl⟩⟩, ?_⟩
    rcases hw with rfl | ⟨t, rfl⟩
    · exact Below.refl _ _
    · exact Lib.bytesWorld_below _ _ _
  · obtain ⟨tp, p, hs⟩ := hTE.syn
    have h := Any.strconv_Atoi_syntax_var Tryz.laysC172 s hlim hv tp p w hs
    refine (h : Calls Tryz.prog 155 _ _ _).mono ?_
    rintro e w' ⟨N, rfl, _, _, hb⟩
    exact ⟨⟨_, _, rfl, .inr ⟨_, _, rfl, fun v' h => by cases h⟩⟩, hb⟩
  · obtain ⟨tp, p, hs⟩ := hTE.rng
    have h := Any.strconv_Atoi_range_var Tryz.laysC172 s hlim hv tp p w hs
    refine (h : Calls Tryz.prog 155 _ _ _).mono ?_
    rintro e w' ⟨N, rfl, _, _, hb⟩
    exact ⟨⟨_, _, rfl, .inr ⟨_, _, rfl, fun v' h => by cases h⟩⟩, hb⟩
def impl_ReadDecimal.f (a0 : ByteArray) : Option (Int × Bool) := if a0.size ≤ 281474976710656 then (match Lib.atoiAll a0.data.toList with
  | .ok v => (impl_isNumber.f v).bind fun t => if t = true then (impl_Decimal.f v).bind fun d => if d.toList = a0.toList then some (v, true) else some (0, false) else some (0, false)
  | _ => some (0, false)) else none
theorem impl_ReadDecimal.calls (a0 : ByteArray) (r1 : Int) (r2 : Bool) (w : World) (hTE : TabsE w) (hTP : TabsP w) (h : impl_ReadDecimal.f a0 = some (r1, r2)) :
    Calls Tryz.prog 130 #[.string a0] w fun e w' => e = .returned (.tuple #[.int .i64 r1, .bool r2]) ∧ Below w.heap.size w w' := by
  unfold impl_ReadDecimal.f at h
  by_cases hs : a0.size ≤ 281474976710656
  · rw [if_pos hs] at h
    have hA := atoi_any a0 hs w hTE
    cases hv : Lib.atoiAll a0.data.toList with
    | ok v =>
      rw [hv] at h hA
      replace h : ((impl_isNumber.f v).bind fun t => if t = true then (impl_Decimal.f v).bind fun d => if d.toList = a0.toList then some (v, true) else some (0, false) else some (0, false)) = some (r1, r2) := h
      replace hA : Calls Tryz.prog 155 #[.string a0] w fun e w' => e = .returned (.tuple #[.int .i64 v, .nilIface]) ∧ Below w.heap.size w w' := hA.mono (by
        rintro e w' ⟨⟨v', er, rfl, (⟨rfl, e⟩ | ⟨t, p, _, e⟩)⟩, hb⟩
        · injection e with e; subst e; exact ⟨rfl, hb⟩
        · exact absurd rfl (e v))
      obtain ⟨t, ht, h⟩ := Option.bind_eq_some_iff.mp h
      clear hv hTE
      have HA := Aside0.mk hA
      have HN := Aside0.mk ht
      have HT := Aside0.mk hTP
      clear hA ht hTP
      cases t with
      | false =>
        rw [if_neg Bool.false_ne_true] at h
        have e1 := (Prod.mk.inj (Option.some.inj h)).1
        have e2 := (Prod.mk.inj (Option.some.inj h)).2
        subst e1 e2
        clear h
        go_enter Tryz.func130, Tryz.ntmps130
        go_wp2_with (first | (go_at_call 155; refine HA.out.mono ?_; rintro e w1 ⟨rfl, hb1⟩; have HB1 := Aside0.mk hb1; clear hb1) | (go_at_call 67; refine (impl_isNumber.calls v false _ HN.out).mono ?_; rintro e w2 ⟨rfl, ⟨n2, rfl⟩⟩))
        all_goals go_ret2
        exact ⟨rfl, by exact pw_below_drewN HB1.out _⟩
      | true =>
        rw [if_pos rfl] at h
        obtain ⟨d, hd, h⟩ := Option.bind_eq_some_iff.mp h
        have HD := Aside0.mk hd
        clear hd
        by_cases hc : d.toList = a0.toList
        · rw [if_pos hc] at h
          have e1 := (Prod.mk.inj (Option.some.inj h)).1
          have e2 := (Prod.mk.inj (Option.some.inj h)).2
          subst e1 e2
          clear h
          have c1 : (d.toList == a0.toList) = true := beq_iff_eq.mpr hc
          clear hc
          go_enter Tryz.func130, Tryz.ntmps130
          go_wp2_with (first | (go_at_call 155; refine HA.out.mono ?_; rintro e w1 ⟨rfl, hb1⟩; have HB1 := Aside0.mk hb1; clear hb1) | (go_at_call 67; refine (impl_isNumber.calls v true _ HN.out).mono ?_; rintro e w2 ⟨rfl, ⟨n2, rfl⟩⟩) | (go_at_call 105; refine (impl_Decimal.calls v d _ (HT.out.below (by exact pw_below_drewN HB1.out _)) HD.out).mono ?_; rintro e w3 ⟨rfl, hb3⟩; have HB3 := Aside0.mk hb3; clear hb3))
          all_goals go_ret2
          exact ⟨rfl, by exact (pw_below_drewN HB1.out _).trans (HB3.out.mono (pw_below_drewN HB1.out _).size)⟩
        · rw [if_neg hc] at h
          have e1 := (Prod.mk.inj (Option.some.inj h)).1
          have e2 := (Prod.mk.inj (Option.some.inj h)).2
          subst e1 e2
          clear h
          have c1 : (d.toList == a0.toList) = false := beq_eq_false_iff_ne.mpr hc
          clear hc
          go_enter Tryz.func130, Tryz.ntmps130
          go_wp2_with (first | (go_at_call 155; refine HA.out.mono ?_; rintro e w1 ⟨rfl, hb1⟩; have HB1 := Aside0.mk hb1; clear hb1) | (go_at_call 67; refine (impl_isNumber.calls v true _ HN.out).mono ?_; rintro e w2 ⟨rfl, ⟨n2, rfl⟩⟩) | (go_at_call 105; refine (impl_Decimal.calls v d _ (HT.out.below (by exact pw_below_drewN HB1.out _)) HD.out).mono ?_; rintro e w3 ⟨rfl, hb3⟩; have HB3 := Aside0.mk hb3; clear hb3))
          all_goals go_ret2
          exact ⟨rfl, by exact (pw_below_drewN HB1.out _).trans (HB3.out.mono (pw_below_drewN HB1.out _).size)⟩
    | _ =>
      rw [hv] at h hA
      replace h : some ((0 : Int), false) = some (r1, r2) := h
      have e1 := (Prod.mk.inj (Option.some.inj h)).1
      have e2 := (Prod.mk.inj (Option.some.inj h)).2
      subst e1 e2
      replace hA : Calls Tryz.prog 155 #[.string a0] w fun e w' => (∃ v t p, e = .returned (.tuple #[.int .i64 v, .iface t p])) ∧ Below w.heap.size w w' := hA.mono (by
        rintro e w' ⟨⟨v', er, rfl, (⟨_, e⟩ | ⟨t, p, rfl, _⟩)⟩, hb⟩
        · cases e
        · exact ⟨⟨_, _, _, rfl⟩, hb⟩)
      clear hv hTE hTP h
      have HA := Aside0.mk hA
      clear hA
      go_enter Tryz.func130, Tryz.ntmps130
      go_wp2_with (go_at_call 155; refine HA.out.mono ?_; rintro e w1 ⟨⟨v, t, p, rfl⟩, hb1⟩; have HB1 := Aside0.mk hb1; clear hb1)
      all_goals go_ret2
      exact ⟨rfl, HB1.out⟩
  · rw [if_neg hs] at h; cases h

end Go.Proofs.YtbcidclclckgfaaGreatDoor.MFnExactFallen
