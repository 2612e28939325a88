/- Each theorem here says that a call of one Go function answers what the Lean function beside it answers; its conditions stand in it. Written by a program of this session. -/
import Derived.Test.YtfnogfbmieoljaaDoorMFnExactReadNamex0
import Derived.Test.YtfnogfbmieoljaaDoorMFnExactReadNamex1
namespace Go.Proofs.YtfnogfbmieoljaaDoor.MFnExactReadName
open Go.RowKit Go.Proofs.YtfnogfbmieoljaaDoorW.PrintWords Go.Proofs.YtfnogfbmieoljaaDoorW.PrintLast Go.Proofs.YtfnogfbmieoljaaDoorW.PrintMore
attribute [local go_sem] max2_int min2_int max_two min_two max_three min_three max_four min_four   -- for this text's walks alone
set_option linter.unusedVariables false
set_option linter.unusedSimpArgs false

/-! ### impl_ReadName: function 27 -/
theorem var_below {P : Program} {w W : World} {name : String} {cs : Array Value} (h : w.var? P name = some cs) (hb : Below w.heap.size w W) : W.var? P name = some cs := by
  unfold World.var? at *
  cases hg : P.globalNamed name with
  | none => simp [hg] at h
  | some g =>
    simp only [hg, Option.bind_some] at h ⊢
    have hlt : g < w.heap.size := by
      rcases Nat.lt_or_ge g w.heap.size with h' | h'
      · exact h'
      · rw [Array.getElem?_eq_none h'] at h; simp at h
    rw [hb.block g hlt]
    exact h
/-- The library's two errors are there. -/
structure TabsE (w : World) : Prop where
  syn : ∃ tp p, w.var? Tryd.prog "strconv.ErrSyntax" = some #[.iface tp p]
  rng : ∃ tp p, w.var? Tryd.prog "strconv.ErrRange" = some #[.iface tp p]
theorem TabsE.below {w W : World} (h : TabsE w) (hb : Below w.heap.size w W) : TabsE W := by
  obtain ⟨⟨a, b, h1⟩, c, d, h2⟩ := h
  exact ⟨⟨a, b, var_below h1 hb⟩, c, d, var_below h2 hb⟩
/-- strconv.Atoi at every text: a number and no error, or an error. -/
theorem atoi_any (s : ByteArray) (hlim : s.size ≤ 281474976710656) (w : World) (hTE : TabsE w) :
    Calls Tryd.prog 38 #[.string s] w fun e w' => (∃ v er, e = .returned (.tuple #[.int .i64 v, er]) ∧ ((er = .nilIface ∧ Lib.atoiAll s.data.toList = .ok v) ∨ (∃ t p, er = .iface t p ∧ ∀ v', Lib.atoiAll s.data.toList ≠ .ok v'))) ∧ Below w.heap.size w w' := by
  cases hv : Lib.atoiAll s.data.toList
  · rename_i v
    have h := Any.strconv_Atoi_ok Tryd.laysC172 s (by omega) v hv w
    refine (h : Calls Tryd.prog 38 _ _ _).mono ?_
    rintro e w' ⟨rfl, hw⟩
    refine ⟨⟨v, _, rfl, .inl ⟨rfl, rfl⟩⟩, ?_⟩
    rcases hw with rfl | ⟨t, rfl⟩
    · exact Below.refl _ _
    · exact Lib.bytesWorld_below _ _ _
  · obtain ⟨tp, p, hs⟩ := hTE.syn
    have h := Any.strconv_Atoi_syntax_var Tryd.laysC172 s hlim hv tp p w hs
    refine (h : Calls Tryd.prog 38 _ _ _).mono ?_
    rintro e w' ⟨N, rfl, _, _, hb⟩
    exact ⟨⟨_, _, rfl, .inr ⟨_, _, rfl, fun v' h => by cases h⟩⟩, hb⟩
  · obtain ⟨tp, p, hs⟩ := hTE.rng
    have h := Any.strconv_Atoi_range_var Tryd.laysC172 s hlim hv tp p w hs
    refine (h : Calls Tryd.prog 38 _ _ _).mono ?_
    rintro e w' ⟨N, rfl, _, _, hb⟩
    exact ⟨⟨_, _, rfl, .inr ⟨_, _, rfl, fun v' h => by cases h⟩⟩, hb⟩
def pHex : Nat → List UInt8 → Option Nat
  | acc, [] => some acc
  | acc, c :: l => if 48 ≤ c.toNat ∧ c.toNat ≤ 57 then pHex (acc * 16 + (c.toNat - 48)) l else if 97 ≤ Go.bits .or .u8 (c.toNat : Int) 32 ∧ Go.bits .or .u8 (c.toNat : Int) 32 ≤ 102 then pHex (acc * 16 + ((Go.bits .or .u8 (c.toNat : Int) 32).toNat - 87)) l else none
theorem lower_calls (c : Int) (w : World) : Calls Tryd.prog 76 #[.int .u8 c] w fun e w' => e = .returned (.int .u8 (Go.bits .or .u8 c 32)) ∧ w' = w := by
  go_enter Tryd.func76, Tryd.ntmps76
  go_wp2
  all_goals (go_ret; exact ⟨rfl, rfl⟩)
def puTuple : Option Nat → Value
  | some n => .tuple #[.int .u64 (n : Int), .nilIface]
  | none => .tuple #[.int .u64 0, .iface 85 (.int .i64 2)]
set_option maxHeartbeats 32000000 in
set_option maxRecDepth 100000 in
theorem pu16 (t : ByteArray) (h8 : t.size = 8) (w : World) :
    Calls Tryd.prog 59 #[.string t, .int .i64 16, .int .i64 32] w fun e w' => e = .returned (puTuple (pHex 0 t.data.toList)) ∧ w' = Lib.bytesWorld w 5 t := by
  have e19 : ∀ args w, (callFunc 76 args).run Tryd.prog w = .ok (.enter 76 args) w := enters_of Tryd.func76 (by kernel_rfl) rfl
  have hne : t.size ≠ 0 := by omega
  have hemp : t.toList.isEmpty = false := by
    rw [← decide_eq_emptyBytes]
    exact decide_eq_false (fun h => hne (by rw [h]; rfl))
  have hcv := Lib.run_convert_string_bytes (P := Tryd.prog) w 9 29 5 t (u := .string) (by kernel_rfl) (by kernel_rfl) (by kernel_rfl)
  have hB : ∀ j, j < t.size → (Lib.bytesWorld w 5 t).cell? ⟨w.heap.size, j, none⟩ = some (.int .u8 (t.data.toList.getD j 0).toNat) := fun j hj => Lib.bytesWorld_cell w 5 t j hj
  obtain ⟨W1, hW1⟩ : ∃ W1, W1 = Lib.bytesWorld w 5 t := ⟨_, rfl⟩
  rw [← hW1] at hcv hB ⊢
  clear hW1
  obtain ⟨bs, hL⟩ : ∃ bs, bs = t.data.toList := ⟨_, rfl⟩
  have hLn : bs.length = t.size := by rw [hL, Lib.size_eq]
  rw [← hL] at hB ⊢
  clear hL
  rw [h8] at hB hcv hLn
  have hmv : IntKind.u64.wrap (IntKind.u64.wrap 4294967296 - 1) = 4294967295 := by
    rw [IntKind.wrap_u64, IntKind.wrap_u64]
    decide
  go_enter Tryd.func59, Tryd.ntmps59
  go_wp2
  go_loop [12, 13, 101] (fun vu vn vi => ∃ (k acc : Nat) (a : Int), vu = .bool false ∧ vn = .int .u64 a ∧ vi = .int .i64 k ∧ k ≤ 8 ∧ Hid (a = (acc : Int) ∧ acc < 16 ^ k ∧ pHex 0 bs = pHex acc (bs.drop k)))
    (fun _ _ vi => 8 - (intOf vi).toNat)
  case atStart => exact ⟨0, 0, 0, rfl, rfl, rfl, by omega, rfl, by decide, rfl⟩
  case round =>
    obtain ⟨k, acc, a, rfl, rfl, rfl, hk, hh⟩ := hrel
    obtain ⟨ha, hacc, hdec⟩ := hh.out
    clear hh
    have a0 : 0 ≤ a := by omega
    by_cases hkn : k < 8
    · have hp : 16 ^ k ≤ 16 ^ 7 := Nat.pow_le_pow_right (by decide) (by omega)
      have hp7 : (16 : Nat) ^ 7 = 268435456 := by decide
      have a1 : a < 268435456 := by omega
      have hs : 16 ^ (k + 1) = 16 ^ k * 16 := Nat.pow_succ ..
      have hc := hB k hkn
      have hdrop : bs.drop k = bs[k]'(by omega) :: bs.drop (k + 1) := List.drop_eq_getElem_cons (by omega)
      have hget : bs.getD k 0 = bs[k]'(by omega) := by simp [List.getD, List.getElem?_eq_getElem (show k < bs.length by omega)]
      rw [hdrop] at hdec
      rw [hget] at hc
      generalize bs[k]'(by omega) = c at hc hdec
      have hc256 : c.toNat < 256 := c.toNat_lt
      clear hB hdrop hget hp hp7
      by_cases hdig : 48 ≤ c.toNat ∧ c.toNat ≤ 57
      · have hF : pHex acc (c :: bs.drop (k + 1)) = pHex (acc * 16 + (c.toNat - 48)) (bs.drop (k + 1)) := by rw [pHex, if_pos hdig]
        obtain ⟨hd0, hd1⟩ := hdig
        have HN : Hid (a * 16 + ((c.toNat : Int) - 48) = ((acc * 16 + (c.toNat - 48) : Nat) : Int) ∧ acc * 16 + (c.toNat - 48) < 16 ^ (k + 1) ∧ pHex 0 bs = pHex (acc * 16 + (c.toNat - 48)) (bs.drop (k + 1))) := Lib.hid ⟨by omega, by omega, hdec.trans hF⟩
        clear hacc hF hdec ha hs
        go_wp2
        refine ⟨⟨k + 1, acc * 16 + (c.toNat - 48), a * 16 + ((c.toNat : Int) - 48), rfl, (by first | rfl | (congr 1; omega)), (by first | rfl | (congr 1; omega)), by omega, HN⟩, by simp [intOf]; omega⟩
      · have hv0 := bits_lo_u8 .or (c.toNat : Int) 32
        have hv1 := bits_hi_u8 .or (c.toNat : Int) 32
        have hF : pHex acc (c :: bs.drop (k + 1)) = if 97 ≤ Go.bits .or .u8 (c.toNat : Int) 32 ∧ Go.bits .or .u8 (c.toNat : Int) 32 ≤ 102 then pHex (acc * 16 + ((Go.bits .or .u8 (c.toNat : Int) 32).toNat - 87)) (bs.drop (k + 1)) else none := by rw [pHex, if_neg hdig]
        have HL : Hid (∀ W, Calls Tryd.prog 76 #[.int .u8 (c.toNat : Int)] W fun e w' => e = .returned (.int .u8 (Go.bits .or .u8 (c.toNat : Int) 32)) ∧ w' = W) := Lib.hid (fun W => lower_calls _ W)
        generalize hMe : Go.bits .or .u8 (c.toNat : Int) 32 = m at hv0 hv1 hF HL
        by_cases h95 : (c.toNat : Int) = 95
        · rw [h95] at hc
          have e127 : Go.bits .or .u8 95 32 = 127 := by decide +kernel
          have HL5 : Hid (∀ W, Calls Tryd.prog 76 #[.int .u8 95] W fun e w' => e = .returned (.int .u8 127) ∧ w' = W) := Lib.hid (fun W => by have := lower_calls 95 W; rw [e127] at this; exact this)
          have hM : m = 127 := by rw [← hMe, h95, e127]
          rw [if_neg (by omega)] at hF
          rw [hF] at hdec
          clear hacc hF ha hs HL hv0 hv1 hMe hM hdig h95 hc256 e127
          go_wp2_with (go_at_fn 76; refine (HL5.out _).mono ?_; rintro e w' ⟨rfl, rfl⟩)
          all_goals go_ret2
          all_goals first | exact ⟨rfl, rfl⟩ | exact ⟨by rw [hdec]; rfl, rfl⟩
        clear hMe
        by_cases hm : 97 ≤ m ∧ m ≤ 102
        · rw [if_pos hm] at hF
          obtain ⟨hm0, hm1⟩ := hm
          have HN : Hid (a * 16 + (m - 87) = ((acc * 16 + (m.toNat - 87) : Nat) : Int) ∧ acc * 16 + (m.toNat - 87) < 16 ^ (k + 1) ∧ pHex 0 bs = pHex (acc * 16 + (m.toNat - 87)) (bs.drop (k + 1))) := Lib.hid ⟨by omega, by omega, hdec.trans hF⟩
          clear hacc hF hdec ha hs
          go_wp2_with (go_at_fn 76; refine (HL.out _).mono ?_; rintro e w' ⟨rfl, rfl⟩)
          all_goals (refine ⟨⟨k + 1, acc * 16 + (m.toNat - 87), a * 16 + (m - 87), rfl, (by first | rfl | (congr 1; omega)), (by first | rfl | (congr 1; omega)), by omega, HN⟩, by simp [intOf]; omega⟩)
        · rw [if_neg hm] at hF
          rw [hF] at hdec
          clear hacc hF ha hs
          go_wp2_with (go_at_fn 76; refine (HL.out _).mono ?_; rintro e w' ⟨rfl, rfl⟩)
          all_goals go_ret2
          all_goals first | exact ⟨rfl, rfl⟩ | exact ⟨by rw [hdec]; rfl, rfl⟩
    · have hkk : k = 8 := by omega
      subst hkk
      have hF : pHex acc (bs.drop 8) = some acc := by rw [List.drop_eq_nil_of_le (by omega)]; rfl
      rw [hF] at hdec
      subst ha
      clear hacc hF a0
      go_wp2
      go_ret2
      first | exact ⟨rfl, rfl⟩ | exact ⟨by rw [hdec]; rfl, rfl⟩
theorem pHex_lt (l : List UInt8) : ∀ (acc j n : Nat), acc < 16 ^ j → pHex acc l = some n → n < 16 ^ (j + l.length) := by
  induction l with
  | nil => intro acc j n h e; rw [pHex] at e; obtain rfl := Option.some.inj e; exact h
  | cons c l ih =>
    intro acc j n h e
    have hs : 16 ^ (j + 1) = 16 ^ j * 16 := Nat.pow_succ ..
    rw [List.length_cons, show j + (l.length + 1) = (j + 1) + l.length by omega]
    rw [pHex] at e
    split at e
    · exact ih _ _ _ (by omega) e
    · split at e
      · exact ih _ _ _ (by omega) e
      · cases e
set_option maxRecDepth 100000 in
theorem pui_ok (t : ByteArray) (h8 : t.size = 8) (n : Nat) (hn : pHex 0 t.data.toList = some n) (w : World) :
    Calls Tryd.prog 43 #[.string t, .int .i64 16, .int .i64 32] w fun e w' => e = .returned (.tuple #[.int .u64 (n : Int), .nilIface]) ∧ Below w.heap.size w w' := by
  have h := pu16 t h8 w
  rw [hn] at h
  replace h : Calls Tryd.prog 59 #[.string t, .int .i64 16, .int .i64 32] w fun e w' => e = .returned (.tuple #[.int .u64 (n : Int), .nilIface]) ∧ Below w.heap.size w w' := h.mono (by
    rintro e w' ⟨rfl, rfl⟩; exact ⟨rfl, Lib.bytesWorld_below _ _ _⟩)
  have H := Aside0.mk h
  clear h hn h8
  go_enter Tryd.func43, Tryd.ntmps43
  go_wp2_with (go_at_call 59; refine H.out.mono ?_; rintro e w1 ⟨rfl, hb1⟩; have HB1 := Aside0.mk hb1; clear hb1)
  all_goals go_ret2
  exact ⟨rfl, HB1.out⟩
set_option maxRecDepth 100000 in
theorem pui_bad (t : ByteArray) (h8 : t.size = 8) (hn : pHex 0 t.data.toList = none) (w : World) (hTE : TabsE w) :
    Calls Tryd.prog 43 #[.string t, .int .i64 16, .int .i64 32] w fun e w' => (∃ T p, e = .returned (.tuple #[.int .u64 0, .iface T p])) ∧ Below w.heap.size w w' := by
  have h := pu16 t h8 w
  rw [hn] at h
  replace h : Calls Tryd.prog 59 #[.string t, .int .i64 16, .int .i64 32] w fun e w' => e = .returned (.tuple #[.int .u64 0, .iface 85 (.int .i64 2)]) ∧ Below w.heap.size w w' := h.mono (by
    rintro e w' ⟨rfl, rfl⟩; exact ⟨rfl, Lib.bytesWorld_below _ _ _⟩)
  have HE : Aside0 (∀ W, Below w.heap.size w W → Calls Tryd.prog 56 #[.string (⟨#[80, 97, 114, 115, 101, 85, 105, 110, 116]⟩ : ByteArray), .string t, .int .i64 16, .int .i64 32, .iface 85 (.int .i64 2)] W fun e w' => (∃ T p, e = .returned (.iface T p)) ∧ Below W.heap.size W w') := Aside0.mk (by
    intro W hb
    obtain ⟨tp, p, hs⟩ := (hTE.below hb).syn
    have := Any.strconv_toError_syntax (P := Tryd.prog) (ρ := Tryd.laysC172_ren) { Tryd.laysC172 with } (⟨#[80, 97, 114, 115, 101, 85, 105, 110, 116]⟩ : ByteArray) t 16 32 (.iface tp p) W (by omega) (by have h0 := World.var?_cell Tryd.laysC172.m15 hs 0; simpa using h0) (Or.inr ⟨tp, p, rfl⟩)
    refine (this : Calls Tryd.prog 56 _ _ _).mono ?_
    rintro e w' ⟨N, rfl, _, _, hb'⟩
    exact ⟨⟨_, _, rfl⟩, hb'⟩)
  have H := Aside0.mk h
  clear h hn h8 hTE
  go_enter Tryd.func43, Tryd.ntmps43
  go_wp2_with (first | (go_at_call 59; refine H.out.mono ?_; rintro e w1 ⟨rfl, hb1⟩; have HB1 := Aside0.mk hb1; clear hb1) | (go_at_call 56; refine (HE.out _ HB1.out).mono ?_; rintro e w2 ⟨⟨T, p, rfl⟩, hb2⟩; have HB2 := Aside0.mk hb2; clear hb2))
  all_goals go_ret2
  exact ⟨⟨_, _, rfl⟩, HB1.out.trans (HB2.out.mono HB1.out.size)⟩
def impl_ReadName.f (a0 : ByteArray) : Option (Int × Int) := if a0.size ≤ 281474976710656 then (if a0.size < 9 then some (0, 0) else match pHex 0 (a0.extract 1 9).data.toList with
  | some n => (impl_isNumber.f (n : Int)).bind fun t => if t = true then (impl_SegmentName.f (n : Int)).bind fun s => (if a0.toList = s.toList then some (1, (n : Int)) else (impl_TempName.f (n : Int)).bind fun s2 => if a0.toList = s2.toList then some (2, (n : Int)) else some (0, 0)) else some (0, 0)
  | none => some (0, 0)) else none
theorem impl_ReadName.calls (a0 : ByteArray) (r1 : Int) (r2 : Int) (w : World) (hTD : TabsD w) (hTE : TabsE w) (h : impl_ReadName.f a0 = some (r1, r2)) :
    Calls Tryd.prog 27 #[.string a0] w fun e w' => e = .returned (.tuple #[.int .i64 r1, .int .i64 r2]) ∧ Below w.heap.size w w' := by
  unfold impl_ReadName.f at h
  split at h
  · rename_i hs
    split at h
    · rename_i h9
      have e1 := (Prod.mk.inj (Option.some.inj h)).1
      have e2 := (Prod.mk.inj (Option.some.inj h)).2
      subst e1 e2
      clear h
      have h9' : (a0.size : Int) < 9 := by omega
      go_enter Tryd.func27, Tryd.ntmps27
      go_wp2
      all_goals go_ret2
      exact ⟨rfl, Below.refl _ _⟩
    · rename_i h9
      have h9' : 9 ≤ (a0.size : Int) := by omega
      have hz : (a0.extract 1 9).size = 8 := by rw [ByteArray.size_extract]; omega
      have HT := Aside0.mk hTD
      cases hv : pHex 0 (a0.extract 1 9).data.toList with
      | none =>
        rw [hv] at h
        replace h : some ((0 : Int), (0 : Int)) = some (r1, r2) := h
        have e1 := (Prod.mk.inj (Option.some.inj h)).1
        have e2 := (Prod.mk.inj (Option.some.inj h)).2
        subst e1 e2
        have HA := Aside0.mk (pui_bad (a0.extract 1 9) hz hv w hTE)
        clear h hv hTE hTD h9 hz
        go_enter Tryd.func27, Tryd.ntmps27
        go_wp2_with (go_at_call 43; refine HA.out.mono ?_; rintro e w1 ⟨⟨T, p, rfl⟩, hb1⟩; have HB1 := Aside0.mk hb1; clear hb1)
        all_goals go_ret2
        exact ⟨rfl, HB1.out⟩
      | some n =>
        rw [hv] at h
        have hn := pHex_lt _ 0 0 n (by decide) hv
        have hl : (a0.extract 1 9).data.toList.length = 8 := by rw [Array.length_toList]; exact hz
        rw [hl] at hn
        replace hn : n < 4294967296 := hn
        have HA := Aside0.mk (pui_ok (a0.extract 1 9) hz n hv w)
        replace h : ((impl_isNumber.f (n : Int)).bind fun t => if t = true then (impl_SegmentName.f (n : Int)).bind fun s => (if a0.toList = s.toList then some (1, (n : Int)) else (impl_TempName.f (n : Int)).bind fun s2 => if a0.toList = s2.toList then some (2, (n : Int)) else some (0, 0)) else some (0, 0)) = some (r1, r2) := h
        have hn0 : 0 ≤ (n : Int) := by omega
        have hn1 : (n : Int) < 4294967296 := by omega
        clear hv hTE hTD h9 hz hl hn
        generalize (n : Int) = b at *
        obtain ⟨t, ht, h⟩ := Option.bind_eq_some_iff.mp h
        have HN := Aside0.mk ht
        clear ht
        cases t with
        | false =>
          rw [if_neg Bool.false_ne_true] at h
          have e1 := (Prod.mk.inj (Option.some.inj h)).1
          have e2 := (Prod.mk.inj (Option.some.inj h)).2
          subst e1 e2
          clear h
          go_enter Tryd.func27, Tryd.ntmps27
          go_wp2_with (first | (go_at_call 43; refine HA.out.mono ?_; rintro e w1 ⟨rfl, hb1⟩; have HB1 := Aside0.mk hb1; clear hb1) | (go_at_call 35; refine (impl_isNumber.calls b false _ HN.out).mono ?_; rintro e w2 ⟨rfl, ⟨n2, rfl⟩⟩))
          all_goals go_ret2
          exact ⟨rfl, by first | exact HB1.out | exact pw_below_drewN HB1.out _⟩
        | true =>
          rw [if_pos rfl] at h
          obtain ⟨s, hd, h⟩ := Option.bind_eq_some_iff.mp h
          have HD := Aside0.mk hd
          clear hd
          by_cases hc : a0.toList = s.toList
          · rw [if_pos hc] at h
            have e1 := (Prod.mk.inj (Option.some.inj h)).1
            have e2 := (Prod.mk.inj (Option.some.inj h)).2
            subst e1 e2
            clear h
            have c1 : (a0.toList == s.toList) = true := beq_iff_eq.mpr hc
            clear hc
            go_enter Tryd.func27, Tryd.ntmps27
            go_wp2_with (first | (go_at_call 43; refine HA.out.mono ?_; rintro e w1 ⟨rfl, hb1⟩; have HB1 := Aside0.mk hb1; clear hb1) | (go_at_call 35; refine (impl_isNumber.calls b true _ HN.out).mono ?_; rintro e w2 ⟨rfl, ⟨n2, rfl⟩⟩) | (go_at_call 14; refine (impl_SegmentName.calls b s _ (HT.out.below (by first | exact HB1.out | exact pw_below_drewN HB1.out _)) HD.out).mono ?_; rintro e w3 ⟨rfl, hb3⟩; have HB3 := Aside0.mk hb3; clear hb3))
            all_goals go_ret2
            exact ⟨rfl, by first | exact HB1.out.trans (HB3.out.mono HB1.out.size) | exact (pw_below_drewN HB1.out _).trans (HB3.out.mono (pw_below_drewN HB1.out _).size)⟩
          · rw [if_neg hc] at h
            have c1 : (a0.toList == s.toList) = false := beq_eq_false_iff_ne.mpr hc
            clear hc
            obtain ⟨s2, hd2, h⟩ := Option.bind_eq_some_iff.mp h
            have HD2 := Aside0.mk hd2
            clear hd2
            by_cases hc2 : a0.toList = s2.toList
            · rw [if_pos hc2] at h
              have e1 := (Prod.mk.inj (Option.some.inj h)).1
              have e2 := (Prod.mk.inj (Option.some.inj h)).2
              subst e1 e2
              clear h
              have c2 : (a0.toList == s2.toList) = true := beq_iff_eq.mpr hc2
              clear hc2
              go_enter Tryd.func27, Tryd.ntmps27
              go_wp2_with (first | (go_at_call 43; refine HA.out.mono ?_; rintro e w1 ⟨rfl, hb1⟩; have HB1 := Aside0.mk hb1; clear hb1) | (go_at_call 35; refine (impl_isNumber.calls b true _ HN.out).mono ?_; rintro e w2 ⟨rfl, ⟨n2, rfl⟩⟩) | (go_at_call 14; refine (impl_SegmentName.calls b s _ (HT.out.below (by first | exact HB1.out | exact pw_below_drewN HB1.out _)) HD.out).mono ?_; rintro e w3 ⟨rfl, hb3⟩; have HB3 := Aside0.mk (show Below w.heap.size w w3 from by first | exact HB1.out.trans (hb3.mono HB1.out.size) | exact (pw_below_drewN HB1.out _).trans (hb3.mono (pw_below_drewN HB1.out _).size)); clear hb3) | (go_at_call 18; refine (impl_TempName.calls b s2 _ (HT.out.below HB3.out) HD2.out).mono ?_; rintro e w4 ⟨rfl, hb4⟩; have HB4 := Aside0.mk hb4; clear hb4))
              all_goals go_ret2
              exact ⟨rfl, HB3.out.trans (HB4.out.mono HB3.out.size)⟩
            · rw [if_neg hc2] at h
              have e1 := (Prod.mk.inj (Option.some.inj h)).1
              have e2 := (Prod.mk.inj (Option.some.inj h)).2
              subst e1 e2
              clear h
              have c2 : (a0.toList == s2.toList) = false := beq_eq_false_iff_ne.mpr hc2
              clear hc2
              go_enter Tryd.func27, Tryd.ntmps27
              go_wp2_with (first | (go_at_call 43; refine HA.out.mono ?_; rintro e w1 ⟨rfl, hb1⟩; have HB1 := Aside0.mk hb1; clear hb1) | (go_at_call 35; refine (impl_isNumber.calls b true _ HN.out).mono ?_; rintro e w2 ⟨rfl, ⟨n2, rfl⟩⟩) | (go_at_call 14; refine (impl_SegmentName.calls b s _ (HT.out.below (by first | exact HB1.out | exact pw_below_drewN HB1.out _)) HD.out).mono ?_; rintro e w3 ⟨rfl, hb3⟩; have HB3 := Aside0.mk (show Below w.heap.size w w3 from by first | exact HB1.out.trans (hb3.mono HB1.out.size) | exact (pw_below_drewN HB1.out _).trans (hb3.mono (pw_below_drewN HB1.out _).size)); clear hb3) | (go_at_call 18; refine (impl_TempName.calls b s2 _ (HT.out.below HB3.out) HD2.out).mono ?_; rintro e w4 ⟨rfl, hb4⟩; have HB4 := Aside0.mk hb4; clear hb4))
              all_goals go_ret2
              exact ⟨rfl, HB3.out.trans (HB4.out.mono HB3.out.size)⟩
  · cases h

/-! ### laws_FnExactReadName: function 9 -/
def laws_FnExactReadName.f (k : Nat) (a0 : ByteArray) : Option (Bool) := if (a0.size : Int) > 1048576 then (some true) else ((spec_ReadName.f k a0).bind fun bt120 => ((impl_ReadName.f a0).bind fun bt122 => (if bt122.1 = bt120.1 then (if bt122.2 = bt120.2 then (some true) else (some false)) else (some false))))
theorem laws_FnExactReadName.mono : ∀ a0 k, LeO (laws_FnExactReadName.f k a0) (laws_FnExactReadName.f (k + 1) a0) := by
  intro a0 k
  unfold laws_FnExactReadName.f
  repeat' first
      | (with_reducible exact spec_ReadName.mono _ _)
      | (with_reducible exact LeO.refl _)
      | (with_reducible exact LeO.none _)
      | (with_reducible refine LeO.ite ?_ ?_)
      | (with_reducible refine LeO.bind ?_ (fun _ => ?_))
      | exact spec_ReadName.mono _ _
      | exact LeO.none _
      | refine LeO.ite ?_ ?_
      | refine LeO.bind ?_ (fun _ => ?_)
set_option maxHeartbeats 8000000 in
set_option maxRecDepth 100000 in
theorem laws_FnExactReadName.calls (k : Nat) (a0 : ByteArray) (r : Bool) (w : World) (hTD : TabsD w) (hTE : TabsE w) (h : laws_FnExactReadName.f k a0 = some r) (hr_ : Aside0 (r = true)) :
    Calls Tryd.prog 9 #[.string a0] w fun e w' => e = .returned (.bool r) ∧ Below w.heap.size w w' := by
  have HTD := Aside0.mk hTD
  clear hTD
  have HTE := Aside0.mk hTE
  clear hTE
  have HB := Aside0.mk (Below.refl w.heap.size w)
  have H : (if (a0.size : Int) > 1048576 then (some true) else ((spec_ReadName.f k a0).bind fun bt120 => ((impl_ReadName.f a0).bind fun bt122 => (if bt122.1 = bt120.1 then (if bt122.2 = bt120.2 then (some true) else (some false)) else (some false))))) = some r := h
  clear h
  by_cases c2 : (a0.size : Int) > 1048576
  · rw [if_pos c2] at H
    have c2b0 : decide (1048576 < (a0.size : Int)) = true := decide_eq_true c2
    have c2b1 : decide (1048576 < a0.size) = true := decide_eq_true (by omega)
    clear c2
    obtain rfl := Option.some.inj H
    go_enter Tryd.func9, Tryd.ntmps9
    go_wp2
    all_goals (first | go_ret | (exfalso; simp only [decide_eq_true_eq, decide_eq_false_iff_not] at *; omega))
    all_goals exact ⟨by first | rfl | (simp [errW_none, errW_some] <;> rfl) | (simp [*, errW_none, errW_some] <;> rfl) | (exfalso; simp only [decide_eq_true_eq, decide_eq_false_iff_not] at *; omega), by repeat (first | (with_reducible first | exact HB.out | apply below_alloc | apply pw_below_drewN | apply below_drew1) | exact HB.out)⟩
  · rw [if_neg c2] at H
    have c2b0 : decide (1048576 < (a0.size : Int)) = false := decide_eq_false c2
    have c2b1 : decide (1048576 < a0.size) = false := decide_eq_false (by omega)
    clear c2
    replace H := Option.bind_eq_some_iff.mp H
    obtain ⟨⟨t120, t121⟩, A30, H⟩ := H
    replace H : ((impl_ReadName.f a0).bind fun bt122 => (if bt122.1 = t120 then (if bt122.2 = t121 then (some true) else (some false)) else (some false))) = some r := H
    have A3 := Aside0.mk A30
    clear A30
    replace H := Option.bind_eq_some_iff.mp H
    obtain ⟨⟨t122, t123⟩, A40, H⟩ := H
    replace H : (if t122 = t120 then (if t123 = t121 then (some true) else (some false)) else (some false)) = some r := H
    have A4 := Aside0.mk A40
    clear A40
    by_cases c5 : t122 = t120
    · rw [if_pos c5] at H
      have c5b0 : (t122 == t120) = true := beq_iff_eq.mpr c5
      have c5b1 : (t122 != t120) = false := bne_eq_false_iff_eq.mpr c5
      clear c5
      by_cases c6 : t123 = t121
      · rw [if_pos c6] at H
        have c6b0 : (t123 == t121) = true := beq_iff_eq.mpr c6
        have c6b1 : (t123 != t121) = false := bne_eq_false_iff_eq.mpr c6
        clear c6
        obtain rfl := Option.some.inj H
        go_enter Tryd.func9, Tryd.ntmps9
        go_wp2_with (first | ((with_reducible refine gate_callee (f := 26) rfl ?_); refine goesL_ (some 12) rfl rfl Tryd.func26 (by kernel_rfl) rfl #[.string a0] rfl (by (try simp only [List.map_toArray, List.map_cons, List.map_nil]); first | done | rfl | (simp only [List.length_drop, List.length_take]; rfl) | (go_simp; done) | (go_simp; unfold wrap64; (repeat (first | with_reducible rfl | omega | congr 1)); done)) ?_; (with_reducible refine (spec_ReadName.calls k a0 t120 t121 _ A3.out).mono ?_); rintro e w7 ⟨rfl, hb⟩; refine ⟨_, rfl, ?_⟩; have n0_ := Aside0.mk (below_step (by repeat (first | (with_reducible first | exact HB.out | apply below_alloc | apply pw_below_drewN | apply below_drew1) | exact HB.out)) hb); clear HB; have HB := n0_; clear n0_; (try clear hb); (try clear hb2); (try clear hk); (try clear hi)) | ((with_reducible refine gate_callee (f := 27) rfl ?_); refine goesL_ (some 17) rfl rfl Tryd.func27 (by kernel_rfl) rfl #[.string a0] rfl (by (try simp only [List.map_toArray, List.map_cons, List.map_nil]); first | done | rfl | (simp only [List.length_drop, List.length_take]; rfl) | (go_simp; done) | (go_simp; unfold wrap64; (repeat (first | with_reducible rfl | omega | congr 1)); done)) ?_; (with_reducible refine (impl_ReadName.calls a0 t122 t123 _ ?side1 ?side2 A4.out).mono ?_); (case side1 => first | exact HTD.out | exact TabsD.below HTD.out (by repeat (first | (with_reducible first | exact HB.out | apply below_alloc | apply pw_below_drewN | apply below_drew1) | exact HB.out))); (case side2 => first | exact HTE.out | exact TabsE.below HTE.out (by repeat (first | (with_reducible first | exact HB.out | apply below_alloc | apply pw_below_drewN | apply below_drew1) | exact HB.out))); rintro e w8 ⟨rfl, hb⟩; refine ⟨_, rfl, ?_⟩; have n0_ := Aside0.mk (below_step (by repeat (first | (with_reducible first | exact HB.out | apply below_alloc | apply pw_below_drewN | apply below_drew1) | exact HB.out)) hb); clear HB; have HB := n0_; clear n0_; (try clear hb); (try clear hb2); (try clear hk); (try clear hi)))
        all_goals (first | go_ret | (exfalso; simp only [decide_eq_true_eq, decide_eq_false_iff_not] at *; omega))
        all_goals exact ⟨by first | rfl | (simp [errW_none, errW_some] <;> rfl) | (simp [*, errW_none, errW_some] <;> rfl) | (exfalso; simp only [decide_eq_true_eq, decide_eq_false_iff_not] at *; omega), by repeat (first | (with_reducible first | exact HB.out | apply below_alloc | apply pw_below_drewN | apply below_drew1) | exact HB.out)⟩
      · rw [if_neg c6] at H
        have c6b0 : (t123 == t121) = false := beq_eq_false_iff_ne.mpr c6
        have c6b1 : (t123 != t121) = true := bne_iff_ne.mpr c6
        exact absurd ((Option.some.inj H).trans hr_.out) (by decide)
    · rw [if_neg c5] at H
      have c5b0 : (t122 == t120) = false := beq_eq_false_iff_ne.mpr c5
      have c5b1 : (t122 != t120) = true := bne_iff_ne.mpr c5
      exact absurd ((Option.some.inj H).trans hr_.out) (by decide)

/-- THE ONE PURE STATEMENT of laws_FnExactReadName: yours. -/
def laws_FnExactReadName.Pure : Prop := ∀ (a0 : ByteArray), a0.size ≤ 140737488351232 → ∃ k, laws_FnExactReadName.f k a0 = some true
theorem laws_FnExactReadName.walk (P : laws_FnExactReadName.Pure) (a0 : ByteArray) (w : World) (w0 : a0.size ≤ 140737488351232) (hTD : TabsD w) (hTE : TabsE w) :
    Calls Tryd.prog 9 #[.string a0] w fun e w' => e = .returned (.bool true) ∧ Below w.heap.size w w' := by
  obtain ⟨k, h⟩ := P a0 w0
  refine (laws_FnExactReadName.calls k a0 true w hTD hTE h ⟨rfl⟩).mono ?_
  rintro e w' ⟨rfl, hd⟩
  exact ⟨rfl, hd⟩

end Go.Proofs.YtfnogfbmieoljaaDoor.MFnExactReadName
