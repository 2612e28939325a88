/- Each theorem here says that a call of one Go function answers what the Lean function beside it answers; its conditions stand in it. Written by a program of this session. -/
import Derived.Test.YtfnogfbmieoljaaDoorMFnNamesx0
namespace Go.Proofs.YtfnogfbmieoljaaDoor.MFnNames
open Go.RowKit Go.Proofs.YtfnogfbmieoljaaDoorW.PrintWords Go.Proofs.YtfnogfbmieoljaaDoorW.PrintLast Go.Proofs.YtfnogfbmieoljaaDoorW.PrintMore
attribute [local go_sem] max2_int min2_int max_two min_two max_three min_three max_four min_four   -- for this text's walks alone
set_option linter.unusedVariables false
set_option linter.unusedSimpArgs false

/-! ### impl_within: function 46 -/
def impl_within.f (a0 : Int) (a1 : Int) (a2 : Int) : Option (Bool) := if a0 ≥ a1 then (some (decide (a0 ≤ a2))) else (some false)
set_option maxHeartbeats 8000000 in
set_option maxRecDepth 100000 in
theorem impl_within.calls (a0 : Int) (a1 : Int) (a2 : Int) (r : Bool) (w : World) (h : impl_within.f a0 a1 a2 = some r) :
    Calls Tryd.prog 46 #[.int .i64 a0, .int .i64 a1, .int .i64 a2] w fun e w' => e = .returned (.bool r) ∧ Drawn0 w w' := by
  have H : (if a0 ≥ a1 then (some (decide (a0 ≤ a2))) else (some false)) = some r := h
  clear h
  by_cases c4 : a0 ≥ a1
  · rw [if_pos c4] at H
    have c4b0 : decide (a1 ≤ a0) = true := decide_eq_true c4
    clear c4
    obtain rfl := Option.some.inj H
    go_enter Tryd.func46, Tryd.ntmps46
    go_wp2
    all_goals (first | go_ret | (exfalso; simp only [decide_eq_true_eq, decide_eq_false_iff_not] at *; omega))
    exact ⟨by first | rfl | (simp; done) | (simp [*]; done), by repeat (first | exact Drawn0.refl _ | apply Drawn0.step)⟩
  · rw [if_neg c4] at H
    have c4b0 : decide (a1 ≤ a0) = false := decide_eq_false c4
    clear c4
    obtain rfl := Option.some.inj H
    go_enter Tryd.func46, Tryd.ntmps46
    go_wp2
    all_goals (first | go_ret | (exfalso; simp only [decide_eq_true_eq, decide_eq_false_iff_not] at *; omega))
    exact ⟨by first | rfl | (simp; done) | (simp [*]; done), by repeat (first | exact Drawn0.refl _ | apply Drawn0.step)⟩

/-! ### impl_isNumber: function 35 -/
def impl_isNumber.f (a0 : Int) : Option (Bool) := (impl_within.f a0 0 1000000000).bind fun t101 => (some t101)
set_option maxHeartbeats 8000000 in
set_option maxRecDepth 100000 in
theorem impl_isNumber.calls (a0 : Int) (r : Bool) (w : World) (h : impl_isNumber.f a0 = some r) :
    Calls Tryd.prog 35 #[.int .i64 a0] w fun e w' => e = .returned (.bool r) ∧ Drawn0 w w' := by
  have H : ((impl_within.f a0 0 1000000000).bind fun t101 => (some t101)) = some r := h
  clear h
  replace H := Option.bind_eq_some_iff.mp H
  obtain ⟨t101, A20, H⟩ := H
  replace H : (some t101) = some r := H
  have A2 := Aside0.mk A20
  clear A20
  obtain rfl := Option.some.inj H
  go_enter Tryd.func35, Tryd.ntmps35
  go_wp2_with (first | ((with_reducible refine gate_callee (f := 46) rfl ?_); refine goesL_ (some 4) rfl rfl Tryd.func46 (by kernel_rfl) rfl #[.int .i64 a0, .int .i64 0, .int .i64 1000000000] rfl (by (try simp only [List.map_toArray, List.map_cons, List.map_nil]); first | done | rfl | (simp only [List.length_drop, List.length_take]; rfl) | (go_simp; done) | (go_simp; unfold wrap64; (repeat (first | with_reducible rfl | omega | congr 1)); done)) ?_; (with_reducible refine (impl_within.calls a0 0 1000000000 t101 _ A2.out).mono ?_); rintro e w' ⟨rfl, ⟨nd, rfl⟩⟩; refine ⟨_, rfl, ?_⟩))
  all_goals (first | go_ret | (exfalso; simp only [decide_eq_true_eq, decide_eq_false_iff_not] at *; omega))
  exact ⟨by first | rfl | (simp; done) | (simp [*]; done), by repeat (first | exact Drawn0.refl _ | apply Drawn0.step)⟩

/-! ### strconv_FormatInt: function 36 -/
/-- The one number of the library's table that is read at base 16. -/
structure TabsD (w : World) : Prop where
  out : w.cell? ⟨5, 15, none⟩ = some (.int .u8 4)
theorem TabsD.below {w W : World} (h : TabsD w) (hb : Below w.heap.size w W) : TabsD W := ⟨(hb.cell (p := ⟨5, 15, none⟩) (World.block_lt_of_cell? w _ h.out)).trans h.out⟩
set_option maxRecDepth 100000 in
theorem tz64 (w : World) (hD : w.cell? ⟨5, 15, none⟩ = some (.int .u8 4)) : Calls Tryd.prog 88 #[.int .u64 16] w fun e w' => e = .returned (.int .i64 4) ∧ Drawn0 w w' := by
  have hlen : Tryd.prog.arrayLen 107 = 64 := by kernel_rfl
  have h1 : IntKind.u64.wrap (Go.bits .and .u64 16 (IntKind.u64.wrap (-16)) * 285870213051353865) / 288230376151711744 = 15 := by decide +kernel
  go_enter Tryd.func88, Tryd.ntmps88
  go_wp2
  all_goals (go_ret; exact ⟨rfl, by repeat (first | exact Drawn0.refl _ | apply Drawn0.step)⟩)

set_option maxRecDepth 100000 in
theorem tz16 (w : World) (hD : w.cell? ⟨5, 15, none⟩ = some (.int .u8 4)) : Calls Tryd.prog 82 #[.int .u64 16] w fun e w' => e = .returned (.int .i64 4) ∧ Drawn0 w w' := by
  go_enter Tryd.func82, Tryd.ntmps82
  go_wp2_with (go_at_call 88; refine (tz64 _ (by first | exact hD | (rw [World.cell?_drewN]; exact hD))).mono ?_; rintro e w1 ⟨rfl, ⟨n, rfl⟩⟩)
  all_goals (go_ret; exact ⟨rfl, by repeat (first | exact Drawn0.refl _ | apply Drawn0.step)⟩)
theorem pow2_16 (w : World) : Calls Tryd.prog 81 #[.int .i64 16] w fun e w' => e = .returned (.bool true) ∧ Drawn0 w w' := by
  go_enter Tryd.func81, Tryd.ntmps81
  go_wp2
  all_goals (go_ret; exact ⟨rfl, by repeat (first | exact Drawn0.refl _ | apply Drawn0.step)⟩)
def dg16 (n : Nat) : UInt8 := UInt8.ofNat (if n < 10 then 48 + n else 87 + n)
def hexF : Nat → Nat → List UInt8
  | 0, u => [dg16 (u % 16)]
  | f + 1, u => if u < 16 then [dg16 u] else hexF f (u / 16) ++ [dg16 (u % 16)]
def ArrAt (w : World) (g : Nat) (s : List UInt8) : Prop := ∃ arr : Array Value, w.heap[g]? = some (.cells arr 94 (0, 0)) ∧ arr.size = 65 ∧ s.length ≤ 65 ∧ ∀ j (hj : j < s.length), arr[65 - s.length + j]? = some (.int .u8 (s[j].toNat : Int))
theorem ArrAt.step {W : World} {g : Nat} {s : List UInt8} {arr : Array Value} {c : UInt8} {x : Value} (hsz : arr.size = 65) (hs : s.length ≤ 64) (hd : ∀ j (hj : j < s.length), arr[65 - s.length + j]? = some (.int .u8 (s[j].toNat : Int)))
    (hx : x = .int .u8 (c.toNat : Int)) (hW : W.heap[g]? = some (.cells (arr.setIfInBounds (65 - s.length - 1) x) 94 (0, 0))) : ArrAt W g (c :: s) := by
  refine ⟨_, hW, by rw [Array.size_setIfInBounds]; exact hsz, by rw [List.length_cons]; omega, fun j hj => ?_⟩
  rw [List.length_cons] at hj
  cases j with
  | zero =>
    have e : 65 - (c :: s).length + 0 = 65 - s.length - 1 := by rw [List.length_cons]; omega
    rw [e, Array.getElem?_setIfInBounds_self_of_lt (by omega), hx]; rfl
  | succ j =>
    have e : 65 - (c :: s).length + (j + 1) = 65 - s.length + j := by rw [List.length_cons]; omega
    rw [e, Array.getElem?_setIfInBounds_ne (by omega)]
    exact hd j (by omega)
theorem u64_and15 (v : Nat) (hv : v < 4294967296) : Go.bits .and .u64 (v : Int) 15 = ((v % 16 : Nat) : Int) := by
  rw [show (15 : Int) = ((15 : Nat) : Int) from rfl, (Go.bits_nat .u64 63 (by decide) (fun n h0 h1 => by rw [IntKind.wrap_u64]; omega) v 15 (by omega) (by decide)).1, show (15 : Nat) = 2 ^ 4 - 1 from rfl, Nat.and_two_pow_sub_one_eq_mod]
set_option maxRecDepth 100000 in
set_option maxHeartbeats 2000000 in
theorem fb16 (u : Nat) (hu : u < 4294967296) (w : World) (hD : w.cell? ⟨5, 15, none⟩ = some (.int .u8 4)) :
    Calls Tryd.prog 65 #[.slice none 0 0, .int .u64 (u : Int), .int .i64 16, .bool false, .bool false] w fun e w' => e = .returned (.tuple #[.slice none 0 0, .string ⟨(hexF 8 u).toArray⟩]) ∧ Below w.heap.size w w' := by
  have h5 : 5 < w.heap.size := World.block_lt_of_cell? w _ hD
  have hlen : Tryd.prog.arrayLen 94 = 65 := by kernel_rfl
  go_enter Tryd.func65, Tryd.ntmps65
  go_wp2_with (first | (go_at_call 81; refine (pow2_16 _).mono ?_; rintro e w1 ⟨rfl, ⟨n1, rfl⟩⟩) | (go_at_call 82; refine (tz16 _ (((show Below w.heap.size w _ from by repeat (first | exact Below.refl _ _ | apply below_alloc | apply pw_below_drewN)).cell (p := ⟨5, 15, none⟩) h5).trans hD)).mono ?_; rintro e w2 ⟨rfl, ⟨n2, rfl⟩⟩))
  go_loopg [1, 13] 9 (fun gg s1 s13 wr => ∃ (v : Nat) (s : List UInt8), s1 = .int .u64 (v : Int) ∧ s13 = .int .i64 (65 - (s.length : Int)) ∧ 9 - s.length ≤ gg ∧ Aside0 (s.length ≤ 8 ∧ v < 16 ^ (8 - s.length) ∧ hexF (8 - s.length) v ++ s = hexF 8 u) ∧ Aside0 (ArrAt wr w.heap.size s) ∧ Aside0 (Below w.heap.size w wr))
  case atStart => exact ⟨u, [], rfl, rfl, by decide, ⟨by decide, by simpa using hu, by rw [List.append_nil]; rfl⟩, ⟨⟨_, (by (with_reducible repeat (first | refine blk_drewN ?_ _ | refine blk_drew ?_)); exact blk_new w _), rfl, Nat.zero_le _, fun j hj => absurd hj (Nat.not_lt_zero _)⟩⟩, ⟨by repeat (first | exact Below.refl _ _ | apply below_alloc | apply pw_below_drewN)⟩⟩
  case round =>
    obtain ⟨v, s, rfl, rfl, hg, HV, HA, HB⟩ := hrel
    obtain ⟨hs8, hv, he⟩ := HV.out
    obtain ⟨arr, ha, hsz, hs65, hd⟩ := HA.out
    have hv32 : v < 4294967296 := Nat.lt_of_lt_of_le hv (Nat.le_trans (Nat.pow_le_pow_right (by decide) (by omega : 8 - s.length ≤ 8)) (by decide))
    have hdg : ∀ n : Nat, n < 16 → ∀ h : n < (⟨#[48, 49, 50, 51, 52, 53, 54, 55, 56, 57, 97, 98, 99, 100, 101, 102, 103, 104, 105, 106, 107, 108, 109, 110, 111, 112, 113, 114, 115, 116, 117, 118, 119, 120, 121, 122]⟩ : ByteArray).size, ((⟨#[48, 49, 50, 51, 52, 53, 54, 55, 56, 57, 97, 98, 99, 100, 101, 102, 103, 104, 105, 106, 107, 108, 109, 110, 111, 112, 113, 114, 115, 116, 117, 118, 119, 120, 121, 122]⟩ : ByteArray)[n]'h).toNat = (dg16 n).toNat := by decide +kernel
    have HDG := Aside0.mk hdg
    clear hdg
    by_cases hlt : 16 ≤ v
    · have hltz : (v : Int) ≥ 16 := by omega
      have hand := u64_and15 v hv32
      have hcell := blk_cell ha (65 - s.length - 1)
      have hfroz := blk_frozen ha (65 - s.length - 1)
      have hx : ∃ old, arr[65 - s.length - 1]? = some old := ⟨_, Array.getElem?_eq_getElem (by omega)⟩
      obtain ⟨old, hold⟩ := hx
      rw [hold] at hcell
      have i0 : (0 : Int) ≤ 65 - (s.length : Int) - 1 := by omega
      have i1 : 65 - (s.length : Int) - 1 < 65 := by omega
      have i2 : (65 - (s.length : Int) - 1).toNat = 65 - s.length - 1 := by omega
      have m0 : (0 : Int) ≤ ((v % 16 : Nat) : Int) := by omega
      have m1 : ((v % 16 : Nat) : Int) < 36 := by omega
      have hlt2 : s.length ≤ 7 := by
        rcases Nat.lt_or_ge s.length 8 with h | h
        · omega
        · rw [show 8 - s.length = 0 by omega] at hv; omega
      have HD2 := Aside0.mk hd
      have HE2 := Aside0.mk he
      have HV2 := Aside0.mk hv
      have HA2 := Aside0.mk ha
      clear hd he hv ha HA HV hold
      go_wp2
      go_roundg (8 - s.length)
      case measure => omega
      case rel =>
        refine ⟨v / 16, dg16 (v % 16) :: s, by rw [Int.natCast_ediv]; rfl, by rw [List.length_cons]; congr 1; omega, by rw [List.length_cons]; omega, ⟨by rw [List.length_cons]; omega, ?_, ?_⟩, ⟨ArrAt.step hsz (by omega) HD2.out (congrArg (fun z : Nat => Value.int .u8 (z : Int)) (HDG.out _ (by omega) _)) (blk_put HA2.out _ _ rfl)⟩, ⟨by first | exact HB.out.setCell (Nat.le_refl _) _⟩⟩
        · rw [List.length_cons]
          have h8 : 8 - s.length = (8 - (s.length + 1)) + 1 := by omega
          have := HV2.out
          rw [h8, Nat.pow_succ] at this
          exact Nat.div_lt_of_lt_mul (by rw [Nat.mul_comm]; exact this)
        · rw [List.length_cons, ← HE2.out]
          have h8 : 8 - s.length = (8 - (s.length + 1)) + 1 := by omega
          rw [h8, hexF, if_neg (by omega), List.append_assoc]; rfl
    · have hltz : ¬ (v : Int) ≥ 16 := by omega
      have hcell := blk_cell ha (65 - s.length - 1)
      have hfroz := blk_frozen ha (65 - s.length - 1)
      have hx : ∃ old, arr[65 - s.length - 1]? = some old := ⟨_, Array.getElem?_eq_getElem (by omega)⟩
      obtain ⟨old, hold⟩ := hx
      rw [hold] at hcell
      have i0 : (0 : Int) ≤ 65 - (s.length : Int) - 1 := by omega
      have i1 : 65 - (s.length : Int) - 1 < 65 := by omega
      have i2 : (65 - (s.length : Int) - 1).toNat = 65 - s.length - 1 := by omega
      have m1 : (v : Int) < 36 := by omega
      have HD2 := Aside0.mk hd
      have HE2 := Aside0.mk he
      have HV2 := Aside0.mk hv
      have HA2 := Aside0.mk ha
      clear hd he hv ha HA HV hold
      have hsl : ∀ W, (Instr.sliceAt 94 (.pointer (some ⟨w.heap.size, 0, none⟩)) (some (.int .i64 (65 - (s.length : Int) - 1))) none none).run Tryd.prog W = .ok (.slice (some ⟨w.heap.size, 65 - s.length - 1, none⟩) (s.length + 1) (s.length + 1)) W := fun W => by
        rw [run_sliceAt_array_l W 94 ⟨w.heap.size, 0, none⟩ (by simp [Program.arrayLen, Program.elem, Tryd.underlying94]) .i64 (65 - (s.length : Int) - 1) (by omega) (by rw [hlen]; omega)]
        go_simp
        omega
      go_wp2
      have hvt : v < (⟨#[48, 49, 50, 51, 52, 53, 54, 55, 56, 57, 97, 98, 99, 100, 101, 102, 103, 104, 105, 106, 107, 108, 109, 110, 111, 112, 113, 114, 115, 116, 117, 118, 119, 120, 121, 122]⟩ : ByteArray).size := by show v < 36; omega
      have HA3 : ArrAt (wr.setCell ⟨w.heap.size, 65 - s.length - 1, none⟩ (.int .u8 (((⟨#[48, 49, 50, 51, 52, 53, 54, 55, 56, 57, 97, 98, 99, 100, 101, 102, 103, 104, 105, 106, 107, 108, 109, 110, 111, 112, 113, 114, 115, 116, 117, 118, 119, 120, 121, 122]⟩ : ByteArray)[v]'hvt).toNat : Int))) w.heap.size (dg16 v :: s) := ArrAt.step hsz (by omega) HD2.out (congrArg (fun z : Nat => Value.int .u8 (z : Int)) (HDG.out _ (by omega) _)) (blk_put HA2.out _ _ rfl)
      have HB3 : Aside0 (Below w.heap.size w (wr.setCell ⟨w.heap.size, 65 - s.length - 1, none⟩ (.int .u8 (((⟨#[48, 49, 50, 51, 52, 53, 54, 55, 56, 57, 97, 98, 99, 100, 101, 102, 103, 104, 105, 106, 107, 108, 109, 110, 111, 112, 113, 114, 115, 116, 117, 118, 119, 120, 121, 122]⟩ : ByteArray)[v]'hvt).toNat : Int)))) := ⟨HB.out.setCell (Nat.le_refl _) _⟩
      generalize wr.setCell ⟨w.heap.size, 65 - s.length - 1, none⟩ (.int .u8 (((⟨#[48, 49, 50, 51, 52, 53, 54, 55, 56, 57, 97, 98, 99, 100, 101, 102, 103, 104, 105, 106, 107, 108, 109, 110, 111, 112, 113, 114, 115, 116, 117, 118, 119, 120, 121, 122]⟩ : ByteArray)[v]'hvt).toNat : Int)) = W2 at HA3 HB3 ⊢
      obtain ⟨arr2, ha2, hz2, _, hd2⟩ := HA3
      have hcv : (convert 29 9 (.slice (some ⟨w.heap.size, 65 - s.length - 1, none⟩) (s.length + 1) (s.length + 1))).run Tryd.prog W2 = .ok (.string ⟨(dg16 v :: s).toArray⟩) W2 := by
        have h := run_convert_bytes_back (P := Tryd.prog) W2 29 9 5 ⟨w.heap.size, 65 - s.length - 1, none⟩ (s.length + 1) (dg16 v :: s) Tryd.underlying29 Tryd.underlying5 Tryd.underlying9 (fun j hj => by
          rw [show (⟨w.heap.size, 65 - s.length - 1, none⟩ : Addr).add j = ⟨w.heap.size, 65 - s.length - 1 + j, none⟩ from by simp [Addr.add], blk_cell ha2, ← hd2 j hj, List.length_cons]; rfl)
        rw [List.length_cons] at h
        exact h
      have hend : (dg16 v :: s) = hexF 8 u := by
        rw [← HE2.out]
        have hv16 : v < 16 := by omega
        cases 8 - s.length with
        | zero => rw [hexF, Nat.mod_eq_of_lt hv16]; rfl
        | succ f => rw [hexF, if_pos hv16]; rfl
      have HEND := Aside0.mk hend
      clear ha2 hd2 hend hcell hfroz
      go_wp2
      go_ret2
      exact ⟨by rw [← HEND.out]; rfl, HB3.out⟩
theorem fi16 (u : Nat) (hu : u < 4294967296) (w : World) (hD : w.cell? ⟨5, 15, none⟩ = some (.int .u8 4)) :
    Calls Tryd.prog 48 #[.int .i64 (u : Int), .int .i64 16] w fun e w' => e = .returned (.string ⟨(hexF 8 u).toArray⟩) ∧ Below w.heap.size w w' := by
  have hw : IntKind.u64.wrap (u : Int) = (u : Int) := by rw [IntKind.wrap_u64]; omega
  have hn : ¬ (u : Int) < 0 := by omega
  have hcon := fb16 u hu
  go_enter Tryd.func48, Tryd.ntmps48
  go_wp2_with (go_at_call 65; refine (hcon _ (by first | exact hD | (rw [World.cell?_drewN]; exact hD))).mono ?_; rintro e w1 ⟨rfl, hb1⟩)
  go_ret
  exact ⟨rfl, by first | exact hb1 | exact hb1.mono (by simp)⟩
def strconv_FormatInt.f (a0 : Int) (a1 : Int) : Option ByteArray := if a1 = 16 ∧ 0 ≤ a0 ∧ a0 < 4294967296 then some ⟨(hexF 8 a0.toNat).toArray⟩ else none
theorem strconv_FormatInt.calls (a0 : Int) (a1 : Int) (r : ByteArray) (w : World) (hTD : TabsD w) (h : strconv_FormatInt.f a0 a1 = some r) :
    Calls Tryd.prog 36 #[.int .i64 a0, .int .i64 a1] w fun e w' => e = .returned (.string r) ∧ Below w.heap.size w w' := by
  unfold strconv_FormatInt.f at h
  split at h
  · rename_i hb
    obtain ⟨rfl, h0, h1⟩ := hb
    obtain ⟨u, rfl⟩ := Int.eq_ofNat_of_zero_le h0
    obtain rfl := Option.some.inj h
    rw [Int.toNat_natCast]
    have hcon := fi16 u (by omega) w hTD.out
    clear h hTD
    generalize (hexF 8 u).toArray = r at hcon ⊢
    go_enter Tryd.func36, Tryd.ntmps36
    go_wp2_with (go_at_call 48; refine hcon.mono ?_; rintro e w1 ⟨rfl, hb1⟩)
    go_ret
    exact ⟨rfl, hb1⟩
  · cases h

/-! ### strings_Repeat: function 37 -/
def strings_Repeat.f (a0 : ByteArray) (a1 : Int) : Option ByteArray := if 0 ≤ a1 ∧ a1 ≤ 1000000 ∧ a0.size ≤ 1000000 then some ⟨(Lib.repeatL a0.data.toList a1.toNat).toArray⟩ else none
theorem strings_Repeat.calls (a0 : ByteArray) (a1 : Int) (r : ByteArray) (w : World) (h : strings_Repeat.f a0 a1 = some r) :
    Calls Tryd.prog 37 #[.string a0, .int .i64 a1] w fun e w' => e = .returned (.string r) ∧ Below w.heap.size w w' := by
  unfold strings_Repeat.f at h
  split at h
  · rename_i hb
    obtain ⟨c, rfl⟩ := Int.eq_ofNat_of_zero_le hb.1
    obtain rfl := Option.some.inj h
    rw [Int.toNat_natCast]
    have h2 : a0.size * c ≤ 1000000 * 1000000 := Nat.mul_le_mul hb.2.2 (by omega)
    exact Any.strings_Repeat Tryd.lays105 Tryd.Builder_Extra_105 a0 c w (by omega) (by omega)
  · cases h

/-! ### impl_SegmentName: function 14 -/
def impl_SegmentName.f (a0 : Int) : Option (ByteArray) := (impl_isNumber.f a0).bind fun t102 => (if t102 = true then ((strconv_FormatInt.f a0 16).bind fun t103 => ((strings_Repeat.f (⟨#[48]⟩ : ByteArray) (wrap64 (8 - (t103.size : Int)))).bind fun t104 => (if 1 + t104.size ≤ 9223372036854775807 then (if 1 + t104.size + t103.size ≤ 9223372036854775807 then (if 1 + t104.size + t103.size + 4 ≤ 9223372036854775807 then (some ((((⟨#[115]⟩ : ByteArray) ++ t104) ++ t103) ++ (⟨#[46, 115, 101, 103]⟩ : ByteArray))) else (none)) else (none)) else (none)))) else (some (⟨#[]⟩ : ByteArray)))
set_option maxHeartbeats 8000000 in
set_option maxRecDepth 100000 in
theorem impl_SegmentName.calls (a0 : Int) (r : ByteArray) (w : World) (hTD : TabsD w) (h : impl_SegmentName.f a0 = some r) :
    Calls Tryd.prog 14 #[.int .i64 a0] w fun e w' => e = .returned (.string r) ∧ Below w.heap.size w w' := by
  have HTD := Aside0.mk hTD
  clear hTD
  have HB := Aside0.mk (Below.refl w.heap.size w)
  have H : ((impl_isNumber.f a0).bind fun t102 => (if t102 = true then ((strconv_FormatInt.f a0 16).bind fun t103 => ((strings_Repeat.f (⟨#[48]⟩ : ByteArray) (wrap64 (8 - (t103.size : Int)))).bind fun t104 => (if 1 + t104.size ≤ 9223372036854775807 then (if 1 + t104.size + t103.size ≤ 9223372036854775807 then (if 1 + t104.size + t103.size + 4 ≤ 9223372036854775807 then (some ((((⟨#[115]⟩ : ByteArray) ++ t104) ++ t103) ++ (⟨#[46, 115, 101, 103]⟩ : ByteArray))) else (none)) else (none)) else (none)))) else (some (⟨#[]⟩ : ByteArray)))) = some r := h
  clear h
  replace H := Option.bind_eq_some_iff.mp H
  obtain ⟨t102, A20, H⟩ := H
  replace H : (if t102 = true then ((strconv_FormatInt.f a0 16).bind fun t103 => ((strings_Repeat.f (⟨#[48]⟩ : ByteArray) (wrap64 (8 - (t103.size : Int)))).bind fun t104 => (if 1 + t104.size ≤ 9223372036854775807 then (if 1 + t104.size + t103.size ≤ 9223372036854775807 then (if 1 + t104.size + t103.size + 4 ≤ 9223372036854775807 then (some ((((⟨#[115]⟩ : ByteArray) ++ t104) ++ t103) ++ (⟨#[46, 115, 101, 103]⟩ : ByteArray))) else (none)) else (none)) else (none)))) else (some (⟨#[]⟩ : ByteArray))) = some r := H
  have A2 := Aside0.mk A20
  clear A20
  by_cases c3 : t102 = true
  · subst c3
    have H1 : ((strconv_FormatInt.f a0 16).bind fun t103 => ((strings_Repeat.f (⟨#[48]⟩ : ByteArray) (wrap64 (8 - (t103.size : Int)))).bind fun t104 => (if 1 + t104.size ≤ 9223372036854775807 then (if 1 + t104.size + t103.size ≤ 9223372036854775807 then (if 1 + t104.size + t103.size + 4 ≤ 9223372036854775807 then (some ((((⟨#[115]⟩ : ByteArray) ++ t104) ++ t103) ++ (⟨#[46, 115, 101, 103]⟩ : ByteArray))) else (none)) else (none)) else (none)))) = some r := by rw [if_pos rfl] at H; exact H
    clear H
    have H := H1
    clear H1
    replace H := Option.bind_eq_some_iff.mp H
    obtain ⟨t103, A40, H⟩ := H
    replace H : ((strings_Repeat.f (⟨#[48]⟩ : ByteArray) (wrap64 (8 - (t103.size : Int)))).bind fun t104 => (if 1 + t104.size ≤ 9223372036854775807 then (if 1 + t104.size + t103.size ≤ 9223372036854775807 then (if 1 + t104.size + t103.size + 4 ≤ 9223372036854775807 then (some ((((⟨#[115]⟩ : ByteArray) ++ t104) ++ t103) ++ (⟨#[46, 115, 101, 103]⟩ : ByteArray))) else (none)) else (none)) else (none))) = some r := H
    have A4 := Aside0.mk A40
    clear A40
    replace H := Option.bind_eq_some_iff.mp H
    obtain ⟨t104, A50, H⟩ := H
    replace H : (if 1 + t104.size ≤ 9223372036854775807 then (if 1 + t104.size + t103.size ≤ 9223372036854775807 then (if 1 + t104.size + t103.size + 4 ≤ 9223372036854775807 then (some ((((⟨#[115]⟩ : ByteArray) ++ t104) ++ t103) ++ (⟨#[46, 115, 101, 103]⟩ : ByteArray))) else (none)) else (none)) else (none)) = some r := H
    have A5 := Aside0.mk A50
    clear A50
    by_cases c6 : 1 + t104.size ≤ 9223372036854775807
    · rw [if_pos c6] at H
      have c6b0 := eq_true c6
      have c6b1 : decide (1 + t104.size ≤ 9223372036854775807) = true := decide_eq_true c6
      try have c6b2 : (9223372036854775807 < 1 + t104.size) = False := eq_false (Nat.not_lt.2 c6)
      by_cases c7 : 1 + t104.size + t103.size ≤ 9223372036854775807
      · rw [if_pos c7] at H
        have c7b0 := eq_true c7
        have c7b1 : decide (1 + t104.size + t103.size ≤ 9223372036854775807) = true := decide_eq_true c7
        try have c7b2 : (9223372036854775807 < 1 + t104.size + t103.size) = False := eq_false (Nat.not_lt.2 c7)
        by_cases c8 : 1 + t104.size + t103.size + 4 ≤ 9223372036854775807
        · rw [if_pos c8] at H
          have c8b0 := eq_true c8
          have c8b1 : decide (1 + t104.size + t103.size + 4 ≤ 9223372036854775807) = true := decide_eq_true c8
          try have c8b2 : (9223372036854775807 < 1 + t104.size + t103.size + 4) = False := eq_false (Nat.not_lt.2 c8)
          obtain rfl := Option.some.inj H
          go_enter Tryd.func14, Tryd.ntmps14
          go_wp2_with (first | ((with_reducible refine gate_callee (f := 35) rfl ?_); refine goesL_ (some 5) rfl rfl Tryd.func35 (by kernel_rfl) rfl #[.int .i64 a0] rfl (by (try simp only [List.map_toArray, List.map_cons, List.map_nil]); first | done | rfl | (simp only [List.length_drop, List.length_take]; rfl) | (go_simp; done) | (go_simp; unfold wrap64; (repeat (first | with_reducible rfl | omega | congr 1)); done)) ?_; (with_reducible refine (impl_isNumber.calls a0 true _ A2.out).mono ?_); rintro e w' ⟨rfl, ⟨nd, rfl⟩⟩; refine ⟨_, rfl, ?_⟩) | ((with_reducible refine gate_callee (f := 36) rfl ?_); refine goesL_ (some 8) rfl rfl Tryd.func36 (by kernel_rfl) rfl #[.int .i64 a0, .int .i64 16] rfl (by (try simp only [List.map_toArray, List.map_cons, List.map_nil]); first | done | rfl | (simp only [List.length_drop, List.length_take]; rfl) | (go_simp; done) | (go_simp; unfold wrap64; (repeat (first | with_reducible rfl | omega | congr 1)); done)) ?_; (with_reducible refine (strconv_FormatInt.calls a0 16 t103 _ ?side1 A4.out).mono ?_); (case side1 => first | exact HTD.out | exact TabsD.below HTD.out (by repeat (first | (with_reducible first | exact HB.out | apply below_alloc | apply pw_below_drewN | apply below_drew1) | exact HB.out))); rintro e w9 ⟨rfl, hb⟩; refine ⟨_, rfl, ?_⟩; have n0_ := Aside0.mk (below_step (by repeat (first | (with_reducible first | exact HB.out | apply below_alloc | apply pw_below_drewN | apply below_drew1) | exact HB.out)) hb); clear HB; have HB := n0_; clear n0_; (try clear hb); (try clear hb2); (try clear hk); (try clear hi)) | ((with_reducible refine gate_callee (f := 37) rfl ?_); refine goesL_ (some 12) rfl rfl Tryd.func37 (by kernel_rfl) rfl #[.string (⟨#[48]⟩ : ByteArray), .int .i64 (wrap64 (8 - (t103.size : Int)))] rfl (by (try simp only [List.map_toArray, List.map_cons, List.map_nil]); first | done | rfl | (simp only [List.length_drop, List.length_take]; rfl) | (go_simp; done) | (go_simp; unfold wrap64; (repeat (first | with_reducible rfl | omega | congr 1)); done)) ?_; (with_reducible refine (strings_Repeat.calls (⟨#[48]⟩ : ByteArray) (wrap64 (8 - (t103.size : Int))) t104 _ A5.out).mono ?_); rintro e w10 ⟨rfl, hb⟩; refine ⟨_, rfl, ?_⟩; have n0_ := Aside0.mk (below_step (by repeat (first | (with_reducible first | exact HB.out | apply below_alloc | apply pw_below_drewN | apply below_drew1) | exact HB.out)) hb); clear HB; have HB := n0_; clear n0_; (try clear hb); (try clear hb2); (try clear hk); (try clear hi)))
          all_goals (first | go_ret | (exfalso; simp only [decide_eq_true_eq, decide_eq_false_iff_not] at *; omega))
          all_goals exact ⟨by first | rfl | (simp [errW_none, errW_some] <;> rfl) | (simp [*, errW_none, errW_some] <;> rfl) | (exfalso; simp only [decide_eq_true_eq, decide_eq_false_iff_not] at *; omega), by repeat (first | (with_reducible first | exact HB.out | apply below_alloc | apply pw_below_drewN | apply below_drew1) | exact HB.out)⟩
        · rw [if_neg c8] at H
          exact absurd H (by simp)
      · rw [if_neg c7] at H
        exact absurd H (by simp)
    · rw [if_neg c6] at H
      exact absurd H (by simp)
  · replace c3 := Bool.eq_false_iff.mpr c3
    subst c3
    have H1 : (some (⟨#[]⟩ : ByteArray)) = some r := by rw [if_neg (show ¬ (false = true) by decide)] at H; exact H
    clear H
    have H := H1
    clear H1
    obtain rfl := Option.some.inj H
    go_enter Tryd.func14, Tryd.ntmps14
    go_wp2_with (first | ((with_reducible refine gate_callee (f := 35) rfl ?_); refine goesL_ (some 5) rfl rfl Tryd.func35 (by kernel_rfl) rfl #[.int .i64 a0] rfl (by (try simp only [List.map_toArray, List.map_cons, List.map_nil]); first | done | rfl | (simp only [List.length_drop, List.length_take]; rfl) | (go_simp; done) | (go_simp; unfold wrap64; (repeat (first | with_reducible rfl | omega | congr 1)); done)) ?_; (with_reducible refine (impl_isNumber.calls a0 false _ A2.out).mono ?_); rintro e w' ⟨rfl, ⟨nd, rfl⟩⟩; refine ⟨_, rfl, ?_⟩))
    all_goals (first | go_ret | (exfalso; simp only [decide_eq_true_eq, decide_eq_false_iff_not] at *; omega))
    all_goals exact ⟨by first | rfl | (simp [errW_none, errW_some] <;> rfl) | (simp [*, errW_none, errW_some] <;> rfl) | (exfalso; simp only [decide_eq_true_eq, decide_eq_false_iff_not] at *; omega), by repeat (first | (with_reducible first | exact HB.out | apply below_alloc | apply pw_below_drewN | apply below_drew1) | exact HB.out)⟩

/-! ### impl_NextName: function 16 -/
def impl_NextName.f (a0 : Int) (a1 : Int) : Option (ByteArray) := (impl_isNumber.f a0).bind fun t105 => (if t105 = true then ((impl_isNumber.f a1).bind fun t106 => (if t106 = true then ((impl_SegmentName.f (wrap64 (a0 + a1))).bind fun t107 => (some t107)) else (some (⟨#[]⟩ : ByteArray)))) else (some (⟨#[]⟩ : ByteArray)))
set_option maxHeartbeats 8000000 in
set_option maxRecDepth 100000 in
theorem impl_NextName.calls (a0 : Int) (a1 : Int) (r : ByteArray) (w : World) (hTD : TabsD w) (h : impl_NextName.f a0 a1 = some r) :
    Calls Tryd.prog 16 #[.int .i64 a0, .int .i64 a1] w fun e w' => e = .returned (.string r) ∧ Below w.heap.size w w' := by
  have HTD := Aside0.mk hTD
  clear hTD
  have HB := Aside0.mk (Below.refl w.heap.size w)
  have H : ((impl_isNumber.f a0).bind fun t105 => (if t105 = true then ((impl_isNumber.f a1).bind fun t106 => (if t106 = true then ((impl_SegmentName.f (wrap64 (a0 + a1))).bind fun t107 => (some t107)) else (some (⟨#[]⟩ : ByteArray)))) else (some (⟨#[]⟩ : ByteArray)))) = some r := h
  clear h
  replace H := Option.bind_eq_some_iff.mp H
  obtain ⟨t105, A30, H⟩ := H
  replace H : (if t105 = true then ((impl_isNumber.f a1).bind fun t106 => (if t106 = true then ((impl_SegmentName.f (wrap64 (a0 + a1))).bind fun t107 => (some t107)) else (some (⟨#[]⟩ : ByteArray)))) else (some (⟨#[]⟩ : ByteArray))) = some r := H
  have A3 := Aside0.mk A30
  clear A30
  by_cases c4 : t105 = true
  · subst c4
    have H1 : ((impl_isNumber.f a1).bind fun t106 => (if t106 = true then ((impl_SegmentName.f (wrap64 (a0 + a1))).bind fun t107 => (some t107)) else (some (⟨#[]⟩ : ByteArray)))) = some r := by rw [if_pos rfl] at H; exact H
    clear H
    have H := H1
    clear H1
    replace H := Option.bind_eq_some_iff.mp H
    obtain ⟨t106, A50, H⟩ := H
    replace H : (if t106 = true then ((impl_SegmentName.f (wrap64 (a0 + a1))).bind fun t107 => (some t107)) else (some (⟨#[]⟩ : ByteArray))) = some r := H
    have A5 := Aside0.mk A50
    clear A50
    by_cases c6 : t106 = true
    · subst c6
      have H1 : ((impl_SegmentName.f (wrap64 (a0 + a1))).bind fun t107 => (some t107)) = some r := by rw [if_pos rfl] at H; exact H
      clear H
      have H := H1
      clear H1
      replace H := Option.bind_eq_some_iff.mp H
      obtain ⟨t107, A70, H⟩ := H
      replace H : (some t107) = some r := H
      have A7 := Aside0.mk A70
      clear A70
      obtain rfl := Option.some.inj H
      go_enter Tryd.func16, Tryd.ntmps16
      go_wp2_with (first | ((with_reducible refine gate_callee (f := 35) rfl ?_); refine goesL_ (some 6) rfl rfl Tryd.func35 (by kernel_rfl) rfl #[.int .i64 a0] rfl (by (try simp only [List.map_toArray, List.map_cons, List.map_nil]); first | done | rfl | (simp only [List.length_drop, List.length_take]; rfl) | (go_simp; done) | (go_simp; unfold wrap64; (repeat (first | with_reducible rfl | omega | congr 1)); done)) ?_; (with_reducible refine (impl_isNumber.calls a0 true _ A3.out).mono ?_); rintro e w' ⟨rfl, ⟨nd, rfl⟩⟩; refine ⟨_, rfl, ?_⟩) | (go_at_call 35; (with_reducible refine (impl_isNumber.calls a1 true _ A5.out).mono ?_); rintro e w' ⟨rfl, ⟨nd, rfl⟩⟩) | ((with_reducible refine gate_callee (f := 14) rfl ?_); refine goesL_ (some 16) rfl rfl Tryd.func14 (by kernel_rfl) rfl #[.int .i64 (wrap64 (a0 + a1))] rfl (by (try simp only [List.map_toArray, List.map_cons, List.map_nil]); first | done | rfl | (simp only [List.length_drop, List.length_take]; rfl) | (go_simp; done) | (go_simp; unfold wrap64; (repeat (first | with_reducible rfl | omega | congr 1)); done)) ?_; (with_reducible refine (impl_SegmentName.calls (wrap64 (a0 + a1)) t107 _ ?side1 A7.out).mono ?_); (case side1 => first | exact HTD.out | exact TabsD.below HTD.out (by repeat (first | (with_reducible first | exact HB.out | apply below_alloc | apply pw_below_drewN | apply below_drew1) | exact HB.out))); rintro e w8 ⟨rfl, hb⟩; refine ⟨_, rfl, ?_⟩; have n0_ := Aside0.mk (below_step (by repeat (first | (with_reducible first | exact HB.out | apply below_alloc | apply pw_below_drewN | apply below_drew1) | exact HB.out)) hb); clear HB; have HB := n0_; clear n0_; (try clear hb); (try clear hb2); (try clear hk); (try clear hi)))
      all_goals (first | go_ret | (exfalso; simp only [decide_eq_true_eq, decide_eq_false_iff_not] at *; omega))
      all_goals exact ⟨by first | rfl | (simp [errW_none, errW_some] <;> rfl) | (simp [*, errW_none, errW_some] <;> rfl) | (exfalso; simp only [decide_eq_true_eq, decide_eq_false_iff_not] at *; omega), by repeat (first | (with_reducible first | exact HB.out | apply below_alloc | apply pw_below_drewN | apply below_drew1) | exact HB.out)⟩
    · replace c6 := Bool.eq_false_iff.mpr c6
      subst c6
      have H1 : (some (⟨#[]⟩ : ByteArray)) = some r := by rw [if_neg (show ¬ (false = true) by decide)] at H; exact H
      clear H
      have H := H1
      clear H1
      obtain rfl := Option.some.inj H
      go_enter Tryd.func16, Tryd.ntmps16
      go_wp2_with (first | ((with_reducible refine gate_callee (f := 35) rfl ?_); refine goesL_ (some 6) rfl rfl Tryd.func35 (by kernel_rfl) rfl #[.int .i64 a0] rfl (by (try simp only [List.map_toArray, List.map_cons, List.map_nil]); first | done | rfl | (simp only [List.length_drop, List.length_take]; rfl) | (go_simp; done) | (go_simp; unfold wrap64; (repeat (first | with_reducible rfl | omega | congr 1)); done)) ?_; (with_reducible refine (impl_isNumber.calls a0 true _ A3.out).mono ?_); rintro e w' ⟨rfl, ⟨nd, rfl⟩⟩; refine ⟨_, rfl, ?_⟩) | (go_at_call 35; (with_reducible refine (impl_isNumber.calls a1 false _ A5.out).mono ?_); rintro e w' ⟨rfl, ⟨nd, rfl⟩⟩))
      all_goals (first | go_ret | (exfalso; simp only [decide_eq_true_eq, decide_eq_false_iff_not] at *; omega))
      all_goals exact ⟨by first | rfl | (simp [errW_none, errW_some] <;> rfl) | (simp [*, errW_none, errW_some] <;> rfl) | (exfalso; simp only [decide_eq_true_eq, decide_eq_false_iff_not] at *; omega), by repeat (first | (with_reducible first | exact HB.out | apply below_alloc | apply pw_below_drewN | apply below_drew1) | exact HB.out)⟩
  · replace c4 := Bool.eq_false_iff.mpr c4
    subst c4
    have H1 : (some (⟨#[]⟩ : ByteArray)) = some r := by rw [if_neg (show ¬ (false = true) by decide)] at H; exact H
    clear H
    have H := H1
    clear H1
    obtain rfl := Option.some.inj H
    go_enter Tryd.func16, Tryd.ntmps16
    go_wp2_with (first | ((with_reducible refine gate_callee (f := 35) rfl ?_); refine goesL_ (some 6) rfl rfl Tryd.func35 (by kernel_rfl) rfl #[.int .i64 a0] rfl (by (try simp only [List.map_toArray, List.map_cons, List.map_nil]); first | done | rfl | (simp only [List.length_drop, List.length_take]; rfl) | (go_simp; done) | (go_simp; unfold wrap64; (repeat (first | with_reducible rfl | omega | congr 1)); done)) ?_; (with_reducible refine (impl_isNumber.calls a0 false _ A3.out).mono ?_); rintro e w' ⟨rfl, ⟨nd, rfl⟩⟩; refine ⟨_, rfl, ?_⟩))
    all_goals (first | go_ret | (exfalso; simp only [decide_eq_true_eq, decide_eq_false_iff_not] at *; omega))
    all_goals exact ⟨by first | rfl | (simp [errW_none, errW_some] <;> rfl) | (simp [*, errW_none, errW_some] <;> rfl) | (exfalso; simp only [decide_eq_true_eq, decide_eq_false_iff_not] at *; omega), by repeat (first | (with_reducible first | exact HB.out | apply below_alloc | apply pw_below_drewN | apply below_drew1) | exact HB.out)⟩

/-! ### impl_TempName: function 18 -/
def impl_TempName.f (a0 : Int) : Option (ByteArray) := (impl_isNumber.f a0).bind fun t108 => (if t108 = true then ((impl_SegmentName.f a0).bind fun t109 => (if t109.size + 4 ≤ 9223372036854775807 then (some (t109 ++ (⟨#[46, 116, 109, 112]⟩ : ByteArray))) else (none))) else (some (⟨#[]⟩ : ByteArray)))
set_option maxHeartbeats 8000000 in
set_option maxRecDepth 100000 in
theorem impl_TempName.calls (a0 : Int) (r : ByteArray) (w : World) (hTD : TabsD w) (h : impl_TempName.f a0 = some r) :
    Calls Tryd.prog 18 #[.int .i64 a0] w fun e w' => e = .returned (.string r) ∧ Below w.heap.size w w' := by
  have HTD := Aside0.mk hTD
  clear hTD
  have HB := Aside0.mk (Below.refl w.heap.size w)
  have H : ((impl_isNumber.f a0).bind fun t108 => (if t108 = true then ((impl_SegmentName.f a0).bind fun t109 => (if t109.size + 4 ≤ 9223372036854775807 then (some (t109 ++ (⟨#[46, 116, 109, 112]⟩ : ByteArray))) else (none))) else (some (⟨#[]⟩ : ByteArray)))) = some r := h
  clear h
  replace H := Option.bind_eq_some_iff.mp H
  obtain ⟨t108, A20, H⟩ := H
  replace H : (if t108 = true then ((impl_SegmentName.f a0).bind fun t109 => (if t109.size + 4 ≤ 9223372036854775807 then (some (t109 ++ (⟨#[46, 116, 109, 112]⟩ : ByteArray))) else (none))) else (some (⟨#[]⟩ : ByteArray))) = some r := H
  have A2 := Aside0.mk A20
  clear A20
  by_cases c3 : t108 = true
  · subst c3
    have H1 : ((impl_SegmentName.f a0).bind fun t109 => (if t109.size + 4 ≤ 9223372036854775807 then (some (t109 ++ (⟨#[46, 116, 109, 112]⟩ : ByteArray))) else (none))) = some r := by rw [if_pos rfl] at H; exact H
    clear H
    have H := H1
    clear H1
    replace H := Option.bind_eq_some_iff.mp H
    obtain ⟨t109, A40, H⟩ := H
    replace H : (if t109.size + 4 ≤ 9223372036854775807 then (some (t109 ++ (⟨#[46, 116, 109, 112]⟩ : ByteArray))) else (none)) = some r := H
    have A4 := Aside0.mk A40
    clear A40
    by_cases c5 : t109.size + 4 ≤ 9223372036854775807
    · rw [if_pos c5] at H
      have c5b0 := eq_true c5
      have c5b1 : decide (t109.size + 4 ≤ 9223372036854775807) = true := decide_eq_true c5
      try have c5b2 : (9223372036854775807 < t109.size + 4) = False := eq_false (Nat.not_lt.2 c5)
      obtain rfl := Option.some.inj H
      go_enter Tryd.func18, Tryd.ntmps18
      go_wp2_with (first | ((with_reducible refine gate_callee (f := 35) rfl ?_); refine goesL_ (some 4) rfl rfl Tryd.func35 (by kernel_rfl) rfl #[.int .i64 a0] rfl (by (try simp only [List.map_toArray, List.map_cons, List.map_nil]); first | done | rfl | (simp only [List.length_drop, List.length_take]; rfl) | (go_simp; done) | (go_simp; unfold wrap64; (repeat (first | with_reducible rfl | omega | congr 1)); done)) ?_; (with_reducible refine (impl_isNumber.calls a0 true _ A2.out).mono ?_); rintro e w' ⟨rfl, ⟨nd, rfl⟩⟩; refine ⟨_, rfl, ?_⟩) | ((with_reducible refine gate_callee (f := 14) rfl ?_); refine goesL_ (some 7) rfl rfl Tryd.func14 (by kernel_rfl) rfl #[.int .i64 a0] rfl (by (try simp only [List.map_toArray, List.map_cons, List.map_nil]); first | done | rfl | (simp only [List.length_drop, List.length_take]; rfl) | (go_simp; done) | (go_simp; unfold wrap64; (repeat (first | with_reducible rfl | omega | congr 1)); done)) ?_; (with_reducible refine (impl_SegmentName.calls a0 t109 _ ?side1 A4.out).mono ?_); (case side1 => first | exact HTD.out | exact TabsD.below HTD.out (by repeat (first | (with_reducible first | exact HB.out | apply below_alloc | apply pw_below_drewN | apply below_drew1) | exact HB.out))); rintro e w6 ⟨rfl, hb⟩; refine ⟨_, rfl, ?_⟩; have n0_ := Aside0.mk (below_step (by repeat (first | (with_reducible first | exact HB.out | apply below_alloc | apply pw_below_drewN | apply below_drew1) | exact HB.out)) hb); clear HB; have HB := n0_; clear n0_; (try clear hb); (try clear hb2); (try clear hk); (try clear hi)))
      all_goals (first | go_ret | (exfalso; simp only [decide_eq_true_eq, decide_eq_false_iff_not] at *; omega))
      all_goals exact ⟨by first | rfl | (simp [errW_none, errW_some] <;> rfl) | (simp [*, errW_none, errW_some] <;> rfl) | (exfalso; simp only [decide_eq_true_eq, decide_eq_false_iff_not] at *; omega), by repeat (first | (with_reducible first | exact HB.out | apply below_alloc | apply pw_below_drewN | apply below_drew1) | exact HB.out)⟩
    · rw [if_neg c5] at H
      exact absurd H (by simp)
  · replace c3 := Bool.eq_false_iff.mpr c3
    subst c3
    have H1 : (some (⟨#[]⟩ : ByteArray)) = some r := by rw [if_neg (show ¬ (false = true) by decide)] at H; exact H
    clear H
    have H := H1
    clear H1
    obtain rfl := Option.some.inj H
    go_enter Tryd.func18, Tryd.ntmps18
    go_wp2_with (first | ((with_reducible refine gate_callee (f := 35) rfl ?_); refine goesL_ (some 4) rfl rfl Tryd.func35 (by kernel_rfl) rfl #[.int .i64 a0] rfl (by (try simp only [List.map_toArray, List.map_cons, List.map_nil]); first | done | rfl | (simp only [List.length_drop, List.length_take]; rfl) | (go_simp; done) | (go_simp; unfold wrap64; (repeat (first | with_reducible rfl | omega | congr 1)); done)) ?_; (with_reducible refine (impl_isNumber.calls a0 false _ A2.out).mono ?_); rintro e w' ⟨rfl, ⟨nd, rfl⟩⟩; refine ⟨_, rfl, ?_⟩))
    all_goals (first | go_ret | (exfalso; simp only [decide_eq_true_eq, decide_eq_false_iff_not] at *; omega))
    all_goals exact ⟨by first | rfl | (simp [errW_none, errW_some] <;> rfl) | (simp [*, errW_none, errW_some] <;> rfl) | (exfalso; simp only [decide_eq_true_eq, decide_eq_false_iff_not] at *; omega), by repeat (first | (with_reducible first | exact HB.out | apply below_alloc | apply pw_below_drewN | apply below_drew1) | exact HB.out)⟩

/-! ### laws_big: function 21 -/
def laws_big.f (l0 : List Int) : Option (Bool) := some (decide ((l0.length : Int) > 1048576))
set_option maxHeartbeats 8000000 in
set_option maxRecDepth 100000 in
theorem laws_big.calls (A0 : Option Addr) (c0 : Nat) (l0 : List Int) (r : Bool) (w : World) (hr0 : Kd.C (Kd.int .u8) w A0 l0.length l0) (hc0 : l0.length ≤ c0) (h : laws_big.f l0 = some r) :
    Calls Tryd.prog 21 #[.slice A0 l0.length c0] w fun e w' => e = .returned (.bool r) ∧ Drawn0 w w' := by
  have HR0 := Aside0.mk hr0
  have HC0 := Aside0.mk hc0
  clear hr0 hc0
  have H : (some (decide ((l0.length : Int) > 1048576))) = some r := h
  clear h
  obtain rfl := Option.some.inj H
  go_enter Tryd.func21, Tryd.ntmps21
  go_wp2
  all_goals (first | go_ret | (exfalso; simp only [decide_eq_true_eq, decide_eq_false_iff_not] at *; omega))
  exact ⟨by first | rfl | (simp; done) | (simp [*]; done), by repeat (first | exact Drawn0.refl _ | apply Drawn0.step)⟩

/-! ### spec_l01In: function 34 -/
def spec_l01In.f (a0 : Int) (a1 : Int) (a2 : Int) : Option (Bool) := if a0 ≥ a1 then (some (decide (a0 ≤ a2))) else (some false)
set_option maxHeartbeats 8000000 in
set_option maxRecDepth 100000 in
theorem spec_l01In.calls (a0 : Int) (a1 : Int) (a2 : Int) (r : Bool) (w : World) (h : spec_l01In.f a0 a1 a2 = some r) :
    Calls Tryd.prog 34 #[.int .i64 a0, .int .i64 a1, .int .i64 a2] w fun e w' => e = .returned (.bool r) ∧ Drawn0 w w' := by
  have H : (if a0 ≥ a1 then (some (decide (a0 ≤ a2))) else (some false)) = some r := h
  clear h
  by_cases c4 : a0 ≥ a1
  · rw [if_pos c4] at H
    have c4b0 : decide (a1 ≤ a0) = true := decide_eq_true c4
    clear c4
    obtain rfl := Option.some.inj H
    go_enter Tryd.func34, Tryd.ntmps34
    go_wp2
    all_goals (first | go_ret | (exfalso; simp only [decide_eq_true_eq, decide_eq_false_iff_not] at *; omega))
    exact ⟨by first | rfl | (simp; done) | (simp [*]; done), by repeat (first | exact Drawn0.refl _ | apply Drawn0.step)⟩
  · rw [if_neg c4] at H
    have c4b0 : decide (a1 ≤ a0) = false := decide_eq_false c4
    clear c4
    obtain rfl := Option.some.inj H
    go_enter Tryd.func34, Tryd.ntmps34
    go_wp2
    all_goals (first | go_ret | (exfalso; simp only [decide_eq_true_eq, decide_eq_false_iff_not] at *; omega))
    exact ⟨by first | rfl | (simp; done) | (simp [*]; done), by repeat (first | exact Drawn0.refl _ | apply Drawn0.step)⟩

/-! ### spec_SegmentName: function 13 -/
def spec_SegmentName.l0 : Nat → Int → List Int → Int → Option (ByteArray)
  | 0, _, _, _ => none
  | k + 1, x0, x3, x4 => if x4 ≥ 0 then (if 0 ≤ (IntKind.u64.wrap (wrap64 (4 * x4))) then (if 0 ≤ (Go.bits .and .i64 (shr .i64 x0 (IntKind.u64.wrap (wrap64 (4 * x4)))) 15) then (if (Go.bits .and .i64 (shr .i64 x0 (IntKind.u64.wrap (wrap64 (4 * x4)))) 15) < 16 then (if x3.length < 140737488355328 then (spec_SegmentName.l0 k x0 (x3 ++ [bt (⟨#[48, 49, 50, 51, 52, 53, 54, 55, 56, 57, 97, 98, 99, 100, 101, 102]⟩ : ByteArray) (Go.bits .and .i64 (shr .i64 x0 (IntKind.u64.wrap (wrap64 (4 * x4)))) 15)]) (wrap64 (x4 - 1))) else (none)) else (none)) else (none)) else (none)) else (if 1 + (strOfNums x3).size ≤ 9223372036854775807 then (if 1 + (strOfNums x3).size + 4 ≤ 9223372036854775807 then (some (((⟨#[115]⟩ : ByteArray) ++ (strOfNums x3)) ++ (⟨#[46, 115, 101, 103]⟩ : ByteArray))) else (none)) else (none))
def spec_SegmentName.f (k : Nat) (a0 : Int) : Option (ByteArray) := (spec_l01In.f a0 0 1000000000).bind fun t110 => (if t110 = true then (spec_SegmentName.l0 k a0 (([] : List Int)) 7) else (some (⟨#[]⟩ : ByteArray)))
theorem spec_SegmentName.mono_l : ∀ k, (∀ y0 y1 y2, LeO (spec_SegmentName.l0 k y0 y1 y2) (spec_SegmentName.l0 (k + 1) y0 y1 y2))
  | 0 => fun _ _ _ r h => by simp [spec_SegmentName.l0] at h
  | k + 1 => by
    have ih0 := spec_SegmentName.mono_l k
    · intro y0 y1 y2
      unfold spec_SegmentName.l0
      repeat' first
      | (with_reducible exact ih0 _ _ _)
      | (with_reducible exact LeO.refl _)
      | (with_reducible exact LeO.none _)
      | (with_reducible refine LeO.ite ?_ ?_)
      | (with_reducible refine LeO.bind ?_ (fun _ => ?_))
      | exact ih0 _ _ _
      | exact LeO.none _
      | refine LeO.ite ?_ ?_
      | refine LeO.bind ?_ (fun _ => ?_)
theorem spec_SegmentName.mono : ∀ a0 k, LeO (spec_SegmentName.f k a0) (spec_SegmentName.f (k + 1) a0) := by
  intro a0 k
  have ih0 := spec_SegmentName.mono_l k
  unfold spec_SegmentName.f
  repeat' first
      | (with_reducible exact ih0 _ _ _)
      | (with_reducible exact LeO.refl _)
      | (with_reducible exact LeO.none _)
      | (with_reducible refine LeO.ite ?_ ?_)
      | (with_reducible refine LeO.bind ?_ (fun _ => ?_))
      | exact ih0 _ _ _
      | exact LeO.none _
      | refine LeO.ite ?_ ?_
      | refine LeO.bind ?_ (fun _ => ?_)
set_option maxHeartbeats 8000000 in
set_option maxRecDepth 100000 in
theorem spec_SegmentName.calls (k : Nat) (a0 : Int) (r : ByteArray) (w : World) (h : spec_SegmentName.f k a0 = some r) :
    Calls Tryd.prog 13 #[.int .i64 a0] w fun e w' => e = .returned (.string r) ∧ Below w.heap.size w w' := by
  have HB := Aside0.mk (Below.refl w.heap.size w)
  have H : ((spec_l01In.f a0 0 1000000000).bind fun t110 => (if t110 = true then (spec_SegmentName.l0 k a0 (([] : List Int)) 7) else (some (⟨#[]⟩ : ByteArray)))) = some r := h
  clear h
  replace H := Option.bind_eq_some_iff.mp H
  obtain ⟨t110, A20, H⟩ := H
  replace H : (if t110 = true then (spec_SegmentName.l0 k a0 (([] : List Int)) 7) else (some (⟨#[]⟩ : ByteArray))) = some r := H
  have A2 := Aside0.mk A20
  clear A20
  by_cases c3 : t110 = true
  · subst c3
    have H1 : (spec_SegmentName.l0 k a0 (([] : List Int)) 7) = some r := by rw [if_pos rfl] at H; exact H
    clear H
    have H := H1
    clear H1
    obtain ⟨y111, hy111⟩ : ∃ y_ : List Int, y_ = (([] : List Int)) := ⟨_, rfl⟩
    replace H : (spec_SegmentName.l0 k a0 y111 7) = some r := by first | (rw [hy111]; with_reducible exact H) | (have H2_ := (Option.bind_some _ _).symm.trans H; rw [hy111]; with_reducible exact H2_) | (have H2_ := (Option.bind_some _ _).symm.trans H; with_reducible exact H2_) | with_reducible exact H | (rw [hy111]; exact H) | exact H
    have Ny111 := Aside0.mk hy111
    clear hy111
    have H' := Aside0.mk H
    clear H
    go_enter Tryd.func13, Tryd.ntmps13
    go_wp2_with (first | ((with_reducible refine gate_callee (f := 34) rfl ?_); refine goesL_ (some 6) rfl rfl Tryd.func34 (by kernel_rfl) rfl #[.int .i64 a0, .int .i64 0, .int .i64 1000000000] rfl (by (try simp only [List.map_toArray, List.map_cons, List.map_nil]); first | done | rfl | (simp only [List.length_drop, List.length_take]; rfl) | (go_simp; done) | (go_simp; unfold wrap64; (repeat (first | with_reducible rfl | omega | congr 1)); done)) ?_; (with_reducible refine (spec_l01In.calls a0 0 1000000000 true _ A2.out).mono ?_); rintro e w' ⟨rfl, ⟨nd, rfl⟩⟩; refine ⟨_, rfl, ?_⟩) | ((with_reducible refine gate_dst (N := 8) rfl ?_); refine Kd.R_lit (Kd.int .u8) _ 5 ?hg (N := 8) ?hd (xs := ([] : List Int)) (inner := []) (ok := fun _ => True) (okp := fun _ => True) ?hr ?hp (fun _ hk => hk) trivial (Below.refl _ _) (Nat.le_refl _) (by simp) ?_; (case hd => rfl); (case hg => rfl); (case hr => first | (go_simp; done) | (go_simp; rfl) | (simp only [ByteArray.size_append, Int.natCast_add]; go_simp; done) | (simp only [ByteArray.size_append, Int.natCast_add]; go_simp; unfold wrap64; (repeat (first | with_reducible rfl | omega | congr 1)); done)); (case hp => exact (Reps.none _ _)); intro v112 w4 ho5 hb hg_ hnew_; clear hg_ hnew_; (first | rw [← Ny111.out] at ho5 | (simp only [Int.reduceToNat] at ho5; rw [← Ny111.out] at ho5)); have n0_ := Aside0.mk (Kd.R_lower ho5 (below_size (by repeat (first | (with_reducible first | exact HB.out | apply below_alloc | apply pw_below_drewN | apply below_drew1) | exact HB.out)))); have n1_ := Aside0.mk (below_step (by repeat (first | (with_reducible first | exact HB.out | apply below_alloc | apply pw_below_drewN | apply below_drew1) | exact HB.out)) hb); clear HB; have HO113 := n0_; have HB := n1_; clear n0_ n1_; clear hb ho5))
    go_loopg [3, 4] k (fun kq v3 v4 w' => ∃ (x3_1 : List Int) (x4_1 : Int), v4 = .int .i64 x4_1 ∧ Aside0 (spec_SegmentName.l0 kq a0 x3_1 x4_1 = some r) ∧ Aside0 (kq ≤ k) ∧ Aside0 (Kd.R (Kd.int .u8) 5 w' w.heap.size (fun _ => True) v3 x3_1) ∧ Aside0 (Below w.heap.size w w'))
    case atStart => exact ⟨(y111), (7), (by first | rfl | (simp; done) | (simp [*]; done)), H', ⟨Nat.le_refl _⟩, ⟨by (with_reducible repeat (first | apply Kd.R_alloc | apply Kd.R_drewN | apply Kd.R_drew)); exact HO113.out⟩, ⟨by repeat (first | (with_reducible first | exact HB.out | apply below_alloc | apply pw_below_drewN | apply below_drew1) | exact HB.out)⟩⟩
    case round =>
      clear H'
      try clear c1
      try clear p2
      try clear c3
      obtain ⟨x3_1, x4_1, rfl, HA, HK1, HO_3, HB⟩ := hrel
      cases gk with
      | zero => exact absurd HA.out (by simp [spec_SegmentName.l0])
      | succ k1 =>
        have H := HA.out
        clear HA
        simp only [spec_SegmentName.l0] at H
        by_cases c6 : x4_1 ≥ 0
        · rw [if_pos c6] at H
          have c6b0 : decide (0 ≤ x4_1) = true := decide_eq_true c6
          clear c6
          obtain ⟨ji7, hji7⟩ : ∃ j_ : Int, (IntKind.u64.wrap (wrap64 (4 * x4_1))) = j_ := ⟨_, rfl⟩
          replace H : (if 0 ≤ (ji7) then (if 0 ≤ (Go.bits .and .i64 (shr .i64 a0 (ji7)) 15) then (if (Go.bits .and .i64 (shr .i64 a0 (ji7)) 15) < 16 then (if x3_1.length < 140737488355328 then (spec_SegmentName.l0 k1 a0 (x3_1 ++ [bt (⟨#[48, 49, 50, 51, 52, 53, 54, 55, 56, 57, 97, 98, 99, 100, 101, 102]⟩ : ByteArray) (Go.bits .and .i64 (shr .i64 a0 (ji7)) 15)]) (wrap64 (x4_1 - 1))) else (none)) else (none)) else (none)) else (none)) = some r := by first | (rw [hji7] at H; exact H) | (simp only [hji7] at H ⊢; exact H)
          by_cases c8 : 0 ≤ (ji7)
          · rw [if_pos c8] at H
            have c8b0 := eq_true c8
            have c8b1 : decide (0 ≤ (ji7)) = true := decide_eq_true c8
            clear c8
            obtain ⟨ji9, hji9⟩ : ∃ j_ : Int, (shr .i64 a0 (ji7)) = j_ := ⟨_, rfl⟩
            replace H : (if 0 ≤ (Go.bits .and .i64 (ji9) 15) then (if (Go.bits .and .i64 (ji9) 15) < 16 then (if x3_1.length < 140737488355328 then (spec_SegmentName.l0 k1 a0 (x3_1 ++ [bt (⟨#[48, 49, 50, 51, 52, 53, 54, 55, 56, 57, 97, 98, 99, 100, 101, 102]⟩ : ByteArray) (Go.bits .and .i64 (ji9) 15)]) (wrap64 (x4_1 - 1))) else (none)) else (none)) else (none)) = some r := by first | (rw [hji9] at H; exact H) | (simp only [hji9] at H ⊢; exact H)
            have hji9_ : (a0 / 2 ^ min (ji7).toNat 64) = ji9 := hji9
            have hji9z : (ji7) ≤ 64 → (a0 / 2 ^ (ji7).toNat) = ji9 := shr_small hji9
            by_cases c10 : 0 ≤ (Go.bits .and .i64 (ji9) 15)
            · rw [if_pos c10] at H
              have c10b0 : decide (0 ≤ (Go.bits .and .i64 (ji9) 15)) = true := decide_eq_true c10
              clear c10
              by_cases c11 : (Go.bits .and .i64 (ji9) 15) < 16
              · rw [if_pos c11] at H
                have c11b0 : decide ((Go.bits .and .i64 (ji9) 15) < 16) = true := decide_eq_true c11
                clear c11
                by_cases c13 : x3_1.length < 140737488355328
                · rw [if_pos c13] at H
                  have LMc13 := Aside0.mk c13
                  clear c13
                  obtain ⟨y114, hy114⟩ : ∃ y_ : List Int, y_ = (x3_1 ++ [bt (⟨#[48, 49, 50, 51, 52, 53, 54, 55, 56, 57, 97, 98, 99, 100, 101, 102]⟩ : ByteArray) (Go.bits .and .i64 (ji9) 15)]) := ⟨_, rfl⟩
                  replace H : (spec_SegmentName.l0 k1 a0 y114 (wrap64 (x4_1 - 1))) = some r := by first | (rw [hy114]; with_reducible exact H) | (have H2_ := (Option.bind_some _ _).symm.trans H; rw [hy114]; with_reducible exact H2_) | (have H2_ := (Option.bind_some _ _).symm.trans H; with_reducible exact H2_) | with_reducible exact H | (rw [hy114]; exact H) | exact H
                  have Ny114 := Aside0.mk hy114
                  clear hy114
                  have H' := Aside0.mk H
                  clear H
                  have p12 : 0 ≤ ((Go.bits .and .i64 (ji9) 15) : Int) := of_decide_eq_true (by first | (with_reducible assumption) | assumption)
                  have q12 : (Go.bits .and .i64 (ji9) 15) < (16 : Int) := of_decide_eq_true (by first | (with_reducible assumption) | assumption)
                  have hx12 := bt_at (⟨#[48, 49, 50, 51, 52, 53, 54, 55, 56, 57, 97, 98, 99, 100, 101, 102]⟩ : ByteArray) (Go.bits .and .i64 (ji9) 15)
                  replace p12 := eq_true p12
                  replace q12 := eq_true q12
                  go_wp2_with (first | ((with_reducible refine gate_builtin (b := .append) (xs := #[.tmp 13, .tmp 21]) rfl ?_); at_builtin; refine Kd.R_append (Kd.int .u8) (w0 := w) w.heap.size rfl (.tmp 13) (.tmp 21) 29 5 (.int .u8 0) 1 rfl Tryd.underlying29 info5 rfl (by decide) (by omega) u3 x3_1 (bt (⟨#[48, 49, 50, 51, 52, 53, 54, 55, 56, 57, 97, 98, 99, 100, 101, 102]⟩ : ByteArray) (Go.bits .and .i64 (ji9) 15)) [.int .u8 (bt (⟨#[48, 49, 50, 51, 52, 53, 54, 55, 56, 57, 97, 98, 99, 100, 101, 102]⟩ : ByteArray) (Go.bits .and .i64 (ji9) 15))] (fun _ => True) (fun _ => False) rfl rfl ?aP (fun _ hk => hk.elim) ?aF ?aO ?aB ?aS ?aL ?_; (case aP => exact rfl); (case aB => exact (by repeat (first | (with_reducible first | exact HB.out | apply below_alloc | apply pw_below_drewN | apply below_drew1) | exact HB.out))); (case aF => exact (fun _ _ => trivial)); (case aO => exact (by (with_reducible repeat (first | apply Kd.R_alloc | apply Kd.R_drewN | apply Kd.R_drew)); exact HO_3.out)); (case aS => exact (below_size (by repeat (first | (with_reducible first | exact HB.out | apply below_alloc | apply pw_below_drewN | apply below_drew1) | exact HB.out)))); (case aL => have := LMc13.out; omega); intro v115 w14 ho hb hg hat; rw [← Ny114.out] at ho; have n0_ := Aside0.mk (hb); have n1_ := Aside0.mk (ho); clear HB; clear HO_3; have HB := n0_; have HO116 := n1_; clear n0_ n1_; clear ho hb hg hat))
                  go_roundg k1
                  case measure => have := HK1.out; omega
                  case rel => exact ⟨(y114), (wrap64 (x4_1 - 1)), (by first | rfl | (simp; done) | (simp [*]; done)), H', ⟨by have := HK1.out; omega⟩, ⟨by (with_reducible repeat (first | apply Kd.R_alloc | apply Kd.R_drewN | apply Kd.R_drew)); exact HO116.out⟩, ⟨by repeat (first | (with_reducible first | exact HB.out | apply below_alloc | apply pw_below_drewN | apply below_drew1) | exact HB.out)⟩⟩
                · rw [if_neg c13] at H
                  exact absurd H (by simp)
              · rw [if_neg c11] at H
                exact absurd H (by simp)
            · rw [if_neg c10] at H
              exact absurd H (by simp)
          · rw [if_neg c8] at H
            exact absurd H (by simp)
        · rw [if_neg c6] at H
          have c6b0 : decide (0 ≤ x4_1) = false := decide_eq_false c6
          clear c6
          by_cases c15 : 1 + (strOfNums x3_1).size ≤ 9223372036854775807
          · rw [if_pos c15] at H
            have c15b0 := eq_true c15
            have c15b1 : decide (1 + (strOfNums x3_1).size ≤ 9223372036854775807) = true := decide_eq_true c15
            try have c15b2 : (9223372036854775807 < 1 + (strOfNums x3_1).size) = False := eq_false (Nat.not_lt.2 c15)
            by_cases c16 : 1 + (strOfNums x3_1).size + 4 ≤ 9223372036854775807
            · rw [if_pos c16] at H
              have c16b0 := eq_true c16
              have c16b1 : decide (1 + (strOfNums x3_1).size + 4 ≤ 9223372036854775807) = true := decide_eq_true c16
              try have c16b2 : (9223372036854775807 < 1 + (strOfNums x3_1).size + 4) = False := eq_false (Nat.not_lt.2 c16)
              obtain rfl := Option.some.inj H
              have hcv17 := own_string (P := Tryd.prog) Tryd.underlying29 Tryd.underlying5 Tryd.underlying9 (Kd.own_of_R HO_3.out)
              go_wp2
              all_goals (first | go_ret | (exfalso; simp only [decide_eq_true_eq, decide_eq_false_iff_not] at *; omega))
              all_goals exact ⟨by first | rfl | (simp [errW_none, errW_some] <;> rfl) | (simp [*, errW_none, errW_some] <;> rfl) | (exfalso; simp only [decide_eq_true_eq, decide_eq_false_iff_not] at *; omega), by repeat (first | (with_reducible first | exact HB.out | apply below_alloc | apply pw_below_drewN | apply below_drew1) | exact HB.out)⟩
            · rw [if_neg c16] at H
              exact absurd H (by simp)
          · rw [if_neg c15] at H
            exact absurd H (by simp)
  · replace c3 := Bool.eq_false_iff.mpr c3
    subst c3
    have H1 : (some (⟨#[]⟩ : ByteArray)) = some r := by rw [if_neg (show ¬ (false = true) by decide)] at H; exact H
    clear H
    have H := H1
    clear H1
    obtain rfl := Option.some.inj H
    go_enter Tryd.func13, Tryd.ntmps13
    go_wp2_with (first | ((with_reducible refine gate_callee (f := 34) rfl ?_); refine goesL_ (some 6) rfl rfl Tryd.func34 (by kernel_rfl) rfl #[.int .i64 a0, .int .i64 0, .int .i64 1000000000] rfl (by (try simp only [List.map_toArray, List.map_cons, List.map_nil]); first | done | rfl | (simp only [List.length_drop, List.length_take]; rfl) | (go_simp; done) | (go_simp; unfold wrap64; (repeat (first | with_reducible rfl | omega | congr 1)); done)) ?_; (with_reducible refine (spec_l01In.calls a0 0 1000000000 false _ A2.out).mono ?_); rintro e w' ⟨rfl, ⟨nd, rfl⟩⟩; refine ⟨_, rfl, ?_⟩))
    all_goals (first | go_ret | (exfalso; simp only [decide_eq_true_eq, decide_eq_false_iff_not] at *; omega))
    all_goals exact ⟨by first | rfl | (simp [errW_none, errW_some] <;> rfl) | (simp [*, errW_none, errW_some] <;> rfl) | (exfalso; simp only [decide_eq_true_eq, decide_eq_false_iff_not] at *; omega), by repeat (first | (with_reducible first | exact HB.out | apply below_alloc | apply pw_below_drewN | apply below_drew1) | exact HB.out)⟩

/-! ### spec_TempName: function 17 -/
def spec_TempName.f (k : Nat) (a0 : Int) : Option (ByteArray) := (spec_SegmentName.f k a0).bind fun t117 => (if t117.toList = ([] : List UInt8) then (some (⟨#[]⟩ : ByteArray)) else (if t117.size + 4 ≤ 9223372036854775807 then (some (t117 ++ (⟨#[46, 116, 109, 112]⟩ : ByteArray))) else (none)))
theorem spec_TempName.mono : ∀ a0 k, LeO (spec_TempName.f k a0) (spec_TempName.f (k + 1) a0) := by
  intro a0 k
  unfold spec_TempName.f
  repeat' first
      | (with_reducible exact spec_SegmentName.mono _ _)
      | (with_reducible exact LeO.refl _)
      | (with_reducible exact LeO.none _)
      | (with_reducible refine LeO.ite ?_ ?_)
      | (with_reducible refine LeO.bind ?_ (fun _ => ?_))
      | exact spec_SegmentName.mono _ _
      | exact LeO.none _
      | refine LeO.ite ?_ ?_
      | refine LeO.bind ?_ (fun _ => ?_)
set_option maxHeartbeats 8000000 in
set_option maxRecDepth 100000 in
theorem spec_TempName.calls (k : Nat) (a0 : Int) (r : ByteArray) (w : World) (h : spec_TempName.f k a0 = some r) :
    Calls Tryd.prog 17 #[.int .i64 a0] w fun e w' => e = .returned (.string r) ∧ Below w.heap.size w w' := by
  have HB := Aside0.mk (Below.refl w.heap.size w)
  have H : ((spec_SegmentName.f k a0).bind fun t117 => (if t117.toList = ([] : List UInt8) then (some (⟨#[]⟩ : ByteArray)) else (if t117.size + 4 ≤ 9223372036854775807 then (some (t117 ++ (⟨#[46, 116, 109, 112]⟩ : ByteArray))) else (none)))) = some r := h
  clear h
  replace H := Option.bind_eq_some_iff.mp H
  obtain ⟨t117, A20, H⟩ := H
  replace H : (if t117.toList = ([] : List UInt8) then (some (⟨#[]⟩ : ByteArray)) else (if t117.size + 4 ≤ 9223372036854775807 then (some (t117 ++ (⟨#[46, 116, 109, 112]⟩ : ByteArray))) else (none))) = some r := H
  have A2 := Aside0.mk A20
  clear A20
  by_cases c3 : t117.toList = ([] : List UInt8)
  · rw [if_pos c3] at H
    have c3b0 : (t117.toList == ([] : List UInt8)) = true := beq_iff_eq.mpr c3
    have c3b1 : (t117.toList != ([] : List UInt8)) = false := bne_eq_false_iff_eq.mpr c3
    clear c3
    obtain rfl := Option.some.inj H
    go_enter Tryd.func17, Tryd.ntmps17
    go_wp2_with (first | ((with_reducible refine gate_callee (f := 13) rfl ?_); refine goesL_ (some 5) rfl rfl Tryd.func13 (by kernel_rfl) rfl #[.int .i64 a0] rfl (by (try simp only [List.map_toArray, List.map_cons, List.map_nil]); first | done | rfl | (simp only [List.length_drop, List.length_take]; rfl) | (go_simp; done) | (go_simp; unfold wrap64; (repeat (first | with_reducible rfl | omega | congr 1)); done)) ?_; (with_reducible refine (spec_SegmentName.calls k a0 t117 _ A2.out).mono ?_); rintro e w4 ⟨rfl, hb⟩; refine ⟨_, rfl, ?_⟩; have n0_ := Aside0.mk (below_step (by repeat (first | (with_reducible first | exact HB.out | apply below_alloc | apply pw_below_drewN | apply below_drew1) | exact HB.out)) hb); clear HB; have HB := n0_; clear n0_; (try clear hb); (try clear hb2); (try clear hk); (try clear hi)))
    all_goals (first | go_ret | (exfalso; simp only [decide_eq_true_eq, decide_eq_false_iff_not] at *; omega))
    all_goals exact ⟨by first | rfl | (simp [errW_none, errW_some] <;> rfl) | (simp [*, errW_none, errW_some] <;> rfl) | (exfalso; simp only [decide_eq_true_eq, decide_eq_false_iff_not] at *; omega), by repeat (first | (with_reducible first | exact HB.out | apply below_alloc | apply pw_below_drewN | apply below_drew1) | exact HB.out)⟩
  · rw [if_neg c3] at H
    have c3b0 : (t117.toList == ([] : List UInt8)) = false := beq_eq_false_iff_ne.mpr c3
    have c3b1 : (t117.toList != ([] : List UInt8)) = true := bne_iff_ne.mpr c3
    by_cases c5 : t117.size + 4 ≤ 9223372036854775807
    · rw [if_pos c5] at H
      have c5b0 := eq_true c5
      have c5b1 : decide (t117.size + 4 ≤ 9223372036854775807) = true := decide_eq_true c5
      try have c5b2 : (9223372036854775807 < t117.size + 4) = False := eq_false (Nat.not_lt.2 c5)
      obtain rfl := Option.some.inj H
      go_enter Tryd.func17, Tryd.ntmps17
      go_wp2_with (first | ((with_reducible refine gate_callee (f := 13) rfl ?_); refine goesL_ (some 5) rfl rfl Tryd.func13 (by kernel_rfl) rfl #[.int .i64 a0] rfl (by (try simp only [List.map_toArray, List.map_cons, List.map_nil]); first | done | rfl | (simp only [List.length_drop, List.length_take]; rfl) | (go_simp; done) | (go_simp; unfold wrap64; (repeat (first | with_reducible rfl | omega | congr 1)); done)) ?_; (with_reducible refine (spec_SegmentName.calls k a0 t117 _ A2.out).mono ?_); rintro e w6 ⟨rfl, hb⟩; refine ⟨_, rfl, ?_⟩; have n0_ := Aside0.mk (below_step (by repeat (first | (with_reducible first | exact HB.out | apply below_alloc | apply pw_below_drewN | apply below_drew1) | exact HB.out)) hb); clear HB; have HB := n0_; clear n0_; (try clear hb); (try clear hb2); (try clear hk); (try clear hi)))
      all_goals (first | go_ret | (exfalso; simp only [decide_eq_true_eq, decide_eq_false_iff_not] at *; omega))
      all_goals exact ⟨by first | rfl | (simp [errW_none, errW_some] <;> rfl) | (simp [*, errW_none, errW_some] <;> rfl) | (exfalso; simp only [decide_eq_true_eq, decide_eq_false_iff_not] at *; omega), by repeat (first | (with_reducible first | exact HB.out | apply below_alloc | apply pw_below_drewN | apply below_drew1) | exact HB.out)⟩
    · rw [if_neg c5] at H
      exact absurd H (by simp)

/-! ### spec_ReadName: function 26 -/
def spec_ReadName.l0 : Nat → ByteArray → Int → Int → Option (Int × Int)
  | 0, _, _, _ => none
  | k + 1, x0, x4, x5 => if x5 < 9 then (if 0 ≤ x5 then (if x5 < (x0.size : Int) then ((spec_l01In.f (wrap64 (bt x0 x5)) 48 57).bind fun t119 => (if t119 = true then (spec_ReadName.l0 k x0 (wrap64 ((wrap64 ((wrap64 (16 * x4)) + (wrap64 (bt x0 x5)))) - 48)) (wrap64 (x5 + 1))) else ((spec_l01In.f (wrap64 (bt x0 x5)) 97 102).bind fun t120 => (if t120 = true then (spec_ReadName.l0 k x0 (wrap64 ((wrap64 ((wrap64 (16 * x4)) + (wrap64 (bt x0 x5)))) - 87)) (wrap64 (x5 + 1))) else (some (0, 0)))))) else (none)) else (none)) else ((spec_SegmentName.f k x4).bind fun t121 => (if t121.toList = x0.toList then (some (1, x4)) else ((spec_TempName.f k x4).bind fun t122 => (if t122.toList = x0.toList then (some (2, x4)) else (some (0, 0))))))
def spec_ReadName.f (k : Nat) (a0 : ByteArray) : Option (Int × Int) := (spec_l01In.f (a0.size : Int) 13 17).bind fun t118 => (if t118 = true then (spec_ReadName.l0 k a0 0 1) else (some (0, 0)))
theorem spec_ReadName.mono_l : ∀ k, (∀ y0 y1 y2, LeO (spec_ReadName.l0 k y0 y1 y2) (spec_ReadName.l0 (k + 1) y0 y1 y2))
  | 0 => fun _ _ _ r h => by simp [spec_ReadName.l0] at h
  | k + 1 => by
    have ih0 := spec_ReadName.mono_l k
    · intro y0 y1 y2
      unfold spec_ReadName.l0
      repeat' first
      | (with_reducible exact ih0 _ _ _)
      | (with_reducible exact spec_SegmentName.mono _ _)
      | (with_reducible exact spec_TempName.mono _ _)
      | (with_reducible exact LeO.refl _)
      | (with_reducible exact LeO.none _)
      | (with_reducible refine LeO.ite ?_ ?_)
      | (with_reducible refine LeO.bind ?_ (fun _ => ?_))
      | exact ih0 _ _ _
      | exact spec_SegmentName.mono _ _
      | exact spec_TempName.mono _ _
      | exact LeO.none _
      | refine LeO.ite ?_ ?_
      | refine LeO.bind ?_ (fun _ => ?_)
theorem spec_ReadName.mono : ∀ a0 k, LeO (spec_ReadName.f k a0) (spec_ReadName.f (k + 1) a0) := by
  intro a0 k
  have ih0 := spec_ReadName.mono_l k
  unfold spec_ReadName.f
  repeat' first
      | (with_reducible exact ih0 _ _ _)
      | (with_reducible exact spec_SegmentName.mono _ _)
      | (with_reducible exact spec_TempName.mono _ _)
      | (with_reducible exact LeO.refl _)
      | (with_reducible exact LeO.none _)
      | (with_reducible refine LeO.ite ?_ ?_)
      | (with_reducible refine LeO.bind ?_ (fun _ => ?_))
      | exact ih0 _ _ _
      | exact spec_SegmentName.mono _ _
      | exact spec_TempName.mono _ _
      | exact LeO.none _
      | refine LeO.ite ?_ ?_
      | refine LeO.bind ?_ (fun _ => ?_)
set_option maxHeartbeats 8000000 in
set_option maxRecDepth 100000 in
theorem spec_ReadName.calls (k : Nat) (a0 : ByteArray) (r1 : Int) (r2 : Int) (w : World) (h : spec_ReadName.f k a0 = some (r1, r2)) :
    Calls Tryd.prog 26 #[.string a0] w fun e w' => e = .returned (.tuple #[.int .i64 r1, .int .i64 r2]) ∧ Below w.heap.size w w' := by
  have HB := Aside0.mk (Below.refl w.heap.size w)
  have H : ((spec_l01In.f (a0.size : Int) 13 17).bind fun t118 => (if t118 = true then (spec_ReadName.l0 k a0 0 1) else (some (0, 0)))) = some (r1, r2) := h
  clear h
  replace H := Option.bind_eq_some_iff.mp H
  obtain ⟨t118, A20, H⟩ := H
  replace H : (if t118 = true then (spec_ReadName.l0 k a0 0 1) else (some (0, 0))) = some (r1, r2) := H
  have A2 := Aside0.mk A20
  clear A20
  by_cases c3 : t118 = true
  · subst c3
    have H1 : (spec_ReadName.l0 k a0 0 1) = some (r1, r2) := by rw [if_pos rfl] at H; exact H
    clear H
    have H := H1
    clear H1
    have H' := Aside0.mk H
    clear H
    go_enter Tryd.func26, Tryd.ntmps26
    go_wp2_with (first | ((with_reducible refine gate_callee (f := 34) rfl ?_); refine goesL_ (some 9) rfl rfl Tryd.func34 (by kernel_rfl) rfl #[.int .i64 (a0.size : Int), .int .i64 13, .int .i64 17] rfl (by (try simp only [List.map_toArray, List.map_cons, List.map_nil]); first | done | rfl | (simp only [List.length_drop, List.length_take]; rfl) | (go_simp; done) | (go_simp; unfold wrap64; (repeat (first | with_reducible rfl | omega | congr 1)); done)) ?_; (with_reducible refine (spec_l01In.calls (a0.size : Int) 13 17 true _ A2.out).mono ?_); rintro e w' ⟨rfl, ⟨nd, rfl⟩⟩; refine ⟨_, rfl, ?_⟩))
    go_loopg [4, 5] k (fun kq v4 v5 w' => ∃ (x4_1 : Int) (x5_1 : Int), v4 = .int .i64 x4_1 ∧ v5 = .int .i64 x5_1 ∧ Aside0 (spec_ReadName.l0 kq a0 x4_1 x5_1 = some (r1, r2)) ∧ Aside0 (kq ≤ k) ∧ Aside0 (Below w.heap.size w w'))
    case atStart => exact ⟨(0), (1), (by first | rfl | (simp; done) | (simp [*]; done)), (by first | rfl | (simp; done) | (simp [*]; done)), H', ⟨Nat.le_refl _⟩, ⟨by repeat (first | (with_reducible first | exact HB.out | apply below_alloc | apply pw_below_drewN | apply below_drew1) | exact HB.out)⟩⟩
    case round =>
      clear H'
      try clear c2
      try clear p2
      try clear c3
      obtain ⟨x4_1, x5_1, rfl, rfl, HA, HK1, HB⟩ := hrel
      cases gk with
      | zero => exact absurd HA.out (by simp [spec_ReadName.l0])
      | succ k1 =>
        have H := HA.out
        clear HA
        simp only [spec_ReadName.l0] at H
        by_cases c4 : x5_1 < 9
        · rw [if_pos c4] at H
          have c4b0 : decide (x5_1 < 9) = true := decide_eq_true c4
          clear c4
          by_cases c5 : 0 ≤ x5_1
          · rw [if_pos c5] at H
            have c5b0 : decide (0 ≤ x5_1) = true := decide_eq_true c5
            clear c5
            by_cases c6 : x5_1 < (a0.size : Int)
            · rw [if_pos c6] at H
              have c6b0 : decide (x5_1 < (a0.size : Int)) = true := decide_eq_true c6
              clear c6
              replace H := Option.bind_eq_some_iff.mp H
              obtain ⟨t119, A80, H⟩ := H
              replace H : (if t119 = true then (spec_ReadName.l0 k1 a0 (wrap64 ((wrap64 ((wrap64 (16 * x4_1)) + (wrap64 (bt a0 x5_1)))) - 48)) (wrap64 (x5_1 + 1))) else ((spec_l01In.f (wrap64 (bt a0 x5_1)) 97 102).bind fun t120 => (if t120 = true then (spec_ReadName.l0 k1 a0 (wrap64 ((wrap64 ((wrap64 (16 * x4_1)) + (wrap64 (bt a0 x5_1)))) - 87)) (wrap64 (x5_1 + 1))) else (some (0, 0))))) = some (r1, r2) := H
              have A8 := Aside0.mk A80
              clear A80
              by_cases c9 : t119 = true
              · subst c9
                have H1 : (spec_ReadName.l0 k1 a0 (wrap64 ((wrap64 ((wrap64 (16 * x4_1)) + (wrap64 (bt a0 x5_1)))) - 48)) (wrap64 (x5_1 + 1))) = some (r1, r2) := by rw [if_pos rfl] at H; exact H
                clear H
                have H := H1
                clear H1
                have H' := Aside0.mk H
                clear H
                have p7 : 0 ≤ (x5_1 : Int) := of_decide_eq_true (by first | (with_reducible assumption) | assumption)
                have q7 : x5_1 < (a0.size : Int) := of_decide_eq_true (by first | (with_reducible assumption) | assumption)
                have hx7 := bt_at a0 x5_1
                replace p7 := eq_true p7
                replace q7 := eq_true q7
                go_wp2_with (first | ((with_reducible refine gate_callee (f := 34) rfl ?_); refine goesL_ (some 21) rfl rfl Tryd.func34 (by kernel_rfl) rfl #[.int .i64 (wrap64 (bt a0 x5_1)), .int .i64 48, .int .i64 57] rfl (by (try simp only [List.map_toArray, List.map_cons, List.map_nil]); first | done | rfl | (simp only [List.length_drop, List.length_take]; rfl) | (go_simp; done) | (go_simp; unfold wrap64; (repeat (first | with_reducible rfl | omega | congr 1)); done)) ?_; (with_reducible refine (spec_l01In.calls (wrap64 (bt a0 x5_1)) 48 57 true _ A8.out).mono ?_); rintro e w' ⟨rfl, ⟨nd, rfl⟩⟩; refine ⟨_, rfl, ?_⟩))
                go_roundg k1
                case measure => have := HK1.out; omega
                case rel => exact ⟨(wrap64 ((wrap64 ((wrap64 (16 * x4_1)) + (wrap64 (bt a0 x5_1)))) - 48)), (wrap64 (x5_1 + 1)), (by first | rfl | (simp; done) | (simp [*]; done)), (by first | rfl | (simp; done) | (simp [*]; done)), H', ⟨by have := HK1.out; omega⟩, ⟨by repeat (first | (with_reducible first | exact HB.out | apply below_alloc | apply pw_below_drewN | apply below_drew1) | exact HB.out)⟩⟩
              · replace c9 := Bool.eq_false_iff.mpr c9
                subst c9
                have H1 : ((spec_l01In.f (wrap64 (bt a0 x5_1)) 97 102).bind fun t120 => (if t120 = true then (spec_ReadName.l0 k1 a0 (wrap64 ((wrap64 ((wrap64 (16 * x4_1)) + (wrap64 (bt a0 x5_1)))) - 87)) (wrap64 (x5_1 + 1))) else (some (0, 0)))) = some (r1, r2) := by rw [if_neg (show ¬ (false = true) by decide)] at H; exact H
                clear H
                have H := H1
                clear H1
                replace H := Option.bind_eq_some_iff.mp H
                obtain ⟨t120, A100, H⟩ := H
                replace H : (if t120 = true then (spec_ReadName.l0 k1 a0 (wrap64 ((wrap64 ((wrap64 (16 * x4_1)) + (wrap64 (bt a0 x5_1)))) - 87)) (wrap64 (x5_1 + 1))) else (some (0, 0))) = some (r1, r2) := H
                have A10 := Aside0.mk A100
                clear A100
                by_cases c11 : t120 = true
                · subst c11
                  have H1 : (spec_ReadName.l0 k1 a0 (wrap64 ((wrap64 ((wrap64 (16 * x4_1)) + (wrap64 (bt a0 x5_1)))) - 87)) (wrap64 (x5_1 + 1))) = some (r1, r2) := by rw [if_pos rfl] at H; exact H
                  clear H
                  have H := H1
                  clear H1
                  have H' := Aside0.mk H
                  clear H
                  have p7 : 0 ≤ (x5_1 : Int) := of_decide_eq_true (by first | (with_reducible assumption) | assumption)
                  have q7 : x5_1 < (a0.size : Int) := of_decide_eq_true (by first | (with_reducible assumption) | assumption)
                  have hx7 := bt_at a0 x5_1
                  replace p7 := eq_true p7
                  replace q7 := eq_true q7
                  go_wp2_with (first | ((with_reducible refine gate_callee (f := 34) rfl ?_); refine goesL_ (some 21) rfl rfl Tryd.func34 (by kernel_rfl) rfl #[.int .i64 (wrap64 (bt a0 x5_1)), .int .i64 48, .int .i64 57] rfl (by (try simp only [List.map_toArray, List.map_cons, List.map_nil]); first | done | rfl | (simp only [List.length_drop, List.length_take]; rfl) | (go_simp; done) | (go_simp; unfold wrap64; (repeat (first | with_reducible rfl | omega | congr 1)); done)) ?_; (with_reducible refine (spec_l01In.calls (wrap64 (bt a0 x5_1)) 48 57 false _ A8.out).mono ?_); rintro e w' ⟨rfl, ⟨nd, rfl⟩⟩; refine ⟨_, rfl, ?_⟩) | ((with_reducible refine gate_callee (f := 34) rfl ?_); refine goesL_ (some 29) rfl rfl Tryd.func34 (by kernel_rfl) rfl #[.int .i64 (wrap64 (bt a0 x5_1)), .int .i64 97, .int .i64 102] rfl (by (try simp only [List.map_toArray, List.map_cons, List.map_nil]); first | done | rfl | (simp only [List.length_drop, List.length_take]; rfl) | (go_simp; done) | (go_simp; unfold wrap64; (repeat (first | with_reducible rfl | omega | congr 1)); done)) ?_; (with_reducible refine (spec_l01In.calls (wrap64 (bt a0 x5_1)) 97 102 true _ A10.out).mono ?_); rintro e w' ⟨rfl, ⟨nd, rfl⟩⟩; refine ⟨_, rfl, ?_⟩))
                  go_roundg k1
                  case measure => have := HK1.out; omega
                  case rel => exact ⟨(wrap64 ((wrap64 ((wrap64 (16 * x4_1)) + (wrap64 (bt a0 x5_1)))) - 87)), (wrap64 (x5_1 + 1)), (by first | rfl | (simp; done) | (simp [*]; done)), (by first | rfl | (simp; done) | (simp [*]; done)), H', ⟨by have := HK1.out; omega⟩, ⟨by repeat (first | (with_reducible first | exact HB.out | apply below_alloc | apply pw_below_drewN | apply below_drew1) | exact HB.out)⟩⟩
                · replace c11 := Bool.eq_false_iff.mpr c11
                  subst c11
                  have H1 : (some (0, 0)) = some (r1, r2) := by rw [if_neg (show ¬ (false = true) by decide)] at H; exact H
                  clear H
                  have H := H1
                  clear H1
                  simp only [Option.some.injEq, Prod.mk.injEq] at H
                  obtain ⟨rfl, rfl⟩ := H
                  have p7 : 0 ≤ (x5_1 : Int) := of_decide_eq_true (by first | (with_reducible assumption) | assumption)
                  have q7 : x5_1 < (a0.size : Int) := of_decide_eq_true (by first | (with_reducible assumption) | assumption)
                  have hx7 := bt_at a0 x5_1
                  replace p7 := eq_true p7
                  replace q7 := eq_true q7
                  go_wp2_with (first | ((with_reducible refine gate_callee (f := 34) rfl ?_); refine goesL_ (some 21) rfl rfl Tryd.func34 (by kernel_rfl) rfl #[.int .i64 (wrap64 (bt a0 x5_1)), .int .i64 48, .int .i64 57] rfl (by (try simp only [List.map_toArray, List.map_cons, List.map_nil]); first | done | rfl | (simp only [List.length_drop, List.length_take]; rfl) | (go_simp; done) | (go_simp; unfold wrap64; (repeat (first | with_reducible rfl | omega | congr 1)); done)) ?_; (with_reducible refine (spec_l01In.calls (wrap64 (bt a0 x5_1)) 48 57 false _ A8.out).mono ?_); rintro e w' ⟨rfl, ⟨nd, rfl⟩⟩; refine ⟨_, rfl, ?_⟩) | ((with_reducible refine gate_callee (f := 34) rfl ?_); refine goesL_ (some 29) rfl rfl Tryd.func34 (by kernel_rfl) rfl #[.int .i64 (wrap64 (bt a0 x5_1)), .int .i64 97, .int .i64 102] rfl (by (try simp only [List.map_toArray, List.map_cons, List.map_nil]); first | done | rfl | (simp only [List.length_drop, List.length_take]; rfl) | (go_simp; done) | (go_simp; unfold wrap64; (repeat (first | with_reducible rfl | omega | congr 1)); done)) ?_; (with_reducible refine (spec_l01In.calls (wrap64 (bt a0 x5_1)) 97 102 false _ A10.out).mono ?_); rintro e w' ⟨rfl, ⟨nd, rfl⟩⟩; refine ⟨_, rfl, ?_⟩))
                  all_goals (first | go_ret2 | (exfalso; simp only [decide_eq_true_eq, decide_eq_false_iff_not] at *; omega))
                  all_goals exact ⟨by first | rfl | (simp [errW_none, errW_some] <;> rfl) | (simp [*, errW_none, errW_some] <;> rfl) | (exfalso; simp only [decide_eq_true_eq, decide_eq_false_iff_not] at *; omega), by repeat (first | (with_reducible first | exact HB.out | apply below_alloc | apply pw_below_drewN | apply below_drew1) | exact HB.out)⟩
            · rw [if_neg c6] at H
              exact absurd H (by simp)
          · rw [if_neg c5] at H
            exact absurd H (by simp)
        · rw [if_neg c4] at H
          have c4b0 : decide (x5_1 < 9) = false := decide_eq_false c4
          clear c4
          replace H := Option.bind_eq_some_iff.mp H
          obtain ⟨t121, A120, H⟩ := H
          replace H : (if t121.toList = a0.toList then (some (1, x4_1)) else ((spec_TempName.f k1 x4_1).bind fun t122 => (if t122.toList = a0.toList then (some (2, x4_1)) else (some (0, 0))))) = some (r1, r2) := H
          have A12 := Aside0.mk A120
          clear A120
          by_cases c13 : t121.toList = a0.toList
          · rw [if_pos c13] at H
            have c13b0 : (t121.toList == a0.toList) = true := beq_iff_eq.mpr c13
            have c13b1 : (t121.toList != a0.toList) = false := bne_eq_false_iff_eq.mpr c13
            clear c13
            simp only [Option.some.injEq, Prod.mk.injEq] at H
            obtain ⟨rfl, rfl⟩ := H
            go_wp2_with (first | ((with_reducible refine gate_callee (f := 13) rfl ?_); refine goesL_ (some 36) rfl rfl Tryd.func13 (by kernel_rfl) rfl #[.int .i64 x4_1] rfl (by (try simp only [List.map_toArray, List.map_cons, List.map_nil]); first | done | rfl | (simp only [List.length_drop, List.length_take]; rfl) | (go_simp; done) | (go_simp; unfold wrap64; (repeat (first | with_reducible rfl | omega | congr 1)); done)) ?_; (with_reducible refine (spec_SegmentName.calls k1 x4_1 t121 _ A12.out).mono ?_); rintro e w14 ⟨rfl, hb⟩; refine ⟨_, rfl, ?_⟩; have n0_ := Aside0.mk (below_step (by repeat (first | (with_reducible first | exact HB.out | apply below_alloc | apply pw_below_drewN | apply below_drew1) | exact HB.out)) hb); clear HB; have HB := n0_; clear n0_; (try clear hb); (try clear hb2); (try clear hk); (try clear hi)))
            all_goals (first | go_ret2 | (exfalso; simp only [decide_eq_true_eq, decide_eq_false_iff_not] at *; omega))
            all_goals exact ⟨by first | rfl | (simp [errW_none, errW_some] <;> rfl) | (simp [*, errW_none, errW_some] <;> rfl) | (exfalso; simp only [decide_eq_true_eq, decide_eq_false_iff_not] at *; omega), by repeat (first | (with_reducible first | exact HB.out | apply below_alloc | apply pw_below_drewN | apply below_drew1) | exact HB.out)⟩
          · rw [if_neg c13] at H
            have c13b0 : (t121.toList == a0.toList) = false := beq_eq_false_iff_ne.mpr c13
            have c13b1 : (t121.toList != a0.toList) = true := bne_iff_ne.mpr c13
            replace H := Option.bind_eq_some_iff.mp H
            obtain ⟨t122, A150, H⟩ := H
            replace H : (if t122.toList = a0.toList then (some (2, x4_1)) else (some (0, 0))) = some (r1, r2) := H
            have A15 := Aside0.mk A150
            clear A150
            by_cases c16 : t122.toList = a0.toList
            · rw [if_pos c16] at H
              have c16b0 : (t122.toList == a0.toList) = true := beq_iff_eq.mpr c16
              have c16b1 : (t122.toList != a0.toList) = false := bne_eq_false_iff_eq.mpr c16
              clear c16
              simp only [Option.some.injEq, Prod.mk.injEq] at H
              obtain ⟨rfl, rfl⟩ := H
              go_wp2_with (first | ((with_reducible refine gate_callee (f := 13) rfl ?_); refine goesL_ (some 36) rfl rfl Tryd.func13 (by kernel_rfl) rfl #[.int .i64 x4_1] rfl (by (try simp only [List.map_toArray, List.map_cons, List.map_nil]); first | done | rfl | (simp only [List.length_drop, List.length_take]; rfl) | (go_simp; done) | (go_simp; unfold wrap64; (repeat (first | with_reducible rfl | omega | congr 1)); done)) ?_; (with_reducible refine (spec_SegmentName.calls k1 x4_1 t121 _ A12.out).mono ?_); rintro e w17 ⟨rfl, hb⟩; refine ⟨_, rfl, ?_⟩; have n0_ := Aside0.mk (below_step (by repeat (first | (with_reducible first | exact HB.out | apply below_alloc | apply pw_below_drewN | apply below_drew1) | exact HB.out)) hb); clear HB; have HB := n0_; clear n0_; (try clear hb); (try clear hb2); (try clear hk); (try clear hi)) | ((with_reducible refine gate_callee (f := 17) rfl ?_); refine goesL_ (some 41) rfl rfl Tryd.func17 (by kernel_rfl) rfl #[.int .i64 x4_1] rfl (by (try simp only [List.map_toArray, List.map_cons, List.map_nil]); first | done | rfl | (simp only [List.length_drop, List.length_take]; rfl) | (go_simp; done) | (go_simp; unfold wrap64; (repeat (first | with_reducible rfl | omega | congr 1)); done)) ?_; (with_reducible refine (spec_TempName.calls k1 x4_1 t122 _ A15.out).mono ?_); rintro e w18 ⟨rfl, hb⟩; refine ⟨_, rfl, ?_⟩; have n0_ := Aside0.mk (below_step (by repeat (first | (with_reducible first | exact HB.out | apply below_alloc | apply pw_below_drewN | apply below_drew1) | exact HB.out)) hb); clear HB; have HB := n0_; clear n0_; (try clear hb); (try clear hb2); (try clear hk); (try clear hi)))
              all_goals (first | go_ret2 | (exfalso; simp only [decide_eq_true_eq, decide_eq_false_iff_not] at *; omega))
              all_goals exact ⟨by first | rfl | (simp [errW_none, errW_some] <;> rfl) | (simp [*, errW_none, errW_some] <;> rfl) | (exfalso; simp only [decide_eq_true_eq, decide_eq_false_iff_not] at *; omega), by repeat (first | (with_reducible first | exact HB.out | apply below_alloc | apply pw_below_drewN | apply below_drew1) | exact HB.out)⟩
            · rw [if_neg c16] at H
              have c16b0 : (t122.toList == a0.toList) = false := beq_eq_false_iff_ne.mpr c16
              have c16b1 : (t122.toList != a0.toList) = true := bne_iff_ne.mpr c16
              simp only [Option.some.injEq, Prod.mk.injEq] at H
              obtain ⟨rfl, rfl⟩ := H
              go_wp2_with (first | ((with_reducible refine gate_callee (f := 13) rfl ?_); refine goesL_ (some 36) rfl rfl Tryd.func13 (by kernel_rfl) rfl #[.int .i64 x4_1] rfl (by (try simp only [List.map_toArray, List.map_cons, List.map_nil]); first | done | rfl | (simp only [List.length_drop, List.length_take]; rfl) | (go_simp; done) | (go_simp; unfold wrap64; (repeat (first | with_reducible rfl | omega | congr 1)); done)) ?_; (with_reducible refine (spec_SegmentName.calls k1 x4_1 t121 _ A12.out).mono ?_); rintro e w19 ⟨rfl, hb⟩; refine ⟨_, rfl, ?_⟩; have n0_ := Aside0.mk (below_step (by repeat (first | (with_reducible first | exact HB.out | apply below_alloc | apply pw_below_drewN | apply below_drew1) | exact HB.out)) hb); clear HB; have HB := n0_; clear n0_; (try clear hb); (try clear hb2); (try clear hk); (try clear hi)) | ((with_reducible refine gate_callee (f := 17) rfl ?_); refine goesL_ (some 41) rfl rfl Tryd.func17 (by kernel_rfl) rfl #[.int .i64 x4_1] rfl (by (try simp only [List.map_toArray, List.map_cons, List.map_nil]); first | done | rfl | (simp only [List.length_drop, List.length_take]; rfl) | (go_simp; done) | (go_simp; unfold wrap64; (repeat (first | with_reducible rfl | omega | congr 1)); done)) ?_; (with_reducible refine (spec_TempName.calls k1 x4_1 t122 _ A15.out).mono ?_); rintro e w20 ⟨rfl, hb⟩; refine ⟨_, rfl, ?_⟩; have n0_ := Aside0.mk (below_step (by repeat (first | (with_reducible first | exact HB.out | apply below_alloc | apply pw_below_drewN | apply below_drew1) | exact HB.out)) hb); clear HB; have HB := n0_; clear n0_; (try clear hb); (try clear hb2); (try clear hk); (try clear hi)))
              all_goals (first | go_ret2 | (exfalso; simp only [decide_eq_true_eq, decide_eq_false_iff_not] at *; omega))
              all_goals exact ⟨by first | rfl | (simp [errW_none, errW_some] <;> rfl) | (simp [*, errW_none, errW_some] <;> rfl) | (exfalso; simp only [decide_eq_true_eq, decide_eq_false_iff_not] at *; omega), by repeat (first | (with_reducible first | exact HB.out | apply below_alloc | apply pw_below_drewN | apply below_drew1) | exact HB.out)⟩
  · replace c3 := Bool.eq_false_iff.mpr c3
    subst c3
    have H1 : (some (0, 0)) = some (r1, r2) := by rw [if_neg (show ¬ (false = true) by decide)] at H; exact H
    clear H
    have H := H1
    clear H1
    simp only [Option.some.injEq, Prod.mk.injEq] at H
    obtain ⟨rfl, rfl⟩ := H
    go_enter Tryd.func26, Tryd.ntmps26
    go_wp2_with (first | ((with_reducible refine gate_callee (f := 34) rfl ?_); refine goesL_ (some 9) rfl rfl Tryd.func34 (by kernel_rfl) rfl #[.int .i64 (a0.size : Int), .int .i64 13, .int .i64 17] rfl (by (try simp only [List.map_toArray, List.map_cons, List.map_nil]); first | done | rfl | (simp only [List.length_drop, List.length_take]; rfl) | (go_simp; done) | (go_simp; unfold wrap64; (repeat (first | with_reducible rfl | omega | congr 1)); done)) ?_; (with_reducible refine (spec_l01In.calls (a0.size : Int) 13 17 false _ A2.out).mono ?_); rintro e w' ⟨rfl, ⟨nd, rfl⟩⟩; refine ⟨_, rfl, ?_⟩))
    all_goals (first | go_ret2 | (exfalso; simp only [decide_eq_true_eq, decide_eq_false_iff_not] at *; omega))
    all_goals exact ⟨by first | rfl | (simp [errW_none, errW_some] <;> rfl) | (simp [*, errW_none, errW_some] <;> rfl) | (exfalso; simp only [decide_eq_true_eq, decide_eq_false_iff_not] at *; omega), by repeat (first | (with_reducible first | exact HB.out | apply below_alloc | apply pw_below_drewN | apply below_drew1) | exact HB.out)⟩

end Go.Proofs.YtfnogfbmieoljaaDoor.MFnNames
