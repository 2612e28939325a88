/- Each theorem here says that a call of one Go function answers what the Lean function beside it answers; its conditions stand in it. Written by a program of this session. -/
import Derived.Test.YtbcidclclckgfaaGreatDoorMFnExactCouldFallx0
import Derived.Test.YtbcidclclckgfaaGreatDoorMFnExactCouldFallx2
import Derived.Test.YtbcidclclckgfaaGreatDoorMFnExactCouldFallx10
import Derived.Test.YtbcidclclckgfaaGreatDoorMFnExactCouldFallx13
namespace Go.Proofs.YtbcidclclckgfaaGreatDoor.MFnExactCouldFall
open Go.RowKit Go.Proofs.YtbcidclclckgfaaGreatDoorW.PrintWords Go.Proofs.YtbcidclclckgfaaGreatDoorW.PrintLast Go.Proofs.YtbcidclclckgfaaGreatDoorW.PrintMore
attribute [local go_sem] max2_int min2_int max_two min_two max_three min_three max_four min_four   -- for this text's walks alone
set_option linter.unusedVariables false
set_option linter.unusedSimpArgs false

attribute [local go_sem high] eqA59
/-! ### impl_Disk_areEntries: function 72 -/
def nmc (c : UInt8) : Bool := decide (97 ≤ c.toNat ∧ c.toNat ≤ 122) || decide (48 ≤ c.toNat ∧ c.toNat ≤ 57) || decide (c.toNat = 46) || decide (c.toNat = 45)
def nmOk (l : List UInt8) : Bool := l.all nmc && decide (1 ≤ l.length ∧ l.length ≤ 20)
theorem nmc_true {c : UInt8} (h : (97 ≤ c.toNat ∧ c.toNat ≤ 122) ∨ (48 ≤ c.toNat ∧ c.toNat ≤ 57) ∨ c.toNat = 46 ∨ c.toNat = 45) : nmc c = true := by
  unfold nmc
  rcases h with h | h | h | h <;> simp [h]
theorem nmc_false {c : UInt8} (h : c.toNat < 45 ∨ c.toNat = 47 ∨ (58 ≤ c.toNat ∧ c.toNat ≤ 96) ∨ 123 ≤ c.toNat) : nmc c = false := by
  unfold nmc
  rw [decide_eq_false (by omega), decide_eq_false (by omega), decide_eq_false (by omega), decide_eq_false (by omega)]; rfl
set_option maxHeartbeats 4000000 in
theorem nameOk_any (s : ByteArray) (hs : s.size ≤ 140737488355328) (W : World) :
    Calls Tryz.prog 102 #[.string s] W fun e w' => e = .returned (.bool (nmOk s.data.toList)) ∧ ∃ q, w' = W.drewN q := by
  have hll : s.data.toList.length = s.size := Array.length_toList
  go_enter Tryz.func102, Tryz.ntmps102
  go_wp2
  go_loopg [7] s.size (fun g v7 w' => ∃ i : Nat, i ≤ s.size ∧ s.size - i ≤ g ∧ v7 = .int .i64 i ∧ Aside0 ((s.data.toList.drop i).all nmc = s.data.toList.all nmc) ∧ ∃ m, w' = W.drewN m)
  case atStart => exact ⟨0, Nat.zero_le _, by omega, rfl, ⟨rfl⟩, 0, rfl⟩
  case round =>
    obtain ⟨i, hi, hg, rfl, A, ⟨m, rfl⟩⟩ := hrel
    by_cases hlt : i < s.size
    · have hltz : (i : Int) < (s.size : Int) := by omega
      have hx : ∀ h : i < s.size, ((s[i]'h).toNat : Int) = ((s.data.toList[i]'(by omega)).toNat : Int) := fun h => rfl
      have hd : s.data.toList.drop i = s.data.toList[i]'(by omega) :: s.data.toList.drop (i + 1) := List.drop_eq_getElem_cons (by omega)
      have A2 := A.out
      rw [hd, List.all_cons] at A2
      clear A hd
      generalize s.data.toList[i]'(by omega) = c at hx A2
      have hc256 : c.toNat < 256 := c.toNat_lt
      obtain ⟨z, hz⟩ : ∃ z : Int, z = (c.toNat : Int) := ⟨_, rfl⟩
      rw [← hz] at hx
      have A3 := Aside0.mk A2
      have HZ := Aside0.mk hz
      clear A2 hz
      have ok : ∀ h : (97 ≤ z ∧ z ≤ 122) ∨ (48 ≤ z ∧ z ≤ 57) ∨ z = 46 ∨ z = 45, Aside0 ((s.data.toList.drop (i + 1)).all nmc = s.data.toList.all nmc) := fun h => ⟨by
        have h1 := A3.out
        have h2 := HZ.out
        rwa [nmc_true (by omega), Bool.true_and] at h1⟩
      have no : ∀ h : z < 45 ∨ z = 47 ∨ (58 ≤ z ∧ z ≤ 96) ∨ 123 ≤ z, Aside0 (nmOk s.data.toList = false) := fun h => ⟨by
        have h1 := A3.out
        have h2 := HZ.out
        rw [nmc_false (by omega), Bool.false_and] at h1
        unfold nmOk
        rw [← h1, Bool.false_and]⟩
      have hz0 : 0 ≤ z ∧ z < 256 := by have := HZ.out; omega
      clear HZ A3
      rcases (show (97 ≤ z ∧ z ≤ 122) ∨ (48 ≤ z ∧ z ≤ 57) ∨ z = 46 ∨ z = 45 ∨ z < 45 ∨ z = 47 ∨ (58 ≤ z ∧ z ≤ 96) ∨ 123 ≤ z by omega) with h | h | h | h | h | h | h | h
      · have A := ok (by omega)
        clear ok no
        obtain ⟨h1, h2⟩ := h
        go_wp2
        go_roundg (s.size - (i + 1))
        case measure => omega
        case rel => exact ⟨i + 1, by omega, by omega, by go_num, A, _, rfl⟩
      · have A := ok (by omega)
        clear ok no
        obtain ⟨h1, h2⟩ := h
        go_wp2
        go_roundg (s.size - (i + 1))
        case measure => omega
        case rel => exact ⟨i + 1, by omega, by omega, by go_num, A, _, rfl⟩
      · have A := ok (by omega)
        clear ok no
        subst h
        go_wp2
        go_roundg (s.size - (i + 1))
        case measure => omega
        case rel => exact ⟨i + 1, by omega, by omega, by go_num, A, _, rfl⟩
      · have A := ok (by omega)
        clear ok no
        subst h
        go_wp2
        go_roundg (s.size - (i + 1))
        case measure => omega
        case rel => exact ⟨i + 1, by omega, by omega, by go_num, A, _, rfl⟩
      · have A := no (by omega)
        have e46 : (z == 46) = false := beq_eq_false_iff_ne.mpr (by omega)
        have e45 : (z == 45) = false := beq_eq_false_iff_ne.mpr (by omega)
        clear ok no
        go_wp2
        go_ret
        exact ⟨by rw [A.out]; rfl, _, rfl⟩
      · have A := no (by omega)
        have e46 : (z == 46) = false := beq_eq_false_iff_ne.mpr (by omega)
        have e45 : (z == 45) = false := beq_eq_false_iff_ne.mpr (by omega)
        clear ok no e46 e45
        subst h
        go_wp2
        go_ret
        exact ⟨by rw [A.out]; rfl, _, rfl⟩
      · have A := no (by omega)
        have d57 : decide (z ≤ 57) = false := decide_eq_false (by omega)
        have e46 : (z == 46) = false := beq_eq_false_iff_ne.mpr (by omega)
        have e45 : (z == 45) = false := beq_eq_false_iff_ne.mpr (by omega)
        clear ok no
        obtain ⟨h1, h2⟩ := h
        go_wp2
        go_ret
        exact ⟨by rw [A.out]; rfl, _, rfl⟩
      · have A := no (by omega)
        have d57 : decide (z ≤ 57) = false := decide_eq_false (by omega)
        have d122 : decide (z ≤ 122) = false := decide_eq_false (by omega)
        have e46 : (z == 46) = false := beq_eq_false_iff_ne.mpr (by omega)
        have e45 : (z == 45) = false := beq_eq_false_iff_ne.mpr (by omega)
        clear ok no
        go_wp2
        go_ret
        exact ⟨by rw [A.out]; rfl, _, rfl⟩
    · have hltz : ¬ (i : Int) < (s.size : Int) := by omega
      have hall : s.data.toList.all nmc = true := by rw [← A.out, List.drop_eq_nil_of_le (by omega)]; rfl
      have HALL := Aside0.mk hall
      clear hall A
      have fin : ∀ b : Bool, b = decide (1 ≤ s.size ∧ s.size ≤ 20) → b = nmOk s.data.toList := fun b hb => by unfold nmOk; rw [HALL.out, Bool.true_and, hb, hll]
      rcases (show s.size < 1 ∨ (1 ≤ s.size ∧ s.size ≤ 20) ∨ 20 < s.size by omega) with h | h | h
      · have h1 : (s.size : Int) < 1 := by omega
        have FIN := fin false (by rw [decide_eq_false (by omega)])
        clear fin
        have F := Aside0.mk FIN
        clear FIN
        go_wp2
        go_ret
        exact ⟨by rw [← F.out]; rfl, _, rfl⟩
      · have h1 : (1 : Int) ≤ s.size := by omega
        have h2 : (s.size : Int) ≤ 20 := by omega
        have FIN := fin true (by rw [decide_eq_true (by omega)])
        clear fin
        have F := Aside0.mk FIN
        clear FIN
        go_wp2
        go_ret
        exact ⟨by rw [← F.out]; rfl, _, rfl⟩
      · have h1 : (20 : Int) < s.size := by omega
        have h2 : (1 : Int) ≤ s.size := by omega
        have FIN := fin false (by rw [decide_eq_false (by omega)])
        clear fin
        have F := Aside0.mk FIN
        clear FIN
        go_wp2
        go_ret
        exact ⟨by rw [← F.out]; show Ending.returned (Value.bool (decide ((s.size : Int) ≤ 20))) = _; rw [decide_eq_false (by omega)], _, rfl⟩
def nameLe (a b : ByteArray) : Bool := Op.bytesLess a.toList b.toList || a.toList == b.toList
def entryFine (nodes : List S57) (prev : Option ByteArray) (x : S59) : Bool := (match prev with | none => true | some p => !nameLe x.f0 p) && (nmOk x.f0.data.toList && decide (0 ≤ idxOf (fun n : S57 => n.f0 == x.f1) nodes 0))
def entriesFine (nodes : List S57) : Option ByteArray → List S59 → Bool
  | _, [] => true
  | p, x :: l => entryFine nodes p x && entriesFine nodes (some x.f0) l
def impl_Disk_areEntries.f (l0_0 : List S57) (l0_1 : List S59) (l0_2 : List S59) (l0_3 : List ByteArray) (a0_4 : Int) (a0_5 : Int) (l1 : List S59) : Option Bool := if ∀ x ∈ l1, x.f0.size ≤ 140737488355328 then some (entriesFine l0_0 none l1 && decide ((l1.length : Int) ≤ 16)) else none
set_option maxHeartbeats 2000000 in
set_option maxRecDepth 100000 in
theorem impl_Disk_areEntries.calls (A0_0 : Option Addr) (c0_0 : Nat) (l0_0 : List (S57)) (A0_1 : Option Addr) (c0_1 : Nat) (l0_1 : List (S59)) (A0_2 : Option Addr) (c0_2 : Nat) (l0_2 : List (S59)) (A0_3 : Option Addr) (c0_3 : Nat) (l0_3 : List ByteArray) (a0_4 : Int) (a0_5 : Int) (A1 : Option Addr) (c1 : Nat) (l1 : List (S59)) (r : Bool) (w : World) (hr0_0 : Kd.C k57 w A0_0 l0_0.length l0_0) (hc0_0 : l0_0.length ≤ c0_0) (hr0_1 : Kd.C k59 w A0_1 l0_1.length l0_1) (hc0_1 : l0_1.length ≤ c0_1) (hr0_2 : Kd.C k59 w A0_2 l0_2.length l0_2) (hc0_2 : l0_2.length ≤ c0_2) (hr0_3 : Kd.C Kd.string w A0_3 l0_3.length l0_3) (hc0_3 : l0_3.length ≤ c0_3) (hr1 : Kd.C k59 w A1 l1.length l1) (hc1 : l1.length ≤ c1) (h : impl_Disk_areEntries.f l0_0 l0_1 l0_2 l0_3 a0_4 a0_5 l1 = some r) :
    Calls Tryz.prog 72 #[.agg #[.slice A0_0 l0_0.length c0_0, .slice A0_1 l0_1.length c0_1, .slice A0_2 l0_2.length c0_2, .slice A0_3 l0_3.length c0_3, .int .i64 a0_4, .int .i64 a0_5], .slice A1 l1.length c1] w fun e w' => e = .returned (.bool r) ∧ Below w.heap.size w w' := by
  unfold impl_Disk_areEntries.f at h
  by_cases hsz : ∀ x ∈ l1, x.f0.size ≤ 140737488355328
  · rw [if_pos hsz] at h
    obtain rfl := Option.some.inj h
    have hmax := hr1.2.1
    have HR := Aside0.mk hr1
    have HZ := Aside0.mk hsz
    have HN := Aside0.mk (fun (w1 : World) (h : Below w.heap.size w w1) (v : Int) => impl_Disk_nodeOf.calls A0_0 c0_0 l0_0 A0_1 c0_1 l0_1 A0_2 c0_2 l0_2 A0_3 c0_3 l0_3 a0_4 a0_5 v _ w1 (Kd.C_below hr0_0 h) hc0_0 (Kd.C_below hr0_1 h) hc0_1 (Kd.C_below hr0_2 h) hc0_2 (Kd.C_below hr0_3 h) hc0_3 rfl)
    clear h hsz hr1 hc1 hr0_0 hc0_0 hr0_1 hc0_1 hr0_2 hc0_2 hr0_3 hc0_3
    go_enter Tryz.func72, Tryz.ntmps72
    go_wp2_with (((with_reducible refine gate_dst (N := 2) rfl ?_); refine box_event ?hg (N := 2) ?hd (cs := #[.slice A0_0 l0_0.length c0_0, .slice A0_1 l0_1.length c0_1, .slice A0_2 l0_2.length c0_2, .slice A0_3 l0_3.length c0_3, .int .i64 a0_4, .int .i64 a0_5]) (t := 32) ?hr ?_; (case hd => rfl); (case hg => rfl); (case hr => (go_simp; done)); intro g5 hg w1 hbox b5; have BK := Aside0.mk hbox; have B1 := Aside0.mk b5; clear hg hbox b5))
    go_loopg [9] l1.length (fun gg s8 wr => ∃ kk : Nat, kk ≤ l1.length ∧ l1.length - kk ≤ gg ∧ s8 = .int .i64 kk ∧ Aside0 (Below w.heap.size w wr) ∧ Aside0 (wr.heap[g5]? = some (.cells #[.slice A0_0 l0_0.length c0_0, .slice A0_1 l0_1.length c0_1, .slice A0_2 l0_2.length c0_2, .slice A0_3 l0_3.length c0_3, .int .i64 a0_4, .int .i64 a0_5] 32)) ∧ Aside0 (entriesFine l0_0 (prevE l1 kk) (l1.drop kk) = entriesFine l0_0 none l1))
    case atStart => exact ⟨0, Nat.zero_le _, by omega, rfl, B1, BK, ⟨rfl⟩⟩
    case round =>
      obtain ⟨kk, hkk, hg, rfl, BW, BK2, A⟩ := hrel
      clear B1 BK
      by_cases hlt : kk < l1.length
      · have hltz : (kk : Int) < (l1.length : Int) := by omega
        obtain ⟨ad, rfl, hx0, hx1⟩ := at_T59 (Kd.C_below HR.out BW.out) (kk : Int) (by omega) hltz
        rw [Int.toNat_natCast] at hx0 hx1
        have hd : l1.drop kk = rd_T59 l1 (kk : Int) :: l1.drop (kk + 1) := by
          rw [List.drop_eq_getElem_cons hlt]
          unfold rd_T59
          rw [Int.toNat_natCast, List.getD_eq_getElem?_getD, List.getElem?_eq_getElem hlt]; rfl
        have hys : (rd_T59 l1 (kk : Int)).f0.size ≤ 140737488355328 := HZ.out _ (by
          have hm := List.mem_of_mem_drop (i := kk) (l := l1) (a := rd_T59 l1 (kk : Int)) (by rw [hd]; exact List.mem_cons_self)
          exact hm)
        have A2 := A.out
        rw [hd, entriesFine] at A2
        have A3 : (entryFine l0_0 (prevE l1 kk) (rd_T59 l1 (kk : Int)) && entriesFine l0_0 (prevE l1 (kk + 1)) (l1.drop (kk + 1))) = entriesFine l0_0 none l1 := A2
        have AA := Aside0.mk A3
        clear A A2 A3 hd
        generalize rd_T59 l1 (kk : Int) = y at hx0 hx1 AA hys
        have HY := Aside0.mk hys
        clear hys
        go_wp2
        refine gen_wp (R := fun W => Below w.heap.size w W ∧ W.heap[g5]? = some (.cells #[.slice A0_0 l0_0.length c0_0, .slice A0_1 l0_1.length c0_1, .slice A0_2 l0_2.length c0_2, .slice A0_3 l0_3.length c0_3, .int .i64 a0_4, .int .i64 a0_5] 32) ∧ W.heap[wr.heap.size]? = some (.cells #[.string y.f0, .int .i64 y.f1] 59)) ⟨BW.out.alloc BW.out.size _, (heap_alloc_old wr _ (blk_lt BK2.out)).trans BK2.out, heap_alloc_new wr _⟩ ?_
        generalize wr.heap.size = g6
        rintro W2 ⟨hB2, hK2, hN2⟩
        have BW2 := Aside0.mk hB2
        have Z5 := Aside0.mk hK2
        have e0 : W2.cell? ⟨g5, 0, none⟩ = some (.slice A0_0 l0_0.length c0_0) := (blk_cell hK2 0).trans rfl
        have e1 : W2.cell? ⟨g5, 1, none⟩ = some (.slice A0_1 l0_1.length c0_1) := (blk_cell hK2 1).trans rfl
        have e2 : W2.cell? ⟨g5, 2, none⟩ = some (.slice A0_2 l0_2.length c0_2) := (blk_cell hK2 2).trans rfl
        have e3 : W2.cell? ⟨g5, 3, none⟩ = some (.slice A0_3 l0_3.length c0_3) := (blk_cell hK2 3).trans rfl
        have e4 : W2.cell? ⟨g5, 4, none⟩ = some (.int .i64 a0_4) := (blk_cell hK2 4).trans rfl
        have e5 : W2.cell? ⟨g5, 5, none⟩ = some (.int .i64 a0_5) := (blk_cell hK2 5).trans rfl
        have m0 : W2.cell? ⟨g6, 0, none⟩ = some (.string y.f0) := (blk_cell hN2 0).trans rfl
        have m1 : W2.cell? ⟨g6, 1, none⟩ = some (.int .i64 y.f1) := (blk_cell hN2 1).trans rfl
        clear hB2 hK2 hN2 hx0 hx1 BK2 BW
        have hk := fun w => nameOk_any y.f0 HY.out w
        have hn := fun w1 h => HN.out w1 h y.f1
        have A4 := AA.out
        unfold entryFine at A4
        generalize nmOk y.f0.data.toList = bn at hk A4
        generalize idxOf (fun n : S57 => n.f0 == y.f1) l0_0 0 = t at hn A4
        have HK := Aside0.mk hk
        have HM := Aside0.mk hn
        have AB := Aside0.mk A4
        clear A4 AA hk hn
        cases kk with
        | zero =>
          have AC := Aside0.mk (show (true && (bn && decide (0 ≤ t)) && entriesFine l0_0 (prevE l1 (0 + 1)) (l1.drop (0 + 1))) = entriesFine l0_0 none l1 from AB.out)
          clear AB
          cases bn with
          | false =>
            go_quiet ((go_at_call 102; with_reducible exact Calls.quiet_of (HK.out _)))
            go_wp2
            go_ret
            exact ⟨by rw [← AC.out]; rfl, pw_below_drewN BW2.out _⟩
          | true =>
            have sq0_ : ∀ p_ : LaidBy W2, p_.W.cell? ⟨g6, 0, none⟩ = some (.string y.f0) := fun p_ => p_.cell (m0)
            have sq1_ : ∀ p_ : LaidBy W2, p_.W.cell? ⟨g6, 1, none⟩ = some (.int .i64 y.f1) := fun p_ => p_.cell (m1)
            have sq2_ : ∀ p_ : LaidBy W2, p_.W.cell? ⟨g5, 0, none⟩ = some (.slice A0_0 l0_0.length c0_0) := fun p_ => p_.cell (e0)
            have sq3_ : ∀ p_ : LaidBy W2, p_.W.cell? ⟨g5, 1, none⟩ = some (.slice A0_1 l0_1.length c0_1) := fun p_ => p_.cell (e1)
            have sq4_ : ∀ p_ : LaidBy W2, p_.W.cell? ⟨g5, 2, none⟩ = some (.slice A0_2 l0_2.length c0_2) := fun p_ => p_.cell (e2)
            have sq5_ : ∀ p_ : LaidBy W2, p_.W.cell? ⟨g5, 3, none⟩ = some (.slice A0_3 l0_3.length c0_3) := fun p_ => p_.cell (e3)
            have sq6_ : ∀ p_ : LaidBy W2, p_.W.cell? ⟨g5, 4, none⟩ = some (.int .i64 a0_4) := fun p_ => p_.cell (e4)
            have sq7_ : ∀ p_ : LaidBy W2, p_.W.cell? ⟨g5, 5, none⟩ = some (.int .i64 a0_5) := fun p_ => p_.cell (e5)
            refine wp_region_laid (by kernel_rfl) (by kernel_rfl) ?_
            repeat (go_big_quiet_step (first | (go_at_call 102; with_reducible exact laid_drawn _ (HK.out _)) | (go_at_call 93; with_reducible exact laid_of _ (HM.out _ (LaidBy.below _ BW2.out)))))
            refine wpQuiet_nil ?_
            rintro w9 ⟨p_, hp_⟩
            have hq_ : Below W2.heap.size W2 w9 := hp_ ▸ p_.ok
            clear hp_ p_ sq0_ sq1_ sq2_ sq3_ sq4_ sq5_ sq6_ sq7_
            have Z5 := Aside0.mk ((hq_.block g5 (blk_lt Z5.out)).trans Z5.out)
            have BD := Aside0.mk hq_
            clear hq_
            by_cases ht : t < 0
            · have ht1 : decide (t < 0) = true := decide_eq_true ht
              rw [show decide (0 ≤ t) = false from decide_eq_false (by omega)] at AC
              go_wp2
              go_ret
              exact ⟨by rw [← AC.out]; rfl, BW2.out.trans (BD.out.mono BW2.out.size)⟩
            · have ht1 : decide (t < 0) = false := decide_eq_false ht
              rw [show decide (0 ≤ t) = true from decide_eq_true (by omega)] at AC
              go_wp2
              go_roundg (l1.length - (0 + 1))
              case measure => omega
              case rel => exact ⟨0 + 1, by omega, by omega, by go_num, ⟨BW2.out.trans (BD.out.mono BW2.out.size)⟩, Z5, ⟨AC.out⟩⟩
        | succ j =>
          have hw1 : IntKind.i64.wrap ((j : Int) + 1 - 1) = (j : Int) := by rw [show (j : Int) + 1 - 1 = (j : Int) by omega, IntKind.wrap_i64]; omega
          have hw2 : wrap64 (j : Int) = (j : Int) := by rw [← i64_w, IntKind.wrap_i64]; omega
          have hj0 : (0 : Int) ≤ (j : Int) := by omega
          have hjl : (j : Int) < (l1.length : Int) := by omega
          obtain ⟨ad2, e2, hv0, hv1⟩ := at_T59 (Kd.C_below HR.out BW2.out) (j : Int) hj0 hjl
          cases e2
          rw [Int.toNat_natCast] at hv0 hv1
          clear hv1
          have AC := Aside0.mk (show ((!nameLe y.f0 (rd_T59 l1 (j : Int)).f0) && (bn && decide (0 ≤ t)) && entriesFine l0_0 (prevE l1 (j + 1 + 1)) (l1.drop (j + 1 + 1))) = entriesFine l0_0 none l1 from AB.out)
          clear AB
          generalize (rd_T59 l1 (j : Int)).f0 = p0 at hv0 AC
          have V := Aside0.mk hv0
          have hcm : (Op.bytesLess y.f0.toList p0.toList || y.f0.toList == p0.toList) = nameLe y.f0 p0 := rfl
          cases hle : nameLe y.f0 p0 with
          | true =>
            rw [hle] at hcm AC
            go_quiet (first | (go_at_call 102; with_reducible exact Calls.quiet_of (HK.out _)))
            go_wp2
            go_ret
            exact ⟨by rw [← AC.out]; rfl, pw_below_drewN BW2.out _⟩
          | false =>
            rw [hle] at hcm AC
            cases bn with
            | false =>
              go_quiet ((go_at_call 102; with_reducible exact Calls.quiet_of (HK.out _)))
              go_wp2
              go_ret
              exact ⟨by rw [← AC.out]; rfl, pw_below_drewN BW2.out _⟩
            | true =>
              have sq0_ : ∀ p_ : LaidBy W2, p_.W.cell? ⟨g6, 0, none⟩ = some (.string y.f0) := fun p_ => p_.cell (m0)
              have sq1_ : ∀ p_ : LaidBy W2, p_.W.cell? ⟨g6, 1, none⟩ = some (.int .i64 y.f1) := fun p_ => p_.cell (m1)
              have sq2_ : ∀ p_ : LaidBy W2, p_.W.cell? ⟨g5, 0, none⟩ = some (.slice A0_0 l0_0.length c0_0) := fun p_ => p_.cell (e0)
              have sq3_ : ∀ p_ : LaidBy W2, p_.W.cell? ⟨g5, 1, none⟩ = some (.slice A0_1 l0_1.length c0_1) := fun p_ => p_.cell (e1)
              have sq4_ : ∀ p_ : LaidBy W2, p_.W.cell? ⟨g5, 2, none⟩ = some (.slice A0_2 l0_2.length c0_2) := fun p_ => p_.cell (e2)
              have sq5_ : ∀ p_ : LaidBy W2, p_.W.cell? ⟨g5, 3, none⟩ = some (.slice A0_3 l0_3.length c0_3) := fun p_ => p_.cell (e3)
              have sq6_ : ∀ p_ : LaidBy W2, p_.W.cell? ⟨g5, 4, none⟩ = some (.int .i64 a0_4) := fun p_ => p_.cell (e4)
              have sq7_ : ∀ p_ : LaidBy W2, p_.W.cell? ⟨g5, 5, none⟩ = some (.int .i64 a0_5) := fun p_ => p_.cell (e5)
              have sq8_ : ∀ p_ : LaidBy W2, p_.W.cell? (ad.add (j * 2)) = some (.string p0) := fun p_ => p_.cell (V.out)
              refine wp_region_laid (by kernel_rfl) (by kernel_rfl) ?_
              repeat (go_big_quiet_step (first | (go_at_call 102; with_reducible exact laid_drawn _ (HK.out _)) | (go_at_call 93; with_reducible exact laid_of _ (HM.out _ (LaidBy.below _ BW2.out)))))
              refine wpQuiet_nil ?_
              rintro w9 ⟨p_, hp_⟩
              have hq_ : Below W2.heap.size W2 w9 := hp_ ▸ p_.ok
              clear hp_ p_ sq0_ sq1_ sq2_ sq3_ sq4_ sq5_ sq6_ sq7_ sq8_
              have Z5 := Aside0.mk ((hq_.block g5 (blk_lt Z5.out)).trans Z5.out)
              have BD := Aside0.mk hq_
              clear hq_
              by_cases ht : t < 0
              · have ht1 : decide (t < 0) = true := decide_eq_true ht
                rw [show decide (0 ≤ t) = false from decide_eq_false (by omega)] at AC
                go_wp2
                go_ret
                exact ⟨by rw [← AC.out]; rfl, BW2.out.trans (BD.out.mono BW2.out.size)⟩
              · have ht1 : decide (t < 0) = false := decide_eq_false ht
                rw [show decide (0 ≤ t) = true from decide_eq_true (by omega)] at AC
                go_wp2
                go_roundg (l1.length - (j + 1 + 1))
                case measure => omega
                case rel => exact ⟨j + 1 + 1, by omega, by omega, by go_num, ⟨BW2.out.trans (BD.out.mono BW2.out.size)⟩, Z5, ⟨AC.out⟩⟩
      · have hltz : ¬ (kk : Int) < (l1.length : Int) := by omega
        have A2 := A.out
        rw [List.drop_of_length_le (by omega), entriesFine] at A2
        have A3 := Aside0.mk A2
        clear A A2
        go_wp2
        go_ret
        exact ⟨by rw [← A3.out, Bool.true_and]; rfl, BW.out⟩
  · rw [if_neg hsz] at h; cases h

/-! ### impl_Entry_73: function 73 -/
def impl_Entry_73.l0 : Nat → List (S59) → List (S59) → Int → Int → Option (Bool)
 | 0, _, _, _, _ => none
 | k + 1, x0, x1, x12, x13 => if x13 < x12 then (if 0 ≤ x13 then (if x13 < (x0.length : Int) then (if x13 < (x1.length : Int) then (if (!((((rd_T59 x0 x13).f0).toList) == (((rd_T59 x1 x13).f0).toList)) || (!(((rd_T59 x0 x13).f1) == ((rd_T59 x1 x13).f1)))) = true then (some false) else (impl_Entry_73.l0 k x0 x1 x12 (wrap64 (x13 + 1)))) else (none)) else (none)) else (none)) else (some true)
def impl_Entry_73.f (k : Nat) (l0 : List (S59)) (l1 : List (S59)) : Option (Bool) := if (l0.length : Int) = (l1.length : Int) then (impl_Entry_73.l0 k l0 l1 (l0.length : Int) 0) else (some false)
theorem impl_Entry_73.mono_l : ∀ k, (∀ y0 y1 y2 y3, LeO (impl_Entry_73.l0 k y0 y1 y2 y3) (impl_Entry_73.l0 (k + 1) y0 y1 y2 y3))
 | 0 => fun _ _ _ _ r h => by simp [impl_Entry_73.l0] at h
 | k + 1 => by
  have ih0 := impl_Entry_73.mono_l k
  ·intro y0 y1 y2 y3
   unfold impl_Entry_73.l0
   repeat' first | (with_reducible exact ih0 _ _ _ _) | (with_reducible exact LeO.refl _) | (with_reducible refine LeO.ite ?_ ?_)
theorem impl_Entry_73.mono : ∀ a0 a1 k, LeO (impl_Entry_73.f k a0 a1) (impl_Entry_73.f (k + 1) a0 a1) := by
 intro a0 a1 k
 have ih0 := impl_Entry_73.mono_l k
 unfold impl_Entry_73.f
 repeat' first | (with_reducible exact ih0 _ _ _ _) | (with_reducible exact LeO.refl _) | (with_reducible refine LeO.ite ?_ ?_)
set_option maxHeartbeats 8000000 in
set_option maxRecDepth 100000 in
theorem impl_Entry_73.calls (k : Nat) (A0 : Option Addr) (c0 : Nat) (l0 : List (S59)) (A1 : Option Addr) (c1 : Nat) (l1 : List (S59)) (r : Bool) (w : World) (hr0 : Kd.C k59 w A0 l0.length l0) (hc0 : l0.length ≤ c0) (hr1 : Kd.C k59 w A1 l1.length l1) (hc1 : l1.length ≤ c1) (h : impl_Entry_73.f k l0 l1 = some r) :
  Calls Tryz.prog 73 #[.slice A0 l0.length c0, .slice A1 l1.length c1] w fun e w' => e = .returned (.bool r) ∧ Drawn0 w w' := by
 have HR0 := Aside0.mk hr0
 clear hr0 hc0
 have HR1 := Aside0.mk hr1
 clear hr1 hc1
 have H : (if (l0.length : Int) = (l1.length : Int) then (impl_Entry_73.l0 k l0 l1 (l0.length : Int) 0) else (some false)) = some r := h
 clear h
 by_cases c3 : (l0.length : Int) = (l1.length : Int)
 ·rw [if_pos c3] at H
  have c3b1 : ((l0.length : Int) != (l1.length : Int)) = false := bne_eq_false_iff_eq.mpr c3
  clear c3
  have H' := Aside0.mk H
  clear H
  go_enter Tryz.func73, Tryz.ntmps73
  go_wp2
  repeat (go_quiet (fail); try go_wp2)
  go_loopg [13] k (fun kq v13 w' => ∃ (x13_1 : Int), v13 = .int .i64 x13_1 ∧ Aside0 (impl_Entry_73.l0 kq l0 l1 (l0.length : Int) x13_1 = some r) ∧ Aside0 (kq ≤ k) ∧ Drawn0 w w')
  case atStart => exact ⟨(0), (by rfl), H', ⟨Nat.le_refl _⟩, by repeat (exact Drawn0.refl _)⟩
  case round =>
   clear H'
   try clear c1
   try clear p2
   try clear c3
   try clear c3b1
   obtain ⟨x13_1, rfl, HA, HK1, ⟨m1, rfl⟩⟩ := hrel
   cases gk with
   | zero => exact absurd HA.out (by simp [impl_Entry_73.l0])
   | succ k1 =>
    have H := HA.out
    clear HA
    simp only [impl_Entry_73.l0] at H
    by_cases c4 : x13_1 < (l0.length : Int)
    ·rw [if_pos c4] at H
     have c4b0 : decide (x13_1 < (l0.length : Int)) = true := decide_eq_true c4
     clear c4
     by_cases c5 : 0 ≤ x13_1
     ·rw [if_pos c5] at H
      have c5b0 : decide (0 ≤ x13_1) = true := decide_eq_true c5
      clear c5
      by_cases c6 : x13_1 < (l0.length : Int)
      ·rw [if_pos c6] at H
       have c6b0 : decide (x13_1 < (l0.length : Int)) = true := decide_eq_true c6
       clear c6
       by_cases c7 : x13_1 < (l1.length : Int)
       ·rw [if_pos c7] at H
        have c7b0 : decide (x13_1 < (l1.length : Int)) = true := decide_eq_true c7
        clear c7
        by_cases c8 : (!((((rd_T59 l0 x13_1).f0).toList) == (((rd_T59 l1 x13_1).f0).toList)) || (!(((rd_T59 l0 x13_1).f1) == ((rd_T59 l1 x13_1).f1)))) = true
        ·rw [if_pos c8] at H
         have c8b0 : (!((((rd_T59 l0 x13_1).f0).toList) == (((rd_T59 l1 x13_1).f0).toList)) || (!(((rd_T59 l0 x13_1).f1) == ((rd_T59 l1 x13_1).f1)))) = true := c8
         clear c8
         obtain rfl := Option.some.inj H
         have p288 : 0 ≤ (x13_1 : Int) := of_decide_eq_true (by (with_reducible assumption))
         have q288 : x13_1 < (l0.length : Int) := of_decide_eq_true (by (with_reducible assumption))
         obtain ⟨ad288, e288, hx288_0, hx288_1⟩ := at_T59 HR0.out x13_1 p288 q288
         cases e288
         replace p288 := eq_true p288
         replace q288 := eq_true q288
         have p289 : 0 ≤ (x13_1 : Int) := of_decide_eq_true (by (with_reducible assumption))
         have q289 : x13_1 < (l1.length : Int) := of_decide_eq_true (by (with_reducible assumption))
         obtain ⟨ad289, e289, hx289_0, hx289_1⟩ := at_T59 HR1.out x13_1 p289 q289
         cases e289
         replace p289 := eq_true p289
         replace q289 := eq_true q289
         go_wp2
         repeat (go_quiet (fail); try go_wp2)
         all_goals (go_ret)
         exact ⟨by first | rfl | (simp; done) | (simp [*]; done), by repeat (first | exact Drawn0.refl _ | apply Drawn0.step)⟩
        ·rw [if_neg c8] at H
         have c8b0 : (!((((rd_T59 l0 x13_1).f0).toList) == (((rd_T59 l1 x13_1).f0).toList)) || (!(((rd_T59 l0 x13_1).f1) == ((rd_T59 l1 x13_1).f1)))) = false := by simpa using c8
         clear c8
         have H' := Aside0.mk H
         clear H
         have p288 : 0 ≤ (x13_1 : Int) := of_decide_eq_true (by (with_reducible assumption))
         have q288 : x13_1 < (l0.length : Int) := of_decide_eq_true (by (with_reducible assumption))
         obtain ⟨ad288, e288, hx288_0, hx288_1⟩ := at_T59 HR0.out x13_1 p288 q288
         cases e288
         replace p288 := eq_true p288
         replace q288 := eq_true q288
         have p289 : 0 ≤ (x13_1 : Int) := of_decide_eq_true (by (with_reducible assumption))
         have q289 : x13_1 < (l1.length : Int) := of_decide_eq_true (by (with_reducible assumption))
         obtain ⟨ad289, e289, hx289_0, hx289_1⟩ := at_T59 HR1.out x13_1 p289 q289
         cases e289
         replace p289 := eq_true p289
         replace q289 := eq_true q289
         go_wp2
         repeat (go_quiet (fail); try go_wp2)
         go_roundg k1
         case measure => have := HK1.out; omega
         case rel => exact ⟨(wrap64 (x13_1 + 1)), (by rfl), H', ⟨by have := HK1.out; omega⟩, by repeat (first | exact Drawn0.refl _ | apply Drawn0.step)⟩
       ·rw [if_neg c7] at H
        exact absurd H (by simp)
      ·rw [if_neg c6] at H
       exact absurd H (by simp)
     ·rw [if_neg c5] at H
      exact absurd H (by simp)
    ·rw [if_neg c4] at H
     have c4b0 : decide (x13_1 < (l0.length : Int)) = false := decide_eq_false c4
     clear c4
     obtain rfl := Option.some.inj H
     go_wp2
     repeat (go_quiet (fail); try go_wp2)
     all_goals (go_ret)
     exact ⟨by first | rfl | (simp; done) | (simp [*]; done), by repeat (first | exact Drawn0.refl _ | apply Drawn0.step)⟩
 ·rw [if_neg c3] at H
  have c3b1 : ((l0.length : Int) != (l1.length : Int)) = true := bne_iff_ne.mpr c3
  obtain rfl := Option.some.inj H
  go_enter Tryz.func73, Tryz.ntmps73
  go_wp2
  repeat (go_quiet (fail); try go_wp2)
  all_goals (go_ret)
  exact ⟨by first | rfl | (simp; done) | (simp [*]; done), by repeat (exact Drawn0.refl _)⟩

/-! ### impl_placeOf: function 103 -/
set_option maxHeartbeats 2000000 in
theorem idxEntry (g : Nat) (lb : Array Value) (p : S59 → Bool) (eg : ∀ args w, (callFunc g args).run Tryz.prog w = .ok (.enter g args) w)
    (A0 : Option Addr) (c0 : Nat) (l0 : List S59) (w : World) (hr : Kd.C k59 w A0 l0.length l0)
    (hp : ∀ (W : World) (x : S59), Below w.heap.size w W → Calls Tryz.prog g (#[.agg #[.string x.f0, .int .i64 x.f1]] ++ lb) W fun e w' => e = .returned (.bool (p x)) ∧ Below w.heap.size w w') :
    Calls Tryz.prog 144 #[.slice A0 l0.length c0, .func (.func g) #[] lb] w fun e w' => e = .returned (.int .i64 (idxOf p l0 0)) ∧ Below w.heap.size w w' := by
  have hmax := hr.2.1
  have HR := Aside0.mk hr
  clear hr
  go_enter Tryz.func144, Tryz.ntmps144
  go_wp2
  go_loopg [5, 8] l0.length (fun gg _ s8 wr => ∃ kk : Nat, kk ≤ l0.length ∧ l0.length - kk ≤ gg ∧ s8 = .int .i64 kk ∧ Aside0 (Below w.heap.size w wr) ∧ Aside0 (idxOf p (l0.drop kk) kk = idxOf p l0 0))
  case atStart => exact ⟨0, Nat.zero_le _, by omega, rfl, ⟨Below.refl _ w⟩, ⟨rfl⟩⟩
  case round =>
    obtain ⟨kk, hkk, hg, rfl, BW, A⟩ := hrel
    by_cases hlt : kk < l0.length
    · have hltz : (kk : Int) < (l0.length : Int) := by omega
      obtain ⟨ad, rfl, hx0, hx1⟩ := at_T59 (Kd.C_below HR.out BW.out) (kk : Int) (by omega) hltz
      rw [Int.toNat_natCast] at hx0 hx1
      have hd : l0.drop kk = rd_T59 l0 (kk : Int) :: l0.drop (kk + 1) := by
        rw [List.drop_eq_getElem_cons hlt]
        unfold rd_T59
        rw [Int.toNat_natCast, List.getD_eq_getElem?_getD, List.getElem?_eq_getElem hlt]; rfl
      have hcall := hp wr (rd_T59 l0 (kk : Int)) BW.out
      have A2 := A.out
      rw [hd, idxOf] at A2
      clear hp hd A
      generalize rd_T59 l0 (kk : Int) = y at hx0 hx1 hcall A2
      cases hq : p y with
      | true =>
        rw [hq] at hcall
        rw [hq, if_pos rfl] at A2
        have A3 := Aside0.mk A2
        clear A2
        go_wp2_with (go_at_fn g; refine hcall.mono ?_; rintro e w' ⟨rfl, hb'⟩)
        go_ret
        exact ⟨by rw [← A3.out]; rfl, hb'⟩
      | false =>
        rw [hq] at hcall
        rw [hq, if_neg (by decide)] at A2
        have A3 := Aside0.mk A2
        clear A2
        go_wp2_with (go_at_fn g; refine hcall.mono ?_; rintro e w' ⟨rfl, hb'⟩)
        go_roundg (l0.length - (kk + 1))
        case measure => omega
        case rel => exact ⟨kk + 1, by omega, by omega, by go_num, ⟨hb'⟩, A3⟩
    · have hltz : ¬ (kk : Int) < (l0.length : Int) := by omega
      have A2 := A.out
      rw [List.drop_of_length_le (by omega), idxOf] at A2
      have A3 := Aside0.mk A2
      clear hp A A2
      go_wp2
      go_ret
      exact ⟨by rw [← A3.out]; rfl, BW.out⟩
theorem impl_placeOf_lit (a1 : ByteArray) (B : Nat) (w : World) (hB : B < w.heap.size) (hcell : w.cell? ⟨B, 0, none⟩ = some (.string a1)) (W : World) (x : S59) (hb : Below w.heap.size w W) :
    Calls Tryz.prog 145 (#[.agg #[.string x.f0, .int .i64 x.f1]] ++ #[.pointer (some ⟨B, 0, none⟩)]) W fun e w' => e = .returned (.bool (x.f0.toList == a1.toList)) ∧ Below w.heap.size w w' := by
  have hc : W.cell? ⟨B, 0, none⟩ = some (.string a1) := (hb.cell (p := ⟨B, 0, none⟩) hB).trans hcell
  have hBW : B < W.heap.size := Nat.lt_of_lt_of_le hB hb.size
  show Calls Tryz.prog 145 #[.agg #[.string x.f0, .int .i64 x.f1], .pointer (some ⟨B, 0, none⟩)] W _
  go_enter Tryz.func145, Tryz.ntmps145
  go_wp2
  all_goals (go_ret; exact ⟨by simp_all, hb.alloc hb.size _⟩)
def impl_placeOf.f (l0 : List S59) (a1 : ByteArray) : Option Int := some (idxOf (fun x : S59 => x.f0.toList == a1.toList) l0 0)
theorem impl_placeOf.calls (A0 : Option Addr) (c0 : Nat) (l0 : List (S59)) (a1 : ByteArray) (r : Int) (w : World) (hr0 : Kd.C k59 w A0 l0.length l0) (hc0 : l0.length ≤ c0) (h : impl_placeOf.f l0 a1 = some r) :
    Calls Tryz.prog 103 #[.slice A0 l0.length c0, .string a1] w fun e w' => e = .returned (.int .i64 r) ∧ Below w.heap.size w w' := by
  obtain rfl := Option.some.inj h
  have eg : ∀ args w, (callFunc 145 args).run Tryz.prog w = .ok (.enter 145 args) w := enters_of Tryz.func145 (by kernel_rfl) rfl
  have hcon := idxEntry 145 #[.pointer (some ⟨w.heap.size, 0, none⟩)] (fun x : S59 => x.f0.toList == a1.toList) eg A0 c0 l0 (w.alloc (.cells #[.string a1] 9)) (Kd.C_below hr0 ((Below.refl _ w).alloc (Nat.le_refl _) _))
    (fun W x hb => impl_placeOf_lit a1 w.heap.size _ (by simp) (by simp) W x hb)
  clear hr0 h
  generalize idxOf (fun x : S59 => x.f0.toList == a1.toList) l0 0 = r at hcon ⊢
  go_enter Tryz.func103, Tryz.ntmps103
  go_wp2_with (go_at_call 144; refine hcon.mono ?_; rintro e w' ⟨rfl, hb'⟩)
  go_ret
  exact ⟨rfl, ((Below.refl _ w).alloc (Nat.le_refl _) _).trans (hb'.mono (by simp))⟩

/-! ### impl_Decimal: function 105 -/
/-- The library's table of powers: its name, as the program bears it. -/
noncomputable def tabPName : String := ((Tryz.prog.globals[3]?).map (·.name)).getD default
/-- It reads as its text lays it. -/
structure TabsP (w : World) : Prop where
  out : Lib.TabIs Tryz.prog w tabPName .u64 Lib.pow10Tab
theorem TabsP.below {w W : World} (h : TabsP w) (hb : Below w.heap.size w W) : TabsP W := ⟨Lib.tabBelow_of_tabIs h.out _ hb⟩
theorem TabsP.use {w : World} {n : String} (h : TabsP w) (hn : tabPName = n) : Lib.TabIs Tryz.prog w n .u64 Lib.pow10Tab := hn ▸ h.out
theorem TabsP.of {w : World} {n : String} (hn : n = tabPName) (h : Lib.TabIs Tryz.prog w n .u64 Lib.pow10Tab) : TabsP w := ⟨hn ▸ h⟩
theorem below_growD (w : World) (k : Nat) (os : Array Obj) : Below w.heap.size w (Sort.grow (w.drewN k) os) := by
  have h : Below w.heap.size w (w.drewN k) := (Drawn0.mk ⟨k, rfl⟩).below
  refine ⟨h.os, h.tape, h.output, ?_, fun i hi => ?_⟩
  · show w.heap.size ≤ ((w.drewN k).heap ++ os).size
    rw [Array.size_append]
    exact Nat.le_trans h.size (Nat.le_add_right ..)
  · show ((w.drewN k).heap ++ os)[i]? = _
    rw [Array.getElem?_append_left (Nat.lt_of_lt_of_le hi h.size)]
    exact h.block i hi
def impl_Decimal.f (a0 : Int) : Option ByteArray := if -9223372036854775808 ≤ a0 ∧ a0 ≤ 9223372036854775807 then some ⟨(Lib.itoa a0).toArray⟩ else none
theorem impl_Decimal.calls (a0 : Int) (r : ByteArray) (w : World) (hTP : TabsP w) (h : impl_Decimal.f a0 = some r) :
    Calls Tryz.prog 105 #[.int .i64 a0] w fun e w' => e = .returned (.string r) ∧ Below w.heap.size w w' := by
  unfold impl_Decimal.f at h
  split at h
  · rename_i hb
    obtain rfl := Option.some.inj h
    have hcon := Any.strconv_Itoa Tryz.laysM171 a0 hb.1 hb.2 w (hTP.use (by kernel_rfl))
    change Calls Tryz.prog 146 _ _ _ at hcon
    clear hTP h
    generalize (Lib.itoa a0).toArray = r at hcon ⊢
    go_enter Tryz.func105, Tryz.ntmps105
    go_wp2_with (go_at_call 146; refine hcon.mono ?_; rintro e w' ⟨rfl, k, os, rfl⟩)
    go_ret
    exact ⟨rfl, below_growD _ _ _⟩
  · cases h

/-! ### impl_ReadDecimal: function 130 -/
theorem var_below {P : Program} {w W : World} {name : String} {cs : Array Value} (h : w.var? P name = some cs) (hb : Below w.heap.size w W) : W.var? P name = some cs := by
  unfold World.var? at *
  cases hg : P.globalNamed name with
  | none => simp [hg] at h
  | some g =>
    simp only [hg, Option.bind_some] at h ⊢
    have hlt : g < w.heap.size := by
      rcases Nat.lt_or_ge g w.heap.size with h' | h'
      · exact h'
      · rw [Array.getElem?_eq_none h'] at h; simp at h
    rw [hb.block g hlt]
    exact h
/-- The library's two errors are there. -/
structure TabsE (w : World) : Prop where
  syn : ∃ tp p, w.var? Tryz.prog "strconv.ErrSyntax" = some #[.iface tp p]
  rng : ∃ tp p, w.var? Tryz.prog "strconv.ErrRange" = some #[.iface tp p]
theorem TabsE.below {w W : World} (h : TabsE w) (hb : Below w.heap.size w W) : TabsE W := by
  obtain ⟨⟨a, b, h1⟩, c, d, h2⟩ := h
  exact ⟨⟨a, b, var_below h1 hb⟩, c, d, var_below h2 hb⟩
/-- strconv.Atoi at every text: a number and no error, or an error. -/
theorem atoi_any (s : ByteArray) (hlim : s.size ≤ 281474976710656) (w : World) (hTE : TabsE w) :
    Calls Tryz.prog 155 #[.string s] w fun e w' => (∃ v er, e = .returned (.tuple #[.int .i64 v, er]) ∧ ((er = .nilIface ∧ Lib.atoiAll s.data.toList = .ok v) ∨ (∃ t p, er = .iface t p ∧ ∀ v', Lib.atoiAll s.data.toList ≠ .ok v'))) ∧ Below w.heap.size w w' := by
  cases hv : Lib.atoiAll s.data.toList
  · rename_i v
    have h := Any.strconv_Atoi_ok Tryz.laysC172 s (by omega) v hv w
    refine (h : Calls Tryz.prog 155 _ _ _).mono ?_
    rintro e w' ⟨rfl, hw⟩
    refine ⟨⟨v, _, rfl, .inl ⟨rfl, rfl⟩⟩, ?_⟩
    rcases hw with rfl | ⟨t, rfl⟩
    · exact Below.refl _ _
    · exact Lib.bytesWorld_below _ _ _
  · obtain ⟨tp, p, hs⟩ := hTE.syn
    have h := Any.strconv_Atoi_syntax_var Tryz.laysC172 s hlim hv tp p w hs
    refine (h : Calls Tryz.prog 155 _ _ _).mono ?_
    rintro e w' ⟨N, rfl, _, _, hb⟩
    exact ⟨⟨_, _, rfl, .inr ⟨_, _, rfl, fun v' h => by cases h⟩⟩, hb⟩
  · obtain ⟨tp, p, hs⟩ := hTE.rng
    have h := Any.strconv_Atoi_range_var Tryz.laysC172 s hlim hv tp p w hs
    refine (h : Calls Tryz.prog 155 _ _ _).mono ?_
    rintro e w' ⟨N, rfl, _, _, hb⟩
    exact ⟨⟨_, _, rfl, .inr ⟨_, _, rfl, fun v' h => by cases h⟩⟩, hb⟩
def impl_ReadDecimal.f (a0 : ByteArray) : Option (Int × Bool) := if a0.size ≤ 281474976710656 then (match Lib.atoiAll a0.data.toList with
  | .ok v => (impl_isNumber.f v).bind fun t => if t = true then (impl_Decimal.f v).bind fun d => if d.toList = a0.toList then some (v, true) else some (0, false) else some (0, false)
  | _ => some (0, false)) else none
theorem impl_ReadDecimal.calls (a0 : ByteArray) (r1 : Int) (r2 : Bool) (w : World) (hTE : TabsE w) (hTP : TabsP w) (h : impl_ReadDecimal.f a0 = some (r1, r2)) :
    Calls Tryz.prog 130 #[.string a0] w fun e w' => e = .returned (.tuple #[.int .i64 r1, .bool r2]) ∧ Below w.heap.size w w' := by
  unfold impl_ReadDecimal.f at h
  by_cases hs : a0.size ≤ 281474976710656
  · rw [if_pos hs] at h
    have hA := atoi_any a0 hs w hTE
    cases hv : Lib.atoiAll a0.data.toList with
    | ok v =>
      rw [hv] at h hA
      replace h : ((impl_isNumber.f v).bind fun t => if t = true then (impl_Decimal.f v).bind fun d => if d.toList = a0.toList then some (v, true) else some (0, false) else some (0, false)) = some (r1, r2) := h
      replace hA : Calls Tryz.prog 155 #[.string a0] w fun e w' => e = .returned (.tuple #[.int .i64 v, .nilIface]) ∧ Below w.heap.size w w' := hA.mono (by
        rintro e w' ⟨⟨v', er, rfl, (⟨rfl, e⟩ | ⟨t, p, _, e⟩)⟩, hb⟩
        · injection e with e; subst e; exact ⟨rfl, hb⟩
        · exact absurd rfl (e v))
      obtain ⟨t, ht, h⟩ := Option.bind_eq_some_iff.mp h
      clear hv hTE
      have HA := Aside0.mk hA
      have HN := Aside0.mk ht
      have HT := Aside0.mk hTP
      clear hA ht hTP
      cases t with
      | false =>
        rw [if_neg Bool.false_ne_true] at h
        have e1 := (Prod.mk.inj (Option.some.inj h)).1
        have e2 := (Prod.mk.inj (Option.some.inj h)).2
        subst e1 e2
        clear h
        go_enter Tryz.func130, Tryz.ntmps130
        go_wp2_with (first | (go_at_call 155; refine HA.out.mono ?_; rintro e w1 ⟨rfl, hb1⟩; have HB1 := Aside0.mk hb1; clear hb1) | (go_at_call 67; refine (impl_isNumber.calls v false _ HN.out).mono ?_; rintro e w2 ⟨rfl, ⟨n2, rfl⟩⟩))
        all_goals go_ret2
        exact ⟨rfl, by exact pw_below_drewN HB1.out _⟩
      | true =>
        rw [if_pos rfl] at h
        obtain ⟨d, hd, h⟩ := Option.bind_eq_some_iff.mp h
        have HD := Aside0.mk hd
        clear hd
        by_cases hc : d.toList = a0.toList
        · rw [if_pos hc] at h
          have e1 := (Prod.mk.inj (Option.some.inj h)).1
          have e2 := (Prod.mk.inj (Option.some.inj h)).2
          subst e1 e2
          clear h
          have c1 : (d.toList == a0.toList) = true := beq_iff_eq.mpr hc
          clear hc
          go_enter Tryz.func130, Tryz.ntmps130
          go_wp2_with (first | (go_at_call 155; refine HA.out.mono ?_; rintro e w1 ⟨rfl, hb1⟩; have HB1 := Aside0.mk hb1; clear hb1) | (go_at_call 67; refine (impl_isNumber.calls v true _ HN.out).mono ?_; rintro e w2 ⟨rfl, ⟨n2, rfl⟩⟩) | (go_at_call 105; refine (impl_Decimal.calls v d _ (HT.out.below (by exact pw_below_drewN HB1.out _)) HD.out).mono ?_; rintro e w3 ⟨rfl, hb3⟩; have HB3 := Aside0.mk hb3; clear hb3))
          all_goals go_ret2
          exact ⟨rfl, by exact (pw_below_drewN HB1.out _).trans (HB3.out.mono (pw_below_drewN HB1.out _).size)⟩
        · rw [if_neg hc] at h
          have e1 := (Prod.mk.inj (Option.some.inj h)).1
          have e2 := (Prod.mk.inj (Option.some.inj h)).2
          subst e1 e2
          clear h
          have c1 : (d.toList == a0.toList) = false := beq_eq_false_iff_ne.mpr hc
          clear hc
          go_enter Tryz.func130, Tryz.ntmps130
          go_wp2_with (first | (go_at_call 155; refine HA.out.mono ?_; rintro e w1 ⟨rfl, hb1⟩; have HB1 := Aside0.mk hb1; clear hb1) | (go_at_call 67; refine (impl_isNumber.calls v true _ HN.out).mono ?_; rintro e w2 ⟨rfl, ⟨n2, rfl⟩⟩) | (go_at_call 105; refine (impl_Decimal.calls v d _ (HT.out.below (by exact pw_below_drewN HB1.out _)) HD.out).mono ?_; rintro e w3 ⟨rfl, hb3⟩; have HB3 := Aside0.mk hb3; clear hb3))
          all_goals go_ret2
          exact ⟨rfl, by exact (pw_below_drewN HB1.out _).trans (HB3.out.mono (pw_below_drewN HB1.out _).size)⟩
    | _ =>
      rw [hv] at h hA
      replace h : some ((0 : Int), false) = some (r1, r2) := h
      have e1 := (Prod.mk.inj (Option.some.inj h)).1
      have e2 := (Prod.mk.inj (Option.some.inj h)).2
      subst e1 e2
      replace hA : Calls Tryz.prog 155 #[.string a0] w fun e w' => (∃ v t p, e = .returned (.tuple #[.int .i64 v, .iface t p])) ∧ Below w.heap.size w w' := hA.mono (by
        rintro e w' ⟨⟨v', er, rfl, (⟨_, e⟩ | ⟨t, p, rfl, _⟩)⟩, hb⟩
        · cases e
        · exact ⟨⟨_, _, _, rfl⟩, hb⟩)
      clear hv hTE hTP h
      have HA := Aside0.mk hA
      clear hA
      go_enter Tryz.func130, Tryz.ntmps130
      go_wp2_with (go_at_call 155; refine HA.out.mono ?_; rintro e w1 ⟨⟨v, t, p, rfl⟩, hb1⟩; have HB1 := Aside0.mk hb1; clear hb1)
      all_goals go_ret2
      exact ⟨rfl, HB1.out⟩
  · rw [if_neg hs] at h; cases h

end Go.Proofs.YtbcidclclckgfaaGreatDoor.MFnExactCouldFall
