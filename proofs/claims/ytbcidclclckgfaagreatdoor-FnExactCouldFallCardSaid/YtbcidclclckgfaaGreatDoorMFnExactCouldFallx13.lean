/- Each theorem here says that a call of one Go function answers what the Lean function beside it answers; its conditions stand in it. Written by a program of this session. -/
import Derived.Test.YtbcidclclckgfaaGreatDoorMFnExactCouldFallx0
import Derived.Test.YtbcidclclckgfaaGreatDoorMFnExactCouldFallx9
import Derived.Test.YtbcidclclckgfaaGreatDoorMFnExactCouldFallx10
import Derived.Test.YtbcidclclckgfaaGreatDoorMFnExactCouldFallx12
namespace Go.Proofs.YtbcidclclckgfaaGreatDoor.MFnExactCouldFall
open Go.RowKit Go.Proofs.YtbcidclclckgfaaGreatDoorW.PrintWords Go.Proofs.YtbcidclclckgfaaGreatDoorW.PrintLast Go.Proofs.YtbcidclclckgfaaGreatDoorW.PrintMore
attribute [local go_sem] max2_int min2_int max_two min_two max_three min_three max_four min_four   -- for this text's walks alone
set_option linter.unusedVariables false
set_option linter.unusedSimpArgs false

/-! ### spec_CouldFall: function 30 -/
def couldL (F : Int → Option Bool) : Nat → Nat → Option Bool
  | 0, _ => some false
  | n + 1, i => (F i).bind fun t => if t = true then some true else couldL F n (i + 1)
theorem couldL_mono (F G : Int → Option Bool) (h : ∀ i, LeO (F i) (G i)) : ∀ n i, LeO (couldL F n i) (couldL G n i)
  | 0, _ => LeO.refl _
  | n + 1, i => LeO.bind (h i) fun _ => LeO.ite (LeO.refl _) (couldL_mono F G h n (i + 1))
def mostId : List S57 → Int → Int
  | [], m => m
  | x :: r, m => mostId r (if m < x.f0 then x.f0 else m)
theorem mostId_ge : ∀ (l : List S57) (m : Int), m ≤ mostId l m
  | [], m => Int.le_refl m
  | x :: r, m => by
    rw [mostId]
    by_cases h : m < x.f0
    · rw [if_pos h]
      have := mostId_ge r x.f0
      omega
    · rw [if_neg h]
      exact mostId_ge r m
def keepsF (G : Int → Option Int) : Nat → Nat → List Int → Option (List Int)
  | 0, _, ks => some ks
  | n + 1, i, ks => (G i).bind fun z => keepsF G n (i + 1) (ks ++ [z])
theorem keepsF_mono (F G : Int → Option Int) (h : ∀ i, LeO (F i) (G i)) : ∀ n i ks, LeO (keepsF F n i ks) (keepsF G n i ks)
  | 0, _, _ => LeO.refl _
  | n + 1, i, ks => LeO.bind (h i) fun _ => keepsF_mono F G h n (i + 1) _
def keepAtF (k : Nat) (l0_0 : List S57) (l0_1 : List S59) (l0_2 : List S59) (l0_3 : List ByteArray) (a0_4 : Int) (a0_5 : Int) (l1_0 : List S57) (l1_1 : List S59) (l1_2 : List S59) (l1_3 : List ByteArray) (a1_4 : Int) (a1_5 : Int) (i : Int) : Option Int := (spec_l05Node.f k l0_0 l0_1 l0_2 l0_3 a0_4 a0_5 i).bind fun a => (spec_l05Node.f k l1_0 l1_1 l1_2 l1_3 a1_4 a1_5 i).bind fun b => if 0 ≤ a ∧ 0 ≤ b then (if a < (l0_0.length : Int) ∧ b < (l1_0.length : Int) then some (wrap64 (((rd_T57 l1_0 b).f1.size : Int) - (rd_T57 l0_0 a).f2)) else none) else some 0
theorem keepAtF_mono : ∀ l0_0 l0_1 l0_2 l0_3 a0_4 a0_5 l1_0 l1_1 l1_2 l1_3 a1_4 a1_5 i k, LeO (keepAtF k l0_0 l0_1 l0_2 l0_3 a0_4 a0_5 l1_0 l1_1 l1_2 l1_3 a1_4 a1_5 i) (keepAtF (k + 1) l0_0 l0_1 l0_2 l0_3 a0_4 a0_5 l1_0 l1_1 l1_2 l1_3 a1_4 a1_5 i) := by
  intro l0_0 l0_1 l0_2 l0_3 a0_4 a0_5 l1_0 l1_1 l1_2 l1_3 a1_4 a1_5 i k
  exact LeO.bind (spec_l05Node.mono _ _ _ _ _ _ _ k) fun _ => LeO.bind (spec_l05Node.mono _ _ _ _ _ _ _ k) fun _ => LeO.refl _
def specOne (k : Nat) (l0_0 : List S57) (l0_1 : List S59) (l0_2 : List S59) (l0_3 : List ByteArray) (a0_4 : Int) (a0_5 : Int) (l1_0 : List S57) (l1_1 : List S59) (l1_2 : List S59) (l1_3 : List ByteArray) (a1_4 : Int) (a1_5 : Int) (ks : List Int) (i : Int) : Option Bool := (spec_Fallen.f k l0_0 l0_1 l0_2 l0_3 a0_4 a0_5 i ks).bind fun g => spec_SameDisk.f k g.1 g.2.1 g.2.2.1 g.2.2.2.1 g.2.2.2.2.1 g.2.2.2.2.2 l1_0 l1_1 l1_2 l1_3 a1_4 a1_5
theorem specOne_mono : ∀ l0_0 l0_1 l0_2 l0_3 a0_4 a0_5 l1_0 l1_1 l1_2 l1_3 a1_4 a1_5 ks i k, LeO (specOne k l0_0 l0_1 l0_2 l0_3 a0_4 a0_5 l1_0 l1_1 l1_2 l1_3 a1_4 a1_5 ks i) (specOne (k + 1) l0_0 l0_1 l0_2 l0_3 a0_4 a0_5 l1_0 l1_1 l1_2 l1_3 a1_4 a1_5 ks i) := by
  intro l0_0 l0_1 l0_2 l0_3 a0_4 a0_5 l1_0 l1_1 l1_2 l1_3 a1_4 a1_5 ks i k
  exact LeO.bind (spec_Fallen.mono _ _ _ _ _ _ _ _ k) fun _ => spec_SameDisk.mono _ _ _ _ _ _ _ _ _ _ _ _ k
def spec_CouldFall.f (k : Nat) (l0_0 : List S57) (l0_1 : List S59) (l0_2 : List S59) (l0_3 : List ByteArray) (a0_4 : Int) (a0_5 : Int) (l1_0 : List S57) (l1_1 : List S59) (l1_2 : List S59) (l1_3 : List ByteArray) (a1_4 : Int) (a1_5 : Int) : Option Bool := (spec_DiskOk.f k l0_0 l0_1 l0_2 l0_3 a0_4 a0_5).bind fun b => if b = true then (spec_DiskOk.f k l1_0 l1_1 l1_2 l1_3 a1_4 a1_5).bind fun b2 => if b2 = true then (if 100000 < mostId l0_0 0 then some false else (keepsF (keepAtF k l0_0 l0_1 l0_2 l0_3 a0_4 a0_5 l1_0 l1_1 l1_2 l1_3 a1_4 a1_5) ((mostId l0_0 0).toNat + 1) 0 []).bind fun ks => if l0_3.length ≤ 140737488355328 then couldL (specOne k l0_0 l0_1 l0_2 l0_3 a0_4 a0_5 l1_0 l1_1 l1_2 l1_3 a1_4 a1_5 ks) (l0_3.length + 1) 0 else none) else some false else some false
theorem spec_CouldFall.mono : ∀ l0_0 l0_1 l0_2 l0_3 a0_4 a0_5 l1_0 l1_1 l1_2 l1_3 a1_4 a1_5 k, LeO (spec_CouldFall.f k l0_0 l0_1 l0_2 l0_3 a0_4 a0_5 l1_0 l1_1 l1_2 l1_3 a1_4 a1_5) (spec_CouldFall.f (k + 1) l0_0 l0_1 l0_2 l0_3 a0_4 a0_5 l1_0 l1_1 l1_2 l1_3 a1_4 a1_5) := by
  intro l0_0 l0_1 l0_2 l0_3 a0_4 a0_5 l1_0 l1_1 l1_2 l1_3 a1_4 a1_5 k
  exact LeO.bind (spec_DiskOk.mono _ _ _ _ _ _ k) fun _ => LeO.ite (LeO.bind (spec_DiskOk.mono _ _ _ _ _ _ k) fun _ => LeO.ite (LeO.ite (LeO.refl _) (LeO.bind (keepsF_mono _ _ (fun i => keepAtF_mono _ _ _ _ _ _ _ _ _ _ _ _ i k) _ _ _) fun ks => LeO.ite (couldL_mono _ _ (fun i => specOne_mono _ _ _ _ _ _ _ _ _ _ _ _ ks i k) _ _) (LeO.refl _))) (LeO.refl _)) (LeO.refl _)
set_option maxHeartbeats 4000000 in
set_option maxRecDepth 100000 in
theorem spec_CouldFall.calls (k : Nat) (A0_0 : Option Addr) (c0_0 : Nat) (l0_0 : List (S57)) (A0_1 : Option Addr) (c0_1 : Nat) (l0_1 : List (S59)) (A0_2 : Option Addr) (c0_2 : Nat) (l0_2 : List (S59)) (A0_3 : Option Addr) (c0_3 : Nat) (l0_3 : List ByteArray) (a0_4 : Int) (a0_5 : Int) (A1_0 : Option Addr) (c1_0 : Nat) (l1_0 : List (S57)) (A1_1 : Option Addr) (c1_1 : Nat) (l1_1 : List (S59)) (A1_2 : Option Addr) (c1_2 : Nat) (l1_2 : List (S59)) (A1_3 : Option Addr) (c1_3 : Nat) (l1_3 : List ByteArray) (a1_4 : Int) (a1_5 : Int) (r : Bool) (w : World) (hr0_0 : Kd.C k57 w A0_0 l0_0.length l0_0) (hc0_0 : l0_0.length ≤ c0_0) (hr0_1 : Kd.C k59 w A0_1 l0_1.length l0_1) (hc0_1 : l0_1.length ≤ c0_1) (hr0_2 : Kd.C k59 w A0_2 l0_2.length l0_2) (hc0_2 : l0_2.length ≤ c0_2) (hr0_3 : Kd.C Kd.string w A0_3 l0_3.length l0_3) (hc0_3 : l0_3.length ≤ c0_3) (hr1_0 : Kd.C k57 w A1_0 l1_0.length l1_0) (hc1_0 : l1_0.length ≤ c1_0) (hr1_1 : Kd.C k59 w A1_1 l1_1.length l1_1) (hc1_1 : l1_1.length ≤ c1_1) (hr1_2 : Kd.C k59 w A1_2 l1_2.length l1_2) (hc1_2 : l1_2.length ≤ c1_2) (hr1_3 : Kd.C Kd.string w A1_3 l1_3.length l1_3) (hc1_3 : l1_3.length ≤ c1_3) (h : spec_CouldFall.f k l0_0 l0_1 l0_2 l0_3 a0_4 a0_5 l1_0 l1_1 l1_2 l1_3 a1_4 a1_5 = some r) :
    Calls Tryz.prog 30 #[.agg #[.slice A0_0 l0_0.length c0_0, .slice A0_1 l0_1.length c0_1, .slice A0_2 l0_2.length c0_2, .slice A0_3 l0_3.length c0_3, .int .i64 a0_4, .int .i64 a0_5], .agg #[.slice A1_0 l1_0.length c1_0, .slice A1_1 l1_1.length c1_1, .slice A1_2 l1_2.length c1_2, .slice A1_3 l1_3.length c1_3, .int .i64 a1_4, .int .i64 a1_5]] w fun e w' => e = .returned (.bool r) ∧ Below w.heap.size w w' := by
  unfold spec_CouldFall.f at h
  replace h := Option.bind_eq_some_iff.mp h
  obtain ⟨b, hb0, h⟩ := h
  have C0 := Aside0.mk (fun (w1 : World) (hb : Below w.heap.size w w1) => spec_DiskOk.calls k A0_0 c0_0 l0_0 A0_1 c0_1 l0_1 A0_2 c0_2 l0_2 A0_3 c0_3 l0_3 a0_4 a0_5 b w1 (Kd.C_below hr0_0 hb) hc0_0 (Kd.C_below hr0_1 hb) hc0_1 (Kd.C_below hr0_2 hb) hc0_2 (Kd.C_below hr0_3 hb) hc0_3 hb0)
  have K1 := Aside0.mk True.intro
  have K2 := Aside0.mk True.intro
  cases b with
  | false =>
    rw [if_neg (by decide)] at h
    obtain rfl := Option.some.inj h
    clear hb0 hr0_0 hc0_0 hr0_1 hc0_1 hr0_2 hc0_2 hr0_3 hc0_3 hr1_0 hc1_0 hr1_1 hc1_1 hr1_2 hc1_2 hr1_3 hc1_3
    go_enter Tryz.func30, Tryz.ntmps30
    go_wp2_with (first | ((with_reducible refine gate_dst (N := 2) rfl ?_); refine box_event ?hg (N := 2) ?hd (cs := #[.slice A0_0 l0_0.length c0_0, .slice A0_1 l0_1.length c0_1, .slice A0_2 l0_2.length c0_2, .slice A0_3 l0_3.length c0_3, .int .i64 a0_4, .int .i64 a0_5]) (t := 32) ?hr ?_; (case hd => rfl); (case hg => rfl); (case hr => first | (go_simp; done) | (go_simp; rfl)); intro gD hg w1 hbox hb; have BL := Aside0.mk hb; have BD := Aside0.mk hbox; clear hb; (try clear iD0 iD1 iD2 iD3 iD4 iD5); obtain ⟨iD0, iD1, iD2, iD3, iD4, iD5⟩ := blk6 BD.out; clear hg hbox) | ((with_reducible refine gate_dst (N := 3) rfl ?_); refine box_event ?hg (N := 3) ?hd (cs := #[.slice A1_0 l1_0.length c1_0, .slice A1_1 l1_1.length c1_1, .slice A1_2 l1_2.length c1_2, .slice A1_3 l1_3.length c1_3, .int .i64 a1_4, .int .i64 a1_5]) (t := 32) ?hr ?_; (case hd => rfl); (case hg => rfl); (case hr => first | (go_simp; done) | (go_simp; rfl)); intro gX hg w1 hbox hb; replace BL := Aside0.mk (BL.out.trans (hb.mono BL.out.size)); (try replace BD := Aside0.mk ((hb.block gD (blk_lt BD.out)).trans BD.out)); (try replace BX := Aside0.mk ((hb.block gX (blk_lt BX.out)).trans BX.out)); (try replace KV := Aside0.mk (Kd.R_below KV.out hb)); have BX := Aside0.mk hbox; clear hb; (try clear iD0 iD1 iD2 iD3 iD4 iD5); obtain ⟨iD0, iD1, iD2, iD3, iD4, iD5⟩ := blk6 BD.out; (try clear iX0 iX1 iX2 iX3 iX4 iX5); obtain ⟨iX0, iX1, iX2, iX3, iX4, iX5⟩ := blk6 BX.out; clear hg hbox) | (go_at_call 16; clear K1; (with_reducible refine (C0.out _ BL.out).mono ?_); rintro e w1 ⟨rfl, hb⟩; replace BL := Aside0.mk (BL.out.trans (hb.mono BL.out.size)); (try replace BD := Aside0.mk ((hb.block gD (blk_lt BD.out)).trans BD.out)); (try replace BX := Aside0.mk ((hb.block gX (blk_lt BX.out)).trans BX.out)); (try replace KV := Aside0.mk (Kd.R_below KV.out hb)); clear hb; (try clear iD0 iD1 iD2 iD3 iD4 iD5); obtain ⟨iD0, iD1, iD2, iD3, iD4, iD5⟩ := blk6 BD.out; (try clear iX0 iX1 iX2 iX3 iX4 iX5); obtain ⟨iX0, iX1, iX2, iX3, iX4, iX5⟩ := blk6 BX.out))
    go_ret
    exact ⟨rfl, BL.out⟩
  | true =>
    rw [if_pos rfl] at h
    replace h := Option.bind_eq_some_iff.mp h
    obtain ⟨b2, hb2, h⟩ := h
    have C1 := Aside0.mk (fun (w1 : World) (hb : Below w.heap.size w w1) => spec_DiskOk.calls k A1_0 c1_0 l1_0 A1_1 c1_1 l1_1 A1_2 c1_2 l1_2 A1_3 c1_3 l1_3 a1_4 a1_5 b2 w1 (Kd.C_below hr1_0 hb) hc1_0 (Kd.C_below hr1_1 hb) hc1_1 (Kd.C_below hr1_2 hb) hc1_2 (Kd.C_below hr1_3 hb) hc1_3 hb2)
    cases b2 with
    | false =>
      rw [if_neg (by decide)] at h
      obtain rfl := Option.some.inj h
      clear hb0 hb2 hr0_0 hc0_0 hr0_1 hc0_1 hr0_2 hc0_2 hr0_3 hc0_3 hr1_0 hc1_0 hr1_1 hc1_1 hr1_2 hc1_2 hr1_3 hc1_3
      go_enter Tryz.func30, Tryz.ntmps30
      go_wp2_with (first | ((with_reducible refine gate_dst (N := 2) rfl ?_); refine box_event ?hg (N := 2) ?hd (cs := #[.slice A0_0 l0_0.length c0_0, .slice A0_1 l0_1.length c0_1, .slice A0_2 l0_2.length c0_2, .slice A0_3 l0_3.length c0_3, .int .i64 a0_4, .int .i64 a0_5]) (t := 32) ?hr ?_; (case hd => rfl); (case hg => rfl); (case hr => first | (go_simp; done) | (go_simp; rfl)); intro gD hg w1 hbox hb; have BL := Aside0.mk hb; have BD := Aside0.mk hbox; clear hb; (try clear iD0 iD1 iD2 iD3 iD4 iD5); obtain ⟨iD0, iD1, iD2, iD3, iD4, iD5⟩ := blk6 BD.out; clear hg hbox) | ((with_reducible refine gate_dst (N := 3) rfl ?_); refine box_event ?hg (N := 3) ?hd (cs := #[.slice A1_0 l1_0.length c1_0, .slice A1_1 l1_1.length c1_1, .slice A1_2 l1_2.length c1_2, .slice A1_3 l1_3.length c1_3, .int .i64 a1_4, .int .i64 a1_5]) (t := 32) ?hr ?_; (case hd => rfl); (case hg => rfl); (case hr => first | (go_simp; done) | (go_simp; rfl)); intro gX hg w1 hbox hb; replace BL := Aside0.mk (BL.out.trans (hb.mono BL.out.size)); (try replace BD := Aside0.mk ((hb.block gD (blk_lt BD.out)).trans BD.out)); (try replace BX := Aside0.mk ((hb.block gX (blk_lt BX.out)).trans BX.out)); (try replace KV := Aside0.mk (Kd.R_below KV.out hb)); have BX := Aside0.mk hbox; clear hb; (try clear iD0 iD1 iD2 iD3 iD4 iD5); obtain ⟨iD0, iD1, iD2, iD3, iD4, iD5⟩ := blk6 BD.out; (try clear iX0 iX1 iX2 iX3 iX4 iX5); obtain ⟨iX0, iX1, iX2, iX3, iX4, iX5⟩ := blk6 BX.out; clear hg hbox) | (go_at_call 16; clear K1; (with_reducible refine (C0.out _ BL.out).mono ?_); rintro e w1 ⟨rfl, hb⟩; replace BL := Aside0.mk (BL.out.trans (hb.mono BL.out.size)); (try replace BD := Aside0.mk ((hb.block gD (blk_lt BD.out)).trans BD.out)); (try replace BX := Aside0.mk ((hb.block gX (blk_lt BX.out)).trans BX.out)); (try replace KV := Aside0.mk (Kd.R_below KV.out hb)); clear hb; (try clear iD0 iD1 iD2 iD3 iD4 iD5); obtain ⟨iD0, iD1, iD2, iD3, iD4, iD5⟩ := blk6 BD.out; (try clear iX0 iX1 iX2 iX3 iX4 iX5); obtain ⟨iX0, iX1, iX2, iX3, iX4, iX5⟩ := blk6 BX.out) | (go_at_call 16; clear K2; (with_reducible refine (C1.out _ BL.out).mono ?_); rintro e w1 ⟨rfl, hb⟩; replace BL := Aside0.mk (BL.out.trans (hb.mono BL.out.size)); (try replace BD := Aside0.mk ((hb.block gD (blk_lt BD.out)).trans BD.out)); (try replace BX := Aside0.mk ((hb.block gX (blk_lt BX.out)).trans BX.out)); (try replace KV := Aside0.mk (Kd.R_below KV.out hb)); clear hb; (try clear iD0 iD1 iD2 iD3 iD4 iD5); obtain ⟨iD0, iD1, iD2, iD3, iD4, iD5⟩ := blk6 BD.out; (try clear iX0 iX1 iX2 iX3 iX4 iX5); obtain ⟨iX0, iX1, iX2, iX3, iX4, iX5⟩ := blk6 BX.out))
      go_ret
      exact ⟨rfl, BL.out⟩
    | true =>
      rw [if_pos rfl] at h
      have hM0 := mostId_ge l0_0 0
      generalize hM : mostId l0_0 0 = M at h hM0
      have HM := Aside0.mk hM
      have HF := Aside0.mk h
      obtain ⟨ke, hke⟩ : ∃ x, x = ([] : List Int) := ⟨_, rfl⟩
      have HE := Aside0.mk hke
      have HR0 := Aside0.mk hr0_0
      have HR1 := Aside0.mk hr1_0
      have hmax := hr0_0.2.1
      have hmx3 := hr0_3.2.1
      have CNa := Aside0.mk (fun (w1 : World) (hb : Below w.heap.size w w1) (i a : Int) (h : spec_l05Node.f k l0_0 l0_1 l0_2 l0_3 a0_4 a0_5 i = some a) => spec_l05Node.calls k A0_0 c0_0 l0_0 A0_1 c0_1 l0_1 A0_2 c0_2 l0_2 A0_3 c0_3 l0_3 a0_4 a0_5 i a w1 (Kd.C_below hr0_0 hb) hc0_0 (Kd.C_below hr0_1 hb) hc0_1 (Kd.C_below hr0_2 hb) hc0_2 (Kd.C_below hr0_3 hb) hc0_3 h)
      have CNb := Aside0.mk (fun (w1 : World) (hb : Below w.heap.size w w1) (i a : Int) (h : spec_l05Node.f k l1_0 l1_1 l1_2 l1_3 a1_4 a1_5 i = some a) => spec_l05Node.calls k A1_0 c1_0 l1_0 A1_1 c1_1 l1_1 A1_2 c1_2 l1_2 A1_3 c1_3 l1_3 a1_4 a1_5 i a w1 (Kd.C_below hr1_0 hb) hc1_0 (Kd.C_below hr1_1 hb) hc1_1 (Kd.C_below hr1_2 hb) hc1_2 (Kd.C_below hr1_3 hb) hc1_3 h)
      have CF := Aside0.mk (fun (w1 : World) (hb : Below w.heap.size w w1) (n : Int) (Ak : Option Addr) (ck : Nat) (ks : List Int) (g1 : List S57) (g2 g3 : List S59) (g4 : List ByteArray) (g5 g6 : Int) (hk : Kd.R (Kd.int .i64) 3 w1 w.heap.size (fun _ => True) (.slice Ak ks.length ck) ks) (h : spec_Fallen.f k l0_0 l0_1 l0_2 l0_3 a0_4 a0_5 n ks = some (g1, g2, g3, g4, g5, g6)) => spec_Fallen.calls k A0_0 c0_0 l0_0 A0_1 c0_1 l0_1 A0_2 c0_2 l0_2 A0_3 c0_3 l0_3 a0_4 a0_5 n Ak ck ks g1 g2 g3 g4 g5 g6 w1 (Kd.C_below hr0_0 hb) hc0_0 (Kd.C_below hr0_1 hb) hc0_1 (Kd.C_below hr0_2 hb) hc0_2 (Kd.C_below hr0_3 hb) hc0_3 (Kd.R_reads' hk).2.2 (Kd.R_reads' hk).2.1 h)
      have CS := Aside0.mk (fun (w1 : World) (t : Bool) (g1 : List S57) (g2 g3 : List S59) (g4 : List ByteArray) (g5 g6 : Int) (v0 v1 v2 v3 : Value) (hb : Below w.heap.size w w1) (h : HasD w1 w.heap.size v0 v1 v2 v3 g1 g2 g3 g4) (hs : spec_SameDisk.f k g1 g2 g3 g4 g5 g6 l1_0 l1_1 l1_2 l1_3 a1_4 a1_5 = some t) => (by
          obtain ⟨B0, e0, B1, e1, B2, e2, B3, e3, rfl, rfl, rfl, rfl⟩ := has_slices h
          exact spec_SameDisk.calls k B0 e0 g1 B1 e1 g2 B2 e2 g3 B3 e3 g4 g5 g6 A1_0 c1_0 l1_0 A1_1 c1_1 l1_1 A1_2 c1_2 l1_2 A1_3 c1_3 l1_3 a1_4 a1_5 t w1 (Kd.R_reads' h.r0).2.2 (Kd.R_reads' h.r0).2.1 (Kd.R_reads' h.r1).2.2 (Kd.R_reads' h.r1).2.1 (Kd.R_reads' h.r2).2.2 (Kd.R_reads' h.r2).2.1 (Kd.R_reads' h.r3).2.2 (Kd.R_reads' h.r3).2.1 (Kd.C_below hr1_0 hb) hc1_0 (Kd.C_below hr1_1 hb) hc1_1 (Kd.C_below hr1_2 hb) hc1_2 (Kd.C_below hr1_3 hb) hc1_3 hs : Calls Tryz.prog 55 #[.agg #[v0, v1, v2, v3, .int .i64 g5, .int .i64 g6], .agg #[.slice A1_0 l1_0.length c1_0, .slice A1_1 l1_1.length c1_1, .slice A1_2 l1_2.length c1_2, .slice A1_3 l1_3.length c1_3, .int .i64 a1_4, .int .i64 a1_5]] w1 fun e w' => e = .returned (.bool t) ∧ Below w1.heap.size w1 w'))
      clear h hb0 hb2 hM hke hr0_0 hc0_0 hr0_1 hc0_1 hr0_2 hc0_2 hr0_3 hc0_3 hr1_0 hc1_0 hr1_1 hc1_1 hr1_2 hc1_2 hr1_3 hc1_3
      go_enter Tryz.func30, Tryz.ntmps30
      go_wp2_with (first | ((with_reducible refine gate_dst (N := 2) rfl ?_); refine box_event ?hg (N := 2) ?hd (cs := #[.slice A0_0 l0_0.length c0_0, .slice A0_1 l0_1.length c0_1, .slice A0_2 l0_2.length c0_2, .slice A0_3 l0_3.length c0_3, .int .i64 a0_4, .int .i64 a0_5]) (t := 32) ?hr ?_; (case hd => rfl); (case hg => rfl); (case hr => first | (go_simp; done) | (go_simp; rfl)); intro gD hg w1 hbox hb; have BL := Aside0.mk hb; have BD := Aside0.mk hbox; clear hb; (try clear iD0 iD1 iD2 iD3 iD4 iD5); obtain ⟨iD0, iD1, iD2, iD3, iD4, iD5⟩ := blk6 BD.out; clear hg hbox) | ((with_reducible refine gate_dst (N := 3) rfl ?_); refine box_event ?hg (N := 3) ?hd (cs := #[.slice A1_0 l1_0.length c1_0, .slice A1_1 l1_1.length c1_1, .slice A1_2 l1_2.length c1_2, .slice A1_3 l1_3.length c1_3, .int .i64 a1_4, .int .i64 a1_5]) (t := 32) ?hr ?_; (case hd => rfl); (case hg => rfl); (case hr => first | (go_simp; done) | (go_simp; rfl)); intro gX hg w1 hbox hb; replace BL := Aside0.mk (BL.out.trans (hb.mono BL.out.size)); (try replace BD := Aside0.mk ((hb.block gD (blk_lt BD.out)).trans BD.out)); (try replace BX := Aside0.mk ((hb.block gX (blk_lt BX.out)).trans BX.out)); (try replace KV := Aside0.mk (Kd.R_below KV.out hb)); have BX := Aside0.mk hbox; clear hb; (try clear iD0 iD1 iD2 iD3 iD4 iD5); obtain ⟨iD0, iD1, iD2, iD3, iD4, iD5⟩ := blk6 BD.out; (try clear iX0 iX1 iX2 iX3 iX4 iX5); obtain ⟨iX0, iX1, iX2, iX3, iX4, iX5⟩ := blk6 BX.out; clear hg hbox) | (go_at_call 16; clear K1; (with_reducible refine (C0.out _ BL.out).mono ?_); rintro e w1 ⟨rfl, hb⟩; replace BL := Aside0.mk (BL.out.trans (hb.mono BL.out.size)); (try replace BD := Aside0.mk ((hb.block gD (blk_lt BD.out)).trans BD.out)); (try replace BX := Aside0.mk ((hb.block gX (blk_lt BX.out)).trans BX.out)); (try replace KV := Aside0.mk (Kd.R_below KV.out hb)); clear hb; (try clear iD0 iD1 iD2 iD3 iD4 iD5); obtain ⟨iD0, iD1, iD2, iD3, iD4, iD5⟩ := blk6 BD.out; (try clear iX0 iX1 iX2 iX3 iX4 iX5); obtain ⟨iX0, iX1, iX2, iX3, iX4, iX5⟩ := blk6 BX.out) | (go_at_call 16; clear K2; (with_reducible refine (C1.out _ BL.out).mono ?_); rintro e w1 ⟨rfl, hb⟩; replace BL := Aside0.mk (BL.out.trans (hb.mono BL.out.size)); (try replace BD := Aside0.mk ((hb.block gD (blk_lt BD.out)).trans BD.out)); (try replace BX := Aside0.mk ((hb.block gX (blk_lt BX.out)).trans BX.out)); (try replace KV := Aside0.mk (Kd.R_below KV.out hb)); clear hb; (try clear iD0 iD1 iD2 iD3 iD4 iD5); obtain ⟨iD0, iD1, iD2, iD3, iD4, iD5⟩ := blk6 BD.out; (try clear iX0 iX1 iX2 iX3 iX4 iX5); obtain ⟨iX0, iX1, iX2, iX3, iX4, iX5⟩ := blk6 BX.out) | ((with_reducible refine gate_dst (N := 21) rfl ?_); refine Kd.R_make (Kd.int .i64) _ 3 rfl (N := 21) rfl 44 _ _ rfl 0 rfl rfl Tryz.underlying44 (.int .i64 0) 8 info3 rfl (by decide) (by omega) 0 (ok := fun _ => True) (okp := fun _ => True) rfl (fun _ hk => hk) trivial (by omega) (by omega) (Below.refl _ _) (Nat.le_refl _) ?_; intro v4 w1 ho hb hg_ hnew_; clear hg_ hnew_; have LW := BL.out.size; replace ho := (show Kd.R (Kd.int .i64) 3 w1 _ (fun _ => True) v4 ([] : List Int) from ho); rw [← HE.out] at ho; obtain ⟨Ak, ck, rfl⟩ := Kd.R_slice ho; replace BL := Aside0.mk (BL.out.trans (hb.mono BL.out.size)); (try replace BD := Aside0.mk ((hb.block gD (blk_lt BD.out)).trans BD.out)); (try replace BX := Aside0.mk ((hb.block gX (blk_lt BX.out)).trans BX.out)); have KV := Aside0.mk (Kd.R_lower ho LW); clear ho hb LW; (try clear iD0 iD1 iD2 iD3 iD4 iD5); obtain ⟨iD0, iD1, iD2, iD3, iD4, iD5⟩ := blk6 BD.out; (try clear iX0 iX1 iX2 iX3 iX4 iX5); obtain ⟨iX0, iX1, iX2, iX3, iX4, iX5⟩ := blk6 BX.out))
      go_loopg [6, 7] l0_0.length (fun gg s6 s7 wr => ∃ (kk : Nat) (m : Int), kk ≤ l0_0.length ∧ l0_0.length - kk ≤ gg ∧ s6 = .int .i64 m ∧ s7 = .int .i64 kk ∧ Aside0 (mostId (l0_0.drop kk) m = M) ∧ Aside0 (Below w.heap.size w wr) ∧ Aside0 (wr.heap[gD]? = some (.cells #[.slice A0_0 l0_0.length c0_0, .slice A0_1 l0_1.length c0_1, .slice A0_2 l0_2.length c0_2, .slice A0_3 l0_3.length c0_3, .int .i64 a0_4, .int .i64 a0_5] 32 (0, 0))) ∧ Aside0 (wr.heap[gX]? = some (.cells #[.slice A1_0 l1_0.length c1_0, .slice A1_1 l1_1.length c1_1, .slice A1_2 l1_2.length c1_2, .slice A1_3 l1_3.length c1_3, .int .i64 a1_4, .int .i64 a1_5] 32 (0, 0))) ∧ Aside0 (Kd.R (Kd.int .i64) 3 wr w.heap.size (fun _ => True) (.slice Ak ke.length ck) ke))
      case atStart => exact ⟨0, 0, Nat.zero_le _, by omega, rfl, rfl, HM, BL, BD, BX, KV⟩
      case round =>
        clear BL BD BX KV HM
        (try clear iD0 iD1 iD2 iD3 iD4 iD5 iX0 iX1 iX2 iX3 iX4 iX5)
        obtain ⟨kk, m, hkk, hgg, rfl, rfl, PC, BL, BD, BX, KV⟩ := hrel
        by_cases hlt : kk < l0_0.length
        · have hlz : (kk : Int) < (l0_0.length : Int) := by omega
          have hk0 : (0 : Int) ≤ (kk : Int) := by omega
          obtain ⟨ad, rfl, u0, u1, u2⟩ := at_T57 (Kd.C_below HR0.out BL.out) (kk : Int) (by omega) hlz
          rw [Int.toNat_natCast] at u0 u1 u2
          have hd : l0_0.drop kk = rd_T57 l0_0 (kk : Int) :: l0_0.drop (kk + 1) := by
            rw [List.drop_eq_getElem_cons hlt]
            unfold rd_T57
            rw [Int.toNat_natCast, List.getD_eq_getElem?_getD, List.getElem?_eq_getElem hlt]; rfl
          have PC' := PC.out
          rw [hd, mostId] at PC'
          clear hd PC
          generalize rd_T57 l0_0 (kk : Int) = y at u0 u1 u2 PC'
          (try clear iD0 iD1 iD2 iD3 iD4 iD5); obtain ⟨iD0, iD1, iD2, iD3, iD4, iD5⟩ := blk6 BD.out; (try clear iX0 iX1 iX2 iX3 iX4 iX5); obtain ⟨iX0, iX1, iX2, iX3, iX4, iX5⟩ := blk6 BX.out
          by_cases hy : m < y.f0
          · rw [if_pos hy] at PC'
            have PC := Aside0.mk PC'
            clear PC'
            go_wp2_with fail
            go_roundg (l0_0.length - (kk + 1))
            case measure => omega
            case rel => exact ⟨kk + 1, y.f0, by omega, by omega, rfl, by go_num, PC, BL, BD, BX, KV⟩
          · rw [if_neg hy] at PC'
            have PC := Aside0.mk PC'
            clear PC'
            go_wp2_with fail
            go_roundg (l0_0.length - (kk + 1))
            case measure => omega
            case rel => exact ⟨kk + 1, m, by omega, by omega, rfl, by go_num, PC, BL, BD, BX, KV⟩
        · have hlz : ¬ (kk : Int) < (l0_0.length : Int) := by omega
          have PC' := PC.out
          rw [List.drop_eq_nil_of_le (by omega), mostId] at PC'
          subst PC'
          clear PC hgg hkk
          (try clear iD0 iD1 iD2 iD3 iD4 iD5); obtain ⟨iD0, iD1, iD2, iD3, iD4, iD5⟩ := blk6 BD.out; (try clear iX0 iX1 iX2 iX3 iX4 iX5); obtain ⟨iX0, iX1, iX2, iX3, iX4, iX5⟩ := blk6 BX.out
          have h := HF.out
          clear HF
          by_cases hbig : 100000 < m
          · rw [if_pos hbig] at h
            obtain rfl := Option.some.inj h
            clear h
            go_wp2_with fail
            go_ret
            exact ⟨rfl, BL.out⟩
          · rw [if_neg hbig] at h
            replace h := Option.bind_eq_some_iff.mp h
            obtain ⟨k1, hk1, h⟩ := h
            by_cases h3 : l0_3.length ≤ 140737488355328
            case neg => rw [if_neg h3] at h; cases h
            rw [if_pos h3] at h
            have HL := Aside0.mk h
            have HK1 := Aside0.mk hk1
            clear h hk1
            go_wp2_with fail
            go_loopg [5, 8] (m.toNat + 1) (fun gg s5 s8 wr => ∃ (kk : Nat) (ks : List Int) (Ak : Option Addr) (ck : Nat), kk ≤ m.toNat + 1 ∧ m.toNat + 1 - kk ≤ gg ∧ s5 = .slice Ak ks.length ck ∧ s8 = .int .i64 kk ∧ Aside0 (ks.length = kk) ∧ Aside0 (keepsF (keepAtF k l0_0 l0_1 l0_2 l0_3 a0_4 a0_5 l1_0 l1_1 l1_2 l1_3 a1_4 a1_5) (m.toNat + 1 - kk) kk ks = some k1) ∧ Aside0 (Below w.heap.size w wr) ∧ Aside0 (wr.heap[gD]? = some (.cells #[.slice A0_0 l0_0.length c0_0, .slice A0_1 l0_1.length c0_1, .slice A0_2 l0_2.length c0_2, .slice A0_3 l0_3.length c0_3, .int .i64 a0_4, .int .i64 a0_5] 32 (0, 0))) ∧ Aside0 (wr.heap[gX]? = some (.cells #[.slice A1_0 l1_0.length c1_0, .slice A1_1 l1_1.length c1_1, .slice A1_2 l1_2.length c1_2, .slice A1_3 l1_3.length c1_3, .int .i64 a1_4, .int .i64 a1_5] 32 (0, 0))) ∧ Aside0 (Kd.R (Kd.int .i64) 3 wr w.heap.size (fun _ => True) (.slice Ak ks.length ck) ks))
            case atStart => exact ⟨0, ke, Ak, ck, by omega, by omega, rfl, rfl, ⟨by rw [HE.out]; rfl⟩, ⟨by rw [HE.out, Nat.sub_zero]; exact HK1.out⟩, BL, BD, BX, KV⟩
            case round =>
              clear BL BD BX KV HE HK1
              (try clear iD0 iD1 iD2 iD3 iD4 iD5 iX0 iX1 iX2 iX3 iX4 iX5)
              obtain ⟨kk, ks, Ak, ck, hkk, hgg, rfl, rfl, KL, PC, BL, BD, BX, KV⟩ := hrel
              by_cases hlt : kk < m.toNat + 1
              · have hltz : (kk : Int) ≤ m := by omega
                have hk0 : (0 : Int) ≤ (kk : Int) := by omega
                have PC' := PC.out
                rw [show m.toNat + 1 - kk = (m.toNat - kk) + 1 by omega, keepsF] at PC'
                replace PC' := Option.bind_eq_some_iff.mp PC'
                obtain ⟨z, hz, hrest⟩ := PC'
                generalize hnk : ks ++ [z] = nk at hrest
                have HNK := Aside0.mk hnk
                have KN : Aside0 (nk.length = kk + 1) := ⟨by rw [← hnk, List.length_append, KL.out]; rfl⟩
                have PN : Aside0 (keepsF (keepAtF k l0_0 l0_1 l0_2 l0_3 a0_4 a0_5 l1_0 l1_1 l1_2 l1_3 a1_4 a1_5) (m.toNat + 1 - (kk + 1)) (kk + 1) nk = some k1) := ⟨by rw [show m.toNat + 1 - (kk + 1) = m.toNat - kk by omega]; exact hrest⟩
                clear hrest PC hnk
                unfold keepAtF at hz
                replace hz := Option.bind_eq_some_iff.mp hz
                obtain ⟨a, ha, hz⟩ := hz
                replace hz := Option.bind_eq_some_iff.mp hz
                obtain ⟨b, hb, hz⟩ := hz
                have HA := Aside0.mk ha
                have HB := Aside0.mk hb
                clear ha hb
                (try clear iD0 iD1 iD2 iD3 iD4 iD5); obtain ⟨iD0, iD1, iD2, iD3, iD4, iD5⟩ := blk6 BD.out; (try clear iX0 iX1 iX2 iX3 iX4 iX5); obtain ⟨iX0, iX1, iX2, iX3, iX4, iX5⟩ := blk6 BX.out
                by_cases c1 : 0 ≤ a
                · by_cases c2 : 0 ≤ b
                  · rw [if_pos ⟨c1, c2⟩] at hz
                    by_cases c3 : a < (l0_0.length : Int) ∧ b < (l1_0.length : Int)
                    case neg => rw [if_neg c3] at hz; cases hz
                    rw [if_pos c3] at hz
                    obtain ⟨c3, c4⟩ := c3
                    have hz := Option.some.inj hz
                    go_wp2_with (first | (go_at_call 80; (with_reducible refine (CNa.out _ BL.out (kk : Int) a HA.out).mono ?_); rintro e w1 ⟨rfl, hb⟩; replace BL := Aside0.mk (BL.out.trans (hb.mono BL.out.size)); (try replace BD := Aside0.mk ((hb.block gD (blk_lt BD.out)).trans BD.out)); (try replace BX := Aside0.mk ((hb.block gX (blk_lt BX.out)).trans BX.out)); (try replace KV := Aside0.mk (Kd.R_below KV.out hb)); clear hb; (try clear iD0 iD1 iD2 iD3 iD4 iD5); obtain ⟨iD0, iD1, iD2, iD3, iD4, iD5⟩ := blk6 BD.out; (try clear iX0 iX1 iX2 iX3 iX4 iX5); obtain ⟨iX0, iX1, iX2, iX3, iX4, iX5⟩ := blk6 BX.out) | (go_at_call 80; (with_reducible refine (CNb.out _ BL.out (kk : Int) b HB.out).mono ?_); rintro e w1 ⟨rfl, hb⟩; replace BL := Aside0.mk (BL.out.trans (hb.mono BL.out.size)); (try replace BD := Aside0.mk ((hb.block gD (blk_lt BD.out)).trans BD.out)); (try replace BX := Aside0.mk ((hb.block gX (blk_lt BX.out)).trans BX.out)); (try replace KV := Aside0.mk (Kd.R_below KV.out hb)); clear hb; (try clear iD0 iD1 iD2 iD3 iD4 iD5); obtain ⟨iD0, iD1, iD2, iD3, iD4, iD5⟩ := blk6 BD.out; (try clear iX0 iX1 iX2 iX3 iX4 iX5); obtain ⟨iX0, iX1, iX2, iX3, iX4, iX5⟩ := blk6 BX.out))
                    obtain ⟨ad0, rfl, u0, u1, u2⟩ := at_T57 (Kd.C_below HR0.out BL.out) a c1 c3
                    obtain ⟨ad1, rfl, t0, t1, t2⟩ := at_T57 (Kd.C_below HR1.out BL.out) b c2 c4
                    clear u0 u1 t0 t2
                    have d1 : decide (0 ≤ a) = true := decide_eq_true c1
                    have d2 : decide (a < (l0_0.length : Int)) = true := decide_eq_true c3
                    have d3 : decide (0 ≤ b) = true := decide_eq_true c2
                    have d4 : decide (b < (l1_0.length : Int)) = true := decide_eq_true c4
                    generalize rd_T57 l0_0 a = y0 at u2 hz
                    generalize rd_T57 l1_0 b = y1 at t1 hz
                    have hws : IntKind.i64.wrap ((y1.f1.size : Int) - y0.f2) = z := (i64_w _).trans hz
                    clear hz
                    have sq0_ : ∀ p_ : LaidBy w1, p_.W.cell? ⟨gD, 0, none⟩ = some (.slice (some ad0) l0_0.length c0_0) := fun p_ => p_.cell (iD0)
                    have sq1_ : ∀ p_ : LaidBy w1, p_.W.cell? ⟨gX, 0, none⟩ = some (.slice (some ad1) l1_0.length c1_0) := fun p_ => p_.cell (iX0)
                    have sq2_ : ∀ p_ : LaidBy w1, p_.W.cell? ⟨(ad0.add (a.toNat * 3)).block, (ad0.add (a.toNat * 3)).off + 2, none⟩ = some (.int .i64 y0.f2) := fun p_ => p_.cell (u2)
                    have sq3_ : ∀ p_ : LaidBy w1, p_.W.cell? ⟨(ad1.add (b.toNat * 3)).block, (ad1.add (b.toNat * 3)).off + 1, none⟩ = some (.string y1.f1) := fun p_ => p_.cell (t1)
                    refine wp_region_laid (by kernel_rfl) (by kernel_rfl) ?_
                    repeat (go_big_quiet_step (first | fail))
                    refine wpQuiet_nil ?_
                    rintro w9 ⟨p_, hp_⟩
                    have hq_ : Below w1.heap.size w1 w9 := hp_ ▸ p_.ok
                    clear hp_ p_ sq0_ sq1_ sq2_ sq3_
                    have hb := hq_
                    replace BL := Aside0.mk (BL.out.trans (hb.mono BL.out.size)); (try replace BD := Aside0.mk ((hb.block gD (blk_lt BD.out)).trans BD.out)); (try replace BX := Aside0.mk ((hb.block gX (blk_lt BX.out)).trans BX.out)); (try replace KV := Aside0.mk (Kd.R_below KV.out hb))
                    clear hb hq_
                    (try clear iD0 iD1 iD2 iD3 iD4 iD5); obtain ⟨iD0, iD1, iD2, iD3, iD4, iD5⟩ := blk6 BD.out; (try clear iX0 iX1 iX2 iX3 iX4 iX5); obtain ⟨iX0, iX1, iX2, iX3, iX4, iX5⟩ := blk6 BX.out
                    go_wp2_with (first | ((with_reducible refine gate_builtin (b := .append) (xs := #[.tmp 76, .tmp 78]) rfl ?_); at_builtin; refine Kd.R_append (Kd.int .i64) (w0 := w) w.heap.size rfl (.tmp 76) (.tmp 78) 44 3 (.int .i64 0) 8 rfl Tryz.underlying44 info3 rfl (by decide) (by omega) (.slice Ak ks.length ck) ks z [.int .i64 z] (fun _ => True) (fun _ => False) rfl rfl ?aP (fun _ hk => hk.elim) ?aF ?aO ?aB ?aS ?aL ?_; (case aP => exact rfl); (case aB => exact BL.out); (case aF => exact (fun _ _ => trivial)); (case aO => exact KV.out); (case aS => exact BL.out.size); (case aL => have := KL.out; omega); intro v1 w1 ho hb hg1 hat1; rw [HNK.out] at ho; obtain ⟨Ak2, ck2, rfl⟩ := Kd.R_slice ho; have b2 := blk_grown BD.out hg1 (Kd.R_ne KV.out BD.out (by decide)); have b3 := blk_grown BX.out hg1 (Kd.R_ne KV.out BX.out (by decide)); clear BL BD BX KV; have BL := Aside0.mk hb; have BD := Aside0.mk b2; have BX := Aside0.mk b3; have KV := Aside0.mk ho; clear ho hb hg1 hat1 b2 b3; (try clear iD0 iD1 iD2 iD3 iD4 iD5); obtain ⟨iD0, iD1, iD2, iD3, iD4, iD5⟩ := blk6 BD.out; (try clear iX0 iX1 iX2 iX3 iX4 iX5); obtain ⟨iX0, iX1, iX2, iX3, iX4, iX5⟩ := blk6 BX.out))
                    go_roundg (m.toNat + 1 - (kk + 1))
                    case measure => omega
                    case rel => exact ⟨kk + 1, nk, Ak2, ck2, by omega, by omega, rfl, by go_num, KN, PN, BL, BD, BX, KV⟩
                  · rw [if_neg (fun q => c2 q.2)] at hz
                    obtain rfl := Option.some.inj hz
                    clear hz
                    go_wp2_with (first | (go_at_call 80; (with_reducible refine (CNa.out _ BL.out (kk : Int) a HA.out).mono ?_); rintro e w1 ⟨rfl, hb⟩; replace BL := Aside0.mk (BL.out.trans (hb.mono BL.out.size)); (try replace BD := Aside0.mk ((hb.block gD (blk_lt BD.out)).trans BD.out)); (try replace BX := Aside0.mk ((hb.block gX (blk_lt BX.out)).trans BX.out)); (try replace KV := Aside0.mk (Kd.R_below KV.out hb)); clear hb; (try clear iD0 iD1 iD2 iD3 iD4 iD5); obtain ⟨iD0, iD1, iD2, iD3, iD4, iD5⟩ := blk6 BD.out; (try clear iX0 iX1 iX2 iX3 iX4 iX5); obtain ⟨iX0, iX1, iX2, iX3, iX4, iX5⟩ := blk6 BX.out) | (go_at_call 80; (with_reducible refine (CNb.out _ BL.out (kk : Int) b HB.out).mono ?_); rintro e w1 ⟨rfl, hb⟩; replace BL := Aside0.mk (BL.out.trans (hb.mono BL.out.size)); (try replace BD := Aside0.mk ((hb.block gD (blk_lt BD.out)).trans BD.out)); (try replace BX := Aside0.mk ((hb.block gX (blk_lt BX.out)).trans BX.out)); (try replace KV := Aside0.mk (Kd.R_below KV.out hb)); clear hb; (try clear iD0 iD1 iD2 iD3 iD4 iD5); obtain ⟨iD0, iD1, iD2, iD3, iD4, iD5⟩ := blk6 BD.out; (try clear iX0 iX1 iX2 iX3 iX4 iX5); obtain ⟨iX0, iX1, iX2, iX3, iX4, iX5⟩ := blk6 BX.out) | ((with_reducible refine gate_builtin (b := .append) (xs := #[.tmp 76, .tmp 78]) rfl ?_); at_builtin; refine Kd.R_append (Kd.int .i64) (w0 := w) w.heap.size rfl (.tmp 76) (.tmp 78) 44 3 (.int .i64 0) 8 rfl Tryz.underlying44 info3 rfl (by decide) (by omega) (.slice Ak ks.length ck) ks 0 [.int .i64 0] (fun _ => True) (fun _ => False) rfl rfl ?aP (fun _ hk => hk.elim) ?aF ?aO ?aB ?aS ?aL ?_; (case aP => exact rfl); (case aB => exact BL.out); (case aF => exact (fun _ _ => trivial)); (case aO => exact KV.out); (case aS => exact BL.out.size); (case aL => have := KL.out; omega); intro v1 w1 ho hb hg1 hat1; rw [HNK.out] at ho; obtain ⟨Ak2, ck2, rfl⟩ := Kd.R_slice ho; have b2 := blk_grown BD.out hg1 (Kd.R_ne KV.out BD.out (by decide)); have b3 := blk_grown BX.out hg1 (Kd.R_ne KV.out BX.out (by decide)); clear BL BD BX KV; have BL := Aside0.mk hb; have BD := Aside0.mk b2; have BX := Aside0.mk b3; have KV := Aside0.mk ho; clear ho hb hg1 hat1 b2 b3; (try clear iD0 iD1 iD2 iD3 iD4 iD5); obtain ⟨iD0, iD1, iD2, iD3, iD4, iD5⟩ := blk6 BD.out; (try clear iX0 iX1 iX2 iX3 iX4 iX5); obtain ⟨iX0, iX1, iX2, iX3, iX4, iX5⟩ := blk6 BX.out))
                    go_roundg (m.toNat + 1 - (kk + 1))
                    case measure => omega
                    case rel => exact ⟨kk + 1, nk, Ak2, ck2, by omega, by omega, rfl, by go_num, KN, PN, BL, BD, BX, KV⟩
                · rw [if_neg (fun q => c1 q.1)] at hz
                  obtain rfl := Option.some.inj hz
                  clear hz
                  go_wp2_with (first | (go_at_call 80; (with_reducible refine (CNa.out _ BL.out (kk : Int) a HA.out).mono ?_); rintro e w1 ⟨rfl, hb⟩; replace BL := Aside0.mk (BL.out.trans (hb.mono BL.out.size)); (try replace BD := Aside0.mk ((hb.block gD (blk_lt BD.out)).trans BD.out)); (try replace BX := Aside0.mk ((hb.block gX (blk_lt BX.out)).trans BX.out)); (try replace KV := Aside0.mk (Kd.R_below KV.out hb)); clear hb; (try clear iD0 iD1 iD2 iD3 iD4 iD5); obtain ⟨iD0, iD1, iD2, iD3, iD4, iD5⟩ := blk6 BD.out; (try clear iX0 iX1 iX2 iX3 iX4 iX5); obtain ⟨iX0, iX1, iX2, iX3, iX4, iX5⟩ := blk6 BX.out) | (go_at_call 80; (with_reducible refine (CNb.out _ BL.out (kk : Int) b HB.out).mono ?_); rintro e w1 ⟨rfl, hb⟩; replace BL := Aside0.mk (BL.out.trans (hb.mono BL.out.size)); (try replace BD := Aside0.mk ((hb.block gD (blk_lt BD.out)).trans BD.out)); (try replace BX := Aside0.mk ((hb.block gX (blk_lt BX.out)).trans BX.out)); (try replace KV := Aside0.mk (Kd.R_below KV.out hb)); clear hb; (try clear iD0 iD1 iD2 iD3 iD4 iD5); obtain ⟨iD0, iD1, iD2, iD3, iD4, iD5⟩ := blk6 BD.out; (try clear iX0 iX1 iX2 iX3 iX4 iX5); obtain ⟨iX0, iX1, iX2, iX3, iX4, iX5⟩ := blk6 BX.out) | ((with_reducible refine gate_builtin (b := .append) (xs := #[.tmp 76, .tmp 78]) rfl ?_); at_builtin; refine Kd.R_append (Kd.int .i64) (w0 := w) w.heap.size rfl (.tmp 76) (.tmp 78) 44 3 (.int .i64 0) 8 rfl Tryz.underlying44 info3 rfl (by decide) (by omega) (.slice Ak ks.length ck) ks 0 [.int .i64 0] (fun _ => True) (fun _ => False) rfl rfl ?aP (fun _ hk => hk.elim) ?aF ?aO ?aB ?aS ?aL ?_; (case aP => exact rfl); (case aB => exact BL.out); (case aF => exact (fun _ _ => trivial)); (case aO => exact KV.out); (case aS => exact BL.out.size); (case aL => have := KL.out; omega); intro v1 w1 ho hb hg1 hat1; rw [HNK.out] at ho; obtain ⟨Ak2, ck2, rfl⟩ := Kd.R_slice ho; have b2 := blk_grown BD.out hg1 (Kd.R_ne KV.out BD.out (by decide)); have b3 := blk_grown BX.out hg1 (Kd.R_ne KV.out BX.out (by decide)); clear BL BD BX KV; have BL := Aside0.mk hb; have BD := Aside0.mk b2; have BX := Aside0.mk b3; have KV := Aside0.mk ho; clear ho hb hg1 hat1 b2 b3; (try clear iD0 iD1 iD2 iD3 iD4 iD5); obtain ⟨iD0, iD1, iD2, iD3, iD4, iD5⟩ := blk6 BD.out; (try clear iX0 iX1 iX2 iX3 iX4 iX5); obtain ⟨iX0, iX1, iX2, iX3, iX4, iX5⟩ := blk6 BX.out))
                  go_roundg (m.toNat + 1 - (kk + 1))
                  case measure => omega
                  case rel => exact ⟨kk + 1, nk, Ak2, ck2, by omega, by omega, rfl, by go_num, KN, PN, BL, BD, BX, KV⟩
              · have hltz : ¬ (kk : Int) ≤ m := by omega
                have PC' := PC.out
                rw [show m.toNat + 1 - kk = 0 by omega, keepsF] at PC'
                obtain rfl := Option.some.inj PC'
                clear PC PC' KL hgg hkk
                (try clear iD0 iD1 iD2 iD3 iD4 iD5); obtain ⟨iD0, iD1, iD2, iD3, iD4, iD5⟩ := blk6 BD.out; (try clear iX0 iX1 iX2 iX3 iX4 iX5); obtain ⟨iX0, iX1, iX2, iX3, iX4, iX5⟩ := blk6 BX.out
                go_wp2_with fail
                go_loopg [12] (l0_3.length + 1) (fun gg s12 wr => ∃ kk : Nat, kk ≤ l0_3.length + 1 ∧ l0_3.length + 1 - kk ≤ gg ∧ s12 = .int .i64 kk ∧ Aside0 (couldL (specOne k l0_0 l0_1 l0_2 l0_3 a0_4 a0_5 l1_0 l1_1 l1_2 l1_3 a1_4 a1_5 ks) (l0_3.length + 1 - kk) kk = some r) ∧ Aside0 (Below w.heap.size w wr) ∧ Aside0 (wr.heap[gD]? = some (.cells #[.slice A0_0 l0_0.length c0_0, .slice A0_1 l0_1.length c0_1, .slice A0_2 l0_2.length c0_2, .slice A0_3 l0_3.length c0_3, .int .i64 a0_4, .int .i64 a0_5] 32 (0, 0))) ∧ Aside0 (wr.heap[gX]? = some (.cells #[.slice A1_0 l1_0.length c1_0, .slice A1_1 l1_1.length c1_1, .slice A1_2 l1_2.length c1_2, .slice A1_3 l1_3.length c1_3, .int .i64 a1_4, .int .i64 a1_5] 32 (0, 0))) ∧ Aside0 (Kd.R (Kd.int .i64) 3 wr w.heap.size (fun _ => True) (.slice Ak ks.length ck) ks))
                case atStart => exact ⟨0, by omega, by omega, rfl, ⟨by rw [Nat.sub_zero]; exact HL.out⟩, BL, BD, BX, KV⟩
                case round =>
                  clear BL BD BX KV HL
                  (try clear iD0 iD1 iD2 iD3 iD4 iD5 iX0 iX1 iX2 iX3 iX4 iX5)
                  obtain ⟨kk, hkk, hgg, rfl, PC, BL, BD, BX, KV⟩ := hrel
                  by_cases hlt : kk < l0_3.length + 1
                  · have hltz : (kk : Int) ≤ (l0_3.length : Int) := by omega
                    have hk0 : (0 : Int) ≤ (kk : Int) := by omega
                    have PC' := PC.out
                    rw [show l0_3.length + 1 - kk = (l0_3.length - kk) + 1 by omega, couldL] at PC'
                    replace PC' := Option.bind_eq_some_iff.mp PC'
                    obtain ⟨t, hone, hrest⟩ := PC'
                    unfold specOne at hone
                    replace hone := Option.bind_eq_some_iff.mp hone
                    obtain ⟨⟨g1, g2, g3, g4, g5, g6⟩, hg, hone⟩ := hone
                    dsimp only at hone
                    have HO := Aside0.mk hone
                    have HG := Aside0.mk hg
                    have HR := Aside0.mk hrest
                    clear hone hg hrest PC
                    (try clear iD0 iD1 iD2 iD3 iD4 iD5); obtain ⟨iD0, iD1, iD2, iD3, iD4, iD5⟩ := blk6 BD.out; (try clear iX0 iX1 iX2 iX3 iX4 iX5); obtain ⟨iX0, iX1, iX2, iX3, iX4, iX5⟩ := blk6 BX.out
                    go_wp2_with fail
                    have hb := below_drew (Below.refl wr.heap.size wr)
                    replace BL := Aside0.mk (BL.out.trans (hb.mono BL.out.size)); (try replace BD := Aside0.mk ((hb.block gD (blk_lt BD.out)).trans BD.out)); (try replace BX := Aside0.mk ((hb.block gX (blk_lt BX.out)).trans BX.out)); (try replace KV := Aside0.mk (Kd.R_below KV.out hb))
                    clear hb
                    refine start_ (n := 6) (S := fun w' => w'.cell? ⟨gD, 0, none⟩ = some (.slice A0_0 l0_0.length c0_0) ∧ w'.cell? ⟨gD, 1, none⟩ = some (.slice A0_1 l0_1.length c0_1) ∧ w'.cell? ⟨gD, 2, none⟩ = some (.slice A0_2 l0_2.length c0_2) ∧ w'.cell? ⟨gD, 3, none⟩ = some (.slice A0_3 l0_3.length c0_3) ∧ w'.cell? ⟨gD, 4, none⟩ = some (.int .i64 a0_4) ∧ w'.cell? ⟨gD, 5, none⟩ = some (.int .i64 a0_5) ∧ w'.cell? ⟨gX, 0, none⟩ = some (.slice A1_0 l1_0.length c1_0) ∧ w'.cell? ⟨gX, 1, none⟩ = some (.slice A1_1 l1_1.length c1_1) ∧ w'.cell? ⟨gX, 2, none⟩ = some (.slice A1_2 l1_2.length c1_2) ∧ w'.cell? ⟨gX, 3, none⟩ = some (.slice A1_3 l1_3.length c1_3) ∧ w'.cell? ⟨gX, 4, none⟩ = some (.int .i64 a1_4) ∧ w'.cell? ⟨gX, 5, none⟩ = some (.int .i64 a1_5)) (ds := []) (marks 6 0) (by kernel_rfl) rfl rfl ⟨(blk_cell BD.out 0).trans rfl, (blk_cell BD.out 1).trans rfl, (blk_cell BD.out 2).trans rfl, (blk_cell BD.out 3).trans rfl, (blk_cell BD.out 4).trans rfl, (blk_cell BD.out 5).trans rfl, (blk_cell BX.out 0).trans rfl, (blk_cell BX.out 1).trans rfl, (blk_cell BX.out 2).trans rfl, (blk_cell BX.out 3).trans rfl, (blk_cell BX.out 4).trans rfl, (blk_cell BX.out 5).trans rfl⟩ (fun hHeld => ?_)
                    generalize wr.drew = w2 at BL BD BX KV hHeld ⊢
                    (try clear iD0 iD1 iD2 iD3 iD4 iD5 iX0 iX1 iX2 iX3 iX4 iX5)
                    refine pure_ (i := 1) (N := some 88) (v := ?_) (a' := ?_) (marks 6 2) rfl rfl (by kernel_rfl) (fun _ _ _ h => h) (Or.inl ⟨by rfl, ?_⟩) ?_ ?_
                    rotate_left
                    · intro w'
                      go_simp
                      with_reducible rfl
                    rotate_left
                    · simp only [Act.put, List.setIfInBounds_toArray, List.set_cons_zero, List.set_cons_succ, i64_w, i32_w]
                      rfl
                    refine pure_ (i := 2) (N := some 89) (v := ?_) (a' := ?_) (marks 6 6) rfl rfl (by kernel_rfl) (fun _ _ _ h => h) (Or.inl ⟨by rfl, ?_⟩) ?_ ?_
                    rotate_left
                    · intro w'
                      go_simp
                      with_reducible rfl
                    rotate_left
                    · simp only [Act.put, List.setIfInBounds_toArray, List.set_cons_zero, List.set_cons_succ, i64_w, i32_w]
                      rfl
                    refine take_ (i := 0) (N := some 87) (v := ?_) (a' := ?_) (marks 6 7) rfl rfl (by kernel_rfl) (fun _ _ _ h => h) (Or.inl ⟨by rfl, ?_⟩) hHeld ?_ ?_
                    rotate_left
                    · rintro w' ⟨s0, s1, s2, s3, s4, s5, s6, s7, s8, s9, s10, s11⟩
                      go_simp
                      with_reducible rfl
                    rotate_left
                    · simp only [Act.put, List.setIfInBounds_toArray, List.set_cons_zero, List.set_cons_succ, i64_w, i32_w]
                      rfl
                    refine take_ (i := 4) (N := some 91) (v := ?_) (a' := ?_) (marks 6 23) rfl rfl (by kernel_rfl) (fun _ _ _ h => h) (Or.inl ⟨by rfl, ?_⟩) hHeld ?_ ?_
                    rotate_left
                    · rintro w' ⟨s0, s1, s2, s3, s4, s5, s6, s7, s8, s9, s10, s11⟩
                      go_simp
                      with_reducible rfl
                    rotate_left
                    · simp only [Act.put, List.setIfInBounds_toArray, List.set_cons_zero, List.set_cons_succ, i64_w, i32_w]
                      rfl
                    refine one_ (i := 3) (N := some 90) (marks 6 31) rfl rfl (by kernel_rfl) (by decide) (fun K hK => ?_)
                    refine goes_ Tryz.func32 (by kernel_rfl) rfl #[.agg #[.slice A0_0 l0_0.length c0_0, .slice A0_1 l0_1.length c0_1, .slice A0_2 l0_2.length c0_2, .slice A0_3 l0_3.length c0_3, .int .i64 a0_4, .int .i64 a0_5], .int .i64 kk, .slice Ak ks.length ck] (by rfl) rfl rfl (by (try simp only [List.map_toArray, List.map_cons, List.map_nil]); first | done | rfl | (go_simp; done)) ?_
                    have hbs := BL.out.size
                    refine (CF.out _ BL.out (kk : Int) Ak ck ks g1 g2 g3 g4 g5 g6 KV.out HG.out).mono ?_
                    rintro e w1 ⟨v0, v1, v2, v3, rfl, o0, o1, o2, o3, hb⟩
                    have hD := HasD.of o0 o1 o2 o3
                    replace BL := Aside0.mk (BL.out.trans (hb.mono BL.out.size)); (try replace BD := Aside0.mk ((hb.block gD (blk_lt BD.out)).trans BD.out)); (try replace BX := Aside0.mk ((hb.block gX (blk_lt BX.out)).trans BX.out)); (try replace KV := Aside0.mk (Kd.R_below KV.out hb))
                    have Do := Aside0.mk (hD.lower hbs)
                    clear hD hb hbs o0 o1 o2 o3
                    refine ⟨_, rfl, ?_⟩
                    refine hK.out _ _ ⟨(blk_cell BD.out 0).trans rfl, (blk_cell BD.out 1).trans rfl, (blk_cell BD.out 2).trans rfl, (blk_cell BD.out 3).trans rfl, (blk_cell BD.out 4).trans rfl, (blk_cell BD.out 5).trans rfl, (blk_cell BX.out 0).trans rfl, (blk_cell BX.out 1).trans rfl, (blk_cell BX.out 2).trans rfl, (blk_cell BX.out 3).trans rfl, (blk_cell BX.out 4).trans rfl, (blk_cell BX.out 5).trans rfl⟩ (fun hHeld => ?_)
                    clear hK K
                    refine norm_ (a' := ?_) ?_ ?_
                    rotate_left
                    · show Act.put _ (some 90) _ = _
                      simp only [Act.put, List.setIfInBounds_toArray, List.set_cons_zero, List.set_cons_succ, i64_w, i32_w]
                      rfl
                    refine one_ (i := 5) (N := some 92) (marks 6 63) rfl rfl (by kernel_rfl) (by decide) (fun K hK => ?_)
                    refine goes_ Tryz.func55 (by kernel_rfl) rfl #[.agg #[v0, v1, v2, v3, .int .i64 g5, .int .i64 g6], .agg #[.slice A1_0 l1_0.length c1_0, .slice A1_1 l1_1.length c1_1, .slice A1_2 l1_2.length c1_2, .slice A1_3 l1_3.length c1_3, .int .i64 a1_4, .int .i64 a1_5]] (by rfl) rfl rfl (by (try simp only [List.map_toArray, List.map_cons, List.map_nil]); first | done | rfl | (go_simp; done)) ?_
                    refine (CS.out _ t g1 g2 g3 g4 g5 g6 v0 v1 v2 v3 BL.out Do.out HO.out).mono ?_
                    rintro e w1 ⟨rfl, hb⟩
                    replace BL := Aside0.mk (BL.out.trans (hb.mono BL.out.size)); (try replace BD := Aside0.mk ((hb.block gD (blk_lt BD.out)).trans BD.out)); (try replace BX := Aside0.mk ((hb.block gX (blk_lt BX.out)).trans BX.out)); (try replace KV := Aside0.mk (Kd.R_below KV.out hb))
                    clear hb Do
                    refine ⟨_, rfl, ?_⟩
                    refine hK.out _ _ ⟨(blk_cell BD.out 0).trans rfl, (blk_cell BD.out 1).trans rfl, (blk_cell BD.out 2).trans rfl, (blk_cell BD.out 3).trans rfl, (blk_cell BD.out 4).trans rfl, (blk_cell BD.out 5).trans rfl, (blk_cell BX.out 0).trans rfl, (blk_cell BX.out 1).trans rfl, (blk_cell BX.out 2).trans rfl, (blk_cell BX.out 3).trans rfl, (blk_cell BX.out 4).trans rfl, (blk_cell BX.out 5).trans rfl⟩ (fun hHeld => ?_)
                    clear hK K hHeld
                    refine norm_ (a' := ?_) ?_ ?_
                    rotate_left
                    · show Act.put _ (some 92) _ = _
                      simp only [Act.put, List.setIfInBounds_toArray, List.set_cons_zero, List.set_cons_succ, i64_w, i32_w]
                      rfl
                    refine done_ (by kernel_rfl) ?_
                    cases t with
                    | true =>
                      have hr1 := HR.out
                      rw [if_pos rfl] at hr1
                      obtain rfl := Option.some.inj hr1
                      clear HR hr1
                      go_wp2_with fail
                      go_ret
                      exact ⟨rfl, BL.out⟩
                    | false =>
                      have hr1 := HR.out
                      rw [if_neg (by decide)] at hr1
                      have PC : Aside0 (couldL (specOne k l0_0 l0_1 l0_2 l0_3 a0_4 a0_5 l1_0 l1_1 l1_2 l1_3 a1_4 a1_5 ks) (l0_3.length + 1 - (kk + 1)) (kk + 1) = some r) := ⟨by rw [show l0_3.length + 1 - (kk + 1) = l0_3.length - kk by omega]; exact hr1⟩
                      clear HR hr1
                      go_wp2_with fail
                      go_roundg (l0_3.length + 1 - (kk + 1))
                      case measure => omega
                      case rel => exact ⟨kk + 1, by omega, by omega, by go_num, PC, BL, BD, BX, KV⟩
                  · have hltz : ¬ (kk : Int) ≤ (l0_3.length : Int) := by omega
                    have PC' := PC.out
                    rw [show l0_3.length + 1 - kk = 0 by omega, couldL] at PC'
                    obtain rfl := Option.some.inj PC'
                    clear PC PC'
                    (try clear iD0 iD1 iD2 iD3 iD4 iD5); obtain ⟨iD0, iD1, iD2, iD3, iD4, iD5⟩ := blk6 BD.out; (try clear iX0 iX1 iX2 iX3 iX4 iX5); obtain ⟨iX0, iX1, iX2, iX3, iX4, iX5⟩ := blk6 BX.out
                    go_wp2_with fail
                    go_ret
                    exact ⟨rfl, BL.out⟩

/-! ### impl_within: function 68 -/
def impl_within.f (a0 : Int) (a1 : Int) (a2 : Int) : Option (Bool) := if a0 ≥ a1 then (some (decide (a0 ≤ a2))) else (some false)
set_option maxHeartbeats 8000000 in
set_option maxRecDepth 100000 in
theorem impl_within.calls (a0 : Int) (a1 : Int) (a2 : Int) (r : Bool) (w : World) (h : impl_within.f a0 a1 a2 = some r) :
  Calls Tryz.prog 68 #[.int .i64 a0, .int .i64 a1, .int .i64 a2] w fun e w' => e = .returned (.bool r) ∧ Drawn0 w w' := by
 have H : (if a0 ≥ a1 then (some (decide (a0 ≤ a2))) else (some false)) = some r := h
 clear h
 by_cases c4 : a0 ≥ a1
 ·rw [if_pos c4] at H
  have c4b0 : decide (a1 ≤ a0) = true := decide_eq_true c4
  clear c4
  obtain rfl := Option.some.inj H
  go_enter Tryz.func68, Tryz.ntmps68
  go_wp2
  all_goals (go_ret)
  exact ⟨by first | rfl | (simp; done) | (simp [*]; done), by repeat (exact Drawn0.refl _)⟩
 ·rw [if_neg c4] at H
  have c4b0 : decide (a1 ≤ a0) = false := decide_eq_false c4
  clear c4
  obtain rfl := Option.some.inj H
  go_enter Tryz.func68, Tryz.ntmps68
  go_wp2
  all_goals (go_ret)
  exact ⟨by first | rfl | (simp; done) | (simp [*]; done), by repeat (exact Drawn0.refl _)⟩

/-! ### impl_isNumber: function 67 -/
def impl_isNumber.f (a0 : Int) : Option (Bool) := (impl_within.f a0 0 1000000000).bind fun t284 => (some t284)
set_option maxHeartbeats 8000000 in
set_option maxRecDepth 100000 in
theorem impl_isNumber.calls (a0 : Int) (r : Bool) (w : World) (h : impl_isNumber.f a0 = some r) :
  Calls Tryz.prog 67 #[.int .i64 a0] w fun e w' => e = .returned (.bool r) ∧ Drawn0 w w' := by
 have H : ((impl_within.f a0 0 1000000000).bind fun t284 => (some t284)) = some r := h
 clear h
 obtain ⟨t284, A2, H⟩ := bA H
 replace H : (some t284) = some r := H
 obtain rfl := Option.some.inj H
 go_enter Tryz.func67, Tryz.ntmps67
 go_wp2_with (((with_reducible refine gate_callee (f := 68) rfl ?_); refine goesL_ (some 4) rfl rfl Tryz.func68 (by kernel_rfl) rfl #[.int .i64 a0, .int .i64 0, .int .i64 1000000000] rfl (by (try simp only [List.map_toArray, List.map_cons, List.map_nil]); rfl) ?_; (with_reducible refine (impl_within.calls a0 0 1000000000 t284 _ A2.out).mono ?_); rintro e w' ⟨rfl, ⟨nd, rfl⟩⟩; refine ⟨_, rfl, ?_⟩))
 all_goals (go_ret)
 exact ⟨by first | rfl | (simp; done) | (simp [*]; done), by repeat (first | exact Drawn0.refl _ | apply Drawn0.step)⟩

/-! ### impl_Disk_areNodes: function 69 -/
def inR (n low high : Int) : Bool := decide (low ≤ n) && decide (n ≤ high)
theorem within_any (n low high : Int) (w : World) : Calls Tryz.prog 68 #[.int .i64 n, .int .i64 low, .int .i64 high] w fun e w' => e = .returned (.bool (inR n low high)) ∧ ∃ q, w' = w.drewN q := by
  unfold inR
  by_cases h : low ≤ n
  · rw [decide_eq_true h, Bool.true_and]
    go_enter Tryz.func68, Tryz.ntmps68
    go_wp2
    go_ret
    exact ⟨rfl, 0, rfl⟩
  · rw [decide_eq_false h, Bool.false_and]
    go_enter Tryz.func68, Tryz.ntmps68
    go_wp2
    go_ret
    exact ⟨rfl, 0, rfl⟩
def nodeFine (next : Int) (prev : Option Int) (x : S57) : Bool := (match prev with | none => true | some p => !decide (x.f0 ≤ p)) && (inR x.f0 1 (wrap64 (next - 1)) && inR x.f2 0 (x.f1.size : Int))
def nodesFine (next : Int) : Option Int → List S57 → Bool
  | _, [] => true
  | p, x :: l => nodeFine next p x && nodesFine next (some x.f0) l
def prevN (l : List S57) : Nat → Option Int
  | 0 => none
  | k + 1 => some (rd_T57 l (k : Int)).f0
def impl_Disk_areNodes.f (l0_0 : List S57) (l0_1 : List S59) (l0_2 : List S59) (l0_3 : List ByteArray) (a0_4 : Int) (a0_5 : Int) : Option Bool := some (nodesFine a0_5 none l0_0 && decide ((l0_0.length : Int) ≤ 64))
set_option maxHeartbeats 2000000 in
set_option maxRecDepth 100000 in
theorem impl_Disk_areNodes.calls (A0_0 : Option Addr) (c0_0 : Nat) (l0_0 : List (S57)) (A0_1 : Option Addr) (c0_1 : Nat) (l0_1 : List (S59)) (A0_2 : Option Addr) (c0_2 : Nat) (l0_2 : List (S59)) (A0_3 : Option Addr) (c0_3 : Nat) (l0_3 : List ByteArray) (a0_4 : Int) (a0_5 : Int) (r : Bool) (w : World) (hr0_0 : Kd.C k57 w A0_0 l0_0.length l0_0) (hc0_0 : l0_0.length ≤ c0_0) (hr0_1 : Kd.C k59 w A0_1 l0_1.length l0_1) (hc0_1 : l0_1.length ≤ c0_1) (hr0_2 : Kd.C k59 w A0_2 l0_2.length l0_2) (hc0_2 : l0_2.length ≤ c0_2) (hr0_3 : Kd.C Kd.string w A0_3 l0_3.length l0_3) (hc0_3 : l0_3.length ≤ c0_3) (h : impl_Disk_areNodes.f l0_0 l0_1 l0_2 l0_3 a0_4 a0_5 = some r) :
    Calls Tryz.prog 69 #[.agg #[.slice A0_0 l0_0.length c0_0, .slice A0_1 l0_1.length c0_1, .slice A0_2 l0_2.length c0_2, .slice A0_3 l0_3.length c0_3, .int .i64 a0_4, .int .i64 a0_5]] w fun e w' => e = .returned (.bool r) ∧ Below w.heap.size w w' := by
  obtain rfl := Option.some.inj h
  have hmax := hr0_0.2.1
  have HR := Aside0.mk hr0_0
  clear h hr0_0 hc0_0 hr0_1 hc0_1 hr0_2 hc0_2 hr0_3 hc0_3
  go_enter Tryz.func69, Tryz.ntmps69
  go_wp2_with (((with_reducible refine gate_dst (N := 1) rfl ?_); refine box_event ?hg (N := 1) ?hd (cs := #[.slice A0_0 l0_0.length c0_0, .slice A0_1 l0_1.length c0_1, .slice A0_2 l0_2.length c0_2, .slice A0_3 l0_3.length c0_3, .int .i64 a0_4, .int .i64 a0_5]) (t := 32) ?hr ?_; (case hd => rfl); (case hg => rfl); (case hr => (go_simp; done)); intro g5 hg w1 hbox b5; have BK := Aside0.mk hbox; have B1 := Aside0.mk b5; have q0 : w1.cell? ⟨g5, 0, none⟩ = some (.slice A0_0 l0_0.length c0_0) := (blk_cell BK.out 0).trans rfl; clear hg hbox b5))
  go_loopg [8] l0_0.length (fun gg s8 wr => ∃ kk : Nat, kk ≤ l0_0.length ∧ l0_0.length - kk ≤ gg ∧ s8 = .int .i64 kk ∧ Aside0 (Below w.heap.size w wr) ∧ Aside0 (wr.heap[g5]? = some (.cells #[.slice A0_0 l0_0.length c0_0, .slice A0_1 l0_1.length c0_1, .slice A0_2 l0_2.length c0_2, .slice A0_3 l0_3.length c0_3, .int .i64 a0_4, .int .i64 a0_5] 32)) ∧ Aside0 (nodesFine a0_5 (prevN l0_0 kk) (l0_0.drop kk) = nodesFine a0_5 none l0_0))
  case atStart => exact ⟨0, Nat.zero_le _, by omega, rfl, B1, BK, ⟨rfl⟩⟩
  case round =>
    clear q0
    obtain ⟨kk, hkk, hg, rfl, BW, BK2, A⟩ := hrel
    clear B1 BK
    by_cases hlt : kk < l0_0.length
    · have hltz : (kk : Int) < (l0_0.length : Int) := by omega
      obtain ⟨ad, rfl, hx0, hx1, hx2⟩ := at_T57 (Kd.C_below HR.out BW.out) (kk : Int) (by omega) hltz
      rw [Int.toNat_natCast] at hx0 hx1 hx2
      have hd : l0_0.drop kk = rd_T57 l0_0 (kk : Int) :: l0_0.drop (kk + 1) := by
        rw [List.drop_eq_getElem_cons hlt]
        unfold rd_T57
        rw [Int.toNat_natCast, List.getD_eq_getElem?_getD, List.getElem?_eq_getElem hlt]; rfl
      have A2 := A.out
      rw [hd, nodesFine] at A2
      have A3 : (nodeFine a0_5 (prevN l0_0 kk) (rd_T57 l0_0 (kk : Int)) && nodesFine a0_5 (prevN l0_0 (kk + 1)) (l0_0.drop (kk + 1))) = nodesFine a0_5 none l0_0 := A2
      have AA := Aside0.mk A3
      clear A A2 A3 hd
      generalize rd_T57 l0_0 (kk : Int) = y at hx0 hx1 hx2 AA
      go_wp2_with (((with_reducible refine gate_dst (N := 4) rfl ?_); refine box_event ?hg (N := 4) ?hd (cs := #[.int .i64 0, .string (⟨#[]⟩ : ByteArray), .int .i64 0]) (t := 57) ?hr ?_; (case hd => rfl); (case hg => rfl); (case hr => (go_simp; done)); intro g6 hg6 w2 hbox b6; have N2 := Aside0.mk hbox; have S2 := Aside0.mk b6; have G6 := Aside0.mk hg6; have n0 : w2.cell? ⟨g6, 0, none⟩ = some (.int .i64 0) := (blk_cell N2.out 0).trans rfl; have n1 : w2.cell? ⟨g6, 1, none⟩ = some (.string (⟨#[]⟩ : ByteArray)) := (blk_cell N2.out 1).trans rfl; have n2 : w2.cell? ⟨g6, 2, none⟩ = some (.int .i64 0) := (blk_cell N2.out 2).trans rfl; have z0 := blk_frozen N2.out 0; have z1 := blk_frozen N2.out 1; have z2 := blk_frozen N2.out 2; clear hg6 hbox b6))
      refine gen_wp (R := fun W => Below w.heap.size w W ∧ W.heap[g5]? = some (.cells #[.slice (some ad) l0_0.length c0_0, .slice A0_1 l0_1.length c0_1, .slice A0_2 l0_2.length c0_2, .slice A0_3 l0_3.length c0_3, .int .i64 a0_4, .int .i64 a0_5] 32) ∧ W.heap[g6]? = some (.cells #[.int .i64 y.f0, .string y.f1, .int .i64 y.f2] 57)) ?_ ?_
      · have hg6 : g6 ≠ g5 := by have := blk_lt BK2.out; have := G6.out; omega
        have hge : w.heap.size ≤ g6 := by rw [G6.out]; exact BW.out.size
        have hb2 := BW.out.trans (S2.out.mono BW.out.size)
        have hk := (S2.out.block g5 (blk_lt BK2.out)).trans BK2.out
        refine ⟨below_set (below_set (below_set hb2 hge) hge) hge, blk_far (blk_far (blk_far hk (Ne.symm hg6) _) (Ne.symm hg6) _) (Ne.symm hg6) _, ?_⟩
        exact blk_put (cs := #[.int .i64 y.f0, .string y.f1, .int .i64 0]) (blk_put (cs := #[.int .i64 y.f0, .string (⟨#[]⟩ : ByteArray), .int .i64 0]) (blk_put (cs := #[.int .i64 0, .string (⟨#[]⟩ : ByteArray), .int .i64 0]) N2.out 0 _ rfl) 1 _ rfl) 2 _ rfl
      rintro W2 ⟨hB2, hK2, hN2⟩
      have BW2 := Aside0.mk hB2
      have BKd := Aside0.mk hK2
      have e0 : W2.cell? ⟨g5, 0, none⟩ = some (.slice (some ad) l0_0.length c0_0) := (blk_cell hK2 0).trans rfl
      have e5 : W2.cell? ⟨g5, 5, none⟩ = some (.int .i64 a0_5) := (blk_cell hK2 5).trans rfl
      have m0 : W2.cell? ⟨g6, 0, none⟩ = some (.int .i64 y.f0) := (blk_cell hN2 0).trans rfl
      have m1 : W2.cell? ⟨g6, 1, none⟩ = some (.string y.f1) := (blk_cell hN2 1).trans rfl
      have m2 : W2.cell? ⟨g6, 2, none⟩ = some (.int .i64 y.f2) := (blk_cell hN2 2).trans rfl
      clear hB2 hK2 hN2 n0 n1 n2 z0 z1 z2 N2 S2 G6 hx0 hx1 hx2 BK2 BW
      have WN2 := fun (w : World) => within_any y.f0 1 (wrap64 (a0_5 - 1)) w
      have WN3 := fun (w : World) => within_any y.f2 0 (y.f1.size : Int) w
      have A4 := AA.out
      unfold nodeFine at A4
      generalize inR y.f0 1 (wrap64 (a0_5 - 1)) = b2 at WN2 A4
      generalize inR y.f2 0 (y.f1.size : Int) = b3 at WN3 A4
      have hz5 : IntKind.i64.wrap (a0_5 - 1) = wrap64 (a0_5 - 1) := i64_w _
      have AB := Aside0.mk A4
      have H2 := Aside0.mk WN2
      have H3 := Aside0.mk WN3
      clear A4 AA WN2 WN3
      cases kk with
      | zero =>
        have AC := Aside0.mk (show (true && (b2 && b3) && nodesFine a0_5 (prevN l0_0 (0 + 1)) (l0_0.drop (0 + 1))) = nodesFine a0_5 none l0_0 from AB.out)
        clear AB
        cases b2 with
        | false =>
          go_quiet ((go_at_call 68; with_reducible exact Calls.quiet_of (H2.out _)))
          go_wp2
          go_ret
          exact ⟨by rw [← AC.out]; rfl, pw_below_drewN BW2.out _⟩
        | true =>
          cases b3 with
          | false =>
            go_quiet (first | (go_at_call 68; with_reducible exact Calls.quiet_of (H2.out _)) | (go_at_call 68; with_reducible exact Calls.quiet_of (H3.out _)))
            go_wp2
            go_ret
            exact ⟨by rw [← AC.out]; rfl, pw_below_drewN BW2.out _⟩
          | true =>
            go_quiet (first | (go_at_call 68; with_reducible exact Calls.quiet_of (H2.out _)) | (go_at_call 68; with_reducible exact Calls.quiet_of (H3.out _)))
            go_wp2
            go_roundg (l0_0.length - (0 + 1))
            case measure => omega
            case rel => exact ⟨0 + 1, by omega, by omega, by go_num, ⟨pw_below_drewN BW2.out _⟩, ⟨BKd.out⟩, ⟨AC.out⟩⟩
      | succ j =>
        have hw1 : IntKind.i64.wrap ((j : Int) + 1 - 1) = (j : Int) := by rw [show (j : Int) + 1 - 1 = (j : Int) by omega, IntKind.wrap_i64]; omega
        have hj0 : (0 : Int) ≤ (j : Int) := by omega
        have hjl : (j : Int) < (l0_0.length : Int) := by omega
        obtain ⟨ad2, e2, hv0, hv1, hv2⟩ := at_T57 (Kd.C_below HR.out BW2.out) (j : Int) hj0 hjl
        cases e2
        rw [Int.toNat_natCast] at hv0 hv1 hv2
        clear hv1 hv2
        have AC := Aside0.mk (show (!decide (y.f0 ≤ (rd_T57 l0_0 (j : Int)).f0) && (b2 && b3) && nodesFine a0_5 (prevN l0_0 (j + 1 + 1)) (l0_0.drop (j + 1 + 1))) = nodesFine a0_5 none l0_0 from AB.out)
        clear AB
        generalize (rd_T57 l0_0 (j : Int)).f0 = p0 at hv0 AC
        by_cases hle : y.f0 ≤ p0
        · rw [decide_eq_true hle] at AC
          have hle' : decide (y.f0 ≤ p0) = true := decide_eq_true hle
          clear hle
          go_quiet (first | (go_at_call 68; with_reducible exact Calls.quiet_of (H2.out _)) | (go_at_call 68; with_reducible exact Calls.quiet_of (H3.out _)))
          go_wp2
          go_ret
          exact ⟨by rw [← AC.out]; rfl, pw_below_drewN BW2.out _⟩
        · rw [decide_eq_false hle] at AC
          have hle' : decide (y.f0 ≤ p0) = false := decide_eq_false hle
          clear hle
          cases b2 with
          | false =>
            go_quiet ((go_at_call 68; with_reducible exact Calls.quiet_of (H2.out _)))
            go_wp2
            go_ret
            exact ⟨by rw [← AC.out]; rfl, pw_below_drewN BW2.out _⟩
          | true =>
            cases b3 with
            | false =>
              go_quiet (first | (go_at_call 68; with_reducible exact Calls.quiet_of (H2.out _)) | (go_at_call 68; with_reducible exact Calls.quiet_of (H3.out _)))
              go_wp2
              go_ret
              exact ⟨by rw [← AC.out]; rfl, pw_below_drewN BW2.out _⟩
            | true =>
              go_quiet (first | (go_at_call 68; with_reducible exact Calls.quiet_of (H2.out _)) | (go_at_call 68; with_reducible exact Calls.quiet_of (H3.out _)))
              go_wp2
              go_roundg (l0_0.length - (j + 1 + 1))
              case measure => omega
              case rel => exact ⟨j + 1 + 1, by omega, by omega, by go_num, ⟨pw_below_drewN BW2.out _⟩, ⟨BKd.out⟩, ⟨AC.out⟩⟩
    · have hltz : ¬ (kk : Int) < (l0_0.length : Int) := by omega
      have A2 := A.out
      rw [List.drop_of_length_le (by omega), nodesFine] at A2
      have e0 : wr.cell? ⟨g5, 0, none⟩ = some (.slice A0_0 l0_0.length c0_0) := (blk_cell BK2.out 0).trans rfl
      have A3 := Aside0.mk A2
      clear A A2
      go_wp2
      go_ret
      exact ⟨by rw [← A3.out, Bool.true_and]; rfl, BW.out⟩

/-! ### impl_UsedOn: function 70 -/
def impl_UsedOn.l0 : Nat → Int → List (S57) → Int → Int → Option (Int)
 | 0, _, _, _, _ => none
 | k + 1, x3, x7, x8, x9 => if x9 < x8 then (if 0 ≤ x9 then (if x9 < (x7.length : Int) then (impl_UsedOn.l0 k (wrap64 (x3 + (((rd_T57 x7 x9).f1).size : Int))) x7 x8 (wrap64 (x9 + 1))) else (none)) else (none)) else (some x3)
def impl_UsedOn.f (k : Nat) (l0_0 : List (S57)) (l0_1 : List (S59)) (l0_2 : List (S59)) (l0_3 : List ByteArray) (a0_4 : Int) (a0_5 : Int) : Option (Int) := impl_UsedOn.l0 k 0 l0_0 (l0_0.length : Int) 0
theorem impl_UsedOn.mono_l : ∀ k, (∀ y0 y1 y2 y3, LeO (impl_UsedOn.l0 k y0 y1 y2 y3) (impl_UsedOn.l0 (k + 1) y0 y1 y2 y3))
 | 0 => fun _ _ _ _ r h => by simp [impl_UsedOn.l0] at h
 | k + 1 => by
  have ih0 := impl_UsedOn.mono_l k
  ·intro y0 y1 y2 y3
   unfold impl_UsedOn.l0
   repeat' first | (with_reducible exact ih0 _ _ _ _) | (with_reducible exact LeO.refl _) | (with_reducible refine LeO.ite ?_ ?_)
theorem impl_UsedOn.mono : ∀ a0 a1 a2 a3 a4 a5 k, LeO (impl_UsedOn.f k a0 a1 a2 a3 a4 a5) (impl_UsedOn.f (k + 1) a0 a1 a2 a3 a4 a5) := by
 intro a0 a1 a2 a3 a4 a5 k
 have ih0 := impl_UsedOn.mono_l k
 unfold impl_UsedOn.f
 repeat' (with_reducible exact ih0 _ _ _ _)
set_option maxHeartbeats 8000000 in
set_option maxRecDepth 100000 in
theorem impl_UsedOn.calls (k : Nat) (A0_0 : Option Addr) (c0_0 : Nat) (l0_0 : List (S57)) (A0_1 : Option Addr) (c0_1 : Nat) (l0_1 : List (S59)) (A0_2 : Option Addr) (c0_2 : Nat) (l0_2 : List (S59)) (A0_3 : Option Addr) (c0_3 : Nat) (l0_3 : List ByteArray) (a0_4 : Int) (a0_5 : Int) (r : Int) (w : World) (hr0_0 : Kd.C k57 w A0_0 l0_0.length l0_0) (hc0_0 : l0_0.length ≤ c0_0) (hr0_1 : Kd.C k59 w A0_1 l0_1.length l0_1) (hc0_1 : l0_1.length ≤ c0_1) (hr0_2 : Kd.C k59 w A0_2 l0_2.length l0_2) (hc0_2 : l0_2.length ≤ c0_2) (hr0_3 : Kd.C Kd.string w A0_3 l0_3.length l0_3) (hc0_3 : l0_3.length ≤ c0_3) (h : impl_UsedOn.f k l0_0 l0_1 l0_2 l0_3 a0_4 a0_5 = some r) :
  Calls Tryz.prog 70 #[.agg #[.slice A0_0 l0_0.length c0_0, .slice A0_1 l0_1.length c0_1, .slice A0_2 l0_2.length c0_2, .slice A0_3 l0_3.length c0_3, .int .i64 a0_4, .int .i64 a0_5]] w fun e w' => e = .returned (.int .i64 r) ∧ Below w.heap.size w w' := by
 have HR0_0 := Aside0.mk hr0_0
 clear hr0_0 hc0_0 hr0_1 hc0_1 hr0_2 hc0_2 hr0_3 hc0_3
 have HB := Aside0.mk (Below.refl w.heap.size w)
 have H : (impl_UsedOn.l0 k 0 l0_0 (l0_0.length : Int) 0) = some r := h
 clear h
 have H' := Aside0.mk H
 clear H
 go_enter Tryz.func70, Tryz.ntmps70
 go_wp2_with (((with_reducible refine gate_dst (N := 1) rfl ?_); refine box_event ?hg (N := 1) ?hd (cs := #[.slice A0_0 l0_0.length c0_0, .slice A0_1 l0_1.length c0_1, .slice A0_2 l0_2.length c0_2, .slice A0_3 l0_3.length c0_3, .int .i64 a0_4, .int .i64 a0_5]) (t := 32) ?hr ?_; (case hd => rfl); (case hg => rfl); (case hr => (go_simp; done)); intro gb285 hg w2 hbox hb; have BK285 := Aside0.mk (hbox); replace HB := Aside0.mk (below_step HB.out hb); clear hb hbox hg; have hcz3_0 : w2.cell? ⟨gb285, 0, none⟩ = some (.slice A0_0 l0_0.length c0_0) := (blk_cell BK285.out 0).trans rfl; skip))
 go_loopg [3, 9] k (fun kq v3 v9 w' => ∃ (x3_1 : Int) (x9_1 : Int), v3 = .int .i64 x3_1 ∧ v9 = .int .i64 x9_1 ∧ Aside0 (impl_UsedOn.l0 kq x3_1 l0_0 (l0_0.length : Int) x9_1 = some r) ∧ Aside0 (kq ≤ k) ∧ Aside0 (w'.heap[gb285]? = some (.cells #[(.slice A0_0 l0_0.length c0_0), (.slice A0_1 l0_1.length c0_1), (.slice A0_2 l0_2.length c0_2), (.slice A0_3 l0_3.length c0_3), .int .i64 a0_4, .int .i64 a0_5] 32 (0, 0))) ∧ Aside0 (Below w.heap.size w w'))
 case atStart => exact ⟨(0), (0), (by rfl), (by rfl), H', ⟨Nat.le_refl _⟩, ⟨by exact BK285.out⟩, ⟨by repeat (with_reducible exact HB.out)⟩⟩
 case round =>
  clear H'
  try clear p2
  try clear hcz3_0
  obtain ⟨x3_1, x9_1, rfl, rfl, HA, HK1, BK285, HB⟩ := hrel
  cases gk with
  | zero => exact absurd HA.out (by simp [impl_UsedOn.l0])
  | succ k1 =>
   have H := HA.out
   clear HA
   simp only [impl_UsedOn.l0] at H
   by_cases c4 : x9_1 < (l0_0.length : Int)
   ·rw [if_pos c4] at H
    have c4b0 : decide (x9_1 < (l0_0.length : Int)) = true := decide_eq_true c4
    clear c4
    by_cases c5 : 0 ≤ x9_1
    ·rw [if_pos c5] at H
     have c5b0 : decide (0 ≤ x9_1) = true := decide_eq_true c5
     clear c5
     by_cases c6 : x9_1 < (l0_0.length : Int)
     ·rw [if_pos c6] at H
      have c6b0 : decide (x9_1 < (l0_0.length : Int)) = true := decide_eq_true c6
      clear c6
      have H' := Aside0.mk H
      clear H
      have p286 : 0 ≤ (x9_1 : Int) := of_decide_eq_true (by (with_reducible assumption))
      have q286 : x9_1 < (l0_0.length : Int) := of_decide_eq_true (by (with_reducible assumption))
      obtain ⟨ad286, e286, hx286_0, hx286_1, hx286_2⟩ := at_T57 HR0_0.out x9_1 p286 q286
      cases e286
      replace hx286_0 := (HB.out.cell (World.block_lt_of_cell? w _ hx286_0)).trans hx286_0
      replace hx286_1 := (HB.out.cell (World.block_lt_of_cell? w _ hx286_1)).trans hx286_1
      replace hx286_2 := (HB.out.cell (World.block_lt_of_cell? w _ hx286_2)).trans hx286_2
      replace p286 := eq_true p286
      replace q286 := eq_true q286
      go_wp2_with (((with_reducible refine gate_dst (N := 5) rfl ?_); refine box_event ?hg (N := 5) ?hd (cs := #[.int .i64 0, .string (⟨#[]⟩ : ByteArray), .int .i64 0]) (t := 57) ?hr ?_; (case hd => rfl); (case hg => rfl); (case hr => (go_simp; done)); intro gb287 hg w7 hbox hb; have BK287 := Aside0.mk (hbox); have GE287 := Aside0.mk ((by rw [hg]; exact (below_size HB.out) : w.heap.size ≤ gb287)); have NB285_287 := Aside0.mk ((by rw [hg]; exact Nat.ne_of_lt (blk_lt BK285.out) : gb285 ≠ gb287)); replace BK285 := Aside0.mk (bB hb BK285.out); replace HB := Aside0.mk (below_step HB.out hb); clear hb hbox hg; have hcz9_0 : w7.cell? ⟨gb287, 0, none⟩ = some (.int .i64 0) := (blk_cell BK287.out 0).trans rfl; have hcz9_1 : w7.cell? ⟨gb287, 1, none⟩ = some (.string (⟨#[]⟩ : ByteArray)) := (blk_cell BK287.out 1).trans rfl; have hcz9_2 : w7.cell? ⟨gb287, 2, none⟩ = some (.int .i64 0) := (blk_cell BK287.out 2).trans rfl; have hfz9_0 := blk_frozen BK287.out 0; have hfz9_1 := blk_frozen BK287.out 1; have hfz9_2 := blk_frozen BK287.out 2))
      go_roundg k1
      case measure => have := HK1.out; omega
      case rel => exact ⟨(wrap64 (x3_1 + (((rd_T57 l0_0 x9_1).f1).size : Int))), (wrap64 (x9_1 + 1)), (by rfl), (by rfl), H', ⟨by have := HK1.out; omega⟩, ⟨by refine blk_far ?_ NB285_287.out _; refine blk_far ?_ NB285_287.out _; refine blk_far ?_ NB285_287.out _; exact BK285.out⟩, ⟨by repeat (with_reducible first | exact HB.out | refine below_set ?_ GE287.out)⟩⟩
     ·rw [if_neg c6] at H
      exact absurd H (by simp)
    ·rw [if_neg c5] at H
     exact absurd H (by simp)
   ·rw [if_neg c4] at H
    have c4b0 : decide (x9_1 < (l0_0.length : Int)) = false := decide_eq_false c4
    clear c4
    obtain rfl := Option.some.inj H
    go_wp2
    all_goals (go_ret)
    all_goals exact ⟨by rfl, by repeat (with_reducible exact HB.out)⟩

/-! ### impl_Entry_71: function 71 -/
set_option maxHeartbeats 2000000 in
theorem cloneE (A0 : Option Addr) (c0 : Nat) (l0 : List S59) (w : World) (hr : Kd.C k59 w A0 l0.length l0) (hb : l0.length * 24 ≤ 140737488355328) :
    Calls Tryz.prog 71 #[.slice A0 l0.length c0] w fun e w' => ∃ v, e = .returned v ∧ Kd.R k59 59 w' w.heap.size (fun _ => True) v l0 ∧ Below w.heap.size w w' := by
  have q22 : ∀ (w : World) (a : Option Addr) (n c n' c' : Nat), (binOp .eql 30 (.slice a n c) (.slice none n' c')).run Tryz.prog w = .ok (.bool a.isNone) w := fun w a n c n' c' => Lib.run_eql_slice_nil w _ _ a n c n' c' Tryz.underlying30
  have HR := Aside0.mk hr
  cases A0 with
  | none =>
    have h0 : l0 = [] := by
      rcases Nat.eq_zero_or_pos l0.length with h | h
      · exact List.eq_nil_of_length_eq_zero h
      · obtain ⟨ad, e, _⟩ := hr.2.2 h
        cases e
    subst h0
    clear hr
    go_enter Tryz.func71, Tryz.ntmps71
    go_wp2
    go_ret
    exact ⟨_, rfl, Kd.R_nil _ _ _ _ _, Below.refl _ _⟩
  | some ad =>
    clear hr
    go_enter Tryz.func71, Tryz.ntmps71
    go_wp2_with (at_builtin; refine Kd.R_append_rows k59 (w0 := w) w.heap.size rfl _ _ 30 59 (.agg #[(.string ⟨#[]⟩), (.int .i64 0)]) 24 rfl Tryz.underlying30 info59 rfl (by decide) (by decide) (.slice (some ⟨w.heap.size, 0, none⟩) 0 0) [] l0 (some ad) l0.length c0 (fun _ => True) (fun _ => False) rfl rfl ⟨fun _ _ => trivial, [], World.ownsRow_made w #[] 0 (Nat.le_refl _) (Nat.zero_le _) (by simp), Reps.none _ _⟩ (Kd.C_alloc HR.out _) (fun x cs h => by obtain rfl := k59_open h; exact k59_mkM _ _ _ x) (fun _ h => h.elim) (fun _ _ => trivial) (below_alloc (Below.refl _ _) _) (by simp) (by simpa using hb) ?_; intro v1 w1 hO hb1 hg hat)
    go_wp2
    go_ret
    exact ⟨v1, rfl, by simpa using hO, hb1⟩
def impl_Entry_71.f (l0 : List S59) : Option (List S59) := if l0.length * 24 ≤ 140737488355328 then some l0 else none
theorem impl_Entry_71.calls (A0 : Option Addr) (c0 : Nat) (l0 : List S59) (r : List S59) (w : World) (hr0 : Kd.C k59 w A0 l0.length l0) (hc0 : l0.length ≤ c0) (h : impl_Entry_71.f l0 = some r) :
    Calls Tryz.prog 71 #[.slice A0 l0.length c0] w fun e w' => ∃ v0_ : Value, e = .returned v0_ ∧ Kd.R k59 59 w' w.heap.size (fun _ => True) v0_ r ∧ Below w.heap.size w w' := by
  unfold impl_Entry_71.f at h
  by_cases hz : l0.length * 24 ≤ 140737488355328
  · rw [if_pos hz] at h
    obtain rfl := Option.some.inj h
    exact cloneE A0 c0 l0 w hr0 hz
  · rw [if_neg hz] at h; cases h

/-! ### impl_Disk_nodeOf: function 93 -/
def idxOf {α : Type} (p : α → Bool) : List α → Nat → Int
  | [], _ => -1
  | x :: l, i => if p x = true then (i : Int) else idxOf p l (i + 1)
set_option maxHeartbeats 2000000 in
theorem idxNode (g : Nat) (lb : Array Value) (p : S57 → Bool) (eg : ∀ args w, (callFunc g args).run Tryz.prog w = .ok (.enter g args) w)
    (A0 : Option Addr) (c0 : Nat) (l0 : List S57) (w : World) (hr : Kd.C k57 w A0 l0.length l0)
    (hp : ∀ (W : World) (x : S57), Below w.heap.size w W → Calls Tryz.prog g (#[.agg #[.int .i64 x.f0, .string x.f1, .int .i64 x.f2]] ++ lb) W fun e w' => e = .returned (.bool (p x)) ∧ Below w.heap.size w w') :
    Calls Tryz.prog 139 #[.slice A0 l0.length c0, .func (.func g) #[] lb] w fun e w' => e = .returned (.int .i64 (idxOf p l0 0)) ∧ Below w.heap.size w w' := by
  have hmax := hr.2.1
  have HR := Aside0.mk hr
  clear hr
  go_enter Tryz.func139, Tryz.ntmps139
  go_wp2
  go_loopg [5, 8] l0.length (fun gg _ s8 wr => ∃ kk : Nat, kk ≤ l0.length ∧ l0.length - kk ≤ gg ∧ s8 = .int .i64 kk ∧ Aside0 (Below w.heap.size w wr) ∧ Aside0 (idxOf p (l0.drop kk) kk = idxOf p l0 0))
  case atStart => exact ⟨0, Nat.zero_le _, by omega, rfl, ⟨Below.refl _ w⟩, ⟨rfl⟩⟩
  case round =>
    obtain ⟨kk, hkk, hg, rfl, BW, A⟩ := hrel
    by_cases hlt : kk < l0.length
    · have hltz : (kk : Int) < (l0.length : Int) := by omega
      obtain ⟨ad, rfl, hx0, hx1, hx2⟩ := at_T57 (Kd.C_below HR.out BW.out) (kk : Int) (by omega) hltz
      rw [Int.toNat_natCast] at hx0 hx1 hx2
      have hd : l0.drop kk = rd_T57 l0 (kk : Int) :: l0.drop (kk + 1) := by
        rw [List.drop_eq_getElem_cons hlt]
        unfold rd_T57
        rw [Int.toNat_natCast, List.getD_eq_getElem?_getD, List.getElem?_eq_getElem hlt]; rfl
      have hcall := hp wr (rd_T57 l0 (kk : Int)) BW.out
      have A2 := A.out
      rw [hd, idxOf] at A2
      clear hp hd A
      generalize rd_T57 l0 (kk : Int) = y at hx0 hx1 hx2 hcall A2
      cases hq : p y with
      | true =>
        rw [hq] at hcall
        rw [hq, if_pos rfl] at A2
        have A3 := Aside0.mk A2
        clear A2
        go_wp2_with (go_at_fn g; refine hcall.mono ?_; rintro e w' ⟨rfl, hb'⟩)
        go_ret
        exact ⟨by rw [← A3.out]; rfl, hb'⟩
      | false =>
        rw [hq] at hcall
        rw [hq, if_neg (by decide)] at A2
        have A3 := Aside0.mk A2
        clear A2
        go_wp2_with (go_at_fn g; refine hcall.mono ?_; rintro e w' ⟨rfl, hb'⟩)
        go_roundg (l0.length - (kk + 1))
        case measure => omega
        case rel => exact ⟨kk + 1, by omega, by omega, by go_num, ⟨hb'⟩, A3⟩
    · have hltz : ¬ (kk : Int) < (l0.length : Int) := by omega
      have A2 := A.out
      rw [List.drop_of_length_le (by omega), idxOf] at A2
      have A3 := Aside0.mk A2
      clear hp A A2
      go_wp2
      go_ret
      exact ⟨by rw [← A3.out]; rfl, BW.out⟩
theorem impl_Disk_nodeOf_lit (a1 : Int) (B : Nat) (w : World) (hB : B < w.heap.size) (hcell : w.cell? ⟨B, 0, none⟩ = some (.int .i64 a1)) (W : World) (x : S57) (hb : Below w.heap.size w W) :
    Calls Tryz.prog 140 (#[.agg #[.int .i64 x.f0, .string x.f1, .int .i64 x.f2]] ++ #[.pointer (some ⟨B, 0, none⟩)]) W fun e w' => e = .returned (.bool (x.f0 == a1)) ∧ Below w.heap.size w w' := by
  have hc : W.cell? ⟨B, 0, none⟩ = some (.int .i64 a1) := (hb.cell (p := ⟨B, 0, none⟩) hB).trans hcell
  have hBW : B < W.heap.size := Nat.lt_of_lt_of_le hB hb.size
  show Calls Tryz.prog 140 #[.agg #[.int .i64 x.f0, .string x.f1, .int .i64 x.f2], .pointer (some ⟨B, 0, none⟩)] W _
  go_enter Tryz.func140, Tryz.ntmps140
  go_wp2
  all_goals (go_ret; exact ⟨by simp_all, hb.alloc hb.size _⟩)
def impl_Disk_nodeOf.f (l0_0 : List S57) (l0_1 : List S59) (l0_2 : List S59) (l0_3 : List ByteArray) (a0_4 : Int) (a0_5 : Int) (a1 : Int) : Option Int := some (idxOf (fun x : S57 => x.f0 == a1) l0_0 0)
theorem impl_Disk_nodeOf.calls (A0_0 : Option Addr) (c0_0 : Nat) (l0_0 : List (S57)) (A0_1 : Option Addr) (c0_1 : Nat) (l0_1 : List (S59)) (A0_2 : Option Addr) (c0_2 : Nat) (l0_2 : List (S59)) (A0_3 : Option Addr) (c0_3 : Nat) (l0_3 : List ByteArray) (a0_4 : Int) (a0_5 : Int) (a1 : Int) (r : Int) (w : World) (hr0_0 : Kd.C k57 w A0_0 l0_0.length l0_0) (hc0_0 : l0_0.length ≤ c0_0) (hr0_1 : Kd.C k59 w A0_1 l0_1.length l0_1) (hc0_1 : l0_1.length ≤ c0_1) (hr0_2 : Kd.C k59 w A0_2 l0_2.length l0_2) (hc0_2 : l0_2.length ≤ c0_2) (hr0_3 : Kd.C Kd.string w A0_3 l0_3.length l0_3) (hc0_3 : l0_3.length ≤ c0_3) (h : impl_Disk_nodeOf.f l0_0 l0_1 l0_2 l0_3 a0_4 a0_5 a1 = some r) :
    Calls Tryz.prog 93 #[.agg #[.slice A0_0 l0_0.length c0_0, .slice A0_1 l0_1.length c0_1, .slice A0_2 l0_2.length c0_2, .slice A0_3 l0_3.length c0_3, .int .i64 a0_4, .int .i64 a0_5], .int .i64 a1] w fun e w' => e = .returned (.int .i64 r) ∧ Below w.heap.size w w' := by
  obtain rfl := Option.some.inj h
  have eg : ∀ args w, (callFunc 140 args).run Tryz.prog w = .ok (.enter 140 args) w := enters_of Tryz.func140 (by kernel_rfl) rfl
  have hb0 : Below w.heap.size w ((w.alloc (.cells #[.slice A0_0 l0_0.length c0_0, .slice A0_1 l0_1.length c0_1, .slice A0_2 l0_2.length c0_2, .slice A0_3 l0_3.length c0_3, .int .i64 a0_4, .int .i64 a0_5] 32)).alloc (.cells #[.int .i64 a1] 3)) := ((Below.refl _ w).alloc (Nat.le_refl _) _).alloc (by simp) _
  have hcon := idxNode 140 #[.pointer (some ⟨w.heap.size + 1, 0, none⟩)] (fun x : S57 => x.f0 == a1) eg A0_0 c0_0 l0_0 _ (Kd.C_below hr0_0 hb0)
    (fun W x hb => impl_Disk_nodeOf_lit a1 (w.heap.size + 1) _ (by simp) (by simp) W x hb)
  clear hr0_0 hr0_1 hr0_2 hr0_3 h
  generalize idxOf (fun x : S57 => x.f0 == a1) l0_0 0 = r at hcon ⊢
  go_enter Tryz.func93, Tryz.ntmps93
  go_wp2_with (go_at_call 139; refine hcon.mono ?_; rintro e w' ⟨rfl, hb'⟩)
  go_ret
  exact ⟨rfl, hb0.trans (hb'.mono (by simp; omega))⟩

end Go.Proofs.YtbcidclclckgfaaGreatDoor.MFnExactCouldFall
