/- Each theorem here says that a call of one Go function answers what the Lean function beside it answers; its conditions stand in it. Written by a program of this session. -/
import Derived.Test.YtbcidclclckgfaaGreatDoorMFnExactFallenx0
import Derived.Test.YtbcidclclckgfaaGreatDoorMFnExactFallenx13
import Derived.Test.YtbcidclclckgfaaGreatDoorMFnExactFallenx14
import Derived.Test.YtbcidclclckgfaaGreatDoorMFnExactFallenx15
import Derived.Test.YtbcidclclckgfaaGreatDoorMFnExactFallenx17
import Derived.Test.YtbcidclclckgfaaGreatDoorMFnExactFallenx18
namespace Go.Proofs.YtbcidclclckgfaaGreatDoor.MFnExactFallen
open Go.RowKit Go.Proofs.YtbcidclclckgfaaGreatDoorW.PrintWords Go.Proofs.YtbcidclclckgfaaGreatDoorW.PrintLast Go.Proofs.YtbcidclclckgfaaGreatDoorW.PrintMore
attribute [local go_sem] max2_int min2_int max_two min_two max_three min_three max_four min_four   -- for this text's walks alone
set_option linter.unusedVariables false
set_option linter.unusedSimpArgs false

/-! ### impl_Fallen: function 34 -/
theorem fill3_calls {w : World} {g : Nat} {t : TypeId} {x0 x1 x2 a b c : Value} {P : Program} {F : FuncId} {args : Array Value} {Q : Ending → World → Prop} (h : w.heap[g]? = some (.cells #[x0, x1, x2] t (0, 0)))
    (k : ∀ W, W.heap[g]? = some (.cells #[a, b, c] t (0, 0)) → W.heap.size = w.heap.size → (∀ {w0 : World} {S : Nat → Prop}, Turned w0 w S → (S g ∨ w0.heap.size ≤ g) → Turned w0 W S) → (∀ j, j ≠ g → W.heap[j]? = w.heap[j]?) → Calls P F args W Q) : Calls P F args (((w.setCell ⟨g, 0, none⟩ a).setCell ⟨g, 1, none⟩ b).setCell ⟨g, 2, none⟩ c) Q :=
  k _ (blk_put (cs := #[a, b, x2]) (blk_put (cs := #[a, x1, x2]) (blk_put (cs := #[x0, x1, x2]) h 0 _ rfl) 1 _ rfl) 2 _ rfl) (by simp) (fun hT hg => ((hT.set (p := ⟨g, 0, none⟩) hg _).set (p := ⟨g, 1, none⟩) hg _).set (p := ⟨g, 2, none⟩) hg _) (fun j hj => by
    rw [Below.heap_setCell _ ⟨g, 2, none⟩ _ j hj, Below.heap_setCell _ ⟨g, 1, none⟩ _ j hj, Below.heap_setCell _ ⟨g, 0, none⟩ _ j hj])
theorem any_idx {α : Type} (p : α → Bool) : ∀ (l : List α) (i : Nat), decide (0 ≤ idxOf p l i) = l.any p
  | [], i => by simp [idxOf]
  | x :: l, i => by
    rw [idxOf, List.any_cons]
    by_cases h : p x = true
    · rw [if_pos h, h]; simp
    · rw [if_neg h, any_idx p l (i + 1)]; simp [h]
/-- Two operations may come up now: both orders are walked. -/
theorem two_ {P : Program} {ops : Array Oper} {Q : Exit → Act → World → Prop} {md : Region.Mode} {S : World → Prop} {ds : List Nat} {i j : Nat} {N M : Option Tmp} {oi oj : Oper} {fuel : Nat} {l : Array Bool} {a : Act} {w : World} (l1 l2 : Array Bool) (hi : ops[i]? = some oi) (hN : oi.dst = N) (hj : ops[j]? = some oj) (hM : oj.dst = M)
    (hc : ((Region.ready md ops l == [i, j]) && (l.setIfInBounds i true == l1) && (l.setIfInBounds j true == l2)) = true) (hdi : i ∉ ds) (hdj : j ∉ ds)
    (h1 : ∀ K : Act → World → Prop, Shut (∀ a' w', S w' → (S w' → wpAnyLast P md ops Q S ds fuel l1 a' w') → K a' w') → if Region.wanted oi (yielded ops a.tmps) = true then Oper.wp P oi a w K Q else K (a.put N undef) w)
    (h2 : ∀ K : Act → World → Prop, Shut (∀ a' w', S w' → (S w' → wpAnyLast P md ops Q S ds fuel l2 a' w') → K a' w') → if Region.wanted oj (yielded ops a.tmps) = true then Oper.wp P oj a w K Q else K (a.put M undef) w) :
    wpAnyLast P md ops Q S ds (fuel + 1) l a w := by
  subst hN
  subst hM
  simp only [Bool.and_eq_true, beq_iff_eq] at hc
  obtain ⟨⟨h0, e1⟩, e2⟩ := hc
  subst e1
  subst e2
  exact wpAnyLast_ready h0 (by simp) (AllReadyL.cons hi hdi (fun K hK => h1 K hK) (AllReadyL.cons hj hdj (fun K hK => h2 K hK) AllReadyL.nil))
/-- The nodes that an entry stands for, each cut to as many bytes as K tells. -/
def cutNodes (K : S57 → Option Int) (ids : Int → Bool) : List S57 → Option (List S57)
  | [] => some []
  | x :: r => if ids x.f0 = true then (K x).bind fun m => if 0 ≤ m ∧ m ≤ (x.f1.size : Int) then (cutNodes K ids r).map fun t => ⟨x.f0, x.f1.extract 0 m.toNat, ((x.f1.extract 0 m.toNat).size : Int)⟩ :: t else none else cutNodes K ids r
theorem fallLit (B : Nat) (n0 : Int) (cs : Array Value) (W : World) (x : S59) (hB : W.heap[B]? = some (.cells cs 57 (0, 0))) (h0 : W.cell? ⟨B, 0, none⟩ = some (.int .i64 n0)) :
    Calls Tryz.prog 142 (#[.agg #[.string x.f0, .int .i64 x.f1]] ++ #[.pointer (some ⟨B, 0, none⟩)]) W fun e w' => e = .returned (.bool (x.f1 == n0)) ∧ Below W.heap.size W w' := by
  have hlt : B < W.heap.size := blk_lt hB
  have hne : B ≠ W.heap.size := by omega
  clear hB
  show Calls Tryz.prog 142 #[.agg #[.string x.f0, .int .i64 x.f1], .pointer (some ⟨B, 0, none⟩)] W _
  go_enter Tryz.func142, Tryz.ntmps142
  go_wp2
  go_ret
  exact ⟨rfl, below_alloc (Below.refl _ _) _⟩
set_option maxHeartbeats 2000000 in
theorem fallAny (A : Option Addr) (c : Nat) (l : List S59) (B : Nat) (n0 : Int) (cs : Array Value) (w : World) (hr : Kd.C k59 w A l.length l) (hB : w.heap[B]? = some (.cells cs 57 (0, 0))) (h0 : cs[0]? = some (.int .i64 n0)) :
    Calls Tryz.prog 121 #[.slice A l.length c, .func (.func 142) #[] #[.pointer (some ⟨B, 0, none⟩)]] w fun e w' => e = .returned (.bool (l.any fun x => x.f1 == n0)) ∧ Below w.heap.size w w' := by
  have eg : ∀ args w, (callFunc 142 args).run Tryz.prog w = .ok (.enter 142 args) w := enters_of Tryz.func142 (by kernel_rfl) rfl
  have h := idxEntry 142 #[.pointer (some ⟨B, 0, none⟩)] (fun x => x.f1 == n0) eg A c l w hr (fun W x hb => (fallLit B n0 cs W x ((hb.block B (blk_lt hB)).trans hB) ((blk_cell ((hb.block B (blk_lt hB)).trans hB) 0).trans h0)).mono fun e w' q => ⟨q.1, hb.trans (q.2.mono hb.size)⟩)
  rw [← any_idx (fun x : S59 => x.f1 == n0) l 0]
  generalize idxOf (fun x : S59 => x.f1 == n0) l 0 = i at h ⊢
  clear hr hB h0
  go_enter Tryz.func121, Tryz.ntmps121
  go_wp2_with (go_at_call 144; refine h.mono ?_; rintro e w1 ⟨rfl, b1⟩; have B1 := Aside0.mk b1; clear b1)
  go_ret
  exact ⟨rfl, B1.out⟩
set_option maxHeartbeats 4000000 in
set_option maxRecDepth 100000 in
theorem fallenD (gf : Nat) (lb : Array Value) (K : S57 → Option Int) (eg : ∀ args w, (callFunc gf args).run Tryz.prog w = .ok (.enter gf args) w) (A0_0 : Option Addr) (c0_0 : Nat) (l0_0 : List (S57)) (A0_1 : Option Addr) (c0_1 : Nat) (l0_1 : List (S59)) (A0_2 : Option Addr) (c0_2 : Nat) (l0_2 : List (S59)) (A0_3 : Option Addr) (c0_3 : Nat) (l0_3 : List ByteArray) (a0_4 : Int) (a0_5 : Int) (n : Int) (q : List S59) (b : Bool) (ns : List S57) (w : World) (hr0_0 : Kd.C k57 w A0_0 l0_0.length l0_0) (hc0_0 : l0_0.length ≤ c0_0) (hr0_1 : Kd.C k59 w A0_1 l0_1.length l0_1) (hc0_1 : l0_1.length ≤ c0_1) (hr0_2 : Kd.C k59 w A0_2 l0_2.length l0_2) (hc0_2 : l0_2.length ≤ c0_2) (hr0_3 : Kd.C Kd.string w A0_3 l0_3.length l0_3) (hc0_3 : l0_3.length ≤ c0_3)
    (hp : ∀ (W : World) (x : S57) (r : Int), Below w.heap.size w W → K x = some r → Calls Tryz.prog gf (#[.agg #[.int .i64 x.f0, .string x.f1, .int .i64 x.f2]] ++ lb) W fun e w' => e = .returned (.int .i64 r) ∧ Below W.heap.size W w')
    (hst : ∀ w1, Below w.heap.size w w1 → Calls Tryz.prog 141 #[.slice A0_2 l0_2.length c0_2, .slice A0_3 l0_3.length c0_3, .int .i64 n] w1 fun e w' => ∃ v : Value, e = .returned (.tuple #[v, .bool b]) ∧ Kd.R k59 59 w' w1.heap.size (fun _ => True) v q ∧ Below w1.heap.size w1 w')
    (hql : q.length * 24 ≤ 140737488355328) (hal : l0_0.length * 32 ≤ 140737488355328) (hc : cutNodes K (fun i => q.any fun e => e.f1 == i) l0_0 = some ns) :
    Calls Tryz.prog 95 #[.agg #[.slice A0_0 l0_0.length c0_0, .slice A0_1 l0_1.length c0_1, .slice A0_2 l0_2.length c0_2, .slice A0_3 l0_3.length c0_3, .int .i64 a0_4, .int .i64 a0_5], .int .i64 n, .func (.func gf) #[] lb] w fun e w' => ∃ v0_ v1_ v2_ v3_ : Value, e = .returned (.agg #[v0_, v1_, v2_, v3_, .int .i64 a0_4, .int .i64 a0_5]) ∧ Kd.R k57 57 w' w.heap.size (fun _ => True) v0_ ns ∧ Kd.R k59 59 w' w.heap.size (fun k_ => some k_ ≠ (v2_ : Value).ownBlock) v1_ q ∧ Kd.R k59 59 w' w.heap.size (fun k_ => some k_ ≠ (v1_ : Value).ownBlock) v2_ q ∧ Kd.R Kd.string 9 w' w.heap.size (fun _ => True) v3_ ([] : List ByteArray) ∧ Below w.heap.size w w' := by
  have HK := Aside0.mk hp
  have HS := Aside0.mk hst
  have HC := Aside0.mk hc
  have HR := Aside0.mk hr0_0
  have HQL := Aside0.mk hql
  have HAL := Aside0.mk hal
  clear hp hst hc hql hal hr0_0 hc0_0 hr0_1 hc0_1 hr0_2 hc0_2 hr0_3 hc0_3
  go_enter Tryz.func95, Tryz.ntmps95
  go_wp2_with (first | ((with_reducible refine gate_dst (N := 3) rfl ?_); refine box_event ?hg (N := 3) ?hd (cs := #[.slice A0_0 l0_0.length c0_0, .slice A0_1 l0_1.length c0_1, .slice A0_2 l0_2.length c0_2, .slice A0_3 l0_3.length c0_3, .int .i64 a0_4, .int .i64 a0_5]) (t := 32) ?hr ?_; (case hd => rfl); (case hg => rfl); (case hr => first | (go_simp; done) | (go_simp; rfl)); intro gD hg w1 hbox hb; have BL := Aside0.mk hb; have BD := Aside0.mk hbox; clear hb; (try clear iD0 iD1 iD2 iD3 iD4 iD5); obtain ⟨iD0, iD1, iD2, iD3, iD4, iD5⟩ := blk6 BD.out; clear hg hbox) | ((with_reducible refine gate_dst (N := 6) rfl ?_); refine box_event ?hg (N := 6) ?hd (cs := #[.slice none 0 0, .slice none 0 0, .slice none 0 0, .slice none 0 0, .int .i64 0, .int .i64 0]) (t := 32) ?hr ?_; (case hd => rfl); (case hg => rfl); (case hr => first | (go_simp; done) | (go_simp; rfl)); intro gR hg w1 hbox hb; have GR := Aside0.mk (show w.heap.size ≤ gR by rw [hg]; exact BL.out.size); have RD := Aside0.mk (show gR ≠ gD by rw [hg]; exact Nat.ne_of_gt (blk_lt BD.out)); replace BL := Aside0.mk (BL.out.trans (hb.mono BL.out.size)); (try replace BD := Aside0.mk ((hb.block gD (blk_lt BD.out)).trans BD.out)); (try replace BR := Aside0.mk ((hb.block gR (blk_lt BR.out)).trans BR.out)); (try replace BO := Aside0.mk ((hb.block gO (blk_lt BO.out)).trans BO.out)); (try replace Do := Aside0.mk (Do.out.on hb)); (try replace RQ := Aside0.mk (Kd.R_step RQ.out fun k hk hl => hb.block k hl)); have BR := Aside0.mk hbox; clear hb; (try clear iD0 iD1 iD2 iD3 iD4 iD5); obtain ⟨iD0, iD1, iD2, iD3, iD4, iD5⟩ := blk6 BD.out; (try clear iR0 iR1 iR2 iR3 iR4 iR5); obtain ⟨iR0, iR1, iR2, iR3, iR4, iR5⟩ := blk6 BR.out; clear hg hbox) | (go_at_call 141; have hbs := BL.out.size; (with_reducible refine (HS.out _ BL.out).mono ?_); rintro e w1 ⟨v4, rfl, hR4, hb⟩; obtain ⟨Aq, cq, rfl⟩ := Kd.R_slice hR4; replace BL := Aside0.mk (BL.out.trans (hb.mono BL.out.size)); (try replace BD := Aside0.mk ((hb.block gD (blk_lt BD.out)).trans BD.out)); (try replace BR := Aside0.mk ((hb.block gR (blk_lt BR.out)).trans BR.out)); (try replace BO := Aside0.mk ((hb.block gO (blk_lt BO.out)).trans BO.out)); (try replace Do := Aside0.mk (Do.out.on hb)); (try replace RQ := Aside0.mk (Kd.R_step RQ.out fun k hk hl => hb.block k hl)); have RQ := Aside0.mk (Kd.R_lower hR4 hbs); clear hR4 hb hbs; (try clear iD0 iD1 iD2 iD3 iD4 iD5); obtain ⟨iD0, iD1, iD2, iD3, iD4, iD5⟩ := blk6 BD.out; (try clear iR0 iR1 iR2 iR3 iR4 iR5); obtain ⟨iR0, iR1, iR2, iR3, iR4, iR5⟩ := blk6 BR.out))
  clear iR0 iR1 iR2 iR3 iR4 iR5 iD0 iD1 iD2 iD3 iD4 iD5
  have hb := below_drew (Below.refl w1.heap.size w1)
  replace BL := Aside0.mk (BL.out.trans (hb.mono BL.out.size)); (try replace BD := Aside0.mk ((hb.block gD (blk_lt BD.out)).trans BD.out)); (try replace BR := Aside0.mk ((hb.block gR (blk_lt BR.out)).trans BR.out)); (try replace BO := Aside0.mk ((hb.block gO (blk_lt BO.out)).trans BO.out)); (try replace Do := Aside0.mk (Do.out.on hb)); (try replace RQ := Aside0.mk (Kd.R_step RQ.out fun k hk hl => hb.block k hl))
  clear hb
  refine start_ (n := 10) (S := fun w' => w'.cell? ⟨gD, 0, none⟩ = some (.slice A0_0 l0_0.length c0_0) ∧ w'.cell? ⟨gD, 1, none⟩ = some (.slice A0_1 l0_1.length c0_1) ∧ w'.cell? ⟨gD, 2, none⟩ = some (.slice A0_2 l0_2.length c0_2) ∧ w'.cell? ⟨gD, 3, none⟩ = some (.slice A0_3 l0_3.length c0_3) ∧ w'.cell? ⟨gD, 4, none⟩ = some (.int .i64 a0_4) ∧ w'.cell? ⟨gD, 5, none⟩ = some (.int .i64 a0_5)) (ds := [9]) (marks 10 0) (by kernel_rfl) rfl rfl ⟨(blk_cell BD.out 0).trans rfl, (blk_cell BD.out 1).trans rfl, (blk_cell BD.out 2).trans rfl, (blk_cell BD.out 3).trans rfl, (blk_cell BD.out 4).trans rfl, (blk_cell BD.out 5).trans rfl⟩ (fun hHeld => ?_)
  generalize w1.drew = w2 at BL BD BR RQ hHeld ⊢
  refine pure_ (i := 0) (N := some 22) (v := ?_) (a' := ?_) (marks 10 1) rfl rfl (by kernel_rfl) (fun _ _ _ h => h) (Or.inl ⟨by rfl, ?_⟩) ?_ ?_
  rotate_left
  · intro w'
    go_simp
    with_reducible rfl
  rotate_left
  · simp only [Act.put, List.setIfInBounds_toArray, List.set_cons_zero, List.set_cons_succ, i64_w, i32_w]
    rfl
  refine pure_ (i := 1) (N := some 23) (v := ?_) (a' := ?_) (marks 10 3) rfl rfl (by kernel_rfl) (fun _ _ _ h => h) (Or.inl ⟨by rfl, ?_⟩) ?_ ?_
  rotate_left
  · intro w'
    go_simp
    with_reducible rfl
  rotate_left
  · simp only [Act.put, List.setIfInBounds_toArray, List.set_cons_zero, List.set_cons_succ, i64_w, i32_w]
    rfl
  refine pure_ (i := 3) (N := some 25) (v := ?_) (a' := ?_) (marks 10 11) rfl rfl (by kernel_rfl) (fun _ _ _ h => h) (Or.inl ⟨by rfl, ?_⟩) ?_ ?_
  rotate_left
  · intro w'
    go_simp
    with_reducible rfl
  rotate_left
  · simp only [Act.put, List.setIfInBounds_toArray, List.set_cons_zero, List.set_cons_succ, i64_w, i32_w]
    rfl
  refine take_ (i := 4) (N := some 26) (v := ?_) (a' := ?_) (marks 10 27) rfl rfl (by kernel_rfl) (fun _ _ _ h => h) (Or.inl ⟨by rfl, ?_⟩) hHeld ?_ ?_
  rotate_left
  · rintro w' ⟨s0, s1, s2, s3, s4, s5⟩
    go_simp
    with_reducible rfl
  rotate_left
  · simp only [Act.put, List.setIfInBounds_toArray, List.set_cons_zero, List.set_cons_succ, i64_w, i32_w]
    rfl
  refine pure_ (i := 5) (N := some 27) (v := ?_) (a' := ?_) (marks 10 59) rfl rfl (by kernel_rfl) (fun _ _ _ h => h) (Or.inl ⟨by rfl, ?_⟩) ?_ ?_
  rotate_left
  · intro w'
    go_simp
    with_reducible rfl
  rotate_left
  · simp only [Act.put, List.setIfInBounds_toArray, List.set_cons_zero, List.set_cons_succ, i64_w, i32_w]
    rfl
  refine take_ (i := 6) (N := some 28) (v := ?_) (a' := ?_) (marks 10 123) rfl rfl (by kernel_rfl) (fun _ _ _ h => h) (Or.inl ⟨by rfl, ?_⟩) hHeld ?_ ?_
  rotate_left
  · rintro w' ⟨s0, s1, s2, s3, s4, s5⟩
    go_simp
    with_reducible rfl
  rotate_left
  · simp only [Act.put, List.setIfInBounds_toArray, List.set_cons_zero, List.set_cons_succ, i64_w, i32_w]
    rfl
  refine two_ (i := 2) (j := 8) (N := some 24) (M := some 9) (marks 10 127) (marks 10 379) rfl rfl rfl rfl (by kernel_rfl) (by decide) (by decide) (fun K hK => ?_) (fun K hK => ?_)
  focus
    refine goes_ Tryz.func71 (by kernel_rfl) rfl #[.slice Aq q.length cq] (by rfl) rfl rfl (by (try simp only [List.map_toArray, List.map_cons, List.map_nil]); first | done | rfl | (go_simp; done)) ?_
    with_reducible refine (cloneE Aq cq q _ (Kd.R_reads' RQ.out).2.2 HQL.out).mono ?_
    rintro e w1 ⟨v5, rfl, hR5, hb⟩
    obtain ⟨Ac, cc, rfl⟩ := Kd.R_slice hR5
    refine ⟨_, rfl, ?_⟩
    have LB := BL.out.size
    have LQ := Aside0.mk (Kd.R_lt RQ.out)
    have RC := Aside0.mk (Kd.R_lower hR5 LB)
    have NE := Aside0.mk (fun k (h1 : some k = (Value.slice Aq q.length cq).ownBlock) (h2 : some k = (Value.slice Ac q.length cc).ownBlock) => (show False by have e1 := LQ.out k h1.symm; have e2 := Kd.R_base hR5 k h2.symm; omega))
    replace BL := Aside0.mk (BL.out.trans (hb.mono BL.out.size)); (try replace BD := Aside0.mk ((hb.block gD (blk_lt BD.out)).trans BD.out)); (try replace BR := Aside0.mk ((hb.block gR (blk_lt BR.out)).trans BR.out)); (try replace BO := Aside0.mk ((hb.block gO (blk_lt BO.out)).trans BO.out)); (try replace Do := Aside0.mk (Do.out.on hb)); (try replace RQ := Aside0.mk (Kd.R_step RQ.out fun k hk hl => hb.block k hl))
    clear hb hR5 LQ LB
    refine hK.out _ _ ⟨(blk_cell BD.out 0).trans rfl, (blk_cell BD.out 1).trans rfl, (blk_cell BD.out 2).trans rfl, (blk_cell BD.out 3).trans rfl, (blk_cell BD.out 4).trans rfl, (blk_cell BD.out 5).trans rfl⟩ (fun hHeld => ?_)
    clear hK K
    refine norm_ (a' := ?_) ?_ ?_
    rotate_left
    · show Act.put _ (some 24) _ = _
      simp only [Act.put, List.setIfInBounds_toArray, List.set_cons_zero, List.set_cons_succ, i64_w, i32_w]
      rfl
    refine pure_ (i := 7) (N := some 29) (v := ?_) (a' := ?_) (marks 10 255) rfl rfl (by kernel_rfl) (fun _ _ _ h => h) (Or.inl ⟨by rfl, ?_⟩) ?_ ?_
    rotate_left
    · intro w'
      go_simp
      with_reducible rfl
    rotate_left
    · simp only [Act.put, List.setIfInBounds_toArray, List.set_cons_zero, List.set_cons_succ, i64_w, i32_w]
      rfl
    refine one_ (i := 8) (N := some 9) (marks 10 511) rfl rfl (by kernel_rfl) (by decide) (fun K hK => ?_)
    refine value_ (w1 := ?_) (v := ?_) (by rfl) rfl ?_ ?_
    rotate_left 2
    · go_simp
      constructor
      · rfl
      · rfl
    clear hHeld
    have hbox := blk_new w1 (.cells #[.slice none 0 0, .slice none 0 0, .slice none 0 0, .slice none 0 0, .int .i64 0, .int .i64 0] 32 (0, 0))
    have hb := below_alloc (Below.refl w1.heap.size w1) (.cells #[.slice none 0 0, .slice none 0 0, .slice none 0 0, .slice none 0 0, .int .i64 0, .int .i64 0] 32 (0, 0))
    have GO := Aside0.mk BL.out.size
    have NO := Aside0.mk (And.intro (Nat.ne_of_lt (blk_lt BD.out)) (Nat.ne_of_lt (blk_lt BR.out)))
    replace BL := Aside0.mk (BL.out.trans (hb.mono BL.out.size)); (try replace BD := Aside0.mk ((hb.block gD (blk_lt BD.out)).trans BD.out)); (try replace BR := Aside0.mk ((hb.block gR (blk_lt BR.out)).trans BR.out)); (try replace BO := Aside0.mk ((hb.block gO (blk_lt BO.out)).trans BO.out)); (try replace Do := Aside0.mk (Do.out.on hb)); (try replace RQ := Aside0.mk (Kd.R_step RQ.out fun k hk hl => hb.block k hl))
    (try replace RC := Aside0.mk (Kd.R_step RC.out fun k hk hl => hb.block k hl))
    clear hb
    generalize w1.alloc (.cells #[.slice none 0 0, .slice none 0 0, .slice none 0 0, .slice none 0 0, .int .i64 0, .int .i64 0] 32 (0, 0)) = w5 at hbox BL BD BR RQ RC ⊢
    generalize w1.heap.size = gO at hbox GO NO ⊢
    have BO := Aside0.mk hbox
    clear hbox
    refine hK.out _ _ ⟨(blk_cell BD.out 0).trans rfl, (blk_cell BD.out 1).trans rfl, (blk_cell BD.out 2).trans rfl, (blk_cell BD.out 3).trans rfl, (blk_cell BD.out 4).trans rfl, (blk_cell BD.out 5).trans rfl⟩ (fun hHeld => ?_)
    clear hK K
    refine norm_ (a' := ?_) ?_ ?_
    rotate_left
    · show Act.put _ (some 9) _ = _
      simp only [Act.put, List.setIfInBounds_toArray, List.set_cons_zero, List.set_cons_succ, i64_w, i32_w]
      rfl
  rotate_left
  focus
    refine value_ (w1 := ?_) (v := ?_) (by rfl) rfl ?_ ?_
    rotate_left 2
    · go_simp
      constructor
      · rfl
      · rfl
    clear hHeld
    have hbox := blk_new w2 (.cells #[.slice none 0 0, .slice none 0 0, .slice none 0 0, .slice none 0 0, .int .i64 0, .int .i64 0] 32 (0, 0))
    have hb := below_alloc (Below.refl w2.heap.size w2) (.cells #[.slice none 0 0, .slice none 0 0, .slice none 0 0, .slice none 0 0, .int .i64 0, .int .i64 0] 32 (0, 0))
    have GO := Aside0.mk BL.out.size
    have NO := Aside0.mk (And.intro (Nat.ne_of_lt (blk_lt BD.out)) (Nat.ne_of_lt (blk_lt BR.out)))
    replace BL := Aside0.mk (BL.out.trans (hb.mono BL.out.size)); (try replace BD := Aside0.mk ((hb.block gD (blk_lt BD.out)).trans BD.out)); (try replace BR := Aside0.mk ((hb.block gR (blk_lt BR.out)).trans BR.out)); (try replace BO := Aside0.mk ((hb.block gO (blk_lt BO.out)).trans BO.out)); (try replace Do := Aside0.mk (Do.out.on hb)); (try replace RQ := Aside0.mk (Kd.R_step RQ.out fun k hk hl => hb.block k hl))
    (try replace RC := Aside0.mk (Kd.R_step RC.out fun k hk hl => hb.block k hl))
    clear hb
    generalize w2.alloc (.cells #[.slice none 0 0, .slice none 0 0, .slice none 0 0, .slice none 0 0, .int .i64 0, .int .i64 0] 32 (0, 0)) = w3 at hbox BL BD BR RQ ⊢
    generalize w2.heap.size = gO at hbox GO NO ⊢
    have BO := Aside0.mk hbox
    clear hbox
    refine hK.out _ _ ⟨(blk_cell BD.out 0).trans rfl, (blk_cell BD.out 1).trans rfl, (blk_cell BD.out 2).trans rfl, (blk_cell BD.out 3).trans rfl, (blk_cell BD.out 4).trans rfl, (blk_cell BD.out 5).trans rfl⟩ (fun hHeld => ?_)
    clear hK K
    refine norm_ (a' := ?_) ?_ ?_
    rotate_left
    · show Act.put _ (some 9) _ = _
      simp only [Act.put, List.setIfInBounds_toArray, List.set_cons_zero, List.set_cons_succ, i64_w, i32_w]
      rfl
    refine one_ (i := 2) (N := some 24) (marks 10 383) rfl rfl (by kernel_rfl) (by decide) (fun K hK => ?_)
    refine goes_ Tryz.func71 (by kernel_rfl) rfl #[.slice Aq q.length cq] (by rfl) rfl rfl (by (try simp only [List.map_toArray, List.map_cons, List.map_nil]); first | done | rfl | (go_simp; done)) ?_
    with_reducible refine (cloneE Aq cq q _ (Kd.R_reads' RQ.out).2.2 HQL.out).mono ?_
    rintro e w5 ⟨v5, rfl, hR5, hb⟩
    obtain ⟨Ac, cc, rfl⟩ := Kd.R_slice hR5
    refine ⟨_, rfl, ?_⟩
    have LB := BL.out.size
    have LQ := Aside0.mk (Kd.R_lt RQ.out)
    have RC := Aside0.mk (Kd.R_lower hR5 LB)
    have NE := Aside0.mk (fun k (h1 : some k = (Value.slice Aq q.length cq).ownBlock) (h2 : some k = (Value.slice Ac q.length cc).ownBlock) => (show False by have e1 := LQ.out k h1.symm; have e2 := Kd.R_base hR5 k h2.symm; omega))
    replace BL := Aside0.mk (BL.out.trans (hb.mono BL.out.size)); (try replace BD := Aside0.mk ((hb.block gD (blk_lt BD.out)).trans BD.out)); (try replace BR := Aside0.mk ((hb.block gR (blk_lt BR.out)).trans BR.out)); (try replace BO := Aside0.mk ((hb.block gO (blk_lt BO.out)).trans BO.out)); (try replace Do := Aside0.mk (Do.out.on hb)); (try replace RQ := Aside0.mk (Kd.R_step RQ.out fun k hk hl => hb.block k hl))
    clear hb hR5 LQ LB
    refine hK.out _ _ ⟨(blk_cell BD.out 0).trans rfl, (blk_cell BD.out 1).trans rfl, (blk_cell BD.out 2).trans rfl, (blk_cell BD.out 3).trans rfl, (blk_cell BD.out 4).trans rfl, (blk_cell BD.out 5).trans rfl⟩ (fun hHeld => ?_)
    clear hK K
    refine norm_ (a' := ?_) ?_ ?_
    rotate_left
    · show Act.put _ (some 24) _ = _
      simp only [Act.put, List.setIfInBounds_toArray, List.set_cons_zero, List.set_cons_succ, i64_w, i32_w]
      rfl
    refine pure_ (i := 7) (N := some 29) (v := ?_) (a' := ?_) (marks 10 511) rfl rfl (by kernel_rfl) (fun _ _ _ h => h) (Or.inl ⟨by rfl, ?_⟩) ?_ ?_
    rotate_left
    · intro w'
      go_simp
      with_reducible rfl
    rotate_left
    · simp only [Act.put, List.setIfInBounds_toArray, List.set_cons_zero, List.set_cons_succ, i64_w, i32_w]
      rfl
  all_goals
    (try clear iO0 iO1 iO2 iO3 iO4 iO5); obtain ⟨iO0, iO1, iO2, iO3, iO4, iO5⟩ := blk6 BO.out
    (try clear zO0 zO1 zO2 zO3 zO4 zO5); obtain ⟨zO0, zO1, zO2, zO3, zO4, zO5⟩ := z6 BO.out
    refine last_ (i := 9) (N := none) (marks 10 1023) rfl rfl (by kernel_rfl) (by decide) (fun K hK => ?_)
    refine skip_ (w1 := ?_) (by rfl) rfl ?_ ?_
    rotate_left
    · go_simp
      rfl
    refine hK.out _ _ ?_
    clear hK K
    refine done_ (by kernel_rfl) ?_
    have b1 : Below w.heap.size w ((((((w5.setCell ⟨gO, 0, none⟩ (.slice none 0 0)).setCell ⟨gO, 1, none⟩ (.slice Aq q.length cq)).setCell ⟨gO, 2, none⟩ (.slice Ac q.length cc)).setCell ⟨gO, 3, none⟩ (.slice none 0 0)).setCell ⟨gO, 4, none⟩ (.int .i64 a0_4)).setCell ⟨gO, 5, none⟩ (.int .i64 a0_5)) := fill6_below BL.out GO.out
    have b2 : ((((((w5.setCell ⟨gO, 0, none⟩ (.slice none 0 0)).setCell ⟨gO, 1, none⟩ (.slice Aq q.length cq)).setCell ⟨gO, 2, none⟩ (.slice Ac q.length cc)).setCell ⟨gO, 3, none⟩ (.slice none 0 0)).setCell ⟨gO, 4, none⟩ (.int .i64 a0_4)).setCell ⟨gO, 5, none⟩ (.int .i64 a0_5)).heap[gO]? = some (.cells #[.slice none 0 0, .slice Aq q.length cq, .slice Ac q.length cc, .slice none 0 0, .int .i64 a0_4, .int .i64 a0_5] 32 (0, 0)) := fill6_at BO.out
    have b3 : ((((((w5.setCell ⟨gO, 0, none⟩ (.slice none 0 0)).setCell ⟨gO, 1, none⟩ (.slice Aq q.length cq)).setCell ⟨gO, 2, none⟩ (.slice Ac q.length cc)).setCell ⟨gO, 3, none⟩ (.slice none 0 0)).setCell ⟨gO, 4, none⟩ (.int .i64 a0_4)).setCell ⟨gO, 5, none⟩ (.int .i64 a0_5)).heap[gR]? = some (.cells #[.slice none 0 0, .slice none 0 0, .slice none 0 0, .slice none 0 0, .int .i64 0, .int .i64 0] 32 (0, 0)) := (fill6_far NO.out.2).trans BR.out
    have b4 : ((((((w5.setCell ⟨gO, 0, none⟩ (.slice none 0 0)).setCell ⟨gO, 1, none⟩ (.slice Aq q.length cq)).setCell ⟨gO, 2, none⟩ (.slice Ac q.length cc)).setCell ⟨gO, 3, none⟩ (.slice none 0 0)).setCell ⟨gO, 4, none⟩ (.int .i64 a0_4)).setCell ⟨gO, 5, none⟩ (.int .i64 a0_5)).heap[gD]? = some (.cells #[.slice A0_0 l0_0.length c0_0, .slice A0_1 l0_1.length c0_1, .slice A0_2 l0_2.length c0_2, .slice A0_3 l0_3.length c0_3, .int .i64 a0_4, .int .i64 a0_5] 32 (0, 0)) := (fill6_far NO.out.1).trans BD.out
    have b5 : HasD ((((((w5.setCell ⟨gO, 0, none⟩ (.slice none 0 0)).setCell ⟨gO, 1, none⟩ (.slice Aq q.length cq)).setCell ⟨gO, 2, none⟩ (.slice Ac q.length cc)).setCell ⟨gO, 3, none⟩ (.slice none 0 0)).setCell ⟨gO, 4, none⟩ (.int .i64 a0_4)).setCell ⟨gO, 5, none⟩ (.int .i64 a0_5)) w.heap.size (.slice none 0 0) (.slice Aq q.length cq) (.slice Ac q.length cc) (.slice none 0 0) ([] : List S57) q q ([] : List ByteArray) := HasD.fill (base := w.heap.size) ⟨Kd.R_tight rfl (Kd.R_nil _ _ _ _ (fun _ => True)), Kd.R_tight rfl RQ.out, Kd.R_tight rfl RC.out, Kd.R_tight rfl (Kd.R_nil _ _ _ _ (fun _ => True)), NE.out⟩ BO.out (fun j hj => fill6_far hj)
    clear BL BD BR BO RQ RC NE
    (try clear hHeld)
    (try clear iO0 iO1 iO2 iO3 iO4 iO5)
    (try clear zO0 zO1 zO2 zO3 zO4 zO5)
    generalize ((((((w5.setCell ⟨gO, 0, none⟩ (.slice none 0 0)).setCell ⟨gO, 1, none⟩ (.slice Aq q.length cq)).setCell ⟨gO, 2, none⟩ (.slice Ac q.length cc)).setCell ⟨gO, 3, none⟩ (.slice none 0 0)).setCell ⟨gO, 4, none⟩ (.int .i64 a0_4)).setCell ⟨gO, 5, none⟩ (.int .i64 a0_5)) = w6 at b1 b2 b3 b4 b5 ⊢
    have BL := Aside0.mk b1
    have BO := Aside0.mk b2
    have BR := Aside0.mk b3
    have BD := Aside0.mk b4
    have Do := Aside0.mk b5
    clear b1 b2 b3 b4 b5
    (try clear iD0 iD1 iD2 iD3 iD4 iD5); obtain ⟨iD0, iD1, iD2, iD3, iD4, iD5⟩ := blk6 BD.out
    go_wp2_with fail
    go_loopg [33] l0_0.length (fun gg s33 wr => ∃ (kk : Nat) (pre : List S57) (Ao : Option Addr) (co : Nat), kk ≤ l0_0.length ∧ l0_0.length - kk ≤ gg ∧ s33 = .int .i64 kk ∧ Aside0 (pre.length ≤ kk) ∧ Aside0 (∃ rest, cutNodes K (fun i => q.any fun e => e.f1 == i) (l0_0.drop kk) = some rest ∧ pre ++ rest = ns) ∧ Aside0 (Below w.heap.size w wr) ∧ Aside0 (wr.heap[gO]? = some (.cells #[.slice Ao pre.length co, .slice Aq q.length cq, .slice Ac q.length cc, .slice none 0 0, .int .i64 a0_4, .int .i64 a0_5] 32 (0, 0))) ∧ Aside0 (wr.heap[gR]? = some (.cells #[.slice none 0 0, .slice none 0 0, .slice none 0 0, .slice none 0 0, .int .i64 0, .int .i64 0] 32 (0, 0))) ∧ Aside0 (HasD wr w.heap.size (.slice Ao pre.length co) (.slice Aq q.length cq) (.slice Ac q.length cc) (.slice none 0 0) pre q q ([] : List ByteArray)))
    case atStart => exact ⟨0, [], none, 0, by omega, by omega, rfl, ⟨Nat.le_refl _⟩, ⟨ns, HC.out, rfl⟩, BL, BO, BR, Do⟩
    case round =>
      obtain ⟨kk, pre, Ao, co, hkk, hgg, rfl, PL, PC, BL, BO, BR, Do⟩ := hrel
      clear iD0 iD1 iD2 iD3 iD4 iD5
      have hmax := HR.out.2.1
      by_cases hlt : kk < l0_0.length
      · have hltz : (kk : Int) < (l0_0.length : Int) := by omega
        have hk0 : (0 : Int) ≤ (kk : Int) := by omega
        obtain ⟨ad, rfl, hx0, hx1, hx2⟩ := at_T57 (Kd.C_below HR.out BL.out) (kk : Int) (by omega) hltz
        rw [Int.toNat_natCast] at hx0 hx1 hx2
        have hd : l0_0.drop kk = rd_T57 l0_0 (kk : Int) :: l0_0.drop (kk + 1) := by
          rw [List.drop_eq_getElem_cons hlt]
          unfold rd_T57
          rw [Int.toNat_natCast, List.getD_eq_getElem?_getD, List.getElem?_eq_getElem hlt]; rfl
        obtain ⟨rest, hrest, hns⟩ := PC.out
        rw [hd, cutNodes] at hrest
        clear hd PC
        generalize rd_T57 l0_0 (kk : Int) = y at hx0 hx1 hx2 hrest
        have CA := Aside0.mk (fun (W : World) (gN cq : Nat) (hC : Kd.C k59 W Aq q.length q) (hB : W.heap[gN]? = some (.cells #[.int .i64 y.f0, .string y.f1, .int .i64 y.f2] 57 (0, 0))) => fallAny Aq cq q gN y.f0 _ W hC hB rfl)
        generalize (q.any fun e => e.f1 == y.f0) = used at hrest CA
        cases used
        · rw [if_neg (by decide)] at hrest
          have PC : Aside0 (∃ rest, cutNodes K (fun i => q.any fun e => e.f1 == i) (l0_0.drop (kk + 1)) = some rest ∧ pre ++ rest = ns) := ⟨⟨rest, hrest, hns⟩⟩
          clear hrest hns
          go_wp2_with (first | ((with_reducible refine gate_dst (N := 11) rfl ?_); refine box_event ?hg (N := 11) ?hd (cs := #[.int .i64 0, .string (⟨#[]⟩ : ByteArray), .int .i64 0]) (t := 57) ?hr ?_; (case hd => rfl); (case hg => rfl); (case hr => first | (go_simp; done) | (go_simp; rfl)); intro gN hg w1 hbox hb; have GN := Aside0.mk (show w.heap.size ≤ gN by rw [hg]; exact BL.out.size); have NN := Aside0.mk (And.intro (show gO ≠ gN by rw [hg]; exact Nat.ne_of_lt (blk_lt BO.out)) (show gR ≠ gN by rw [hg]; exact Nat.ne_of_lt (blk_lt BR.out))); have ON := Aside0.mk (fun k (ho : ownD (.slice Ao pre.length co) (.slice Aq q.length cq) (.slice Ac q.length cc) (.slice none 0 0) k) => (show k ≠ gN by rw [hg]; exact Nat.ne_of_lt (Do.out.lt k ho))); replace BL := Aside0.mk (BL.out.trans (hb.mono BL.out.size)); (try replace BO := Aside0.mk ((hb.block gO (blk_lt BO.out)).trans BO.out)); (try replace BR := Aside0.mk ((hb.block gR (blk_lt BR.out)).trans BR.out)); (try replace BN := Aside0.mk ((hb.block gN (blk_lt BN.out)).trans BN.out)); replace Do := Aside0.mk (Do.out.on hb); have BN := Aside0.mk hbox; clear hb hg hbox; (try clear nN0 nN1 nN2 zN0 zN1 zN2); have nN0 : w1.cell? ⟨gN, 0, none⟩ = some (.int .i64 0) := (blk_cell BN.out 0).trans rfl; have nN1 : w1.cell? ⟨gN, 1, none⟩ = some (.string (⟨#[]⟩ : ByteArray)) := (blk_cell BN.out 1).trans rfl; have nN2 : w1.cell? ⟨gN, 2, none⟩ = some (.int .i64 0) := (blk_cell BN.out 2).trans rfl; have zN0 := blk_frozen BN.out 0; have zN1 := blk_frozen BN.out 1; have zN2 := blk_frozen BN.out 2; clear hx0 hx1 hx2) | (go_at_call 121; refine fill3_calls BN.out (fun W hN hz hT hs => ?_); replace BL := Aside0.mk ((hT (S := fun k => k = gN) (Turned.refl _ _) (.inl rfl)).below BL.out (fun k hk => by rw [hk]; exact GN.out) BL.out.size); replace BO := Aside0.mk ((hs gO NN.out.1).trans BO.out); replace BR := Aside0.mk ((hs gR NN.out.2).trans BR.out); replace Do := Aside0.mk (Do.out.step fun k ho hk => hs k (ON.out k ho)); replace BN := Aside0.mk hN; clear hN hz hT hs; (with_reducible refine (CA.out W gN cq (Kd.R_reads' Do.out.r1).2.2 BN.out).mono ?_); rintro e w1 ⟨rfl, hb⟩; replace BL := Aside0.mk (BL.out.trans (hb.mono BL.out.size)); (try replace BO := Aside0.mk ((hb.block gO (blk_lt BO.out)).trans BO.out)); (try replace BR := Aside0.mk ((hb.block gR (blk_lt BR.out)).trans BR.out)); (try replace BN := Aside0.mk ((hb.block gN (blk_lt BN.out)).trans BN.out)); replace Do := Aside0.mk (Do.out.on hb); clear hb; (try clear nN0 nN1 nN2 zN0 zN1 zN2); have nN0 : w1.cell? ⟨gN, 0, none⟩ = some (.int .i64 y.f0) := (blk_cell BN.out 0).trans rfl; have nN1 : w1.cell? ⟨gN, 1, none⟩ = some (.string y.f1) := (blk_cell BN.out 1).trans rfl; have nN2 : w1.cell? ⟨gN, 2, none⟩ = some (.int .i64 y.f2) := (blk_cell BN.out 2).trans rfl; have zN0 := blk_frozen BN.out 0; have zN1 := blk_frozen BN.out 1; have zN2 := blk_frozen BN.out 2))
          go_roundg (l0_0.length - (kk + 1))
          case measure => omega
          case rel => exact ⟨kk + 1, pre, Ao, co, by omega, by omega, by go_num, ⟨by have := PL.out; omega⟩, PC, BL, BO, BR, Do⟩
        · rw [if_pos rfl] at hrest
          replace hrest := Option.bind_eq_some_iff.mp hrest
          obtain ⟨m, hKm, hrest⟩ := hrest
          by_cases hm : 0 ≤ m ∧ m ≤ (y.f1.size : Int)
          · rw [if_pos hm] at hrest
            obtain ⟨hm0, hm1⟩ := hm
            replace hrest := Option.map_eq_some_iff.mp hrest
            obtain ⟨rt, hrt, rfl⟩ := hrest
            generalize hnl : pre ++ [(⟨y.f0, y.f1.extract 0 m.toNat, ((y.f1.extract 0 m.toNat).size : Int)⟩ : S57)] = nl
            have HNL := Aside0.mk hnl
            have PC : Aside0 (∃ rest, cutNodes K (fun i => q.any fun e => e.f1 == i) (l0_0.drop (kk + 1)) = some rest ∧ nl ++ rest = ns) := ⟨⟨rt, hrt, by rw [← hnl, ← hns]; simp⟩⟩
            have PL2 : Aside0 (nl.length ≤ kk + 1) := ⟨by rw [← hnl, List.length_append]; have := PL.out; show _ + 1 ≤ _; omega⟩
            have HNZ : Aside0 ((pre.length + 1) * 32 ≤ 140737488355328) := ⟨by have := PL.out; have := HAL.out; omega⟩
            have HKM := Aside0.mk (fun (W : World) (hb : Below w.heap.size w W) => HK.out W y m hb hKm)
            clear hnl hrt hns hKm
            go_wp2_with (first | ((with_reducible refine gate_dst (N := 11) rfl ?_); refine box_event ?hg (N := 11) ?hd (cs := #[.int .i64 0, .string (⟨#[]⟩ : ByteArray), .int .i64 0]) (t := 57) ?hr ?_; (case hd => rfl); (case hg => rfl); (case hr => first | (go_simp; done) | (go_simp; rfl)); intro gN hg w1 hbox hb; have GN := Aside0.mk (show w.heap.size ≤ gN by rw [hg]; exact BL.out.size); have NN := Aside0.mk (And.intro (show gO ≠ gN by rw [hg]; exact Nat.ne_of_lt (blk_lt BO.out)) (show gR ≠ gN by rw [hg]; exact Nat.ne_of_lt (blk_lt BR.out))); have ON := Aside0.mk (fun k (ho : ownD (.slice Ao pre.length co) (.slice Aq q.length cq) (.slice Ac q.length cc) (.slice none 0 0) k) => (show k ≠ gN by rw [hg]; exact Nat.ne_of_lt (Do.out.lt k ho))); replace BL := Aside0.mk (BL.out.trans (hb.mono BL.out.size)); (try replace BO := Aside0.mk ((hb.block gO (blk_lt BO.out)).trans BO.out)); (try replace BR := Aside0.mk ((hb.block gR (blk_lt BR.out)).trans BR.out)); (try replace BN := Aside0.mk ((hb.block gN (blk_lt BN.out)).trans BN.out)); replace Do := Aside0.mk (Do.out.on hb); have BN := Aside0.mk hbox; clear hb hg hbox; (try clear nN0 nN1 nN2 zN0 zN1 zN2); have nN0 : w1.cell? ⟨gN, 0, none⟩ = some (.int .i64 0) := (blk_cell BN.out 0).trans rfl; have nN1 : w1.cell? ⟨gN, 1, none⟩ = some (.string (⟨#[]⟩ : ByteArray)) := (blk_cell BN.out 1).trans rfl; have nN2 : w1.cell? ⟨gN, 2, none⟩ = some (.int .i64 0) := (blk_cell BN.out 2).trans rfl; have zN0 := blk_frozen BN.out 0; have zN1 := blk_frozen BN.out 1; have zN2 := blk_frozen BN.out 2; clear hx0 hx1 hx2) | (go_at_call 121; refine fill3_calls BN.out (fun W hN hz hT hs => ?_); replace BL := Aside0.mk ((hT (S := fun k => k = gN) (Turned.refl _ _) (.inl rfl)).below BL.out (fun k hk => by rw [hk]; exact GN.out) BL.out.size); replace BO := Aside0.mk ((hs gO NN.out.1).trans BO.out); replace BR := Aside0.mk ((hs gR NN.out.2).trans BR.out); replace Do := Aside0.mk (Do.out.step fun k ho hk => hs k (ON.out k ho)); replace BN := Aside0.mk hN; clear hN hz hT hs; (with_reducible refine (CA.out W gN cq (Kd.R_reads' Do.out.r1).2.2 BN.out).mono ?_); rintro e w1 ⟨rfl, hb⟩; replace BL := Aside0.mk (BL.out.trans (hb.mono BL.out.size)); (try replace BO := Aside0.mk ((hb.block gO (blk_lt BO.out)).trans BO.out)); (try replace BR := Aside0.mk ((hb.block gR (blk_lt BR.out)).trans BR.out)); (try replace BN := Aside0.mk ((hb.block gN (blk_lt BN.out)).trans BN.out)); replace Do := Aside0.mk (Do.out.on hb); clear hb; (try clear nN0 nN1 nN2 zN0 zN1 zN2); have nN0 : w1.cell? ⟨gN, 0, none⟩ = some (.int .i64 y.f0) := (blk_cell BN.out 0).trans rfl; have nN1 : w1.cell? ⟨gN, 1, none⟩ = some (.string y.f1) := (blk_cell BN.out 1).trans rfl; have nN2 : w1.cell? ⟨gN, 2, none⟩ = some (.int .i64 y.f2) := (blk_cell BN.out 2).trans rfl; have zN0 := blk_frozen BN.out 0; have zN1 := blk_frozen BN.out 1; have zN2 := blk_frozen BN.out 2))
            have sq0_ : ∀ p_ : LaidBy w1, p_.W.cell? ⟨gN, 0, none⟩ = some (.int .i64 y.f0) := fun p_ => p_.cell (nN0)
            have sq1_ : ∀ p_ : LaidBy w1, p_.W.cell? ⟨gN, 1, none⟩ = some (.string y.f1) := fun p_ => p_.cell (nN1)
            have sq2_ : ∀ p_ : LaidBy w1, p_.W.cell? ⟨gN, 2, none⟩ = some (.int .i64 y.f2) := fun p_ => p_.cell (nN2)
            refine wp_region_laid (by kernel_rfl) (by kernel_rfl) ?_
            repeat (go_big_quiet_step (first | (go_at_fn gf; with_reducible exact laid_of _ (HKM.out _ (LaidBy.below _ BL.out)))))
            refine wpQuiet_nil ?_
            rintro w9 ⟨p_, hp_⟩
            have hq_ : Below w1.heap.size w1 w9 := hp_ ▸ p_.ok
            clear hp_ p_ sq0_ sq1_ sq2_
            generalize y.f1.extract 0 m.toNat = tx at HNL ⊢
            have hb := hq_
            replace BL := Aside0.mk (BL.out.trans (hb.mono BL.out.size)); (try replace BO := Aside0.mk ((hb.block gO (blk_lt BO.out)).trans BO.out)); (try replace BR := Aside0.mk ((hb.block gR (blk_lt BR.out)).trans BR.out)); (try replace BN := Aside0.mk ((hb.block gN (blk_lt BN.out)).trans BN.out)); replace Do := Aside0.mk (Do.out.on hb)
            clear hb hq_
            (try clear nN0 nN1 nN2 zN0 zN1 zN2); have nN0 : w9.cell? ⟨gN, 0, none⟩ = some (.int .i64 y.f0) := (blk_cell BN.out 0).trans rfl; have nN1 : w9.cell? ⟨gN, 1, none⟩ = some (.string y.f1) := (blk_cell BN.out 1).trans rfl; have nN2 : w9.cell? ⟨gN, 2, none⟩ = some (.int .i64 y.f2) := (blk_cell BN.out 2).trans rfl; have zN0 := blk_frozen BN.out 0; have zN1 := blk_frozen BN.out 1; have zN2 := blk_frozen BN.out 2
            (try clear iO0 iO1 iO2 iO3 iO4 iO5); obtain ⟨iO0, iO1, iO2, iO3, iO4, iO5⟩ := blk6 BO.out
            (try clear zO0 zO1 zO2 zO3 zO4 zO5); obtain ⟨zO0, zO1, zO2, zO3, zO4, zO5⟩ := z6 BO.out
            go_wp2_with (first | (at_builtin; refine Kd.R_append k57 (w0 := w) w.heap.size rfl (.tmp 47) (.tmp 54) 29 57 (.agg #[.int .i64 0, .string ⟨#[]⟩, .int .i64 0]) 32 rfl Tryz.underlying29 info57 rfl (by decide) (by decide) (.slice Ao pre.length co) pre ⟨y.f0, tx, (tx.size : Int)⟩ [.int .i64 y.f0, .string tx, .int .i64 (tx.size : Int)] _ (fun _ => False) rfl rfl (k57_mkM _ _ _ _) (fun _ h => h.elim) (fun k hk => .inr hk) (Kd.R_mono (ok' := fun k => some k = (Value.slice Ao pre.length co).ownBlock ∨ _ ≤ k) Do.out.r0 fun k hk => .inl hk) BL.out BL.out.size HNZ.out ?_; intro v1 w8 hO1 hb1 hg1 hat1; rw [HNL.out] at hO1; obtain ⟨A7, c7, rfl⟩ := Kd.R_slice hO1; have hT : Turned _ w8 _ := ⟨hg1.os, hg1.tape, hg1.output, hg1.size, fun k hk hn => hg1.block k hk hn⟩; have hD := has_r0 Do.out hT hO1; replace BO := Aside0.mk ((hT.block gO (blk_lt BO.out) (fun e => Do.out.nobox BO.out (by decide) (by decide) (by decide) (.inl e))).trans BO.out); replace BR := Aside0.mk ((hT.block gR (blk_lt BR.out) (fun e => Do.out.nobox BR.out (by decide) (by decide) (by decide) (.inl e))).trans BR.out); clear BL Do BN nN0 nN1 nN2 zN0 zN1 zN2; have BL := Aside0.mk hb1; have Do := Aside0.mk hD; clear hD hO1 hb1 hg1 hat1 hT; (try clear iO0 iO1 iO2 iO3 iO4 iO5); obtain ⟨iO0, iO1, iO2, iO3, iO4, iO5⟩ := blk6 BO.out; (try clear zO0 zO1 zO2 zO3 zO4 zO5); obtain ⟨zO0, zO1, zO2, zO3, zO4, zO5⟩ := z6 BO.out) | ((with_reducible refine gate_store (t := 29) (p := 56) rfl ?_); refine store_event (t := 29) (p := 56) (v := ?vo56) (w1 := w8.setCell ⟨gO, 0, none⟩ (.slice A7 nl.length c7)) ?hg ?ho ?hn ?hr ?_; (case ho => rfl); (case hg => rfl); (case hn => rfl); (case hr => first | (go_simp; done) | (go_simp; rfl)); intro wz hw; have hs : ∀ j, j ≠ gO → wz.heap[j]? = w8.heap[j]? := (by rw [hw]; exact fun j hj => Below.heap_setCell w8 ⟨gO, 0, none⟩ _ j hj); have hbl : Below w.heap.size w wz := (by rw [hw]; exact below_set BL.out GO.out); have hG : wz.heap[gO]? = some (.cells #[.slice A7 nl.length c7, .slice Aq q.length cq, .slice Ac q.length cc, .slice none 0 0, .int .i64 a0_4, .int .i64 a0_5] 32 (0, 0)) := (by rw [hw]; exact blk_put (cs := #[.slice Ao pre.length co, .slice Aq q.length cq, .slice Ac q.length cc, .slice none 0 0, .int .i64 a0_4, .int .i64 a0_5]) BO.out 0 _ rfl); clear hw; replace Do := Aside0.mk (HasD.fill Do.out BO.out hs); replace BR := Aside0.mk ((hs gR NO.out.2).trans BR.out); clear BL BO; have BL := Aside0.mk hbl; have BO := Aside0.mk hG; clear hs hbl hG iO0 iO1 iO2 iO3 iO4 iO5 zO0 zO1 zO2 zO3 zO4 zO5))
            go_roundg (l0_0.length - (kk + 1))
            case measure => omega
            case rel => exact ⟨kk + 1, nl, A7, c7, by omega, by omega, by go_num, PL2, PC, BL, BO, BR, Do⟩
          · rw [if_neg hm] at hrest; cases hrest
      · have hz : l0_0.drop kk = [] := List.drop_eq_nil_of_le (by omega)
        obtain ⟨rest, hrest, hns⟩ := PC.out
        rw [hz, cutNodes] at hrest
        obtain rfl := Option.some.inj hrest
        rw [List.append_nil] at hns
        subst hns
        have hltz : ¬ (kk : Int) < (l0_0.length : Int) := by omega
        clear hz hrest PC
        (try clear iO0 iO1 iO2 iO3 iO4 iO5); obtain ⟨iO0, iO1, iO2, iO3, iO4, iO5⟩ := blk6 BO.out
        (try clear iR0 iR1 iR2 iR3 iR4 iR5); obtain ⟨iR0, iR1, iR2, iR3, iR4, iR5⟩ := blk6 BR.out
        (try clear zR0 zR1 zR2 zR3 zR4 zR5); obtain ⟨zR0, zR1, zR2, zR3, zR4, zR5⟩ := z6 BR.out
        go_wp2_with fail
        refine bodyPost_ret (results_cell_row rfl _ _ gR 32 #[.slice Ao pre.length co, .slice Aq q.length cq, .slice Ac q.length cc, .slice none 0 0, .int .i64 a0_4, .int .i64 a0_5] (0, 0) _ rfl (fill6_at BR.out) Tryz.underlying32 rfl (by kernel_rfl)) rfl ?_
        have hT := filled_told (.int .i64 a0_4) (.int .i64 a0_5) Do.out BR.out
        exact ⟨_, _, _, _, rfl, hT.1, hT.2.1, hT.2.2.1, hT.2.2.2, fill6_below BL.out GR.out⟩
def fallKeep (l2 : List Int) (x : S57) : Option Int := if l2.length = 0 then some x.f2 else if 0 ≤ Int.tmod x.f0 (l2.length : Int) then (impl_Brought.f (rd l2 (Int.tmod x.f0 (l2.length : Int))) 0 (wrap64 ((x.f1.size : Int) - x.f2))).bind fun t => some (wrap64 (x.f2 + t)) else none
set_option maxHeartbeats 2000000 in
theorem fallKeep_calls (gK : Nat) (A2 : Option Addr) (c2 : Nat) (l2 : List Int) (w : World) (x : S57) (r : Int) (hk : w.heap[gK]? = some (.cells #[.slice A2 l2.length c2] 44 (0, 0))) (hc : Kd.C (Kd.int .i64) w A2 l2.length l2) (h : fallKeep l2 x = some r) :
    Calls Tryz.prog 98 (#[.agg #[.int .i64 x.f0, .string x.f1, .int .i64 x.f2]] ++ #[.pointer (some ⟨gK, 0, none⟩)]) w fun e w' => e = .returned (.int .i64 r) ∧ Below w.heap.size w w' := by
  show Calls Tryz.prog 98 #[.agg #[.int .i64 x.f0, .string x.f1, .int .i64 x.f2], .pointer (some ⟨gK, 0, none⟩)] w _
  have HK := Aside0.mk hk
  have HC := Aside0.mk hc
  have hmax := hc.2.1
  clear hk hc
  unfold fallKeep at h
  by_cases h0 : l2.length = 0
  · rw [if_pos h0] at h
    obtain rfl := Option.some.inj h
    have hz : ((l2.length : Int) = 0) := by omega
    go_enter Tryz.func98, Tryz.ntmps98
    go_wp2_with (first | ((with_reducible refine gate_dst (N := 2) rfl ?_); refine box_event ?hg (N := 2) ?hd (cs := #[.int .i64 x.f0, .string x.f1, .int .i64 x.f2]) (t := 57) ?hr ?_; (case hd => rfl); (case hg => rfl); (case hr => first | (go_simp; done) | (go_simp; rfl)); intro gX hg w1 hbox hb; have BN := Aside0.mk hbox; have BL := Aside0.mk hb; have hk := (hb.block gK (blk_lt HK.out)).trans HK.out; have k0 : w1.cell? ⟨gK, 0, none⟩ = some (.slice A2 l2.length c2) := (blk_cell hk 0).trans rfl; have CX := Aside0.mk (Kd.C_below HC.out hb); have n0 : w1.cell? ⟨gX, 0, none⟩ = some (.int .i64 x.f0) := (blk_cell BN.out 0).trans rfl; have n1 : w1.cell? ⟨gX, 1, none⟩ = some (.string x.f1) := (blk_cell BN.out 1).trans rfl; have n2 : w1.cell? ⟨gX, 2, none⟩ = some (.int .i64 x.f2) := (blk_cell BN.out 2).trans rfl; clear hb hg hbox hk))
    go_ret
    exact ⟨rfl, BL.out⟩
  · rw [if_neg h0] at h
    have hz : ¬ ((l2.length : Int) = 0) := by omega
    have hpos : (0 : Int) < (l2.length : Int) := by omega
    by_cases h1 : 0 ≤ Int.tmod x.f0 (l2.length : Int)
    case neg => rw [if_neg h1] at h; cases h
    rw [if_pos h1] at h
    replace h := Option.bind_eq_some_iff.mp h
    obtain ⟨t, ht, h⟩ := h
    obtain rfl := Option.some.inj h
    have h2 : Int.tmod x.f0 (l2.length : Int) < (l2.length : Int) := Int.tmod_lt_of_pos _ hpos
    go_enter Tryz.func98, Tryz.ntmps98
    go_wp2_with (first | ((with_reducible refine gate_dst (N := 2) rfl ?_); refine box_event ?hg (N := 2) ?hd (cs := #[.int .i64 x.f0, .string x.f1, .int .i64 x.f2]) (t := 57) ?hr ?_; (case hd => rfl); (case hg => rfl); (case hr => first | (go_simp; done) | (go_simp; rfl)); intro gX hg w1 hbox hb; have BN := Aside0.mk hbox; have BL := Aside0.mk hb; have hk := (hb.block gK (blk_lt HK.out)).trans HK.out; have k0 : w1.cell? ⟨gK, 0, none⟩ = some (.slice A2 l2.length c2) := (blk_cell hk 0).trans rfl; have CX := Aside0.mk (Kd.C_below HC.out hb); have n0 : w1.cell? ⟨gX, 0, none⟩ = some (.int .i64 x.f0) := (blk_cell BN.out 0).trans rfl; have n1 : w1.cell? ⟨gX, 1, none⟩ = some (.string x.f1) := (blk_cell BN.out 1).trans rfl; have n2 : w1.cell? ⟨gX, 2, none⟩ = some (.int .i64 x.f2) := (blk_cell BN.out 2).trans rfl; clear hb hg hbox hk))
    obtain ⟨ad, rfl, hx⟩ := Kd.at_int CX.out (Int.tmod x.f0 (l2.length : Int)) h1 h2
    have CB := Aside0.mk (fun (w1 : World) => impl_Brought.calls _ _ _ t w1 ht)
    clear ht HK HC CX
    have d1 : decide (0 ≤ Int.tmod x.f0 (l2.length : Int)) = true := decide_eq_true h1
    have d2 : decide (Int.tmod x.f0 (l2.length : Int) < (l2.length : Int)) = true := decide_eq_true h2
    have hwt : IntKind.i64.wrap (x.f2 + t) = wrap64 (x.f2 + t) := i64_w _
    have hws : IntKind.i64.wrap ((x.f1.size : Int) - x.f2) = wrap64 ((x.f1.size : Int) - x.f2) := i64_w _
    have sq0_ : ∀ p_ : LaidBy w1, p_.W.cell? ⟨gX, 0, none⟩ = some (.int .i64 x.f0) := fun p_ => p_.cell (n0)
    have sq1_ : ∀ p_ : LaidBy w1, p_.W.cell? ⟨gX, 1, none⟩ = some (.string x.f1) := fun p_ => p_.cell (n1)
    have sq2_ : ∀ p_ : LaidBy w1, p_.W.cell? ⟨gX, 2, none⟩ = some (.int .i64 x.f2) := fun p_ => p_.cell (n2)
    have sq3_ : ∀ p_ : LaidBy w1, p_.W.cell? ⟨gK, 0, none⟩ = some (.slice (some ad) l2.length c2) := fun p_ => p_.cell (k0)
    have sq4_ : ∀ p_ : LaidBy w1, p_.W.cell? (ad.add (Int.tmod x.f0 (l2.length : Int)).toNat) = some (.int .i64 (rd l2 (Int.tmod x.f0 (l2.length : Int)))) := fun p_ => p_.cell (hx)
    refine wp_region_laid (by kernel_rfl) (by kernel_rfl) ?_
    repeat (go_big_quiet_step (first | (go_at_call 94; with_reducible exact laid_of _ (CB.out _))))
    refine wpQuiet_nil ?_
    rintro w9 ⟨p_, hp_⟩
    have hq_ : Below w1.heap.size w1 w9 := hp_ ▸ p_.ok
    clear hp_ p_ sq0_ sq1_ sq2_ sq3_ sq4_
    have BL := Aside0.mk (BL.out.trans (hq_.mono BL.out.size))
    go_wp2
    go_ret
    exact ⟨rfl, BL.out⟩
def impl_Fallen.f (k : Nat) (l0_0 : List S57) (l0_1 : List S59) (l0_2 : List S59) (l0_3 : List ByteArray) (a0_4 : Int) (a0_5 : Int) (a1 : Int) (l2 : List Int) : Option (List (S57) × List (S59) × List (S59) × List ByteArray × Int × Int) := (impl_DiskOk.f k l0_0 l0_1 l0_2 l0_3 a0_4 a0_5).bind fun b => if b = true then (if l0_0.length * 32 ≤ 140737488355328 then (impl_StepsDone.f l0_2 l0_3 a1).bind fun q => if q.1.length * 24 ≤ 140737488355328 then (cutNodes (fallKeep l2) (fun i => q.1.any fun e => e.f1 == i) l0_0).bind fun ns => some (ns, q.1, q.1, [], a0_4, a0_5) else none else none) else impl_copyDisk.f l0_0 l0_1 l0_2 l0_3 a0_4 a0_5
theorem impl_Fallen.mono : ∀ l0_0 l0_1 l0_2 l0_3 a0_4 a0_5 a1 l2 k, LeO (impl_Fallen.f k l0_0 l0_1 l0_2 l0_3 a0_4 a0_5 a1 l2) (impl_Fallen.f (k + 1) l0_0 l0_1 l0_2 l0_3 a0_4 a0_5 a1 l2) := by
  intro l0_0 l0_1 l0_2 l0_3 a0_4 a0_5 a1 l2 k
  unfold impl_Fallen.f
  repeat' first | (with_reducible exact LeO.refl _) | (with_reducible exact impl_DiskOk.mono _ _ _ _ _ _ _) | (with_reducible refine LeO.ite ?_ ?_) | (with_reducible refine LeO.bind ?_ (fun _ => ?_))
set_option maxHeartbeats 4000000 in
set_option maxRecDepth 100000 in
theorem impl_Fallen.calls (k : Nat) (A0_0 : Option Addr) (c0_0 : Nat) (l0_0 : List (S57)) (A0_1 : Option Addr) (c0_1 : Nat) (l0_1 : List (S59)) (A0_2 : Option Addr) (c0_2 : Nat) (l0_2 : List (S59)) (A0_3 : Option Addr) (c0_3 : Nat) (l0_3 : List ByteArray) (a0_4 : Int) (a0_5 : Int) (a1 : Int) (A2 : Option Addr) (c2 : Nat) (l2 : List Int) (r1 : List S57) (r2 : List S59) (r3 : List S59) (r4 : List ByteArray) (r5 : Int) (r6 : Int) (w : World) (hr0_0 : Kd.C k57 w A0_0 l0_0.length l0_0) (hc0_0 : l0_0.length ≤ c0_0) (hr0_1 : Kd.C k59 w A0_1 l0_1.length l0_1) (hc0_1 : l0_1.length ≤ c0_1) (hr0_2 : Kd.C k59 w A0_2 l0_2.length l0_2) (hc0_2 : l0_2.length ≤ c0_2) (hr0_3 : Kd.C Kd.string w A0_3 l0_3.length l0_3) (hc0_3 : l0_3.length ≤ c0_3) (hr2 : Kd.C (Kd.int .i64) w A2 l2.length l2) (hc2 : l2.length ≤ c2) (hTE : TabsE w) (hTP : TabsP w) (h : impl_Fallen.f k l0_0 l0_1 l0_2 l0_3 a0_4 a0_5 a1 l2 = some (r1, r2, r3, r4, r5, r6)) :
    Calls Tryz.prog 34 #[.agg #[.slice A0_0 l0_0.length c0_0, .slice A0_1 l0_1.length c0_1, .slice A0_2 l0_2.length c0_2, .slice A0_3 l0_3.length c0_3, .int .i64 a0_4, .int .i64 a0_5], .int .i64 a1, .slice A2 l2.length c2] w fun e w' => ∃ v0_ v1_ v2_ v3_ : Value, e = .returned (.agg #[v0_, v1_, v2_, v3_, .int .i64 r5, .int .i64 r6]) ∧ Kd.R k57 57 w' w.heap.size (fun _ => True) v0_ r1 ∧ Kd.R k59 59 w' w.heap.size (fun k_ => some k_ ≠ (v2_ : Value).ownBlock) v1_ r2 ∧ Kd.R k59 59 w' w.heap.size (fun k_ => some k_ ≠ (v1_ : Value).ownBlock) v2_ r3 ∧ Kd.R Kd.string 9 w' w.heap.size (fun _ => True) v3_ r4 ∧ Below w.heap.size w w' := by
  unfold impl_Fallen.f at h
  replace h := Option.bind_eq_some_iff.mp h
  obtain ⟨b, hbk, h⟩ := h
  have CD := Aside0.mk (fun (w1 : World) (hb : Below w.heap.size w w1) => impl_DiskOk.calls k A0_0 c0_0 l0_0 A0_1 c0_1 l0_1 A0_2 c0_2 l0_2 A0_3 c0_3 l0_3 a0_4 a0_5 b w1 (Kd.C_below hr0_0 hb) hc0_0 (Kd.C_below hr0_1 hb) hc0_1 (Kd.C_below hr0_2 hb) hc0_2 (Kd.C_below hr0_3 hb) hc0_3 (hTE.below hb) (hTP.below hb) hbk)
  cases b with
  | false =>
    rw [if_neg (by decide)] at h
    have CC := Aside0.mk (fun (w1 : World) (hb : Below w.heap.size w w1) => impl_copyDisk.calls A0_0 c0_0 l0_0 A0_1 c0_1 l0_1 A0_2 c0_2 l0_2 A0_3 c0_3 l0_3 a0_4 a0_5 r1 r2 r3 r4 r5 r6 w1 (Kd.C_below hr0_0 hb) hc0_0 (Kd.C_below hr0_1 hb) hc0_1 (Kd.C_below hr0_2 hb) hc0_2 (Kd.C_below hr0_3 hb) hc0_3 h)
    clear h hbk hr0_0 hc0_0 hr0_1 hc0_1 hr0_2 hc0_2 hr0_3 hc0_3 hr2 hTE hTP
    go_enter Tryz.func34, Tryz.ntmps34
    go_wp2_with (first | ((with_reducible refine gate_dst (N := 3) rfl ?_); refine box_event ?hg (N := 3) ?hd (cs := #[.slice A0_0 l0_0.length c0_0, .slice A0_1 l0_1.length c0_1, .slice A0_2 l0_2.length c0_2, .slice A0_3 l0_3.length c0_3, .int .i64 a0_4, .int .i64 a0_5]) (t := 32) ?hr ?_; (case hd => rfl); (case hg => rfl); (case hr => first | (go_simp; done) | (go_simp; rfl)); intro gD hg w1 hbox hb; have BL := Aside0.mk hb; have BD := Aside0.mk hbox; clear hb; (try clear iD0 iD1 iD2 iD3 iD4 iD5); obtain ⟨iD0, iD1, iD2, iD3, iD4, iD5⟩ := blk6 BD.out; clear hg hbox) | ((with_reducible refine gate_dst (N := 5) rfl ?_); refine box_event ?hg (N := 5) ?hd (cs := #[.slice A2 l2.length c2]) (t := 44) ?hr ?_; (case hd => rfl); (case hg => rfl); (case hr => first | (go_simp; done) | (go_simp; rfl)); intro gK hg w1 hbox hb; replace BL := Aside0.mk (BL.out.trans (hb.mono BL.out.size)); (try replace BD := Aside0.mk ((hb.block gD (blk_lt BD.out)).trans BD.out)); (try replace BR := Aside0.mk ((hb.block gR (blk_lt BR.out)).trans BR.out)); (try replace BK := Aside0.mk ((hb.block gK (blk_lt BK.out)).trans BK.out)); have BK := Aside0.mk hbox; clear hb hg hbox; (try clear iD0 iD1 iD2 iD3 iD4 iD5); obtain ⟨iD0, iD1, iD2, iD3, iD4, iD5⟩ := blk6 BD.out) | ((with_reducible refine gate_dst (N := 6) rfl ?_); refine box_event ?hg (N := 6) ?hd (cs := #[.slice none 0 0, .slice none 0 0, .slice none 0 0, .slice none 0 0, .int .i64 0, .int .i64 0]) (t := 32) ?hr ?_; (case hd => rfl); (case hg => rfl); (case hr => first | (go_simp; done) | (go_simp; rfl)); intro gR hg w1 hbox hb; have GR := Aside0.mk (show w.heap.size ≤ gR by rw [hg]; exact BL.out.size); replace BL := Aside0.mk (BL.out.trans (hb.mono BL.out.size)); (try replace BD := Aside0.mk ((hb.block gD (blk_lt BD.out)).trans BD.out)); (try replace BR := Aside0.mk ((hb.block gR (blk_lt BR.out)).trans BR.out)); (try replace BK := Aside0.mk ((hb.block gK (blk_lt BK.out)).trans BK.out)); have BR := Aside0.mk hbox; clear hb; (try clear iD0 iD1 iD2 iD3 iD4 iD5); obtain ⟨iD0, iD1, iD2, iD3, iD4, iD5⟩ := blk6 BD.out; clear hg hbox) | (go_at_call 18; (with_reducible refine (CD.out _ BL.out).mono ?_); rintro e w1 ⟨rfl, hb⟩; replace BL := Aside0.mk (BL.out.trans (hb.mono BL.out.size)); (try replace BD := Aside0.mk ((hb.block gD (blk_lt BD.out)).trans BD.out)); (try replace BR := Aside0.mk ((hb.block gR (blk_lt BR.out)).trans BR.out)); (try replace BK := Aside0.mk ((hb.block gK (blk_lt BK.out)).trans BK.out)); clear hb; (try clear iD0 iD1 iD2 iD3 iD4 iD5); obtain ⟨iD0, iD1, iD2, iD3, iD4, iD5⟩ := blk6 BD.out) | (go_at_call 82; (with_reducible refine (CC.out _ BL.out).mono ?_); rintro e w1 ⟨v0, v1, v2, v3, rfl, p0, p1, p2, p3, hb⟩; have hbs := BL.out.size; have hD := HasD.of p0 p1 p2 p3; replace BL := Aside0.mk (BL.out.trans (hb.mono BL.out.size)); (try replace BD := Aside0.mk ((hb.block gD (blk_lt BD.out)).trans BD.out)); (try replace BR := Aside0.mk ((hb.block gR (blk_lt BR.out)).trans BR.out)); (try replace BK := Aside0.mk ((hb.block gK (blk_lt BK.out)).trans BK.out)); have Do := Aside0.mk (hD.lower hbs); obtain ⟨A0, c0, rfl⟩ := Kd.R_slice p0; obtain ⟨A1, c1, rfl⟩ := Kd.R_slice p1; obtain ⟨A2_, c2_, rfl⟩ := Kd.R_slice p2; obtain ⟨A3, c3, rfl⟩ := Kd.R_slice p3; clear hD hb hbs p0 p1 p2 p3; (try clear iR0 iR1 iR2 iR3 iR4 iR5); obtain ⟨iR0, iR1, iR2, iR3, iR4, iR5⟩ := blk6 BR.out; (try clear zR0 zR1 zR2 zR3 zR4 zR5); obtain ⟨zR0, zR1, zR2, zR3, zR4, zR5⟩ := z6 BR.out))
    refine bodyPost_ret (results_cell_row rfl _ _ gR 32 #[.slice A0 r1.length c0, .slice A1 r2.length c1, .slice A2_ r3.length c2_, .slice A3 r4.length c3, .int .i64 r5, .int .i64 r6] (0, 0) _ rfl (fill6_at BR.out) Tryz.underlying32 rfl (by kernel_rfl)) rfl ?_
    have hT := filled_told (.int .i64 r5) (.int .i64 r6) Do.out BR.out
    exact ⟨_, _, _, _, rfl, hT.1, hT.2.1, hT.2.2.1, hT.2.2.2, fill6_below BL.out GR.out⟩
  | true =>
    rw [if_pos rfl] at h
    by_cases hal : l0_0.length * 32 ≤ 140737488355328
    case neg => rw [if_neg hal] at h; cases h
    rw [if_pos hal] at h
    replace h := Option.bind_eq_some_iff.mp h
    obtain ⟨⟨q, qb⟩, hq, h⟩ := h
    dsimp only at h
    by_cases hql : q.length * 24 ≤ 140737488355328
    case neg => rw [if_neg hql] at h; cases h
    rw [if_pos hql] at h
    replace h := Option.bind_eq_some_iff.mp h
    obtain ⟨ns, hns, h⟩ := h
    simp only [Option.some.injEq, Prod.mk.injEq] at h
    obtain ⟨rfl, rfl, rfl, rfl, rfl, rfl⟩ := h
    have eg : ∀ args w, (callFunc 98 args).run Tryz.prog w = .ok (.enter 98 args) w := enters_of Tryz.func98 (by kernel_rfl) rfl
    have CF := Aside0.mk (fun (gK : Nat) (w1 : World) (hb : Below w.heap.size w w1) (hk : w1.heap[gK]? = some (.cells #[.slice A2 l2.length c2] 44 (0, 0))) => fallenD 98 #[.pointer (some ⟨gK, 0, none⟩)] (fallKeep l2) eg A0_0 c0_0 l0_0 A0_1 c0_1 l0_1 A0_2 c0_2 l0_2 A0_3 c0_3 l0_3 a0_4 a0_5 a1 q qb ns w1 (Kd.C_below hr0_0 hb) hc0_0 (Kd.C_below hr0_1 hb) hc0_1 (Kd.C_below hr0_2 hb) hc0_2 (Kd.C_below hr0_3 hb) hc0_3 (fun W x r hb2 hr => fallKeep_calls gK A2 c2 l2 W x r ((hb2.block gK (blk_lt hk)).trans hk) (Kd.C_below hr2 (hb.trans (hb2.mono hb.size))) hr) (fun w2 hb2 => impl_StepsDone.calls A0_2 c0_2 l0_2 A0_3 c0_3 l0_3 a1 q qb w2 (Kd.C_below hr0_2 (hb.trans (hb2.mono hb.size))) hc0_2 (Kd.C_below hr0_3 (hb.trans (hb2.mono hb.size))) hc0_3 (hTE.below (hb.trans (hb2.mono hb.size))) (hTP.below (hb.trans (hb2.mono hb.size))) hq) hql hal hns)
    clear hq hql hal hns eg hbk hr0_0 hc0_0 hr0_1 hc0_1 hr0_2 hc0_2 hr0_3 hc0_3 hr2 hTE hTP
    go_enter Tryz.func34, Tryz.ntmps34
    go_wp2_with (first | ((with_reducible refine gate_dst (N := 3) rfl ?_); refine box_event ?hg (N := 3) ?hd (cs := #[.slice A0_0 l0_0.length c0_0, .slice A0_1 l0_1.length c0_1, .slice A0_2 l0_2.length c0_2, .slice A0_3 l0_3.length c0_3, .int .i64 a0_4, .int .i64 a0_5]) (t := 32) ?hr ?_; (case hd => rfl); (case hg => rfl); (case hr => first | (go_simp; done) | (go_simp; rfl)); intro gD hg w1 hbox hb; have BL := Aside0.mk hb; have BD := Aside0.mk hbox; clear hb; (try clear iD0 iD1 iD2 iD3 iD4 iD5); obtain ⟨iD0, iD1, iD2, iD3, iD4, iD5⟩ := blk6 BD.out; clear hg hbox) | ((with_reducible refine gate_dst (N := 5) rfl ?_); refine box_event ?hg (N := 5) ?hd (cs := #[.slice A2 l2.length c2]) (t := 44) ?hr ?_; (case hd => rfl); (case hg => rfl); (case hr => first | (go_simp; done) | (go_simp; rfl)); intro gK hg w1 hbox hb; replace BL := Aside0.mk (BL.out.trans (hb.mono BL.out.size)); (try replace BD := Aside0.mk ((hb.block gD (blk_lt BD.out)).trans BD.out)); (try replace BR := Aside0.mk ((hb.block gR (blk_lt BR.out)).trans BR.out)); (try replace BK := Aside0.mk ((hb.block gK (blk_lt BK.out)).trans BK.out)); have BK := Aside0.mk hbox; clear hb hg hbox; (try clear iD0 iD1 iD2 iD3 iD4 iD5); obtain ⟨iD0, iD1, iD2, iD3, iD4, iD5⟩ := blk6 BD.out) | ((with_reducible refine gate_dst (N := 6) rfl ?_); refine box_event ?hg (N := 6) ?hd (cs := #[.slice none 0 0, .slice none 0 0, .slice none 0 0, .slice none 0 0, .int .i64 0, .int .i64 0]) (t := 32) ?hr ?_; (case hd => rfl); (case hg => rfl); (case hr => first | (go_simp; done) | (go_simp; rfl)); intro gR hg w1 hbox hb; have GR := Aside0.mk (show w.heap.size ≤ gR by rw [hg]; exact BL.out.size); replace BL := Aside0.mk (BL.out.trans (hb.mono BL.out.size)); (try replace BD := Aside0.mk ((hb.block gD (blk_lt BD.out)).trans BD.out)); (try replace BR := Aside0.mk ((hb.block gR (blk_lt BR.out)).trans BR.out)); (try replace BK := Aside0.mk ((hb.block gK (blk_lt BK.out)).trans BK.out)); have BR := Aside0.mk hbox; clear hb; (try clear iD0 iD1 iD2 iD3 iD4 iD5); obtain ⟨iD0, iD1, iD2, iD3, iD4, iD5⟩ := blk6 BD.out; clear hg hbox) | (go_at_call 18; (with_reducible refine (CD.out _ BL.out).mono ?_); rintro e w1 ⟨rfl, hb⟩; replace BL := Aside0.mk (BL.out.trans (hb.mono BL.out.size)); (try replace BD := Aside0.mk ((hb.block gD (blk_lt BD.out)).trans BD.out)); (try replace BR := Aside0.mk ((hb.block gR (blk_lt BR.out)).trans BR.out)); (try replace BK := Aside0.mk ((hb.block gK (blk_lt BK.out)).trans BK.out)); clear hb; (try clear iD0 iD1 iD2 iD3 iD4 iD5); obtain ⟨iD0, iD1, iD2, iD3, iD4, iD5⟩ := blk6 BD.out) | (go_at_call 95; refine (CF.out gK w1 BL.out BK.out).mono ?_; rintro e w1 ⟨v0, v1, v2, v3, rfl, p0, p1, p2, p3, hb⟩; have hbs := BL.out.size; have hD := HasD.of p0 p1 p2 p3; replace BL := Aside0.mk (BL.out.trans (hb.mono BL.out.size)); (try replace BD := Aside0.mk ((hb.block gD (blk_lt BD.out)).trans BD.out)); (try replace BR := Aside0.mk ((hb.block gR (blk_lt BR.out)).trans BR.out)); (try replace BK := Aside0.mk ((hb.block gK (blk_lt BK.out)).trans BK.out)); have Do := Aside0.mk (hD.lower hbs); obtain ⟨A0, c0, rfl⟩ := Kd.R_slice p0; obtain ⟨A1, c1, rfl⟩ := Kd.R_slice p1; obtain ⟨A2_, c2_, rfl⟩ := Kd.R_slice p2; obtain ⟨A3, c3, rfl⟩ := Kd.R_slice p3; clear hD hb hbs p0 p1 p2 p3; (try clear iR0 iR1 iR2 iR3 iR4 iR5); obtain ⟨iR0, iR1, iR2, iR3, iR4, iR5⟩ := blk6 BR.out; (try clear zR0 zR1 zR2 zR3 zR4 zR5); obtain ⟨zR0, zR1, zR2, zR3, zR4, zR5⟩ := z6 BR.out))
    refine bodyPost_ret (results_cell_row rfl _ _ gR 32 #[.slice A0 ns.length c0, .slice A1 q.length c1, .slice A2_ q.length c2_, .slice A3 ([] : List ByteArray).length c3, .int .i64 a0_4, .int .i64 a0_5] (0, 0) _ rfl (fill6_at BR.out) Tryz.underlying32 rfl (by kernel_rfl)) rfl ?_
    have hT := filled_told (.int .i64 a0_4) (.int .i64 a0_5) Do.out BR.out
    exact ⟨_, _, _, _, rfl, hT.1, hT.2.1, hT.2.2.1, hT.2.2.2, fill6_below BL.out GR.out⟩

/-! ### laws_eqIntS: function 35 -/
def laws_eqIntS.l0 : Nat → List Int → List Int → Int → Option (Bool)
 | 0, _, _, _ => none
 | k + 1, x0, x1, x5 => if x5 < (x0.length : Int) then (if 0 ≤ x5 then (if x5 < (x1.length : Int) then (if (rd x0 x5) = (rd x1 x5) then (laws_eqIntS.l0 k x0 x1 (wrap64 (x5 + 1))) else (some false)) else (none)) else (none)) else (some true)
def laws_eqIntS.f (k : Nat) (l0 : List Int) (l1 : List Int) : Option (Bool) := if (l0.length : Int) = (l1.length : Int) then (laws_eqIntS.l0 k l0 l1 0) else (some false)
theorem laws_eqIntS.mono_l : ∀ k, (∀ y0 y1 y2, LeO (laws_eqIntS.l0 k y0 y1 y2) (laws_eqIntS.l0 (k + 1) y0 y1 y2))
 | 0 => fun _ _ _ r h => by simp [laws_eqIntS.l0] at h
 | k + 1 => by
  have ih0 := laws_eqIntS.mono_l k
  ·intro y0 y1 y2
   unfold laws_eqIntS.l0
   repeat' first
   | (with_reducible exact ih0 _ _ _)
   | (with_reducible exact LeO.refl _)
   | (with_reducible exact LeO.none _)
   | (with_reducible refine LeO.ite ?_ ?_)
   | (with_reducible refine LeO.bind ?_ (fun _ => ?_))
   | exact ih0 _ _ _
   | exact LeO.none _
   | refine LeO.ite ?_ ?_
   | refine LeO.bind ?_ (fun _ => ?_)
theorem laws_eqIntS.mono : ∀ a0 a1 k, LeO (laws_eqIntS.f k a0 a1) (laws_eqIntS.f (k + 1) a0 a1) := by
 intro a0 a1 k
 have ih0 := laws_eqIntS.mono_l k
 unfold laws_eqIntS.f
 repeat' first
   | (with_reducible exact ih0 _ _ _)
   | (with_reducible exact LeO.refl _)
   | (with_reducible exact LeO.none _)
   | (with_reducible refine LeO.ite ?_ ?_)
   | (with_reducible refine LeO.bind ?_ (fun _ => ?_))
   | exact ih0 _ _ _
   | exact LeO.none _
   | refine LeO.ite ?_ ?_
   | refine LeO.bind ?_ (fun _ => ?_)
set_option maxHeartbeats 8000000 in
set_option maxRecDepth 100000 in
theorem laws_eqIntS.calls (k : Nat) (A0 : Option Addr) (c0 : Nat) (l0 : List Int) (A1 : Option Addr) (c1 : Nat) (l1 : List Int) (r : Bool) (w : World) (hr0 : Kd.C (Kd.int .i64) w A0 l0.length l0) (hc0 : l0.length ≤ c0) (hr1 : Kd.C (Kd.int .i64) w A1 l1.length l1) (hc1 : l1.length ≤ c1) (h : laws_eqIntS.f k l0 l1 = some r) :
  Calls Tryz.prog 35 #[.slice A0 l0.length c0, .slice A1 l1.length c1] w fun e w' => e = .returned (.bool r) ∧ Drawn0 w w' := by
 have HR0 := Aside0.mk hr0
 have HC0 := Aside0.mk hc0
 clear hr0 hc0
 have HR1 := Aside0.mk hr1
 have HC1 := Aside0.mk hc1
 clear hr1 hc1
 have H : (if (l0.length : Int) = (l1.length : Int) then (laws_eqIntS.l0 k l0 l1 0) else (some false)) = some r := h
 clear h
 by_cases c3 : (l0.length : Int) = (l1.length : Int)
 ·rw [if_pos c3] at H
  have c3b0 : ((l0.length : Int) == (l1.length : Int)) = true := beq_iff_eq.mpr c3
  have c3b1 : ((l0.length : Int) != (l1.length : Int)) = false := bne_eq_false_iff_eq.mpr c3
  have c3b2 : (l0.length == l1.length) = true := by first | simpa using c3 | (simp at c3 ⊢; omega)
  clear c3
  have H' := Aside0.mk H
  clear H
  go_enter Tryz.func35, Tryz.ntmps35
  go_wp2
  repeat (go_quiet (fail); try go_wp2)
  go_loopg [5] k (fun kq v5 w' => ∃ (x5_1 : Int), v5 = .int .i64 x5_1 ∧ Aside0 (laws_eqIntS.l0 kq l0 l1 x5_1 = some r) ∧ Aside0 (kq ≤ k) ∧ Drawn0 w w')
  case atStart => exact ⟨(0), (by first | rfl | (simp; done) | (simp [*]; done)), H', ⟨Nat.le_refl _⟩, by repeat (first | exact Drawn0.refl _ | apply Drawn0.step)⟩
  case round =>
   clear H'
   try clear c1
   try clear p2
   try clear c3
   try clear c3b0
   try clear c3b1
   try clear c3b2
   obtain ⟨x5_1, rfl, HA, HK1, ⟨m1, rfl⟩⟩ := hrel
   cases gk with
   | zero => exact absurd HA.out (by simp [laws_eqIntS.l0])
   | succ k1 =>
    have H := HA.out
    clear HA
    simp only [laws_eqIntS.l0] at H
    by_cases c4 : x5_1 < (l0.length : Int)
    ·rw [if_pos c4] at H
     have c4b0 : decide (x5_1 < (l0.length : Int)) = true := decide_eq_true c4
     clear c4
     by_cases c5 : 0 ≤ x5_1
     ·rw [if_pos c5] at H
      have c5b0 : decide (0 ≤ x5_1) = true := decide_eq_true c5
      clear c5
      by_cases c6 : x5_1 < (l1.length : Int)
      ·rw [if_pos c6] at H
       have c6b0 : decide (x5_1 < (l1.length : Int)) = true := decide_eq_true c6
       clear c6
       by_cases c7 : (rd l0 x5_1) = (rd l1 x5_1)
       ·rw [if_pos c7] at H
        have c7b0 : ((rd l0 x5_1) == (rd l1 x5_1)) = true := beq_iff_eq.mpr c7
        have c7b1 : ((rd l0 x5_1) != (rd l1 x5_1)) = false := bne_eq_false_iff_eq.mpr c7
        clear c7
        have H' := Aside0.mk H
        clear H
        have p359 : 0 ≤ (x5_1 : Int) := of_decide_eq_true (by first | (with_reducible assumption) | assumption)
        have q359 : x5_1 < (l0.length : Int) := of_decide_eq_true (by first | (with_reducible assumption) | assumption)
        obtain ⟨ad359, e359, hx359_0⟩ := Kd.at_int HR0.out x5_1 p359 q359
        cases e359
        replace p359 := eq_true p359
        replace q359 := eq_true q359
        have p360 : 0 ≤ (x5_1 : Int) := of_decide_eq_true (by first | (with_reducible assumption) | assumption)
        have q360 : x5_1 < (l1.length : Int) := of_decide_eq_true (by first | (with_reducible assumption) | assumption)
        obtain ⟨ad360, e360, hx360_0⟩ := Kd.at_int HR1.out x5_1 p360 q360
        cases e360
        replace p360 := eq_true p360
        replace q360 := eq_true q360
        go_wp2
        repeat (go_quiet (fail); try go_wp2)
        go_roundg k1
        case measure => have := HK1.out; omega
        case rel => exact ⟨(wrap64 (x5_1 + 1)), (by first | rfl | (simp; done) | (simp [*]; done)), H', ⟨by have := HK1.out; omega⟩, by repeat (first | exact Drawn0.refl _ | apply Drawn0.step)⟩
       ·rw [if_neg c7] at H
        have c7b0 : ((rd l0 x5_1) == (rd l1 x5_1)) = false := beq_eq_false_iff_ne.mpr c7
        have c7b1 : ((rd l0 x5_1) != (rd l1 x5_1)) = true := bne_iff_ne.mpr c7
        obtain rfl := Option.some.inj H
        have p359 : 0 ≤ (x5_1 : Int) := of_decide_eq_true (by first | (with_reducible assumption) | assumption)
        have q359 : x5_1 < (l0.length : Int) := of_decide_eq_true (by first | (with_reducible assumption) | assumption)
        obtain ⟨ad359, e359, hx359_0⟩ := Kd.at_int HR0.out x5_1 p359 q359
        cases e359
        replace p359 := eq_true p359
        replace q359 := eq_true q359
        have p360 : 0 ≤ (x5_1 : Int) := of_decide_eq_true (by first | (with_reducible assumption) | assumption)
        have q360 : x5_1 < (l1.length : Int) := of_decide_eq_true (by first | (with_reducible assumption) | assumption)
        obtain ⟨ad360, e360, hx360_0⟩ := Kd.at_int HR1.out x5_1 p360 q360
        cases e360
        replace p360 := eq_true p360
        replace q360 := eq_true q360
        go_wp2
        repeat (go_quiet (fail); try go_wp2)
        all_goals (first | go_ret | (exfalso; simp only [decide_eq_true_eq, decide_eq_false_iff_not] at *; omega))
        exact ⟨by first | rfl | (simp; done) | (simp [*]; done), by repeat (first | exact Drawn0.refl _ | apply Drawn0.step)⟩
      ·rw [if_neg c6] at H
       exact absurd H (by simp)
     ·rw [if_neg c5] at H
      exact absurd H (by simp)
    ·rw [if_neg c4] at H
     have c4b0 : decide (x5_1 < (l0.length : Int)) = false := decide_eq_false c4
     clear c4
     obtain rfl := Option.some.inj H
     go_wp2
     repeat (go_quiet (fail); try go_wp2)
     all_goals (first | go_ret | (exfalso; simp only [decide_eq_true_eq, decide_eq_false_iff_not] at *; omega))
     exact ⟨by first | rfl | (simp; done) | (simp [*]; done), by repeat (first | exact Drawn0.refl _ | apply Drawn0.step)⟩
 ·rw [if_neg c3] at H
  have c3b0 : ((l0.length : Int) == (l1.length : Int)) = false := beq_eq_false_iff_ne.mpr c3
  have c3b1 : ((l0.length : Int) != (l1.length : Int)) = true := bne_iff_ne.mpr c3
  have c3b2 : (l0.length == l1.length) = false := by first | simpa using c3 | (simp at c3 ⊢; omega)
  obtain rfl := Option.some.inj H
  go_enter Tryz.func35, Tryz.ntmps35
  go_wp2
  repeat (go_quiet (fail); try go_wp2)
  all_goals (first | go_ret | (exfalso; simp only [decide_eq_true_eq, decide_eq_false_iff_not] at *; omega))
  exact ⟨by first | rfl | (simp; done) | (simp [*]; done), by repeat (first | exact Drawn0.refl _ | apply Drawn0.step)⟩

/-! ### laws_markIntS: function 36 -/
def laws_markIntS.l0 : Nat → List Int → Int → Int → Option (Int × List Int)
 | 0, _, _, _ => none
 | k + 1, x0, x1, x5 => if x5 < (x0.length : Int) then (if 0 ≤ x5 then (laws_markIntS.l0 k (x0.set (x5 : Int).toNat x1) (wrap64 (x1 + 1)) (wrap64 (x5 + 1))) else (none)) else (some (x1, x0))
def laws_markIntS.f (k : Nat) (l0 : List Int) (a1 : Int) : Option (Int × List Int) := laws_markIntS.l0 k l0 a1 0
theorem laws_markIntS.mono_l : ∀ k, (∀ y0 y1 y2, LeO (laws_markIntS.l0 k y0 y1 y2) (laws_markIntS.l0 (k + 1) y0 y1 y2))
 | 0 => fun _ _ _ r h => by simp [laws_markIntS.l0] at h
 | k + 1 => by
  have ih0 := laws_markIntS.mono_l k
  ·intro y0 y1 y2
   unfold laws_markIntS.l0
   repeat' first
   | (with_reducible exact ih0 _ _ _)
   | (with_reducible exact LeO.refl _)
   | (with_reducible exact LeO.none _)
   | (with_reducible refine LeO.ite ?_ ?_)
   | (with_reducible refine LeO.bind ?_ (fun _ => ?_))
   | exact ih0 _ _ _
   | exact LeO.none _
   | refine LeO.ite ?_ ?_
   | refine LeO.bind ?_ (fun _ => ?_)
theorem laws_markIntS.mono : ∀ a0 a1 k, LeO (laws_markIntS.f k a0 a1) (laws_markIntS.f (k + 1) a0 a1) := by
 intro a0 a1 k
 have ih0 := laws_markIntS.mono_l k
 unfold laws_markIntS.f
 repeat' first
   | (with_reducible exact ih0 _ _ _)
   | (with_reducible exact LeO.refl _)
   | (with_reducible exact LeO.none _)
   | (with_reducible refine LeO.ite ?_ ?_)
   | (with_reducible refine LeO.bind ?_ (fun _ => ?_))
   | exact ih0 _ _ _
   | exact LeO.none _
   | refine LeO.ite ?_ ?_
   | refine LeO.bind ?_ (fun _ => ?_)
set_option maxHeartbeats 8000000 in
set_option maxRecDepth 100000 in
theorem laws_markIntS.calls (k : Nat) (P0_ : Nat → Prop) (u9000_ : Value) (l0 : List Int) (a1 : Int) (r1 : Int) (r2 : List Int) (w0 w : World) (hB : Below w0.heap.size w0 w) (ho0 : Kd.R (Kd.int .i64) 3 w w0.heap.size P0_ u9000_ l0) (h : laws_markIntS.f k l0 a1 = some (r1, r2)) :
  Calls Tryz.prog 36 #[u9000_, .int .i64 a1] w fun e w' => e = .returned (.int .i64 r1) ∧ Kd.R (Kd.int .i64) 3 w' w0.heap.size (fun k_ => (P0_ k_ ∨ w.heap.size ≤ k_)) u9000_ r2 ∧ Below w0.heap.size w0 w' ∧ Kept w w' (fun k_ => P0_ k_) := by
 have HO0 := Aside0.mk (show Kd.R (Kd.int .i64) 3 w w0.heap.size (fun k_ => (P0_ k_ ∨ w.heap.size ≤ k_)) u9000_ l0 from Kd.R_mono ho0 (fun k_ hk => (.inl hk)))
 have HK := Aside0.mk (Kept.refl w (fun k_ => P0_ k_))
 have HW0 := Aside0.mk hB.size
 have HB := Aside0.mk hB
 clear hB
 have H : (laws_markIntS.l0 k l0 a1 0) = some (r1, r2) := h
 clear h
 have H' := Aside0.mk H
 clear H
 go_enter Tryz.func36, Tryz.ntmps36
 go_wp2
 go_loopg [1, 5] k (fun kq v1 v5 w' => ∃ (x0_1 : List Int) (x1_1 : Int) (x5_1 : Int), v1 = .int .i64 x1_1 ∧ v5 = .int .i64 x5_1 ∧ Aside0 (laws_markIntS.l0 kq x0_1 x1_1 x5_1 = some (r1, r2)) ∧ Aside0 (kq ≤ k) ∧ Aside0 (Kd.R (Kd.int .i64) 3 w' w0.heap.size (fun k_ => (P0_ k_ ∨ w.heap.size ≤ k_)) u9000_ x0_1) ∧ Aside0 (Kept w w' (fun k_ => P0_ k_)) ∧ Aside0 (Below w0.heap.size w0 w'))
 case atStart => exact ⟨(l0), (a1), (0), (by first | rfl | (simp; done) | (simp [*]; done)), (by first | rfl | (simp; done) | (simp [*]; done)), H', ⟨Nat.le_refl _⟩, ⟨by (with_reducible repeat (first | apply Kd.R_alloc | apply Kd.R_drewN | apply Kd.R_drew)); exact HO0.out⟩, ⟨by repeat (first | (with_reducible first | exact HK.out | apply Kept.alloc | apply Kept.drewN | apply Kept.drew) | exact HK.out)⟩, ⟨by repeat (first | (with_reducible first | exact HB.out | apply below_alloc | apply pw_below_drewN | apply below_drew1) | exact HB.out)⟩⟩
 case round =>
  clear H'
  try clear p2
  obtain ⟨x0_1, x1_1, x5_1, rfl, rfl, HA, HK1, HO_0, HK, HB⟩ := hrel
  cases gk with
  | zero => exact absurd HA.out (by simp [laws_markIntS.l0])
  | succ k1 =>
   have H := HA.out
   clear HA
   simp only [laws_markIntS.l0] at H
   by_cases c3 : x5_1 < (x0_1.length : Int)
   ·rw [if_pos c3] at H
    have c3b0 : decide (x5_1 < (x0_1.length : Int)) = true := decide_eq_true c3
    clear c3
    by_cases c4 : 0 ≤ x5_1
    ·rw [if_pos c4] at H
     have c4b0 : decide (0 ≤ x5_1) = true := decide_eq_true c4
     clear c4
     obtain ⟨y361, hy361⟩ : ∃ y_ : List Int, y_ = (x0_1.set (x5_1 : Int).toNat x1_1) := ⟨_, rfl⟩
     replace H : (laws_markIntS.l0 k1 y361 (wrap64 (x1_1 + 1)) (wrap64 (x5_1 + 1))) = some (r1, r2) := by first | (rw [hy361]; with_reducible exact H) | (have H2_ := (Option.bind_some _ _).symm.trans H; rw [hy361]; with_reducible exact H2_) | (have H2_ := (Option.bind_some _ _).symm.trans H; with_reducible exact H2_) | with_reducible exact H | (rw [hy361]; exact H) | exact H
     have Ny361 := Aside0.mk hy361
     clear hy361
     have H' := Aside0.mk H
     clear H
     obtain ⟨Ao6, co6, eo6⟩ := Kd.R_slice HO_0.out
     subst eo6
     have p5 : 0 ≤ (x5_1 : Int) := of_decide_eq_true (by first | (with_reducible assumption) | assumption)
     have q5 : (x5_1 : Int) < ((x0_1.length : Int) : Int) := of_decide_eq_true (by first | (with_reducible assumption) | assumption)
     obtain ⟨go5, co5, eo5, gb5, gl5, cl5, HG5⟩ := Kd.R_form HO_0.out (by omega)
     (first | cases eo5 | (injection eo5 with ea_ en_ ec_; (first | subst ea_ | (injection ea_ with ea_; subst ea_)); subst ec_; clear en_))
     have GB5 := Aside0.mk gb5
     have GG5 := Aside0.mk HG5
     clear gb5 gl5 HG5
     have HMgo5 := Aside0.mk (show (P0_ go5 ∨ w.heap.size ≤ go5) from (HO_0.out.1 _ rfl))
     obtain ⟨hx5_0, hf5_0⟩ := Kd.R_celln 0 HO_0.out (x5_1 : Int) p5 q5
     replace p5 := eq_true p5
     replace q5 := eq_true q5
     have HP7 := Kd.R_putg HO_0.out (x5_1 : Int) x1_1
     go_wp2_with (first | ((with_reducible refine gate_store (t := 3) (p := 15) rfl ?_); refine store_event (t := 3) (p := 15) (v := ?vo_w8) (w1 := (wr.setCell ⟨go5, (x5_1 : Int).toNat, none⟩ (.int .i64 x1_1))) ?hg ?ho ?hn ?hr ?_; (case ho => rfl); (case hg => rfl); (case hn => rfl); (case hr => first | (go_simp; done) | (go_simp; rfl)); intro w8 hw; have hg : wr.grownBy w8 (some go5) := (by rw [hw]; exact HP7.2); have hp_ : Kd.R (Kd.int .i64) 3 w8 w0.heap.size (fun k_ => (P0_ k_ ∨ w.heap.size ≤ k_)) (.slice (some ⟨go5, 0, none⟩) x0_1.length co6) y361 := (by rw [hw, Ny361.out]; exact HP7.1); clear HP7; have n0_ := Aside0.mk (hp_); have n1_ := Aside0.mk ((by rw [hw]; exact below_set (HB.out) GB5.out : Below w0.heap.size w0 w8)); have n2_ := Aside0.mk (Kept.of_grown (S := (fun k_ => P0_ k_)) hg (by repeat (first | (with_reducible first | exact HK.out | apply Kept.alloc | apply Kept.drewN | apply Kept.drew) | exact HK.out)) (fun k_ e_ => (HO_0.out.1 k_ e_))); clear HO_0; clear HB; clear HK; have HO_0 := n0_; have HB := n1_; have HK := n2_; clear n0_ n1_ n2_; clear hg hw hp_))
     go_roundg k1
     case measure => have := HK1.out; omega
     case rel => exact ⟨(y361), (wrap64 (x1_1 + 1)), (wrap64 (x5_1 + 1)), (by first | rfl | (simp; done) | (simp [*]; done)), (by first | rfl | (simp; done) | (simp [*]; done)), H', ⟨by have := HK1.out; omega⟩, ⟨by (with_reducible repeat (first | apply Kd.R_alloc | apply Kd.R_drewN | apply Kd.R_drew)); exact HO_0.out⟩, ⟨by repeat (first | (with_reducible first | exact HK.out | apply Kept.alloc | apply Kept.drewN | apply Kept.drew) | exact HK.out)⟩, ⟨by repeat (first | (with_reducible first | exact HB.out | apply below_alloc | apply pw_below_drewN | apply below_drew1) | exact HB.out)⟩⟩
    ·rw [if_neg c4] at H
     exact absurd H (by simp)
   ·rw [if_neg c3] at H
    have c3b0 : decide (x5_1 < (x0_1.length : Int)) = false := decide_eq_false c3
    clear c3
    simp only [Option.some.injEq, Prod.mk.injEq] at H
    obtain ⟨rfl, rfl⟩ := H
    obtain ⟨Ao9, co9, eo9⟩ := Kd.R_slice HO_0.out
    subst eo9
    go_wp2
    all_goals (first | go_ret | (exfalso; simp only [decide_eq_true_eq, decide_eq_false_iff_not] at *; omega))
    all_goals exact ⟨by rfl, by (with_reducible repeat (first | apply Kd.R_alloc | apply Kd.R_drewN | apply Kd.R_drew)); exact HO_0.out, by repeat (first | (with_reducible first | exact HB.out | apply below_alloc | apply pw_below_drewN | apply below_drew1) | exact HB.out), by repeat (first | (with_reducible first | exact HK.out | apply Kept.alloc | apply Kept.drewN | apply Kept.drew) | exact HK.out)⟩

end Go.Proofs.YtbcidclclckgfaaGreatDoor.MFnExactFallen
