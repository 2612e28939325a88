/- Each theorem here says that a call of one Go function answers what the Lean function beside it answers; its conditions stand in it. Written by a program of this session. -/
import Derived.Test.YtbcidclclckgfaaGreatDoorMFnExactCouldFallx0
import Derived.Test.YtbcidclclckgfaaGreatDoorMFnExactCouldFallx12
import Derived.Test.YtbcidclclckgfaaGreatDoorMFnExactCouldFallx13
import Derived.Test.YtbcidclclckgfaaGreatDoorMFnExactCouldFallx14
import Derived.Test.YtbcidclclckgfaaGreatDoorMFnExactCouldFallx16
import Derived.Test.YtbcidclclckgfaaGreatDoorMFnExactCouldFallx17
namespace Go.Proofs.YtbcidclclckgfaaGreatDoor.MFnExactCouldFall
open Go.RowKit Go.Proofs.YtbcidclclckgfaaGreatDoorW.PrintWords Go.Proofs.YtbcidclclckgfaaGreatDoorW.PrintLast Go.Proofs.YtbcidclclckgfaaGreatDoorW.PrintMore
attribute [local go_sem] max2_int min2_int max_two min_two max_three min_three max_four min_four   -- for this text's walks alone
set_option linter.unusedVariables false
set_option linter.unusedSimpArgs false

/-! ### impl_CouldFall: function 31 -/
theorem fill3_calls {w : World} {g : Nat} {t : TypeId} {x0 x1 x2 a b c : Value} {P : Program} {F : FuncId} {args : Array Value} {Q : Ending → World → Prop} (h : w.heap[g]? = some (.cells #[x0, x1, x2] t (0, 0)))
    (k : ∀ W, W.heap[g]? = some (.cells #[a, b, c] t (0, 0)) → W.heap.size = w.heap.size → (∀ {w0 : World} {S : Nat → Prop}, Turned w0 w S → (S g ∨ w0.heap.size ≤ g) → Turned w0 W S) → (∀ j, j ≠ g → W.heap[j]? = w.heap[j]?) → Calls P F args W Q) : Calls P F args (((w.setCell ⟨g, 0, none⟩ a).setCell ⟨g, 1, none⟩ b).setCell ⟨g, 2, none⟩ c) Q :=
  k _ (blk_put (cs := #[a, b, x2]) (blk_put (cs := #[a, x1, x2]) (blk_put (cs := #[x0, x1, x2]) h 0 _ rfl) 1 _ rfl) 2 _ rfl) (by simp) (fun hT hg => ((hT.set (p := ⟨g, 0, none⟩) hg _).set (p := ⟨g, 1, none⟩) hg _).set (p := ⟨g, 2, none⟩) hg _) (fun j hj => by
    rw [Below.heap_setCell _ ⟨g, 2, none⟩ _ j hj, Below.heap_setCell _ ⟨g, 1, none⟩ _ j hj, Below.heap_setCell _ ⟨g, 0, none⟩ _ j hj])
theorem any_idx {α : Type} (p : α → Bool) : ∀ (l : List α) (i : Nat), decide (0 ≤ idxOf p l i) = l.any p
  | [], i => by simp [idxOf]
  | x :: l, i => by
    rw [idxOf, List.any_cons]
    by_cases h : p x = true
    · rw [if_pos h, h]; simp
    · rw [if_neg h, any_idx p l (i + 1)]; simp [h]
/-- Two operations may come up now: both orders are walked. -/
theorem two_ {P : Program} {ops : Array Oper} {Q : Exit → Act → World → Prop} {md : Region.Mode} {S : World → Prop} {ds : List Nat} {i j : Nat} {N M : Option Tmp} {oi oj : Oper} {fuel : Nat} {l : Array Bool} {a : Act} {w : World} (l1 l2 : Array Bool) (hi : ops[i]? = some oi) (hN : oi.dst = N) (hj : ops[j]? = some oj) (hM : oj.dst = M)
    (hc : ((Region.ready md ops l == [i, j]) && (l.setIfInBounds i true == l1) && (l.setIfInBounds j true == l2)) = true) (hdi : i ∉ ds) (hdj : j ∉ ds)
    (h1 : ∀ K : Act → World → Prop, Shut (∀ a' w', S w' → (S w' → wpAnyLast P md ops Q S ds fuel l1 a' w') → K a' w') → if Region.wanted oi (yielded ops a.tmps) = true then Oper.wp P oi a w K Q else K (a.put N undef) w)
    (h2 : ∀ K : Act → World → Prop, Shut (∀ a' w', S w' → (S w' → wpAnyLast P md ops Q S ds fuel l2 a' w') → K a' w') → if Region.wanted oj (yielded ops a.tmps) = true then Oper.wp P oj a w K Q else K (a.put M undef) w) :
    wpAnyLast P md ops Q S ds (fuel + 1) l a w := by
  subst hN
  subst hM
  simp only [Bool.and_eq_true, beq_iff_eq] at hc
  obtain ⟨⟨h0, e1⟩, e2⟩ := hc
  subst e1
  subst e2
  exact wpAnyLast_ready h0 (by simp) (AllReadyL.cons hi hdi (fun K hK => h1 K hK) (AllReadyL.cons hj hdj (fun K hK => h2 K hK) AllReadyL.nil))
/-- The nodes that an entry stands for, each cut to as many bytes as K tells. -/
def cutNodes (K : S57 → Option Int) (ids : Int → Bool) : List S57 → Option (List S57)
  | [] => some []
  | x :: r => if ids x.f0 = true then (K x).bind fun m => if 0 ≤ m ∧ m ≤ (x.f1.size : Int) then (cutNodes K ids r).map fun t => ⟨x.f0, x.f1.extract 0 m.toNat, ((x.f1.extract 0 m.toNat).size : Int)⟩ :: t else none else cutNodes K ids r
theorem fallLit (B : Nat) (n0 : Int) (cs : Array Value) (W : World) (x : S59) (hB : W.heap[B]? = some (.cells cs 57 (0, 0))) (h0 : W.cell? ⟨B, 0, none⟩ = some (.int .i64 n0)) :
    Calls Tryz.prog 142 (#[.agg #[.string x.f0, .int .i64 x.f1]] ++ #[.pointer (some ⟨B, 0, none⟩)]) W fun e w' => e = .returned (.bool (x.f1 == n0)) ∧ Below W.heap.size W w' := by
  have hlt : B < W.heap.size := blk_lt hB
  have hne : B ≠ W.heap.size := by omega
  clear hB
  show Calls Tryz.prog 142 #[.agg #[.string x.f0, .int .i64 x.f1], .pointer (some ⟨B, 0, none⟩)] W _
  go_enter Tryz.func142, Tryz.ntmps142
  go_wp2
  go_ret
  exact ⟨rfl, below_alloc (Below.refl _ _) _⟩
set_option maxHeartbeats 2000000 in
theorem fallAny (A : Option Addr) (c : Nat) (l : List S59) (B : Nat) (n0 : Int) (cs : Array Value) (w : World) (hr : Kd.C k59 w A l.length l) (hB : w.heap[B]? = some (.cells cs 57 (0, 0))) (h0 : cs[0]? = some (.int .i64 n0)) :
    Calls Tryz.prog 121 #[.slice A l.length c, .func (.func 142) #[] #[.pointer (some ⟨B, 0, none⟩)]] w fun e w' => e = .returned (.bool (l.any fun x => x.f1 == n0)) ∧ Below w.heap.size w w' := by
  have eg : ∀ args w, (callFunc 142 args).run Tryz.prog w = .ok (.enter 142 args) w := enters_of Tryz.func142 (by kernel_rfl) rfl
  have h := idxEntry 142 #[.pointer (some ⟨B, 0, none⟩)] (fun x => x.f1 == n0) eg A c l w hr (fun W x hb => (fallLit B n0 cs W x ((hb.block B (blk_lt hB)).trans hB) ((blk_cell ((hb.block B (blk_lt hB)).trans hB) 0).trans h0)).mono fun e w' q => ⟨q.1, hb.trans (q.2.mono hb.size)⟩)
  rw [← any_idx (fun x : S59 => x.f1 == n0) l 0]
  generalize idxOf (fun x : S59 => x.f1 == n0) l 0 = i at h ⊢
  clear hr hB h0
  go_enter Tryz.func121, Tryz.ntmps121
  go_wp2_with (go_at_call 144; refine h.mono ?_; rintro e w1 ⟨rfl, b1⟩; have B1 := Aside0.mk b1; clear b1)
  go_ret
  exact ⟨rfl, B1.out⟩
set_option maxHeartbeats 4000000 in
set_option maxRecDepth 100000 in
theorem fallenD (gf : Nat) (lb : Array Value) (K : S57 → Option Int) (eg : ∀ args w, (callFunc gf args).run Tryz.prog w = .ok (.enter gf args) w) (A0_0 : Option Addr) (c0_0 : Nat) (l0_0 : List (S57)) (A0_1 : Option Addr) (c0_1 : Nat) (l0_1 : List (S59)) (A0_2 : Option Addr) (c0_2 : Nat) (l0_2 : List (S59)) (A0_3 : Option Addr) (c0_3 : Nat) (l0_3 : List ByteArray) (a0_4 : Int) (a0_5 : Int) (n : Int) (q : List S59) (b : Bool) (ns : List S57) (w : World) (hr0_0 : Kd.C k57 w A0_0 l0_0.length l0_0) (hc0_0 : l0_0.length ≤ c0_0) (hr0_1 : Kd.C k59 w A0_1 l0_1.length l0_1) (hc0_1 : l0_1.length ≤ c0_1) (hr0_2 : Kd.C k59 w A0_2 l0_2.length l0_2) (hc0_2 : l0_2.length ≤ c0_2) (hr0_3 : Kd.C Kd.string w A0_3 l0_3.length l0_3) (hc0_3 : l0_3.length ≤ c0_3)
    (hp : ∀ (W : World) (x : S57) (r : Int), Below w.heap.size w W → K x = some r → Calls Tryz.prog gf (#[.agg #[.int .i64 x.f0, .string x.f1, .int .i64 x.f2]] ++ lb) W fun e w' => e = .returned (.int .i64 r) ∧ Below W.heap.size W w')
    (hst : ∀ w1, Below w.heap.size w w1 → Calls Tryz.prog 141 #[.slice A0_2 l0_2.length c0_2, .slice A0_3 l0_3.length c0_3, .int .i64 n] w1 fun e w' => ∃ v : Value, e = .returned (.tuple #[v, .bool b]) ∧ Kd.R k59 59 w' w1.heap.size (fun _ => True) v q ∧ Below w1.heap.size w1 w')
    (hql : q.length * 24 ≤ 140737488355328) (hal : l0_0.length * 32 ≤ 140737488355328) (hc : cutNodes K (fun i => q.any fun e => e.f1 == i) l0_0 = some ns) :
    Calls Tryz.prog 95 #[.agg #[.slice A0_0 l0_0.length c0_0, .slice A0_1 l0_1.length c0_1, .slice A0_2 l0_2.length c0_2, .slice A0_3 l0_3.length c0_3, .int .i64 a0_4, .int .i64 a0_5], .int .i64 n, .func (.func gf) #[] lb] w fun e w' => ∃ v0_ v1_ v2_ v3_ : Value, e = .returned (.agg #[v0_, v1_, v2_, v3_, .int .i64 a0_4, .int .i64 a0_5]) ∧ Kd.R k57 57 w' w.heap.size (fun _ => True) v0_ ns ∧ Kd.R k59 59 w' w.heap.size (fun k_ => some k_ ≠ (v2_ : Value).ownBlock) v1_ q ∧ Kd.R k59 59 w' w.heap.size (fun k_ => some k_ ≠ (v1_ : Value).ownBlock) v2_ q ∧ Kd.R Kd.string 9 w' w.heap.size (fun _ => True) v3_ ([] : List ByteArray) ∧ Below w.heap.size w w' := by
  have HK := Aside0.mk hp
  have HS := Aside0.mk hst
  have HC := Aside0.mk hc
  have HR := Aside0.mk hr0_0
  have HQL := Aside0.mk hql
  have HAL := Aside0.mk hal
  clear hp hst hc hql hal hr0_0 hc0_0 hr0_1 hc0_1 hr0_2 hc0_2 hr0_3 hc0_3
  go_enter Tryz.func95, Tryz.ntmps95
  go_wp2_with (first | ((with_reducible refine gate_dst (N := 3) rfl ?_); refine box_event ?hg (N := 3) ?hd (cs := #[.slice A0_0 l0_0.length c0_0, .slice A0_1 l0_1.length c0_1, .slice A0_2 l0_2.length c0_2, .slice A0_3 l0_3.length c0_3, .int .i64 a0_4, .int .i64 a0_5]) (t := 32) ?hr ?_; (case hd => rfl); (case hg => rfl); (case hr => first | (go_simp; done) | (go_simp; rfl)); intro gD hg w1 hbox hb; have BL := Aside0.mk hb; have BD := Aside0.mk hbox; clear hb; (try clear iD0 iD1 iD2 iD3 iD4 iD5); obtain ⟨iD0, iD1, iD2, iD3, iD4, iD5⟩ := blk6 BD.out; clear hg hbox) | ((with_reducible refine gate_dst (N := 6) rfl ?_); refine box_event ?hg (N := 6) ?hd (cs := #[.slice none 0 0, .slice none 0 0, .slice none 0 0, .slice none 0 0, .int .i64 0, .int .i64 0]) (t := 32) ?hr ?_; (case hd => rfl); (case hg => rfl); (case hr => first | (go_simp; done) | (go_simp; rfl)); intro gR hg w1 hbox hb; have GR := Aside0.mk (show w.heap.size ≤ gR by rw [hg]; exact BL.out.size); have RD := Aside0.mk (show gR ≠ gD by rw [hg]; exact Nat.ne_of_gt (blk_lt BD.out)); replace BL := Aside0.mk (BL.out.trans (hb.mono BL.out.size)); (try replace BD := Aside0.mk ((hb.block gD (blk_lt BD.out)).trans BD.out)); (try replace BR := Aside0.mk ((hb.block gR (blk_lt BR.out)).trans BR.out)); (try replace BO := Aside0.mk ((hb.block gO (blk_lt BO.out)).trans BO.out)); (try replace Do := Aside0.mk (Do.out.on hb)); (try replace RQ := Aside0.mk (Kd.R_step RQ.out fun k hk hl => hb.block k hl)); have BR := Aside0.mk hbox; clear hb; (try clear iD0 iD1 iD2 iD3 iD4 iD5); obtain ⟨iD0, iD1, iD2, iD3, iD4, iD5⟩ := blk6 BD.out; (try clear iR0 iR1 iR2 iR3 iR4 iR5); obtain ⟨iR0, iR1, iR2, iR3, iR4, iR5⟩ := blk6 BR.out; clear hg hbox) | (go_at_call 141; have hbs := BL.out.size; (with_reducible refine (HS.out _ BL.out).mono ?_); rintro e w1 ⟨v4, rfl, hR4, hb⟩; obtain ⟨Aq, cq, rfl⟩ := Kd.R_slice hR4; replace BL := Aside0.mk (BL.out.trans (hb.mono BL.out.size)); (try replace BD := Aside0.mk ((hb.block gD (blk_lt BD.out)).trans BD.out)); (try replace BR := Aside0.mk ((hb.block gR (blk_lt BR.out)).trans BR.out)); (try replace BO := Aside0.mk ((hb.block gO (blk_lt BO.out)).trans BO.out)); (try replace Do := Aside0.mk (Do.out.on hb)); (try replace RQ := Aside0.mk (Kd.R_step RQ.out fun k hk hl => hb.block k hl)); have RQ := Aside0.mk (Kd.R_lower hR4 hbs); clear hR4 hb hbs; (try clear iD0 iD1 iD2 iD3 iD4 iD5); obtain ⟨iD0, iD1, iD2, iD3, iD4, iD5⟩ := blk6 BD.out; (try clear iR0 iR1 iR2 iR3 iR4 iR5); obtain ⟨iR0, iR1, iR2, iR3, iR4, iR5⟩ := blk6 BR.out))
  clear iR0 iR1 iR2 iR3 iR4 iR5 iD0 iD1 iD2 iD3 iD4 iD5
  have hb := below_drew (Below.refl w1.heap.size w1)
  replace BL := Aside0.mk (BL.out.trans (hb.mono BL.out.size)); (try replace BD := Aside0.mk ((hb.block gD (blk_lt BD.out)).trans BD.out)); (try replace BR := Aside0.mk ((hb.block gR (blk_lt BR.out)).trans BR.out)); (try replace BO := Aside0.mk ((hb.block gO (blk_lt BO.out)).trans BO.out)); (try replace Do := Aside0.mk (Do.out.on hb)); (try replace RQ := Aside0.mk (Kd.R_step RQ.out fun k hk hl => hb.block k hl))
  clear hb
  refine start_ (n := 10) (S := fun w' => w'.cell? ⟨gD, 0, none⟩ = some (.slice A0_0 l0_0.length c0_0) ∧ w'.cell? ⟨gD, 1, none⟩ = some (.slice A0_1 l0_1.length c0_1) ∧ w'.cell? ⟨gD, 2, none⟩ = some (.slice A0_2 l0_2.length c0_2) ∧ w'.cell? ⟨gD, 3, none⟩ = some (.slice A0_3 l0_3.length c0_3) ∧ w'.cell? ⟨gD, 4, none⟩ = some (.int .i64 a0_4) ∧ w'.cell? ⟨gD, 5, none⟩ = some (.int .i64 a0_5)) (ds := [9]) (marks 10 0) (by kernel_rfl) rfl rfl ⟨(blk_cell BD.out 0).trans rfl, (blk_cell BD.out 1).trans rfl, (blk_cell BD.out 2).trans rfl, (blk_cell BD.out 3).trans rfl, (blk_cell BD.out 4).trans rfl, (blk_cell BD.out 5).trans rfl⟩ (fun hHeld => ?_)
  generalize w1.drew = w2 at BL BD BR RQ hHeld ⊢
  refine pure_ (i := 0) (N := some 22) (v := ?_) (a' := ?_) (marks 10 1) rfl rfl (by kernel_rfl) (fun _ _ _ h => h) (Or.inl ⟨by rfl, ?_⟩) ?_ ?_
  rotate_left
  · intro w'
    go_simp
    with_reducible rfl
  rotate_left
  · simp only [Act.put, List.setIfInBounds_toArray, List.set_cons_zero, List.set_cons_succ, i64_w, i32_w]
    rfl
  refine pure_ (i := 1) (N := some 23) (v := ?_) (a' := ?_) (marks 10 3) rfl rfl (by kernel_rfl) (fun _ _ _ h => h) (Or.inl ⟨by rfl, ?_⟩) ?_ ?_
  rotate_left
  · intro w'
    go_simp
    with_reducible rfl
  rotate_left
  · simp only [Act.put, List.setIfInBounds_toArray, List.set_cons_zero, List.set_cons_succ, i64_w, i32_w]
    rfl
  refine pure_ (i := 3) (N := some 25) (v := ?_) (a' := ?_) (marks 10 11) rfl rfl (by kernel_rfl) (fun _ _ _ h => h) (Or.inl ⟨by rfl, ?_⟩) ?_ ?_
  rotate_left
  · intro w'
    go_simp
    with_reducible rfl
  rotate_left
  · simp only [Act.put, List.setIfInBounds_toArray, List.set_cons_zero, List.set_cons_succ, i64_w, i32_w]
    rfl
  refine take_ (i := 4) (N := some 26) (v := ?_) (a' := ?_) (marks 10 27) rfl rfl (by kernel_rfl) (fun _ _ _ h => h) (Or.inl ⟨by rfl, ?_⟩) hHeld ?_ ?_
  rotate_left
  · rintro w' ⟨s0, s1, s2, s3, s4, s5⟩
    go_simp
    with_reducible rfl
  rotate_left
  · simp only [Act.put, List.setIfInBounds_toArray, List.set_cons_zero, List.set_cons_succ, i64_w, i32_w]
    rfl
  refine pure_ (i := 5) (N := some 27) (v := ?_) (a' := ?_) (marks 10 59) rfl rfl (by kernel_rfl) (fun _ _ _ h => h) (Or.inl ⟨by rfl, ?_⟩) ?_ ?_
  rotate_left
  · intro w'
    go_simp
    with_reducible rfl
  rotate_left
  · simp only [Act.put, List.setIfInBounds_toArray, List.set_cons_zero, List.set_cons_succ, i64_w, i32_w]
    rfl
  refine take_ (i := 6) (N := some 28) (v := ?_) (a' := ?_) (marks 10 123) rfl rfl (by kernel_rfl) (fun _ _ _ h => h) (Or.inl ⟨by rfl, ?_⟩) hHeld ?_ ?_
  rotate_left
  · rintro w' ⟨s0, s1, s2, s3, s4, s5⟩
    go_simp
    with_reducible rfl
  rotate_left
  · simp only [Act.put, List.setIfInBounds_toArray, List.set_cons_zero, List.set_cons_succ, i64_w, i32_w]
    rfl
  refine two_ (i := 2) (j := 8) (N := some 24) (M := some 9) (marks 10 127) (marks 10 379) rfl rfl rfl rfl (by kernel_rfl) (by decide) (by decide) (fun K hK => ?_) (fun K hK => ?_)
  focus
    refine goes_ Tryz.func71 (by kernel_rfl) rfl #[.slice Aq q.length cq] (by rfl) rfl rfl (by (try simp only [List.map_toArray, List.map_cons, List.map_nil]); first | done | rfl | (go_simp; done)) ?_
    with_reducible refine (cloneE Aq cq q _ (Kd.R_reads' RQ.out).2.2 HQL.out).mono ?_
    rintro e w1 ⟨v5, rfl, hR5, hb⟩
    obtain ⟨Ac, cc, rfl⟩ := Kd.R_slice hR5
    refine ⟨_, rfl, ?_⟩
    have LB := BL.out.size
    have LQ := Aside0.mk (Kd.R_lt RQ.out)
    have RC := Aside0.mk (Kd.R_lower hR5 LB)
    have NE := Aside0.mk (fun k (h1 : some k = (Value.slice Aq q.length cq).ownBlock) (h2 : some k = (Value.slice Ac q.length cc).ownBlock) => (show False by have e1 := LQ.out k h1.symm; have e2 := Kd.R_base hR5 k h2.symm; omega))
    replace BL := Aside0.mk (BL.out.trans (hb.mono BL.out.size)); (try replace BD := Aside0.mk ((hb.block gD (blk_lt BD.out)).trans BD.out)); (try replace BR := Aside0.mk ((hb.block gR (blk_lt BR.out)).trans BR.out)); (try replace BO := Aside0.mk ((hb.block gO (blk_lt BO.out)).trans BO.out)); (try replace Do := Aside0.mk (Do.out.on hb)); (try replace RQ := Aside0.mk (Kd.R_step RQ.out fun k hk hl => hb.block k hl))
    clear hb hR5 LQ LB
    refine hK.out _ _ ⟨(blk_cell BD.out 0).trans rfl, (blk_cell BD.out 1).trans rfl, (blk_cell BD.out 2).trans rfl, (blk_cell BD.out 3).trans rfl, (blk_cell BD.out 4).trans rfl, (blk_cell BD.out 5).trans rfl⟩ (fun hHeld => ?_)
    clear hK K
    refine norm_ (a' := ?_) ?_ ?_
    rotate_left
    · show Act.put _ (some 24) _ = _
      simp only [Act.put, List.setIfInBounds_toArray, List.set_cons_zero, List.set_cons_succ, i64_w, i32_w]
      rfl
    refine pure_ (i := 7) (N := some 29) (v := ?_) (a' := ?_) (marks 10 255) rfl rfl (by kernel_rfl) (fun _ _ _ h => h) (Or.inl ⟨by rfl, ?_⟩) ?_ ?_
    rotate_left
    · intro w'
      go_simp
      with_reducible rfl
    rotate_left
    · simp only [Act.put, List.setIfInBounds_toArray, List.set_cons_zero, List.set_cons_succ, i64_w, i32_w]
      rfl
    refine one_ (i := 8) (N := some 9) (marks 10 511) rfl rfl (by kernel_rfl) (by decide) (fun K hK => ?_)
    refine value_ (w1 := ?_) (v := ?_) (by rfl) rfl ?_ ?_
    rotate_left 2
    · go_simp
      constructor
      · rfl
      · rfl
    clear hHeld
    have hbox := blk_new w1 (.cells #[.slice none 0 0, .slice none 0 0, .slice none 0 0, .slice none 0 0, .int .i64 0, .int .i64 0] 32 (0, 0))
    have hb := below_alloc (Below.refl w1.heap.size w1) (.cells #[.slice none 0 0, .slice none 0 0, .slice none 0 0, .slice none 0 0, .int .i64 0, .int .i64 0] 32 (0, 0))
    have GO := Aside0.mk BL.out.size
    have NO := Aside0.mk (And.intro (Nat.ne_of_lt (blk_lt BD.out)) (Nat.ne_of_lt (blk_lt BR.out)))
    replace BL := Aside0.mk (BL.out.trans (hb.mono BL.out.size)); (try replace BD := Aside0.mk ((hb.block gD (blk_lt BD.out)).trans BD.out)); (try replace BR := Aside0.mk ((hb.block gR (blk_lt BR.out)).trans BR.out)); (try replace BO := Aside0.mk ((hb.block gO (blk_lt BO.out)).trans BO.out)); (try replace Do := Aside0.mk (Do.out.on hb)); (try replace RQ := Aside0.mk (Kd.R_step RQ.out fun k hk hl => hb.block k hl))
    (try replace RC := Aside0.mk (Kd.R_step RC.out fun k hk hl => hb.block k hl))
    clear hb
    generalize w1.alloc (.cells #[.slice none 0 0, .slice none 0 0, .slice none 0 0, .slice none 0 0, .int .i64 0, .int .i64 0] 32 (0, 0)) = w5 at hbox BL BD BR RQ RC ⊢
    generalize w1.heap.size = gO at hbox GO NO ⊢
    have BO := Aside0.mk hbox
    clear hbox
    refine hK.out _ _ ⟨(blk_cell BD.out 0).trans rfl, (blk_cell BD.out 1).trans rfl, (blk_cell BD.out 2).trans rfl, (blk_cell BD.out 3).trans rfl, (blk_cell BD.out 4).trans rfl, (blk_cell BD.out 5).trans rfl⟩ (fun hHeld => ?_)
    clear hK K
    refine norm_ (a' := ?_) ?_ ?_
    rotate_left
    · show Act.put _ (some 9) _ = _
      simp only [Act.put, List.setIfInBounds_toArray, List.set_cons_zero, List.set_cons_succ, i64_w, i32_w]
      rfl
  rotate_left
  focus
    refine value_ (w1 := ?_) (v := ?_) (by rfl) rfl ?_ ?_
    rotate_left 2
    · go_simp
      constructor
      · rfl
      · rfl
    clear hHeld
    have hbox := blk_new w2 (.cells #[.slice none 0 0, .slice none 0 0, .slice none 0 0, .slice none 0 0, .int .i64 0, .int .i64 0] 32 (0, 0))
    have hb := below_alloc (Below.refl w2.heap.size w2) (.cells #[.slice none 0 0, .slice none 0 0, .slice none 0 0, .slice none 0 0, .int .i64 0, .int .i64 0] 32 (0, 0))
    have GO := Aside0.mk BL.out.size
    have NO := Aside0.mk (And.intro (Nat.ne_of_lt (blk_lt BD.out)) (Nat.ne_of_lt (blk_lt BR.out)))
    replace BL := Aside0.mk (BL.out.trans (hb.mono BL.out.size)); (try replace BD := Aside0.mk ((hb.block gD (blk_lt BD.out)).trans BD.out)); (try replace BR := Aside0.mk ((hb.block gR (blk_lt BR.out)).trans BR.out)); (try replace BO := Aside0.mk ((hb.block gO (blk_lt BO.out)).trans BO.out)); (try replace Do := Aside0.mk (Do.out.on hb)); (try replace RQ := Aside0.mk (Kd.R_step RQ.out fun k hk hl => hb.block k hl))
    (try replace RC := Aside0.mk (Kd.R_step RC.out fun k hk hl => hb.block k hl))
    clear hb
    generalize w2.alloc (.cells #[.slice none 0 0, .slice none 0 0, .slice none 0 0, .slice none 0 0, .int .i64 0, .int .i64 0] 32 (0, 0)) = w3 at hbox BL BD BR RQ ⊢
    generalize w2.heap.size = gO at hbox GO NO ⊢
    have BO := Aside0.mk hbox
    clear hbox
    refine hK.out _ _ ⟨(blk_cell BD.out 0).trans rfl, (blk_cell BD.out 1).trans rfl, (blk_cell BD.out 2).trans rfl, (blk_cell BD.out 3).trans rfl, (blk_cell BD.out 4).trans rfl, (blk_cell BD.out 5).trans rfl⟩ (fun hHeld => ?_)
    clear hK K
    refine norm_ (a' := ?_) ?_ ?_
    rotate_left
    · show Act.put _ (some 9) _ = _
      simp only [Act.put, List.setIfInBounds_toArray, List.set_cons_zero, List.set_cons_succ, i64_w, i32_w]
      rfl
    refine one_ (i := 2) (N := some 24) (marks 10 383) rfl rfl (by kernel_rfl) (by decide) (fun K hK => ?_)
    refine goes_ Tryz.func71 (by kernel_rfl) rfl #[.slice Aq q.length cq] (by rfl) rfl rfl (by (try simp only [List.map_toArray, List.map_cons, List.map_nil]); first | done | rfl | (go_simp; done)) ?_
    with_reducible refine (cloneE Aq cq q _ (Kd.R_reads' RQ.out).2.2 HQL.out).mono ?_
    rintro e w5 ⟨v5, rfl, hR5, hb⟩
    obtain ⟨Ac, cc, rfl⟩ := Kd.R_slice hR5
    refine ⟨_, rfl, ?_⟩
    have LB := BL.out.size
    have LQ := Aside0.mk (Kd.R_lt RQ.out)
    have RC := Aside0.mk (Kd.R_lower hR5 LB)
    have NE := Aside0.mk (fun k (h1 : some k = (Value.slice Aq q.length cq).ownBlock) (h2 : some k = (Value.slice Ac q.length cc).ownBlock) => (show False by have e1 := LQ.out k h1.symm; have e2 := Kd.R_base hR5 k h2.symm; omega))
    replace BL := Aside0.mk (BL.out.trans (hb.mono BL.out.size)); (try replace BD := Aside0.mk ((hb.block gD (blk_lt BD.out)).trans BD.out)); (try replace BR := Aside0.mk ((hb.block gR (blk_lt BR.out)).trans BR.out)); (try replace BO := Aside0.mk ((hb.block gO (blk_lt BO.out)).trans BO.out)); (try replace Do := Aside0.mk (Do.out.on hb)); (try replace RQ := Aside0.mk (Kd.R_step RQ.out fun k hk hl => hb.block k hl))
    clear hb hR5 LQ LB
    refine hK.out _ _ ⟨(blk_cell BD.out 0).trans rfl, (blk_cell BD.out 1).trans rfl, (blk_cell BD.out 2).trans rfl, (blk_cell BD.out 3).trans rfl, (blk_cell BD.out 4).trans rfl, (blk_cell BD.out 5).trans rfl⟩ (fun hHeld => ?_)
    clear hK K
    refine norm_ (a' := ?_) ?_ ?_
    rotate_left
    · show Act.put _ (some 24) _ = _
      simp only [Act.put, List.setIfInBounds_toArray, List.set_cons_zero, List.set_cons_succ, i64_w, i32_w]
      rfl
    refine pure_ (i := 7) (N := some 29) (v := ?_) (a' := ?_) (marks 10 511) rfl rfl (by kernel_rfl) (fun _ _ _ h => h) (Or.inl ⟨by rfl, ?_⟩) ?_ ?_
    rotate_left
    · intro w'
      go_simp
      with_reducible rfl
    rotate_left
    · simp only [Act.put, List.setIfInBounds_toArray, List.set_cons_zero, List.set_cons_succ, i64_w, i32_w]
      rfl
  all_goals
    (try clear iO0 iO1 iO2 iO3 iO4 iO5); obtain ⟨iO0, iO1, iO2, iO3, iO4, iO5⟩ := blk6 BO.out
    (try clear zO0 zO1 zO2 zO3 zO4 zO5); obtain ⟨zO0, zO1, zO2, zO3, zO4, zO5⟩ := z6 BO.out
    refine last_ (i := 9) (N := none) (marks 10 1023) rfl rfl (by kernel_rfl) (by decide) (fun K hK => ?_)
    refine skip_ (w1 := ?_) (by rfl) rfl ?_ ?_
    rotate_left
    · go_simp
      rfl
    refine hK.out _ _ ?_
    clear hK K
    refine done_ (by kernel_rfl) ?_
    have b1 : Below w.heap.size w ((((((w5.setCell ⟨gO, 0, none⟩ (.slice none 0 0)).setCell ⟨gO, 1, none⟩ (.slice Aq q.length cq)).setCell ⟨gO, 2, none⟩ (.slice Ac q.length cc)).setCell ⟨gO, 3, none⟩ (.slice none 0 0)).setCell ⟨gO, 4, none⟩ (.int .i64 a0_4)).setCell ⟨gO, 5, none⟩ (.int .i64 a0_5)) := fill6_below BL.out GO.out
    have b2 : ((((((w5.setCell ⟨gO, 0, none⟩ (.slice none 0 0)).setCell ⟨gO, 1, none⟩ (.slice Aq q.length cq)).setCell ⟨gO, 2, none⟩ (.slice Ac q.length cc)).setCell ⟨gO, 3, none⟩ (.slice none 0 0)).setCell ⟨gO, 4, none⟩ (.int .i64 a0_4)).setCell ⟨gO, 5, none⟩ (.int .i64 a0_5)).heap[gO]? = some (.cells #[.slice none 0 0, .slice Aq q.length cq, .slice Ac q.length cc, .slice none 0 0, .int .i64 a0_4, .int .i64 a0_5] 32 (0, 0)) := fill6_at BO.out
    have b3 : ((((((w5.setCell ⟨gO, 0, none⟩ (.slice none 0 0)).setCell ⟨gO, 1, none⟩ (.slice Aq q.length cq)).setCell ⟨gO, 2, none⟩ (.slice Ac q.length cc)).setCell ⟨gO, 3, none⟩ (.slice none 0 0)).setCell ⟨gO, 4, none⟩ (.int .i64 a0_4)).setCell ⟨gO, 5, none⟩ (.int .i64 a0_5)).heap[gR]? = some (.cells #[.slice none 0 0, .slice none 0 0, .slice none 0 0, .slice none 0 0, .int .i64 0, .int .i64 0] 32 (0, 0)) := (fill6_far NO.out.2).trans BR.out
    have b4 : ((((((w5.setCell ⟨gO, 0, none⟩ (.slice none 0 0)).setCell ⟨gO, 1, none⟩ (.slice Aq q.length cq)).setCell ⟨gO, 2, none⟩ (.slice Ac q.length cc)).setCell ⟨gO, 3, none⟩ (.slice none 0 0)).setCell ⟨gO, 4, none⟩ (.int .i64 a0_4)).setCell ⟨gO, 5, none⟩ (.int .i64 a0_5)).heap[gD]? = some (.cells #[.slice A0_0 l0_0.length c0_0, .slice A0_1 l0_1.length c0_1, .slice A0_2 l0_2.length c0_2, .slice A0_3 l0_3.length c0_3, .int .i64 a0_4, .int .i64 a0_5] 32 (0, 0)) := (fill6_far NO.out.1).trans BD.out
    have b5 : HasD ((((((w5.setCell ⟨gO, 0, none⟩ (.slice none 0 0)).setCell ⟨gO, 1, none⟩ (.slice Aq q.length cq)).setCell ⟨gO, 2, none⟩ (.slice Ac q.length cc)).setCell ⟨gO, 3, none⟩ (.slice none 0 0)).setCell ⟨gO, 4, none⟩ (.int .i64 a0_4)).setCell ⟨gO, 5, none⟩ (.int .i64 a0_5)) w.heap.size (.slice none 0 0) (.slice Aq q.length cq) (.slice Ac q.length cc) (.slice none 0 0) ([] : List S57) q q ([] : List ByteArray) := HasD.fill (base := w.heap.size) ⟨Kd.R_tight rfl (Kd.R_nil _ _ _ _ (fun _ => True)), Kd.R_tight rfl RQ.out, Kd.R_tight rfl RC.out, Kd.R_tight rfl (Kd.R_nil _ _ _ _ (fun _ => True)), NE.out⟩ BO.out (fun j hj => fill6_far hj)
    clear BL BD BR BO RQ RC NE
    (try clear hHeld)
    (try clear iO0 iO1 iO2 iO3 iO4 iO5)
    (try clear zO0 zO1 zO2 zO3 zO4 zO5)
    generalize ((((((w5.setCell ⟨gO, 0, none⟩ (.slice none 0 0)).setCell ⟨gO, 1, none⟩ (.slice Aq q.length cq)).setCell ⟨gO, 2, none⟩ (.slice Ac q.length cc)).setCell ⟨gO, 3, none⟩ (.slice none 0 0)).setCell ⟨gO, 4, none⟩ (.int .i64 a0_4)).setCell ⟨gO, 5, none⟩ (.int .i64 a0_5)) = w6 at b1 b2 b3 b4 b5 ⊢
    have BL := Aside0.mk b1
    have BO := Aside0.mk b2
    have BR := Aside0.mk b3
    have BD := Aside0.mk b4
    have Do := Aside0.mk b5
    clear b1 b2 b3 b4 b5
    (try clear iD0 iD1 iD2 iD3 iD4 iD5); obtain ⟨iD0, iD1, iD2, iD3, iD4, iD5⟩ := blk6 BD.out
    go_wp2_with fail
    go_loopg [33] l0_0.length (fun gg s33 wr => ∃ (kk : Nat) (pre : List S57) (Ao : Option Addr) (co : Nat), kk ≤ l0_0.length ∧ l0_0.length - kk ≤ gg ∧ s33 = .int .i64 kk ∧ Aside0 (pre.length ≤ kk) ∧ Aside0 (∃ rest, cutNodes K (fun i => q.any fun e => e.f1 == i) (l0_0.drop kk) = some rest ∧ pre ++ rest = ns) ∧ Aside0 (Below w.heap.size w wr) ∧ Aside0 (wr.heap[gO]? = some (.cells #[.slice Ao pre.length co, .slice Aq q.length cq, .slice Ac q.length cc, .slice none 0 0, .int .i64 a0_4, .int .i64 a0_5] 32 (0, 0))) ∧ Aside0 (wr.heap[gR]? = some (.cells #[.slice none 0 0, .slice none 0 0, .slice none 0 0, .slice none 0 0, .int .i64 0, .int .i64 0] 32 (0, 0))) ∧ Aside0 (HasD wr w.heap.size (.slice Ao pre.length co) (.slice Aq q.length cq) (.slice Ac q.length cc) (.slice none 0 0) pre q q ([] : List ByteArray)))
    case atStart => exact ⟨0, [], none, 0, by omega, by omega, rfl, ⟨Nat.le_refl _⟩, ⟨ns, HC.out, rfl⟩, BL, BO, BR, Do⟩
    case round =>
      obtain ⟨kk, pre, Ao, co, hkk, hgg, rfl, PL, PC, BL, BO, BR, Do⟩ := hrel
      clear iD0 iD1 iD2 iD3 iD4 iD5
      have hmax := HR.out.2.1
      by_cases hlt : kk < l0_0.length
      · have hltz : (kk : Int) < (l0_0.length : Int) := by omega
        have hk0 : (0 : Int) ≤ (kk : Int) := by omega
        obtain ⟨ad, rfl, hx0, hx1, hx2⟩ := at_T57 (Kd.C_below HR.out BL.out) (kk : Int) (by omega) hltz
        rw [Int.toNat_natCast] at hx0 hx1 hx2
        have hd : l0_0.drop kk = rd_T57 l0_0 (kk : Int) :: l0_0.drop (kk + 1) := by
          rw [List.drop_eq_getElem_cons hlt]
          unfold rd_T57
          rw [Int.toNat_natCast, List.getD_eq_getElem?_getD, List.getElem?_eq_getElem hlt]; rfl
        obtain ⟨rest, hrest, hns⟩ := PC.out
        rw [hd, cutNodes] at hrest
        clear hd PC
        generalize rd_T57 l0_0 (kk : Int) = y at hx0 hx1 hx2 hrest
        have CA := Aside0.mk (fun (W : World) (gN cq : Nat) (hC : Kd.C k59 W Aq q.length q) (hB : W.heap[gN]? = some (.cells #[.int .i64 y.f0, .string y.f1, .int .i64 y.f2] 57 (0, 0))) => fallAny Aq cq q gN y.f0 _ W hC hB rfl)
        generalize (q.any fun e => e.f1 == y.f0) = used at hrest CA
        cases used
        · rw [if_neg (by decide)] at hrest
          have PC : Aside0 (∃ rest, cutNodes K (fun i => q.any fun e => e.f1 == i) (l0_0.drop (kk + 1)) = some rest ∧ pre ++ rest = ns) := ⟨⟨rest, hrest, hns⟩⟩
          clear hrest hns
          go_wp2_with (first | ((with_reducible refine gate_dst (N := 11) rfl ?_); refine box_event ?hg (N := 11) ?hd (cs := #[.int .i64 0, .string (⟨#[]⟩ : ByteArray), .int .i64 0]) (t := 57) ?hr ?_; (case hd => rfl); (case hg => rfl); (case hr => first | (go_simp; done) | (go_simp; rfl)); intro gN hg w1 hbox hb; have GN := Aside0.mk (show w.heap.size ≤ gN by rw [hg]; exact BL.out.size); have NN := Aside0.mk (And.intro (show gO ≠ gN by rw [hg]; exact Nat.ne_of_lt (blk_lt BO.out)) (show gR ≠ gN by rw [hg]; exact Nat.ne_of_lt (blk_lt BR.out))); have ON := Aside0.mk (fun k (ho : ownD (.slice Ao pre.length co) (.slice Aq q.length cq) (.slice Ac q.length cc) (.slice none 0 0) k) => (show k ≠ gN by rw [hg]; exact Nat.ne_of_lt (Do.out.lt k ho))); replace BL := Aside0.mk (BL.out.trans (hb.mono BL.out.size)); (try replace BO := Aside0.mk ((hb.block gO (blk_lt BO.out)).trans BO.out)); (try replace BR := Aside0.mk ((hb.block gR (blk_lt BR.out)).trans BR.out)); (try replace BN := Aside0.mk ((hb.block gN (blk_lt BN.out)).trans BN.out)); replace Do := Aside0.mk (Do.out.on hb); have BN := Aside0.mk hbox; clear hb hg hbox; (try clear nN0 nN1 nN2 zN0 zN1 zN2); have nN0 : w1.cell? ⟨gN, 0, none⟩ = some (.int .i64 0) := (blk_cell BN.out 0).trans rfl; have nN1 : w1.cell? ⟨gN, 1, none⟩ = some (.string (⟨#[]⟩ : ByteArray)) := (blk_cell BN.out 1).trans rfl; have nN2 : w1.cell? ⟨gN, 2, none⟩ = some (.int .i64 0) := (blk_cell BN.out 2).trans rfl; have zN0 := blk_frozen BN.out 0; have zN1 := blk_frozen BN.out 1; have zN2 := blk_frozen BN.out 2; clear hx0 hx1 hx2) | (go_at_call 121; refine fill3_calls BN.out (fun W hN hz hT hs => ?_); replace BL := Aside0.mk ((hT (S := fun k => k = gN) (Turned.refl _ _) (.inl rfl)).below BL.out (fun k hk => by rw [hk]; exact GN.out) BL.out.size); replace BO := Aside0.mk ((hs gO NN.out.1).trans BO.out); replace BR := Aside0.mk ((hs gR NN.out.2).trans BR.out); replace Do := Aside0.mk (Do.out.step fun k ho hk => hs k (ON.out k ho)); replace BN := Aside0.mk hN; clear hN hz hT hs; (with_reducible refine (CA.out W gN cq (Kd.R_reads' Do.out.r1).2.2 BN.out).mono ?_); rintro e w1 ⟨rfl, hb⟩; replace BL := Aside0.mk (BL.out.trans (hb.mono BL.out.size)); (try replace BO := Aside0.mk ((hb.block gO (blk_lt BO.out)).trans BO.out)); (try replace BR := Aside0.mk ((hb.block gR (blk_lt BR.out)).trans BR.out)); (try replace BN := Aside0.mk ((hb.block gN (blk_lt BN.out)).trans BN.out)); replace Do := Aside0.mk (Do.out.on hb); clear hb; (try clear nN0 nN1 nN2 zN0 zN1 zN2); have nN0 : w1.cell? ⟨gN, 0, none⟩ = some (.int .i64 y.f0) := (blk_cell BN.out 0).trans rfl; have nN1 : w1.cell? ⟨gN, 1, none⟩ = some (.string y.f1) := (blk_cell BN.out 1).trans rfl; have nN2 : w1.cell? ⟨gN, 2, none⟩ = some (.int .i64 y.f2) := (blk_cell BN.out 2).trans rfl; have zN0 := blk_frozen BN.out 0; have zN1 := blk_frozen BN.out 1; have zN2 := blk_frozen BN.out 2))
          go_roundg (l0_0.length - (kk + 1))
          case measure => omega
          case rel => exact ⟨kk + 1, pre, Ao, co, by omega, by omega, by go_num, ⟨by have := PL.out; omega⟩, PC, BL, BO, BR, Do⟩
        · rw [if_pos rfl] at hrest
          replace hrest := Option.bind_eq_some_iff.mp hrest
          obtain ⟨m, hKm, hrest⟩ := hrest
          by_cases hm : 0 ≤ m ∧ m ≤ (y.f1.size : Int)
          · rw [if_pos hm] at hrest
            obtain ⟨hm0, hm1⟩ := hm
            replace hrest := Option.map_eq_some_iff.mp hrest
            obtain ⟨rt, hrt, rfl⟩ := hrest
            generalize hnl : pre ++ [(⟨y.f0, y.f1.extract 0 m.toNat, ((y.f1.extract 0 m.toNat).size : Int)⟩ : S57)] = nl
            have HNL := Aside0.mk hnl
            have PC : Aside0 (∃ rest, cutNodes K (fun i => q.any fun e => e.f1 == i) (l0_0.drop (kk + 1)) = some rest ∧ nl ++ rest = ns) := ⟨⟨rt, hrt, by rw [← hnl, ← hns]; simp⟩⟩
            have PL2 : Aside0 (nl.length ≤ kk + 1) := ⟨by rw [← hnl, List.length_append]; have := PL.out; show _ + 1 ≤ _; omega⟩
            have HNZ : Aside0 ((pre.length + 1) * 32 ≤ 140737488355328) := ⟨by have := PL.out; have := HAL.out; omega⟩
            have HKM := Aside0.mk (fun (W : World) (hb : Below w.heap.size w W) => HK.out W y m hb hKm)
            clear hnl hrt hns hKm
            go_wp2_with (first | ((with_reducible refine gate_dst (N := 11) rfl ?_); refine box_event ?hg (N := 11) ?hd (cs := #[.int .i64 0, .string (⟨#[]⟩ : ByteArray), .int .i64 0]) (t := 57) ?hr ?_; (case hd => rfl); (case hg => rfl); (case hr => first | (go_simp; done) | (go_simp; rfl)); intro gN hg w1 hbox hb; have GN := Aside0.mk (show w.heap.size ≤ gN by rw [hg]; exact BL.out.size); have NN := Aside0.mk (And.intro (show gO ≠ gN by rw [hg]; exact Nat.ne_of_lt (blk_lt BO.out)) (show gR ≠ gN by rw [hg]; exact Nat.ne_of_lt (blk_lt BR.out))); have ON := Aside0.mk (fun k (ho : ownD (.slice Ao pre.length co) (.slice Aq q.length cq) (.slice Ac q.length cc) (.slice none 0 0) k) => (show k ≠ gN by rw [hg]; exact Nat.ne_of_lt (Do.out.lt k ho))); replace BL := Aside0.mk (BL.out.trans (hb.mono BL.out.size)); (try replace BO := Aside0.mk ((hb.block gO (blk_lt BO.out)).trans BO.out)); (try replace BR := Aside0.mk ((hb.block gR (blk_lt BR.out)).trans BR.out)); (try replace BN := Aside0.mk ((hb.block gN (blk_lt BN.out)).trans BN.out)); replace Do := Aside0.mk (Do.out.on hb); have BN := Aside0.mk hbox; clear hb hg hbox; (try clear nN0 nN1 nN2 zN0 zN1 zN2); have nN0 : w1.cell? ⟨gN, 0, none⟩ = some (.int .i64 0) := (blk_cell BN.out 0).trans rfl; have nN1 : w1.cell? ⟨gN, 1, none⟩ = some (.string (⟨#[]⟩ : ByteArray)) := (blk_cell BN.out 1).trans rfl; have nN2 : w1.cell? ⟨gN, 2, none⟩ = some (.int .i64 0) := (blk_cell BN.out 2).trans rfl; have zN0 := blk_frozen BN.out 0; have zN1 := blk_frozen BN.out 1; have zN2 := blk_frozen BN.out 2; clear hx0 hx1 hx2) | (go_at_call 121; refine fill3_calls BN.out (fun W hN hz hT hs => ?_); replace BL := Aside0.mk ((hT (S := fun k => k = gN) (Turned.refl _ _) (.inl rfl)).below BL.out (fun k hk => by rw [hk]; exact GN.out) BL.out.size); replace BO := Aside0.mk ((hs gO NN.out.1).trans BO.out); replace BR := Aside0.mk ((hs gR NN.out.2).trans BR.out); replace Do := Aside0.mk (Do.out.step fun k ho hk => hs k (ON.out k ho)); replace BN := Aside0.mk hN; clear hN hz hT hs; (with_reducible refine (CA.out W gN cq (Kd.R_reads' Do.out.r1).2.2 BN.out).mono ?_); rintro e w1 ⟨rfl, hb⟩; replace BL := Aside0.mk (BL.out.trans (hb.mono BL.out.size)); (try replace BO := Aside0.mk ((hb.block gO (blk_lt BO.out)).trans BO.out)); (try replace BR := Aside0.mk ((hb.block gR (blk_lt BR.out)).trans BR.out)); (try replace BN := Aside0.mk ((hb.block gN (blk_lt BN.out)).trans BN.out)); replace Do := Aside0.mk (Do.out.on hb); clear hb; (try clear nN0 nN1 nN2 zN0 zN1 zN2); have nN0 : w1.cell? ⟨gN, 0, none⟩ = some (.int .i64 y.f0) := (blk_cell BN.out 0).trans rfl; have nN1 : w1.cell? ⟨gN, 1, none⟩ = some (.string y.f1) := (blk_cell BN.out 1).trans rfl; have nN2 : w1.cell? ⟨gN, 2, none⟩ = some (.int .i64 y.f2) := (blk_cell BN.out 2).trans rfl; have zN0 := blk_frozen BN.out 0; have zN1 := blk_frozen BN.out 1; have zN2 := blk_frozen BN.out 2))
            have sq0_ : ∀ p_ : LaidBy w1, p_.W.cell? ⟨gN, 0, none⟩ = some (.int .i64 y.f0) := fun p_ => p_.cell (nN0)
            have sq1_ : ∀ p_ : LaidBy w1, p_.W.cell? ⟨gN, 1, none⟩ = some (.string y.f1) := fun p_ => p_.cell (nN1)
            have sq2_ : ∀ p_ : LaidBy w1, p_.W.cell? ⟨gN, 2, none⟩ = some (.int .i64 y.f2) := fun p_ => p_.cell (nN2)
            refine wp_region_laid (by kernel_rfl) (by kernel_rfl) ?_
            repeat (go_big_quiet_step (first | (go_at_fn gf; with_reducible exact laid_of _ (HKM.out _ (LaidBy.below _ BL.out)))))
            refine wpQuiet_nil ?_
            rintro w9 ⟨p_, hp_⟩
            have hq_ : Below w1.heap.size w1 w9 := hp_ ▸ p_.ok
            clear hp_ p_ sq0_ sq1_ sq2_
            generalize y.f1.extract 0 m.toNat = tx at HNL ⊢
            have hb := hq_
            replace BL := Aside0.mk (BL.out.trans (hb.mono BL.out.size)); (try replace BO := Aside0.mk ((hb.block gO (blk_lt BO.out)).trans BO.out)); (try replace BR := Aside0.mk ((hb.block gR (blk_lt BR.out)).trans BR.out)); (try replace BN := Aside0.mk ((hb.block gN (blk_lt BN.out)).trans BN.out)); replace Do := Aside0.mk (Do.out.on hb)
            clear hb hq_
            (try clear nN0 nN1 nN2 zN0 zN1 zN2); have nN0 : w9.cell? ⟨gN, 0, none⟩ = some (.int .i64 y.f0) := (blk_cell BN.out 0).trans rfl; have nN1 : w9.cell? ⟨gN, 1, none⟩ = some (.string y.f1) := (blk_cell BN.out 1).trans rfl; have nN2 : w9.cell? ⟨gN, 2, none⟩ = some (.int .i64 y.f2) := (blk_cell BN.out 2).trans rfl; have zN0 := blk_frozen BN.out 0; have zN1 := blk_frozen BN.out 1; have zN2 := blk_frozen BN.out 2
            (try clear iO0 iO1 iO2 iO3 iO4 iO5); obtain ⟨iO0, iO1, iO2, iO3, iO4, iO5⟩ := blk6 BO.out
            (try clear zO0 zO1 zO2 zO3 zO4 zO5); obtain ⟨zO0, zO1, zO2, zO3, zO4, zO5⟩ := z6 BO.out
            go_wp2_with (first | (at_builtin; refine Kd.R_append k57 (w0 := w) w.heap.size rfl (.tmp 47) (.tmp 54) 29 57 (.agg #[.int .i64 0, .string ⟨#[]⟩, .int .i64 0]) 32 rfl Tryz.underlying29 info57 rfl (by decide) (by decide) (.slice Ao pre.length co) pre ⟨y.f0, tx, (tx.size : Int)⟩ [.int .i64 y.f0, .string tx, .int .i64 (tx.size : Int)] _ (fun _ => False) rfl rfl (k57_mkM _ _ _ _) (fun _ h => h.elim) (fun k hk => .inr hk) (Kd.R_mono (ok' := fun k => some k = (Value.slice Ao pre.length co).ownBlock ∨ _ ≤ k) Do.out.r0 fun k hk => .inl hk) BL.out BL.out.size HNZ.out ?_; intro v1 w8 hO1 hb1 hg1 hat1; rw [HNL.out] at hO1; obtain ⟨A7, c7, rfl⟩ := Kd.R_slice hO1; have hT : Turned _ w8 _ := ⟨hg1.os, hg1.tape, hg1.output, hg1.size, fun k hk hn => hg1.block k hk hn⟩; have hD := has_r0 Do.out hT hO1; replace BO := Aside0.mk ((hT.block gO (blk_lt BO.out) (fun e => Do.out.nobox BO.out (by decide) (by decide) (by decide) (.inl e))).trans BO.out); replace BR := Aside0.mk ((hT.block gR (blk_lt BR.out) (fun e => Do.out.nobox BR.out (by decide) (by decide) (by decide) (.inl e))).trans BR.out); clear BL Do BN nN0 nN1 nN2 zN0 zN1 zN2; have BL := Aside0.mk hb1; have Do := Aside0.mk hD; clear hD hO1 hb1 hg1 hat1 hT; (try clear iO0 iO1 iO2 iO3 iO4 iO5); obtain ⟨iO0, iO1, iO2, iO3, iO4, iO5⟩ := blk6 BO.out; (try clear zO0 zO1 zO2 zO3 zO4 zO5); obtain ⟨zO0, zO1, zO2, zO3, zO4, zO5⟩ := z6 BO.out) | ((with_reducible refine gate_store (t := 29) (p := 56) rfl ?_); refine store_event (t := 29) (p := 56) (v := ?vo56) (w1 := w8.setCell ⟨gO, 0, none⟩ (.slice A7 nl.length c7)) ?hg ?ho ?hn ?hr ?_; (case ho => rfl); (case hg => rfl); (case hn => rfl); (case hr => first | (go_simp; done) | (go_simp; rfl)); intro wz hw; have hs : ∀ j, j ≠ gO → wz.heap[j]? = w8.heap[j]? := (by rw [hw]; exact fun j hj => Below.heap_setCell w8 ⟨gO, 0, none⟩ _ j hj); have hbl : Below w.heap.size w wz := (by rw [hw]; exact below_set BL.out GO.out); have hG : wz.heap[gO]? = some (.cells #[.slice A7 nl.length c7, .slice Aq q.length cq, .slice Ac q.length cc, .slice none 0 0, .int .i64 a0_4, .int .i64 a0_5] 32 (0, 0)) := (by rw [hw]; exact blk_put (cs := #[.slice Ao pre.length co, .slice Aq q.length cq, .slice Ac q.length cc, .slice none 0 0, .int .i64 a0_4, .int .i64 a0_5]) BO.out 0 _ rfl); clear hw; replace Do := Aside0.mk (HasD.fill Do.out BO.out hs); replace BR := Aside0.mk ((hs gR NO.out.2).trans BR.out); clear BL BO; have BL := Aside0.mk hbl; have BO := Aside0.mk hG; clear hs hbl hG iO0 iO1 iO2 iO3 iO4 iO5 zO0 zO1 zO2 zO3 zO4 zO5))
            go_roundg (l0_0.length - (kk + 1))
            case measure => omega
            case rel => exact ⟨kk + 1, nl, A7, c7, by omega, by omega, by go_num, PL2, PC, BL, BO, BR, Do⟩
          · rw [if_neg hm] at hrest; cases hrest
      · have hz : l0_0.drop kk = [] := List.drop_eq_nil_of_le (by omega)
        obtain ⟨rest, hrest, hns⟩ := PC.out
        rw [hz, cutNodes] at hrest
        obtain rfl := Option.some.inj hrest
        rw [List.append_nil] at hns
        subst hns
        have hltz : ¬ (kk : Int) < (l0_0.length : Int) := by omega
        clear hz hrest PC
        (try clear iO0 iO1 iO2 iO3 iO4 iO5); obtain ⟨iO0, iO1, iO2, iO3, iO4, iO5⟩ := blk6 BO.out
        (try clear iR0 iR1 iR2 iR3 iR4 iR5); obtain ⟨iR0, iR1, iR2, iR3, iR4, iR5⟩ := blk6 BR.out
        (try clear zR0 zR1 zR2 zR3 zR4 zR5); obtain ⟨zR0, zR1, zR2, zR3, zR4, zR5⟩ := z6 BR.out
        go_wp2_with fail
        refine bodyPost_ret (results_cell_row rfl _ _ gR 32 #[.slice Ao pre.length co, .slice Aq q.length cq, .slice Ac q.length cc, .slice none 0 0, .int .i64 a0_4, .int .i64 a0_5] (0, 0) _ rfl (fill6_at BR.out) Tryz.underlying32 rfl (by kernel_rfl)) rfl ?_
        have hT := filled_told (.int .i64 a0_4) (.int .i64 a0_5) Do.out BR.out
        exact ⟨_, _, _, _, rfl, hT.1, hT.2.1, hT.2.2.1, hT.2.2.2, fill6_below BL.out GR.out⟩
theorem bigLit (W : World) (x : S57) : Calls Tryz.prog 91 (#[.agg #[.int .i64 x.f0, .string x.f1, .int .i64 x.f2]] ++ #[]) W fun e w' => e = .returned (.bool (decide (100000 < x.f0))) ∧ Below W.heap.size W w' := by
  show Calls Tryz.prog 91 #[.agg #[.int .i64 x.f0, .string x.f1, .int .i64 x.f2]] W _
  go_enter Tryz.func91, Tryz.ntmps91
  go_wp2
  go_ret
  exact ⟨rfl, below_alloc (Below.refl _ _) _⟩
set_option maxHeartbeats 2000000 in
theorem bigAny (A : Option Addr) (c : Nat) (l : List S57) (w : World) (hr : Kd.C k57 w A l.length l) :
    Calls Tryz.prog 90 #[.slice A l.length c, .func (.func 91) #[] #[]] w fun e w' => e = .returned (.bool (l.any fun x => decide (100000 < x.f0))) ∧ Below w.heap.size w w' := by
  have eg : ∀ args w, (callFunc 91 args).run Tryz.prog w = .ok (.enter 91 args) w := enters_of Tryz.func91 (by kernel_rfl) rfl
  have h := idxNode 91 #[] (fun x => decide (100000 < x.f0)) eg A c l w hr (fun W x hb => (bigLit W x).mono fun e w' q => ⟨q.1, hb.trans (q.2.mono hb.size)⟩)
  rw [← any_idx (fun x : S57 => decide (100000 < x.f0)) l 0]
  generalize idxOf (fun x : S57 => decide (100000 < x.f0)) l 0 = i at h ⊢
  clear hr
  go_enter Tryz.func90, Tryz.ntmps90
  go_wp2_with (go_at_call 139; refine h.mono ?_; rintro e w1 ⟨rfl, b1⟩; have B1 := Aside0.mk b1; clear b1)
  go_ret
  exact ⟨rfl, B1.out⟩
def couldKeep (l : List S57) (x : S57) : Option Int := if idxOf (fun y : S57 => y.f0 == x.f0) l 0 < 0 then some x.f2 else if 0 ≤ idxOf (fun y : S57 => y.f0 == x.f0) l 0 ∧ idxOf (fun y : S57 => y.f0 == x.f0) l 0 < (l.length : Int) then impl_Brought.f ((rd_T57 l (idxOf (fun y : S57 => y.f0 == x.f0) l 0)).f1.size : Int) x.f2 (x.f1.size : Int) else none
set_option maxHeartbeats 2000000 in
theorem couldKeep_calls (gX : Nat) (A1_0 : Option Addr) (c1_0 : Nat) (l1_0 : List (S57)) (A1_1 : Option Addr) (c1_1 : Nat) (l1_1 : List (S59)) (A1_2 : Option Addr) (c1_2 : Nat) (l1_2 : List (S59)) (A1_3 : Option Addr) (c1_3 : Nat) (l1_3 : List ByteArray) (a1_4 : Int) (a1_5 : Int) (w : World) (x : S57) (r : Int) (hx : w.heap[gX]? = some (.cells #[.slice A1_0 l1_0.length c1_0, .slice A1_1 l1_1.length c1_1, .slice A1_2 l1_2.length c1_2, .slice A1_3 l1_3.length c1_3, .int .i64 a1_4, .int .i64 a1_5] 32 (0, 0))) (hr1_0 : Kd.C k57 w A1_0 l1_0.length l1_0) (hc1_0 : l1_0.length ≤ c1_0) (hr1_1 : Kd.C k59 w A1_1 l1_1.length l1_1) (hc1_1 : l1_1.length ≤ c1_1) (hr1_2 : Kd.C k59 w A1_2 l1_2.length l1_2) (hc1_2 : l1_2.length ≤ c1_2) (hr1_3 : Kd.C Kd.string w A1_3 l1_3.length l1_3) (hc1_3 : l1_3.length ≤ c1_3) (h : couldKeep l1_0 x = some r) :
    Calls Tryz.prog 92 (#[.agg #[.int .i64 x.f0, .string x.f1, .int .i64 x.f2]] ++ #[.pointer (some ⟨gX, 0, none⟩)]) w fun e w' => e = .returned (.int .i64 r) ∧ Below w.heap.size w w' := by
  show Calls Tryz.prog 92 #[.agg #[.int .i64 x.f0, .string x.f1, .int .i64 x.f2], .pointer (some ⟨gX, 0, none⟩)] w _
  have HX := Aside0.mk hx
  have HC := Aside0.mk hr1_0
  have CN := Aside0.mk (fun (w1 : World) (hb : Below w.heap.size w w1) => impl_Disk_nodeOf.calls A1_0 c1_0 l1_0 A1_1 c1_1 l1_1 A1_2 c1_2 l1_2 A1_3 c1_3 l1_3 a1_4 a1_5 x.f0 _ w1 (Kd.C_below hr1_0 hb) hc1_0 (Kd.C_below hr1_1 hb) hc1_1 (Kd.C_below hr1_2 hb) hc1_2 (Kd.C_below hr1_3 hb) hc1_3 rfl)
  unfold couldKeep at h
  clear hx hr1_0 hc1_0 hr1_1 hc1_1 hr1_2 hc1_2 hr1_3 hc1_3
  generalize idxOf (fun y : S57 => y.f0 == x.f0) l1_0 0 = i at h CN
  by_cases hi : i < 0
  · rw [if_pos hi] at h
    obtain rfl := Option.some.inj h
    go_enter Tryz.func92, Tryz.ntmps92
    go_wp2_with (first | ((with_reducible refine gate_dst (N := 2) rfl ?_); refine box_event ?hg (N := 2) ?hd (cs := #[.int .i64 x.f0, .string x.f1, .int .i64 x.f2]) (t := 57) ?hr ?_; (case hd => rfl); (case hg => rfl); (case hr => first | (go_simp; done) | (go_simp; rfl)); intro gN hg w1 hbox hb; have BN := Aside0.mk hbox; have BL := Aside0.mk hb; have BX := Aside0.mk ((hb.block gX (blk_lt HX.out)).trans HX.out); clear hb hg hbox; have n0 : w1.cell? ⟨gN, 0, none⟩ = some (.int .i64 x.f0) := (blk_cell BN.out 0).trans rfl; have n1 : w1.cell? ⟨gN, 1, none⟩ = some (.string x.f1) := (blk_cell BN.out 1).trans rfl; have n2 : w1.cell? ⟨gN, 2, none⟩ = some (.int .i64 x.f2) := (blk_cell BN.out 2).trans rfl; obtain ⟨x0, x1, x2, x3, x4, x5⟩ := blk6 BX.out) | (go_at_call 93; (with_reducible refine (CN.out _ BL.out).mono ?_); rintro e w1 ⟨rfl, hb⟩; replace BL := Aside0.mk (BL.out.trans (hb.mono BL.out.size)); replace BN := Aside0.mk ((hb.block gN (blk_lt BN.out)).trans BN.out); replace BX := Aside0.mk ((hb.block gX (blk_lt BX.out)).trans BX.out); clear hb; clear n0 n1 n2 x0 x1 x2 x3 x4 x5; have n0 : w1.cell? ⟨gN, 0, none⟩ = some (.int .i64 x.f0) := (blk_cell BN.out 0).trans rfl; have n1 : w1.cell? ⟨gN, 1, none⟩ = some (.string x.f1) := (blk_cell BN.out 1).trans rfl; have n2 : w1.cell? ⟨gN, 2, none⟩ = some (.int .i64 x.f2) := (blk_cell BN.out 2).trans rfl; obtain ⟨x0, x1, x2, x3, x4, x5⟩ := blk6 BX.out))
    go_ret
    exact ⟨rfl, BL.out⟩
  · rw [if_neg hi] at h
    by_cases h1 : 0 ≤ i ∧ i < (l1_0.length : Int)
    case neg => rw [if_neg h1] at h; cases h
    rw [if_pos h1] at h
    obtain ⟨h1, h2⟩ := h1
    have CB := Aside0.mk (fun (w1 : World) => impl_Brought.calls _ _ _ r w1 h)
    clear h
    go_enter Tryz.func92, Tryz.ntmps92
    go_wp2_with (first | ((with_reducible refine gate_dst (N := 2) rfl ?_); refine box_event ?hg (N := 2) ?hd (cs := #[.int .i64 x.f0, .string x.f1, .int .i64 x.f2]) (t := 57) ?hr ?_; (case hd => rfl); (case hg => rfl); (case hr => first | (go_simp; done) | (go_simp; rfl)); intro gN hg w1 hbox hb; have BN := Aside0.mk hbox; have BL := Aside0.mk hb; have BX := Aside0.mk ((hb.block gX (blk_lt HX.out)).trans HX.out); clear hb hg hbox; have n0 : w1.cell? ⟨gN, 0, none⟩ = some (.int .i64 x.f0) := (blk_cell BN.out 0).trans rfl; have n1 : w1.cell? ⟨gN, 1, none⟩ = some (.string x.f1) := (blk_cell BN.out 1).trans rfl; have n2 : w1.cell? ⟨gN, 2, none⟩ = some (.int .i64 x.f2) := (blk_cell BN.out 2).trans rfl; obtain ⟨x0, x1, x2, x3, x4, x5⟩ := blk6 BX.out) | (go_at_call 93; (with_reducible refine (CN.out _ BL.out).mono ?_); rintro e w1 ⟨rfl, hb⟩; replace BL := Aside0.mk (BL.out.trans (hb.mono BL.out.size)); replace BN := Aside0.mk ((hb.block gN (blk_lt BN.out)).trans BN.out); replace BX := Aside0.mk ((hb.block gX (blk_lt BX.out)).trans BX.out); clear hb; clear n0 n1 n2 x0 x1 x2 x3 x4 x5; have n0 : w1.cell? ⟨gN, 0, none⟩ = some (.int .i64 x.f0) := (blk_cell BN.out 0).trans rfl; have n1 : w1.cell? ⟨gN, 1, none⟩ = some (.string x.f1) := (blk_cell BN.out 1).trans rfl; have n2 : w1.cell? ⟨gN, 2, none⟩ = some (.int .i64 x.f2) := (blk_cell BN.out 2).trans rfl; obtain ⟨x0, x1, x2, x3, x4, x5⟩ := blk6 BX.out))
    obtain ⟨ad, rfl, hx0, hx1, hx2⟩ := at_T57 (Kd.C_below HC.out BL.out) i h1 h2
    clear hx0 hx2
    have d1 : decide (0 ≤ i) = true := decide_eq_true h1
    have d2 : decide (i < (l1_0.length : Int)) = true := decide_eq_true h2
    generalize rd_T57 l1_0 i = y at hx1 CB
    have sq0_ : ∀ p_ : LaidBy w1, p_.W.cell? ⟨gX, 0, none⟩ = some (.slice (some ad) l1_0.length c1_0) := fun p_ => p_.cell (x0)
    have sq1_ : ∀ p_ : LaidBy w1, p_.W.cell? ⟨(ad.add (i.toNat * 3)).block, (ad.add (i.toNat * 3)).off + 1, none⟩ = some (.string y.f1) := fun p_ => p_.cell (hx1)
    have sq2_ : ∀ p_ : LaidBy w1, p_.W.cell? ⟨gN, 1, none⟩ = some (.string x.f1) := fun p_ => p_.cell (n1)
    have sq3_ : ∀ p_ : LaidBy w1, p_.W.cell? ⟨gN, 2, none⟩ = some (.int .i64 x.f2) := fun p_ => p_.cell (n2)
    refine wp_region_laid (by kernel_rfl) (by kernel_rfl) ?_
    repeat (go_big_quiet_step (first | (go_at_call 94; with_reducible exact laid_of _ (CB.out _))))
    refine wpQuiet_nil ?_
    rintro w9 ⟨p_, hp_⟩
    have hq_ : Below w1.heap.size w1 w9 := hp_ ▸ p_.ok
    clear hp_ p_ sq0_ sq1_ sq2_ sq3_
    have BL := Aside0.mk (BL.out.trans (hq_.mono BL.out.size))
    go_wp2
    go_ret
    exact ⟨rfl, BL.out⟩
def couldOne (k : Nat) (l0_0 : List S57) (l0_1 : List S59) (l0_2 : List S59) (l0_3 : List ByteArray) (a0_4 : Int) (a0_5 : Int) (l1_0 : List S57) (l1_1 : List S59) (l1_2 : List S59) (l1_3 : List ByteArray) (a1_4 : Int) (a1_5 : Int) (i : Int) : Option Bool := (impl_StepsDone.f l0_2 l0_3 i).bind fun q => if q.1.length * 24 ≤ 140737488355328 then (cutNodes (couldKeep l1_0) (fun i => q.1.any fun e => e.f1 == i) l0_0).bind fun ns => impl_SameDisk.f k ns q.1 q.1 [] a0_4 a0_5 l1_0 l1_1 l1_2 l1_3 a1_4 a1_5 else none
theorem couldOne_mono : ∀ l0_0 l0_1 l0_2 l0_3 a0_4 a0_5 l1_0 l1_1 l1_2 l1_3 a1_4 a1_5 i k, LeO (couldOne k l0_0 l0_1 l0_2 l0_3 a0_4 a0_5 l1_0 l1_1 l1_2 l1_3 a1_4 a1_5 i) (couldOne (k + 1) l0_0 l0_1 l0_2 l0_3 a0_4 a0_5 l1_0 l1_1 l1_2 l1_3 a1_4 a1_5 i) := by
  intro l0_0 l0_1 l0_2 l0_3 a0_4 a0_5 l1_0 l1_1 l1_2 l1_3 a1_4 a1_5 i k
  exact LeO.bind (LeO.refl _) fun _ => LeO.ite (LeO.bind (LeO.refl _) fun _ => impl_SameDisk.mono _ _ _ _ _ _ _ _ _ _ _ _  k) (LeO.refl _)
def impl_CouldFall.f (k : Nat) (l0_0 : List S57) (l0_1 : List S59) (l0_2 : List S59) (l0_3 : List ByteArray) (a0_4 : Int) (a0_5 : Int) (l1_0 : List S57) (l1_1 : List S59) (l1_2 : List S59) (l1_3 : List ByteArray) (a1_4 : Int) (a1_5 : Int) : Option Bool := (impl_DiskOk.f k l0_0 l0_1 l0_2 l0_3 a0_4 a0_5).bind fun b => if b = true then (impl_DiskOk.f k l1_0 l1_1 l1_2 l1_3 a1_4 a1_5).bind fun b2 => if b2 = true then (if (l0_0.any fun x => decide (100000 < x.f0)) = true then some false else if l0_0.length * 32 ≤ 140737488355328 ∧ l0_3.length ≤ 140737488355328 then couldL (couldOne k l0_0 l0_1 l0_2 l0_3 a0_4 a0_5 l1_0 l1_1 l1_2 l1_3 a1_4 a1_5) (l0_3.length + 1) 0 else none) else some false else some false
theorem impl_CouldFall.mono : ∀ l0_0 l0_1 l0_2 l0_3 a0_4 a0_5 l1_0 l1_1 l1_2 l1_3 a1_4 a1_5 k, LeO (impl_CouldFall.f k l0_0 l0_1 l0_2 l0_3 a0_4 a0_5 l1_0 l1_1 l1_2 l1_3 a1_4 a1_5) (impl_CouldFall.f (k + 1) l0_0 l0_1 l0_2 l0_3 a0_4 a0_5 l1_0 l1_1 l1_2 l1_3 a1_4 a1_5) := by
  intro l0_0 l0_1 l0_2 l0_3 a0_4 a0_5 l1_0 l1_1 l1_2 l1_3 a1_4 a1_5 k
  exact LeO.bind (impl_DiskOk.mono _ _ _ _ _ _ k) fun _ => LeO.ite (LeO.bind (impl_DiskOk.mono _ _ _ _ _ _ k) fun _ => LeO.ite (LeO.ite (LeO.refl _) (LeO.ite (couldL_mono _ _ (fun i => couldOne_mono _ _ _ _ _ _ _ _ _ _ _ _ i k) _ _) (LeO.refl _))) (LeO.refl _)) (LeO.refl _)
set_option maxHeartbeats 4000000 in
set_option maxRecDepth 100000 in
theorem impl_CouldFall.calls (k : Nat) (A0_0 : Option Addr) (c0_0 : Nat) (l0_0 : List (S57)) (A0_1 : Option Addr) (c0_1 : Nat) (l0_1 : List (S59)) (A0_2 : Option Addr) (c0_2 : Nat) (l0_2 : List (S59)) (A0_3 : Option Addr) (c0_3 : Nat) (l0_3 : List ByteArray) (a0_4 : Int) (a0_5 : Int) (A1_0 : Option Addr) (c1_0 : Nat) (l1_0 : List (S57)) (A1_1 : Option Addr) (c1_1 : Nat) (l1_1 : List (S59)) (A1_2 : Option Addr) (c1_2 : Nat) (l1_2 : List (S59)) (A1_3 : Option Addr) (c1_3 : Nat) (l1_3 : List ByteArray) (a1_4 : Int) (a1_5 : Int) (r : Bool) (w : World) (hr0_0 : Kd.C k57 w A0_0 l0_0.length l0_0) (hc0_0 : l0_0.length ≤ c0_0) (hr0_1 : Kd.C k59 w A0_1 l0_1.length l0_1) (hc0_1 : l0_1.length ≤ c0_1) (hr0_2 : Kd.C k59 w A0_2 l0_2.length l0_2) (hc0_2 : l0_2.length ≤ c0_2) (hr0_3 : Kd.C Kd.string w A0_3 l0_3.length l0_3) (hc0_3 : l0_3.length ≤ c0_3) (hr1_0 : Kd.C k57 w A1_0 l1_0.length l1_0) (hc1_0 : l1_0.length ≤ c1_0) (hr1_1 : Kd.C k59 w A1_1 l1_1.length l1_1) (hc1_1 : l1_1.length ≤ c1_1) (hr1_2 : Kd.C k59 w A1_2 l1_2.length l1_2) (hc1_2 : l1_2.length ≤ c1_2) (hr1_3 : Kd.C Kd.string w A1_3 l1_3.length l1_3) (hc1_3 : l1_3.length ≤ c1_3) (hTE : TabsE w) (hTP : TabsP w) (h : impl_CouldFall.f k l0_0 l0_1 l0_2 l0_3 a0_4 a0_5 l1_0 l1_1 l1_2 l1_3 a1_4 a1_5 = some r) :
    Calls Tryz.prog 31 #[.agg #[.slice A0_0 l0_0.length c0_0, .slice A0_1 l0_1.length c0_1, .slice A0_2 l0_2.length c0_2, .slice A0_3 l0_3.length c0_3, .int .i64 a0_4, .int .i64 a0_5], .agg #[.slice A1_0 l1_0.length c1_0, .slice A1_1 l1_1.length c1_1, .slice A1_2 l1_2.length c1_2, .slice A1_3 l1_3.length c1_3, .int .i64 a1_4, .int .i64 a1_5]] w fun e w' => e = .returned (.bool r) ∧ Below w.heap.size w w' := by
  unfold impl_CouldFall.f at h
  replace h := Option.bind_eq_some_iff.mp h
  obtain ⟨b, hb0, h⟩ := h
  have C0 := Aside0.mk (fun (w1 : World) (hb : Below w.heap.size w w1) => impl_DiskOk.calls k A0_0 c0_0 l0_0 A0_1 c0_1 l0_1 A0_2 c0_2 l0_2 A0_3 c0_3 l0_3 a0_4 a0_5 b w1 (Kd.C_below hr0_0 hb) hc0_0 (Kd.C_below hr0_1 hb) hc0_1 (Kd.C_below hr0_2 hb) hc0_2 (Kd.C_below hr0_3 hb) hc0_3 (hTE.below hb) (hTP.below hb) hb0)
  have K1 := Aside0.mk True.intro
  have K2 := Aside0.mk True.intro
  cases b with
  | false =>
    rw [if_neg (by decide)] at h
    obtain rfl := Option.some.inj h
    clear hb0 hr0_0 hc0_0 hr0_1 hc0_1 hr0_2 hc0_2 hr0_3 hc0_3 hr1_0 hc1_0 hr1_1 hc1_1 hr1_2 hc1_2 hr1_3 hc1_3 hTE hTP
    go_enter Tryz.func31, Tryz.ntmps31
    go_wp2_with (first | ((with_reducible refine gate_dst (N := 2) rfl ?_); refine box_event ?hg (N := 2) ?hd (cs := #[.slice A0_0 l0_0.length c0_0, .slice A0_1 l0_1.length c0_1, .slice A0_2 l0_2.length c0_2, .slice A0_3 l0_3.length c0_3, .int .i64 a0_4, .int .i64 a0_5]) (t := 32) ?hr ?_; (case hd => rfl); (case hg => rfl); (case hr => first | (go_simp; done) | (go_simp; rfl)); intro gD hg w1 hbox hb; have BL := Aside0.mk hb; have BD := Aside0.mk hbox; clear hb; (try clear iD0 iD1 iD2 iD3 iD4 iD5); obtain ⟨iD0, iD1, iD2, iD3, iD4, iD5⟩ := blk6 BD.out; clear hg hbox) | ((with_reducible refine gate_dst (N := 3) rfl ?_); refine box_event ?hg (N := 3) ?hd (cs := #[.slice A1_0 l1_0.length c1_0, .slice A1_1 l1_1.length c1_1, .slice A1_2 l1_2.length c1_2, .slice A1_3 l1_3.length c1_3, .int .i64 a1_4, .int .i64 a1_5]) (t := 32) ?hr ?_; (case hd => rfl); (case hg => rfl); (case hr => first | (go_simp; done) | (go_simp; rfl)); intro gX hg w1 hbox hb; replace BL := Aside0.mk (BL.out.trans (hb.mono BL.out.size)); (try replace BD := Aside0.mk ((hb.block gD (blk_lt BD.out)).trans BD.out)); (try replace BX := Aside0.mk ((hb.block gX (blk_lt BX.out)).trans BX.out)); have BX := Aside0.mk hbox; clear hb; (try clear iD0 iD1 iD2 iD3 iD4 iD5); obtain ⟨iD0, iD1, iD2, iD3, iD4, iD5⟩ := blk6 BD.out; (try clear iX0 iX1 iX2 iX3 iX4 iX5); obtain ⟨iX0, iX1, iX2, iX3, iX4, iX5⟩ := blk6 BX.out; clear hg hbox) | (go_at_call 18; clear K1; (with_reducible refine (C0.out _ BL.out).mono ?_); rintro e w1 ⟨rfl, hb⟩; replace BL := Aside0.mk (BL.out.trans (hb.mono BL.out.size)); (try replace BD := Aside0.mk ((hb.block gD (blk_lt BD.out)).trans BD.out)); (try replace BX := Aside0.mk ((hb.block gX (blk_lt BX.out)).trans BX.out)); clear hb; (try clear iD0 iD1 iD2 iD3 iD4 iD5); obtain ⟨iD0, iD1, iD2, iD3, iD4, iD5⟩ := blk6 BD.out; (try clear iX0 iX1 iX2 iX3 iX4 iX5); obtain ⟨iX0, iX1, iX2, iX3, iX4, iX5⟩ := blk6 BX.out))
    go_ret
    exact ⟨rfl, BL.out⟩
  | true =>
    rw [if_pos rfl] at h
    replace h := Option.bind_eq_some_iff.mp h
    obtain ⟨b2, hb2, h⟩ := h
    have C1 := Aside0.mk (fun (w1 : World) (hb : Below w.heap.size w w1) => impl_DiskOk.calls k A1_0 c1_0 l1_0 A1_1 c1_1 l1_1 A1_2 c1_2 l1_2 A1_3 c1_3 l1_3 a1_4 a1_5 b2 w1 (Kd.C_below hr1_0 hb) hc1_0 (Kd.C_below hr1_1 hb) hc1_1 (Kd.C_below hr1_2 hb) hc1_2 (Kd.C_below hr1_3 hb) hc1_3 (hTE.below hb) (hTP.below hb) hb2)
    cases b2 with
    | false =>
      rw [if_neg (by decide)] at h
      obtain rfl := Option.some.inj h
      clear hb0 hb2 hr0_0 hc0_0 hr0_1 hc0_1 hr0_2 hc0_2 hr0_3 hc0_3 hr1_0 hc1_0 hr1_1 hc1_1 hr1_2 hc1_2 hr1_3 hc1_3 hTE hTP
      go_enter Tryz.func31, Tryz.ntmps31
      go_wp2_with (first | ((with_reducible refine gate_dst (N := 2) rfl ?_); refine box_event ?hg (N := 2) ?hd (cs := #[.slice A0_0 l0_0.length c0_0, .slice A0_1 l0_1.length c0_1, .slice A0_2 l0_2.length c0_2, .slice A0_3 l0_3.length c0_3, .int .i64 a0_4, .int .i64 a0_5]) (t := 32) ?hr ?_; (case hd => rfl); (case hg => rfl); (case hr => first | (go_simp; done) | (go_simp; rfl)); intro gD hg w1 hbox hb; have BL := Aside0.mk hb; have BD := Aside0.mk hbox; clear hb; (try clear iD0 iD1 iD2 iD3 iD4 iD5); obtain ⟨iD0, iD1, iD2, iD3, iD4, iD5⟩ := blk6 BD.out; clear hg hbox) | ((with_reducible refine gate_dst (N := 3) rfl ?_); refine box_event ?hg (N := 3) ?hd (cs := #[.slice A1_0 l1_0.length c1_0, .slice A1_1 l1_1.length c1_1, .slice A1_2 l1_2.length c1_2, .slice A1_3 l1_3.length c1_3, .int .i64 a1_4, .int .i64 a1_5]) (t := 32) ?hr ?_; (case hd => rfl); (case hg => rfl); (case hr => first | (go_simp; done) | (go_simp; rfl)); intro gX hg w1 hbox hb; replace BL := Aside0.mk (BL.out.trans (hb.mono BL.out.size)); (try replace BD := Aside0.mk ((hb.block gD (blk_lt BD.out)).trans BD.out)); (try replace BX := Aside0.mk ((hb.block gX (blk_lt BX.out)).trans BX.out)); have BX := Aside0.mk hbox; clear hb; (try clear iD0 iD1 iD2 iD3 iD4 iD5); obtain ⟨iD0, iD1, iD2, iD3, iD4, iD5⟩ := blk6 BD.out; (try clear iX0 iX1 iX2 iX3 iX4 iX5); obtain ⟨iX0, iX1, iX2, iX3, iX4, iX5⟩ := blk6 BX.out; clear hg hbox) | (go_at_call 18; clear K1; (with_reducible refine (C0.out _ BL.out).mono ?_); rintro e w1 ⟨rfl, hb⟩; replace BL := Aside0.mk (BL.out.trans (hb.mono BL.out.size)); (try replace BD := Aside0.mk ((hb.block gD (blk_lt BD.out)).trans BD.out)); (try replace BX := Aside0.mk ((hb.block gX (blk_lt BX.out)).trans BX.out)); clear hb; (try clear iD0 iD1 iD2 iD3 iD4 iD5); obtain ⟨iD0, iD1, iD2, iD3, iD4, iD5⟩ := blk6 BD.out; (try clear iX0 iX1 iX2 iX3 iX4 iX5); obtain ⟨iX0, iX1, iX2, iX3, iX4, iX5⟩ := blk6 BX.out) | (go_at_call 18; clear K2; (with_reducible refine (C1.out _ BL.out).mono ?_); rintro e w1 ⟨rfl, hb⟩; replace BL := Aside0.mk (BL.out.trans (hb.mono BL.out.size)); (try replace BD := Aside0.mk ((hb.block gD (blk_lt BD.out)).trans BD.out)); (try replace BX := Aside0.mk ((hb.block gX (blk_lt BX.out)).trans BX.out)); clear hb; (try clear iD0 iD1 iD2 iD3 iD4 iD5); obtain ⟨iD0, iD1, iD2, iD3, iD4, iD5⟩ := blk6 BD.out; (try clear iX0 iX1 iX2 iX3 iX4 iX5); obtain ⟨iX0, iX1, iX2, iX3, iX4, iX5⟩ := blk6 BX.out))
      go_ret
      exact ⟨rfl, BL.out⟩
    | true =>
      rw [if_pos rfl] at h
      have CG := Aside0.mk (fun (w1 : World) (hb : Below w.heap.size w w1) => bigAny A0_0 c0_0 l0_0 w1 (Kd.C_below hr0_0 hb))
      generalize (l0_0.any fun x => decide (100000 < x.f0)) = big at h CG
      cases big with
      | true =>
        rw [if_pos rfl] at h
        obtain rfl := Option.some.inj h
        clear hb0 hb2 hr0_0 hc0_0 hr0_1 hc0_1 hr0_2 hc0_2 hr0_3 hc0_3 hr1_0 hc1_0 hr1_1 hc1_1 hr1_2 hc1_2 hr1_3 hc1_3 hTE hTP
        go_enter Tryz.func31, Tryz.ntmps31
        go_wp2_with (first | ((with_reducible refine gate_dst (N := 2) rfl ?_); refine box_event ?hg (N := 2) ?hd (cs := #[.slice A0_0 l0_0.length c0_0, .slice A0_1 l0_1.length c0_1, .slice A0_2 l0_2.length c0_2, .slice A0_3 l0_3.length c0_3, .int .i64 a0_4, .int .i64 a0_5]) (t := 32) ?hr ?_; (case hd => rfl); (case hg => rfl); (case hr => first | (go_simp; done) | (go_simp; rfl)); intro gD hg w1 hbox hb; have BL := Aside0.mk hb; have BD := Aside0.mk hbox; clear hb; (try clear iD0 iD1 iD2 iD3 iD4 iD5); obtain ⟨iD0, iD1, iD2, iD3, iD4, iD5⟩ := blk6 BD.out; clear hg hbox) | ((with_reducible refine gate_dst (N := 3) rfl ?_); refine box_event ?hg (N := 3) ?hd (cs := #[.slice A1_0 l1_0.length c1_0, .slice A1_1 l1_1.length c1_1, .slice A1_2 l1_2.length c1_2, .slice A1_3 l1_3.length c1_3, .int .i64 a1_4, .int .i64 a1_5]) (t := 32) ?hr ?_; (case hd => rfl); (case hg => rfl); (case hr => first | (go_simp; done) | (go_simp; rfl)); intro gX hg w1 hbox hb; replace BL := Aside0.mk (BL.out.trans (hb.mono BL.out.size)); (try replace BD := Aside0.mk ((hb.block gD (blk_lt BD.out)).trans BD.out)); (try replace BX := Aside0.mk ((hb.block gX (blk_lt BX.out)).trans BX.out)); have BX := Aside0.mk hbox; clear hb; (try clear iD0 iD1 iD2 iD3 iD4 iD5); obtain ⟨iD0, iD1, iD2, iD3, iD4, iD5⟩ := blk6 BD.out; (try clear iX0 iX1 iX2 iX3 iX4 iX5); obtain ⟨iX0, iX1, iX2, iX3, iX4, iX5⟩ := blk6 BX.out; clear hg hbox) | (go_at_call 18; clear K1; (with_reducible refine (C0.out _ BL.out).mono ?_); rintro e w1 ⟨rfl, hb⟩; replace BL := Aside0.mk (BL.out.trans (hb.mono BL.out.size)); (try replace BD := Aside0.mk ((hb.block gD (blk_lt BD.out)).trans BD.out)); (try replace BX := Aside0.mk ((hb.block gX (blk_lt BX.out)).trans BX.out)); clear hb; (try clear iD0 iD1 iD2 iD3 iD4 iD5); obtain ⟨iD0, iD1, iD2, iD3, iD4, iD5⟩ := blk6 BD.out; (try clear iX0 iX1 iX2 iX3 iX4 iX5); obtain ⟨iX0, iX1, iX2, iX3, iX4, iX5⟩ := blk6 BX.out) | (go_at_call 18; clear K2; (with_reducible refine (C1.out _ BL.out).mono ?_); rintro e w1 ⟨rfl, hb⟩; replace BL := Aside0.mk (BL.out.trans (hb.mono BL.out.size)); (try replace BD := Aside0.mk ((hb.block gD (blk_lt BD.out)).trans BD.out)); (try replace BX := Aside0.mk ((hb.block gX (blk_lt BX.out)).trans BX.out)); clear hb; (try clear iD0 iD1 iD2 iD3 iD4 iD5); obtain ⟨iD0, iD1, iD2, iD3, iD4, iD5⟩ := blk6 BD.out; (try clear iX0 iX1 iX2 iX3 iX4 iX5); obtain ⟨iX0, iX1, iX2, iX3, iX4, iX5⟩ := blk6 BX.out) | (go_at_call 90; (with_reducible refine (CG.out _ BL.out).mono ?_); rintro e w1 ⟨rfl, hb⟩; replace BL := Aside0.mk (BL.out.trans (hb.mono BL.out.size)); (try replace BD := Aside0.mk ((hb.block gD (blk_lt BD.out)).trans BD.out)); (try replace BX := Aside0.mk ((hb.block gX (blk_lt BX.out)).trans BX.out)); clear hb; (try clear iD0 iD1 iD2 iD3 iD4 iD5); obtain ⟨iD0, iD1, iD2, iD3, iD4, iD5⟩ := blk6 BD.out; (try clear iX0 iX1 iX2 iX3 iX4 iX5); obtain ⟨iX0, iX1, iX2, iX3, iX4, iX5⟩ := blk6 BX.out))
        go_ret
        exact ⟨rfl, BL.out⟩
      | false =>
        rw [if_neg (by decide)] at h
        by_cases hal : l0_0.length * 32 ≤ 140737488355328 ∧ l0_3.length ≤ 140737488355328
        case neg => rw [if_neg hal] at h; cases h
        rw [if_pos hal] at h
        obtain ⟨hal, hmax⟩ := hal
        have hw1 : wrap64 ((l0_3.length : Int) + 1) = (l0_3.length : Int) + 1 := by unfold wrap64; omega
        have hw2 : IntKind.i64.wrap ((l0_3.length : Int) + 1) = (l0_3.length : Int) + 1 := (i64_w _).trans hw1
        have eg : ∀ args w, (callFunc 92 args).run Tryz.prog w = .ok (.enter 92 args) w := enters_of Tryz.func92 (by kernel_rfl) rfl
        have CF := Aside0.mk (fun (gX : Nat) (n : Int) (q : List S59) (qb : Bool) (ns : List S57) (w1 : World) (hb : Below w.heap.size w w1) (hk : w1.heap[gX]? = some (.cells #[.slice A1_0 l1_0.length c1_0, .slice A1_1 l1_1.length c1_1, .slice A1_2 l1_2.length c1_2, .slice A1_3 l1_3.length c1_3, .int .i64 a1_4, .int .i64 a1_5] 32 (0, 0))) (hq : impl_StepsDone.f l0_2 l0_3 n = some (q, qb)) (hql : q.length * 24 ≤ 140737488355328) (hns : cutNodes (couldKeep l1_0) (fun i => q.any fun e => e.f1 == i) l0_0 = some ns) => fallenD 92 #[.pointer (some ⟨gX, 0, none⟩)] (couldKeep l1_0) eg A0_0 c0_0 l0_0 A0_1 c0_1 l0_1 A0_2 c0_2 l0_2 A0_3 c0_3 l0_3 a0_4 a0_5 n q qb ns w1 (Kd.C_below hr0_0 hb) hc0_0 (Kd.C_below hr0_1 hb) hc0_1 (Kd.C_below hr0_2 hb) hc0_2 (Kd.C_below hr0_3 hb) hc0_3 (fun W x r hb2 hr => couldKeep_calls gX A1_0 c1_0 l1_0 A1_1 c1_1 l1_1 A1_2 c1_2 l1_2 A1_3 c1_3 l1_3 a1_4 a1_5 W x r ((hb2.block gX (blk_lt hk)).trans hk) (Kd.C_below hr1_0 (hb.trans (hb2.mono hb.size))) hc1_0 (Kd.C_below hr1_1 (hb.trans (hb2.mono hb.size))) hc1_1 (Kd.C_below hr1_2 (hb.trans (hb2.mono hb.size))) hc1_2 (Kd.C_below hr1_3 (hb.trans (hb2.mono hb.size))) hc1_3 hr) (fun w2 hb2 => impl_StepsDone.calls A0_2 c0_2 l0_2 A0_3 c0_3 l0_3 n q qb w2 (Kd.C_below hr0_2 (hb.trans (hb2.mono hb.size))) hc0_2 (Kd.C_below hr0_3 (hb.trans (hb2.mono hb.size))) hc0_3 (hTE.below (hb.trans (hb2.mono hb.size))) (hTP.below (hb.trans (hb2.mono hb.size))) hq) hql hal hns)
        have CS := Aside0.mk (fun (w1 : World) (t : Bool) (q : List S59) (ns : List S57) (v0 v1 v2 v3 : Value) (hb : Below w.heap.size w w1) (h : HasD w1 w.heap.size v0 v1 v2 v3 ns q q ([] : List ByteArray)) (hs : impl_SameDisk.f k ns q q [] a0_4 a0_5 l1_0 l1_1 l1_2 l1_3 a1_4 a1_5 = some t) => (by
            obtain ⟨B0, e0, B1, e1, B2, e2, B3, e3, rfl, rfl, rfl, rfl⟩ := has_slices h
            exact impl_SameDisk.calls k B0 e0 ns B1 e1 q B2 e2 q B3 e3 [] a0_4 a0_5 A1_0 c1_0 l1_0 A1_1 c1_1 l1_1 A1_2 c1_2 l1_2 A1_3 c1_3 l1_3 a1_4 a1_5 t w1 (Kd.R_reads' h.r0).2.2 (Kd.R_reads' h.r0).2.1 (Kd.R_reads' h.r1).2.2 (Kd.R_reads' h.r1).2.1 (Kd.R_reads' h.r2).2.2 (Kd.R_reads' h.r2).2.1 (Kd.R_reads' h.r3).2.2 (Kd.R_reads' h.r3).2.1 (Kd.C_below hr1_0 hb) hc1_0 (Kd.C_below hr1_1 hb) hc1_1 (Kd.C_below hr1_2 hb) hc1_2 (Kd.C_below hr1_3 hb) hc1_3 hs : Calls Tryz.prog 52 #[.agg #[v0, v1, v2, v3, .int .i64 a0_4, .int .i64 a0_5], .agg #[.slice A1_0 l1_0.length c1_0, .slice A1_1 l1_1.length c1_1, .slice A1_2 l1_2.length c1_2, .slice A1_3 l1_3.length c1_3, .int .i64 a1_4, .int .i64 a1_5]] w1 fun e w' => e = .returned (.bool t) ∧ Below w1.heap.size w1 w'))
        have HL := Aside0.mk h
        clear h hb0 hb2 hal eg hr0_0 hc0_0 hr0_1 hc0_1 hr0_2 hc0_2 hr0_3 hc0_3 hr1_0 hc1_0 hr1_1 hc1_1 hr1_2 hc1_2 hr1_3 hc1_3 hTE hTP
        go_enter Tryz.func31, Tryz.ntmps31
        go_wp2_with (first | ((with_reducible refine gate_dst (N := 2) rfl ?_); refine box_event ?hg (N := 2) ?hd (cs := #[.slice A0_0 l0_0.length c0_0, .slice A0_1 l0_1.length c0_1, .slice A0_2 l0_2.length c0_2, .slice A0_3 l0_3.length c0_3, .int .i64 a0_4, .int .i64 a0_5]) (t := 32) ?hr ?_; (case hd => rfl); (case hg => rfl); (case hr => first | (go_simp; done) | (go_simp; rfl)); intro gD hg w1 hbox hb; have BL := Aside0.mk hb; have BD := Aside0.mk hbox; clear hb; (try clear iD0 iD1 iD2 iD3 iD4 iD5); obtain ⟨iD0, iD1, iD2, iD3, iD4, iD5⟩ := blk6 BD.out; clear hg hbox) | ((with_reducible refine gate_dst (N := 3) rfl ?_); refine box_event ?hg (N := 3) ?hd (cs := #[.slice A1_0 l1_0.length c1_0, .slice A1_1 l1_1.length c1_1, .slice A1_2 l1_2.length c1_2, .slice A1_3 l1_3.length c1_3, .int .i64 a1_4, .int .i64 a1_5]) (t := 32) ?hr ?_; (case hd => rfl); (case hg => rfl); (case hr => first | (go_simp; done) | (go_simp; rfl)); intro gX hg w1 hbox hb; replace BL := Aside0.mk (BL.out.trans (hb.mono BL.out.size)); (try replace BD := Aside0.mk ((hb.block gD (blk_lt BD.out)).trans BD.out)); (try replace BX := Aside0.mk ((hb.block gX (blk_lt BX.out)).trans BX.out)); have BX := Aside0.mk hbox; clear hb; (try clear iD0 iD1 iD2 iD3 iD4 iD5); obtain ⟨iD0, iD1, iD2, iD3, iD4, iD5⟩ := blk6 BD.out; (try clear iX0 iX1 iX2 iX3 iX4 iX5); obtain ⟨iX0, iX1, iX2, iX3, iX4, iX5⟩ := blk6 BX.out; clear hg hbox) | (go_at_call 18; clear K1; (with_reducible refine (C0.out _ BL.out).mono ?_); rintro e w1 ⟨rfl, hb⟩; replace BL := Aside0.mk (BL.out.trans (hb.mono BL.out.size)); (try replace BD := Aside0.mk ((hb.block gD (blk_lt BD.out)).trans BD.out)); (try replace BX := Aside0.mk ((hb.block gX (blk_lt BX.out)).trans BX.out)); clear hb; (try clear iD0 iD1 iD2 iD3 iD4 iD5); obtain ⟨iD0, iD1, iD2, iD3, iD4, iD5⟩ := blk6 BD.out; (try clear iX0 iX1 iX2 iX3 iX4 iX5); obtain ⟨iX0, iX1, iX2, iX3, iX4, iX5⟩ := blk6 BX.out) | (go_at_call 18; clear K2; (with_reducible refine (C1.out _ BL.out).mono ?_); rintro e w1 ⟨rfl, hb⟩; replace BL := Aside0.mk (BL.out.trans (hb.mono BL.out.size)); (try replace BD := Aside0.mk ((hb.block gD (blk_lt BD.out)).trans BD.out)); (try replace BX := Aside0.mk ((hb.block gX (blk_lt BX.out)).trans BX.out)); clear hb; (try clear iD0 iD1 iD2 iD3 iD4 iD5); obtain ⟨iD0, iD1, iD2, iD3, iD4, iD5⟩ := blk6 BD.out; (try clear iX0 iX1 iX2 iX3 iX4 iX5); obtain ⟨iX0, iX1, iX2, iX3, iX4, iX5⟩ := blk6 BX.out) | (go_at_call 90; (with_reducible refine (CG.out _ BL.out).mono ?_); rintro e w1 ⟨rfl, hb⟩; replace BL := Aside0.mk (BL.out.trans (hb.mono BL.out.size)); (try replace BD := Aside0.mk ((hb.block gD (blk_lt BD.out)).trans BD.out)); (try replace BX := Aside0.mk ((hb.block gX (blk_lt BX.out)).trans BX.out)); clear hb; (try clear iD0 iD1 iD2 iD3 iD4 iD5); obtain ⟨iD0, iD1, iD2, iD3, iD4, iD5⟩ := blk6 BD.out; (try clear iX0 iX1 iX2 iX3 iX4 iX5); obtain ⟨iX0, iX1, iX2, iX3, iX4, iX5⟩ := blk6 BX.out))
        go_loopg [25] (l0_3.length + 1) (fun gg s25 wr => ∃ kk : Nat, kk ≤ l0_3.length + 1 ∧ l0_3.length + 1 - kk ≤ gg ∧ s25 = .int .i64 kk ∧ Aside0 (couldL (couldOne k l0_0 l0_1 l0_2 l0_3 a0_4 a0_5 l1_0 l1_1 l1_2 l1_3 a1_4 a1_5) (l0_3.length + 1 - kk) kk = some r) ∧ Aside0 (Below w.heap.size w wr) ∧ Aside0 (wr.heap[gD]? = some (.cells #[.slice A0_0 l0_0.length c0_0, .slice A0_1 l0_1.length c0_1, .slice A0_2 l0_2.length c0_2, .slice A0_3 l0_3.length c0_3, .int .i64 a0_4, .int .i64 a0_5] 32 (0, 0))) ∧ Aside0 (wr.heap[gX]? = some (.cells #[.slice A1_0 l1_0.length c1_0, .slice A1_1 l1_1.length c1_1, .slice A1_2 l1_2.length c1_2, .slice A1_3 l1_3.length c1_3, .int .i64 a1_4, .int .i64 a1_5] 32 (0, 0))))
        case atStart => exact ⟨0, by omega, by omega, rfl, ⟨by rw [Nat.sub_zero]; exact HL.out⟩, BL, BD, BX⟩
        case round =>
          obtain ⟨kk, hkk, hgg, rfl, PC, BL, BD, BX⟩ := hrel
          by_cases hlt : kk < l0_3.length + 1
          · have hltz : (kk : Int) < (l0_3.length : Int) + 1 := by omega
            have hk0 : (0 : Int) ≤ (kk : Int) := by omega
            have PC' := PC.out
            rw [show l0_3.length + 1 - kk = (l0_3.length - kk) + 1 by omega, couldL] at PC'
            replace PC' := Option.bind_eq_some_iff.mp PC'
            obtain ⟨t, hone, hrest⟩ := PC'
            unfold couldOne at hone
            replace hone := Option.bind_eq_some_iff.mp hone
            obtain ⟨⟨q, qb⟩, hq, hone⟩ := hone
            dsimp only at hone
            by_cases hql : q.length * 24 ≤ 140737488355328
            case neg => rw [if_neg hql] at hone; cases hone
            rw [if_pos hql] at hone
            replace hone := Option.bind_eq_some_iff.mp hone
            obtain ⟨ns, hns, hone⟩ := hone
            have HO := Aside0.mk hone
            have HQ := Aside0.mk hq
            have HQL := Aside0.mk hql
            have HNS := Aside0.mk hns
            have HR := Aside0.mk hrest
            clear hone hq hql hns hrest PC
            go_wp2_with fail
            have hb := below_drew (Below.refl wr.heap.size wr)
            replace BL := Aside0.mk (BL.out.trans (hb.mono BL.out.size)); (try replace BD := Aside0.mk ((hb.block gD (blk_lt BD.out)).trans BD.out)); (try replace BX := Aside0.mk ((hb.block gX (blk_lt BX.out)).trans BX.out))
            clear hb
            refine start_ (n := 6) (S := fun w' => w'.cell? ⟨gD, 0, none⟩ = some (.slice A0_0 l0_0.length c0_0) ∧ w'.cell? ⟨gD, 1, none⟩ = some (.slice A0_1 l0_1.length c0_1) ∧ w'.cell? ⟨gD, 2, none⟩ = some (.slice A0_2 l0_2.length c0_2) ∧ w'.cell? ⟨gD, 3, none⟩ = some (.slice A0_3 l0_3.length c0_3) ∧ w'.cell? ⟨gD, 4, none⟩ = some (.int .i64 a0_4) ∧ w'.cell? ⟨gD, 5, none⟩ = some (.int .i64 a0_5) ∧ w'.cell? ⟨gX, 0, none⟩ = some (.slice A1_0 l1_0.length c1_0) ∧ w'.cell? ⟨gX, 1, none⟩ = some (.slice A1_1 l1_1.length c1_1) ∧ w'.cell? ⟨gX, 2, none⟩ = some (.slice A1_2 l1_2.length c1_2) ∧ w'.cell? ⟨gX, 3, none⟩ = some (.slice A1_3 l1_3.length c1_3) ∧ w'.cell? ⟨gX, 4, none⟩ = some (.int .i64 a1_4) ∧ w'.cell? ⟨gX, 5, none⟩ = some (.int .i64 a1_5)) (ds := []) (marks 6 0) (by kernel_rfl) rfl rfl ⟨(blk_cell BD.out 0).trans rfl, (blk_cell BD.out 1).trans rfl, (blk_cell BD.out 2).trans rfl, (blk_cell BD.out 3).trans rfl, (blk_cell BD.out 4).trans rfl, (blk_cell BD.out 5).trans rfl, (blk_cell BX.out 0).trans rfl, (blk_cell BX.out 1).trans rfl, (blk_cell BX.out 2).trans rfl, (blk_cell BX.out 3).trans rfl, (blk_cell BX.out 4).trans rfl, (blk_cell BX.out 5).trans rfl⟩ (fun hHeld => ?_)
            generalize wr.drew = w2 at BL BD BX hHeld ⊢
            refine pure_ (i := 1) (N := some 29) (v := ?_) (a' := ?_) (marks 6 2) rfl rfl (by kernel_rfl) (fun _ _ _ h => h) (Or.inl ⟨by rfl, ?_⟩) ?_ ?_
            rotate_left
            · intro w'
              go_simp
              with_reducible rfl
            rotate_left
            · simp only [Act.put, List.setIfInBounds_toArray, List.set_cons_zero, List.set_cons_succ, i64_w, i32_w]
              rfl
            refine pure_ (i := 2) (N := some 30) (v := ?_) (a' := ?_) (marks 6 6) rfl rfl (by kernel_rfl) (fun _ _ _ h => h) (Or.inl ⟨by rfl, ?_⟩) ?_ ?_
            rotate_left
            · intro w'
              go_simp
              with_reducible rfl
            rotate_left
            · simp only [Act.put, List.setIfInBounds_toArray, List.set_cons_zero, List.set_cons_succ, i64_w, i32_w]
              rfl
            refine take_ (i := 0) (N := some 28) (v := ?_) (a' := ?_) (marks 6 7) rfl rfl (by kernel_rfl) (fun _ _ _ h => h) (Or.inl ⟨by rfl, ?_⟩) hHeld ?_ ?_
            rotate_left
            · rintro w' ⟨s0, s1, s2, s3, s4, s5, s6, s7, s8, s9, s10, s11⟩
              go_simp
              with_reducible rfl
            rotate_left
            · simp only [Act.put, List.setIfInBounds_toArray, List.set_cons_zero, List.set_cons_succ, i64_w, i32_w]
              rfl
            refine take_ (i := 4) (N := some 32) (v := ?_) (a' := ?_) (marks 6 23) rfl rfl (by kernel_rfl) (fun _ _ _ h => h) (Or.inl ⟨by rfl, ?_⟩) hHeld ?_ ?_
            rotate_left
            · rintro w' ⟨s0, s1, s2, s3, s4, s5, s6, s7, s8, s9, s10, s11⟩
              go_simp
              with_reducible rfl
            rotate_left
            · simp only [Act.put, List.setIfInBounds_toArray, List.set_cons_zero, List.set_cons_succ, i64_w, i32_w]
              rfl
            refine one_ (i := 3) (N := some 31) (marks 6 31) rfl rfl (by kernel_rfl) (by decide) (fun K hK => ?_)
            refine goes_ Tryz.func95 (by kernel_rfl) rfl #[.agg #[.slice A0_0 l0_0.length c0_0, .slice A0_1 l0_1.length c0_1, .slice A0_2 l0_2.length c0_2, .slice A0_3 l0_3.length c0_3, .int .i64 a0_4, .int .i64 a0_5], .int .i64 kk, .func (.func 92) #[] #[.pointer (some ⟨gX, 0, none⟩)]] (by rfl) rfl rfl (by (try simp only [List.map_toArray, List.map_cons, List.map_nil]); first | done | rfl | (go_simp; done)) ?_
            have hbs := BL.out.size
            refine (CF.out gX (kk : Int) q qb ns _ BL.out BX.out HQ.out HQL.out HNS.out).mono ?_
            rintro e w1 ⟨v0, v1, v2, v3, rfl, o0, o1, o2, o3, hb⟩
            have hD := HasD.of o0 o1 o2 o3
            replace BL := Aside0.mk (BL.out.trans (hb.mono BL.out.size)); (try replace BD := Aside0.mk ((hb.block gD (blk_lt BD.out)).trans BD.out)); (try replace BX := Aside0.mk ((hb.block gX (blk_lt BX.out)).trans BX.out))
            have Do := Aside0.mk (hD.lower hbs)
            clear hD hb hbs o0 o1 o2 o3
            refine ⟨_, rfl, ?_⟩
            refine hK.out _ _ ⟨(blk_cell BD.out 0).trans rfl, (blk_cell BD.out 1).trans rfl, (blk_cell BD.out 2).trans rfl, (blk_cell BD.out 3).trans rfl, (blk_cell BD.out 4).trans rfl, (blk_cell BD.out 5).trans rfl, (blk_cell BX.out 0).trans rfl, (blk_cell BX.out 1).trans rfl, (blk_cell BX.out 2).trans rfl, (blk_cell BX.out 3).trans rfl, (blk_cell BX.out 4).trans rfl, (blk_cell BX.out 5).trans rfl⟩ (fun hHeld => ?_)
            clear hK K
            refine norm_ (a' := ?_) ?_ ?_
            rotate_left
            · show Act.put _ (some 31) _ = _
              simp only [Act.put, List.setIfInBounds_toArray, List.set_cons_zero, List.set_cons_succ, i64_w, i32_w]
              rfl
            refine one_ (i := 5) (N := some 33) (marks 6 63) rfl rfl (by kernel_rfl) (by decide) (fun K hK => ?_)
            refine goes_ Tryz.func52 (by kernel_rfl) rfl #[.agg #[v0, v1, v2, v3, .int .i64 a0_4, .int .i64 a0_5], .agg #[.slice A1_0 l1_0.length c1_0, .slice A1_1 l1_1.length c1_1, .slice A1_2 l1_2.length c1_2, .slice A1_3 l1_3.length c1_3, .int .i64 a1_4, .int .i64 a1_5]] (by rfl) rfl rfl (by (try simp only [List.map_toArray, List.map_cons, List.map_nil]); first | done | rfl | (go_simp; done)) ?_
            refine (CS.out _ t q ns v0 v1 v2 v3 BL.out Do.out HO.out).mono ?_
            rintro e w1 ⟨rfl, hb⟩
            replace BL := Aside0.mk (BL.out.trans (hb.mono BL.out.size)); (try replace BD := Aside0.mk ((hb.block gD (blk_lt BD.out)).trans BD.out)); (try replace BX := Aside0.mk ((hb.block gX (blk_lt BX.out)).trans BX.out))
            clear hb Do
            refine ⟨_, rfl, ?_⟩
            refine hK.out _ _ ⟨(blk_cell BD.out 0).trans rfl, (blk_cell BD.out 1).trans rfl, (blk_cell BD.out 2).trans rfl, (blk_cell BD.out 3).trans rfl, (blk_cell BD.out 4).trans rfl, (blk_cell BD.out 5).trans rfl, (blk_cell BX.out 0).trans rfl, (blk_cell BX.out 1).trans rfl, (blk_cell BX.out 2).trans rfl, (blk_cell BX.out 3).trans rfl, (blk_cell BX.out 4).trans rfl, (blk_cell BX.out 5).trans rfl⟩ (fun hHeld => ?_)
            clear hK K hHeld
            refine norm_ (a' := ?_) ?_ ?_
            rotate_left
            · show Act.put _ (some 33) _ = _
              simp only [Act.put, List.setIfInBounds_toArray, List.set_cons_zero, List.set_cons_succ, i64_w, i32_w]
              rfl
            refine done_ (by kernel_rfl) ?_
            cases t with
            | true =>
              have hr1 := HR.out
              rw [if_pos rfl] at hr1
              obtain rfl := Option.some.inj hr1
              clear HR hr1
              go_wp2_with fail
              go_ret
              exact ⟨rfl, BL.out⟩
            | false =>
              have hr1 := HR.out
              rw [if_neg (by decide)] at hr1
              have PC : Aside0 (couldL (couldOne k l0_0 l0_1 l0_2 l0_3 a0_4 a0_5 l1_0 l1_1 l1_2 l1_3 a1_4 a1_5) (l0_3.length + 1 - (kk + 1)) (kk + 1) = some r) := ⟨by rw [show l0_3.length + 1 - (kk + 1) = l0_3.length - kk by omega]; exact hr1⟩
              clear HR hr1
              go_wp2_with fail
              go_roundg (l0_3.length + 1 - (kk + 1))
              case measure => omega
              case rel => exact ⟨kk + 1, by omega, by omega, by go_num, PC, BL, BD, BX⟩
          · have hltz : ¬ (kk : Int) < (l0_3.length : Int) + 1 := by omega
            have PC' := PC.out
            rw [show l0_3.length + 1 - kk = 0 by omega, couldL] at PC'
            obtain rfl := Option.some.inj PC'
            clear PC PC'
            go_wp2_with fail
            go_ret
            exact ⟨rfl, BL.out⟩

end Go.Proofs.YtbcidclclckgfaaGreatDoor.MFnExactCouldFall
