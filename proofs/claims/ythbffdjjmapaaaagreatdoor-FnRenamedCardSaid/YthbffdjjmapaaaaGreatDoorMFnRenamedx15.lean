/- Each theorem here says that a call of one Go function answers what the Lean function beside it answers; its conditions stand in it. Written by a program of this session. -/
import Derived.Test.YthbffdjjmapaaaaGreatDoorMFnRenamedx0
import Derived.Test.YthbffdjjmapaaaaGreatDoorMFnRenamedx8
import Derived.Test.YthbffdjjmapaaaaGreatDoorMFnRenamedx9
import Derived.Test.YthbffdjjmapaaaaGreatDoorMFnRenamedx11
import Derived.Test.YthbffdjjmapaaaaGreatDoorMFnRenamedx13
import Derived.Test.YthbffdjjmapaaaaGreatDoorMFnRenamedx14
namespace Go.Proofs.YthbffdjjmapaaaaGreatDoor.MFnRenamed
open Go.RowKit Go.Proofs.YthbffdjjmapaaaaGreatDoorW.PrintWords Go.Proofs.YthbffdjjmapaaaaGreatDoorW.PrintLast Go.Proofs.YthbffdjjmapaaaaGreatDoorW.PrintMore
attribute [local go_sem] max2_int min2_int max_two min_two max_three min_three max_four min_four   -- for this text's walks alone
set_option linter.unusedVariables false
set_option linter.unusedSimpArgs false

/-! ### spec_DrawRenameFile: function 21 -/
section
variable {w w1:World} {g base:Nat} {b:List Int} {i h:Int} {v0 v1 v2 v3:Value} {a:List S38} {p q:List S64} {d:List ByteArray}
theorem own_far (hI:IsS89 w w1 g b i h) (hD:HasD w1 base v0 v1 v2 v3 a p q d):∀ k,ownD v0 v1 v2 v3 k→k≠g:=fun k hk e=>by
  subst e
  rcases hk with hk | hk | hk | hk
  · exact IsS89.own_ne hI hD.r0 (by decide) hk
  · exact IsS89.own_ne hI hD.r1 (by decide) hk
  · exact IsS89.own_ne hI hD.r2 (by decide) hk
  · exact IsS89.own_ne hI hD.r3 (by decide) hk
end
theorem z6_ {w:World} {g:Nat} {cs:Array Value} {t:TypeId} (h:w.heap[g]? = some (.cells cs t (0,0))) :
    w.frozen? ⟨g,0,none⟩=false∧w.frozen? ⟨g,1,none⟩=false∧w.frozen? ⟨g,2,none⟩=false∧w.frozen? ⟨g,3,none⟩=false∧w.frozen? ⟨g,4,none⟩=false∧w.frozen? ⟨g,5,none⟩=false:=
  ⟨blk_frozen h 0,blk_frozen h 1,blk_frozen h 2,blk_frozen h 3,blk_frozen h 4,blk_frozen h 5⟩
def spec_DrawRenameFile.f (k:Nat) (l0:List Int):Option (List S38×List S64×List S64×List ByteArray×Int×Int×ByteArray×ByteArray):=(spec_l01New.f k l0).bind fun y=>(spec_l05Any.f k y.1 y.2.1 y.2.2).bind fun o=>(spec_l05Name.f y.1 o.2.2.2.2.2.2.1 o.2.2.2.2.2.2.2).bind fun p=>(spec_l05Name.f y.1 p.2.1 p.2.2).bind fun q=>some (o.1,o.2.1,o.2.2.1,o.2.2.2.1,o.2.2.2.2.1,o.2.2.2.2.2.1,p.1,q.1)
theorem spec_DrawRenameFile.mono:∀ l0 k,LeO (spec_DrawRenameFile.f k l0) (spec_DrawRenameFile.f (k+1) l0):=by
  intro l0 k
  unfold spec_DrawRenameFile.f
  repeat' first | (with_reducible exact LeO.refl _) | (with_reducible exact spec_l01New.mono _ _) | (with_reducible exact spec_l05Any.mono _ _ _ _) | (with_reducible exact spec_l01Text.mono _ _ _ _ _) | (with_reducible exact spec_l01Long.mono _ _ _) | (with_reducible refine LeO.ite ?_ ?_) | (with_reducible refine LeO.bind ?_ (fun _=>?_))
set_option maxHeartbeats 40000000 in
set_option maxRecDepth 100000 in
theorem spec_DrawRenameFile.calls (k:Nat) (A0:Option Addr) (c0:Nat) (l0:List Int) (r1:List S38) (r2:List S64) (r3:List S64) (r4:List ByteArray) (r5:Int) (r6:Int) (r7:ByteArray) (r8:ByteArray) (w:World) (hr0:Kd.C (Kd.int .u8) w A0 l0.length l0) (hc0:l0.length≤c0) (h:spec_DrawRenameFile.f k l0=some (r1,r2,r3,r4,r5,r6,r7,r8)) :
    Calls Tryz.prog 21 #[.slice A0 l0.length c0] w fun e w'=>∃ v0_ v1_ v2_ v3_:Value,e=.returned (.tuple #[.agg #[v0_,v1_,v2_,v3_,.int .i64 r5,.int .i64 r6],.string r7,.string r8])∧Kd.R k38 38 w' w.heap.size (fun _=>True) v0_ r1∧Kd.R k64 64 w' w.heap.size (fun k_=>some k_≠(v2_:Value).ownBlock) v1_ r2∧Kd.R k64 64 w' w.heap.size (fun k_=>some k_≠(v1_:Value).ownBlock) v2_ r3∧Kd.R Kd.string 9 w' w.heap.size (fun _=>True) v3_ r4∧Below w.heap.size w w':=by
  unfold spec_DrawRenameFile.f at h
  replace h:=Option.bind_eq_some_iff.mp h
  obtain ⟨⟨y0,y1,y2⟩,hy,h⟩:=h
  replace h:=Option.bind_eq_some_iff.mp h
  obtain ⟨⟨d1,d2,d3,d4,d5,d6,d7,d8⟩,hd,h⟩:=h
  dsimp only at hd h
  have HB:=Aside0.mk (Below.refl w.heap.size w)
  have CN:=Aside0.mk (fun (w1:World) (hB:Below w.heap.size w w1)=>spec_l01New.calls k A0 c0 l0 y0 y1 y2 w w1 hB hr0 hc0 hy)
  have CA:=Aside0.mk (fun (w1:World) (g:Nat) (hI:IsS89 w w1 g y0 y1 y2) (hB:Below w.heap.size w w1)=>spec_l05Any.calls k g y0 y1 y2 d1 d2 d3 d4 d5 d6 d7 d8 w w1 hI hB hd)
  clear hy hd hr0 hc0
  replace h:=Option.bind_eq_some_iff.mp h
  obtain ⟨⟨p,p2,p3⟩,hp,h⟩:=h
  dsimp only at hp h
  replace h:=Option.bind_eq_some_iff.mp h
  obtain ⟨⟨q,q2,q3⟩,hq,h⟩:=h
  dsimp only at hq h
  have C1:=Aside0.mk (fun (w1:World) (g:Nat) (hI:IsS89 w w1 g y0 d7 d8) (hB:Below w.heap.size w w1)=>spec_l05Name.calls g y0 d7 d8 p p2 p3 w w1 hI hB hp)
  have C2:=Aside0.mk (fun (w1:World) (g:Nat) (hI:IsS89 w w1 g y0 p2 p3) (hB:Below w.heap.size w w1)=>spec_l05Name.calls g y0 p2 p3 q q2 q3 w w1 hI hB hq)
  simp only [Option.some.injEq,Prod.mk.injEq] at h
  obtain ⟨rfl,rfl,rfl,rfl,rfl,rfl,rfl,rfl⟩:=h
  clear hp hq
  go_enter Tryz.func21,Tryz.ntmps21
  go_wp2_with (first | ((with_reducible refine gate_dst (N:=2) rfl ?_);refine box_event ?hg (N:=2) ?hd (cs:=#[.slice none 0 0,.slice none 0 0,.slice none 0 0,.slice none 0 0,.int .i64 0,.int .i64 0]) (t:=28) ?hr ?_;(case hd=>rfl);(case hg=>rfl);(case hr=>first | (go_simp;done) | (go_simp;rfl));intro gR hg w1 hbox hb;have GR0:=Aside0.mk (show w.heap.size≤gR by rw [hg];exact Nat.le_refl _);have HB:=Aside0.mk hb;have BR:=Aside0.mk hbox;clear hb hbox hg) | (go_at_call 37;(with_reducible refine (CN.out _ HB.out).mono ?_);rintro e w1 ⟨g,rfl,hi,hB1,hb⟩;(try replace HI:=Aside0.mk (HI.out.below hb));replace HB:=Aside0.mk (below_step HB.out hb);(try replace BD:=Aside0.mk ((hb.block gD (blk_lt BD.out)).trans BD.out));(try replace BR:=Aside0.mk ((hb.block gR (blk_lt BR.out)).trans BR.out));(try replace Do:=Aside0.mk (Do.out.on hb));(try replace RL:=Aside0.mk (Kd.R_below RL.out hb));have HI:=Aside0.mk hi;(try (have GR2:=Aside0.mk (show gR≠g from (IsS89.ne_blk hi BR.out (by decide)).symm)));clear hi hb hB1) | (go_at_call 36;have hbs:=HB.out.size;(with_reducible refine (CA.out _ _ HI.out HB.out).mono ?_);rintro e w1 ⟨u0,u1,u2,u3,rfl,p0,p1,p2,p3,hi,hb,hk⟩;have hD:=HasD.of p0 p1 p2 p3;(try replace Do:=Aside0.mk (Do.out.step fun k ho hl=>hk.2 k hl (own_far HI.out Do.out k ho) (by simp)));replace HI:=Aside0.mk hi;replace HB:=Aside0.mk hb;(try replace BD:=Aside0.mk (KeepBut.blk hk BD.out GD2.out (by simp)));(try replace BR:=Aside0.mk (KeepBut.blk hk BR.out GR2.out (by simp)));have Do:=Aside0.mk (hD.lower hbs);obtain ⟨A0,a0,rfl⟩:=Kd.R_slice p0;obtain ⟨A1,a1,rfl⟩:=Kd.R_slice p1;obtain ⟨A2,a2,rfl⟩:=Kd.R_slice p2;obtain ⟨A3,a3,rfl⟩:=Kd.R_slice p3;clear hD hb hi hk hbs p0 p1 p2 p3) | ((with_reducible refine gate_store (t:=28) (p:=6) rfl ?_);refine store_event (t:=28) (p:=6) (w1:=w1.alloc (.cells #[.slice A0 d1.length a0,.slice A1 d2.length a1,.slice A2 d3.length a2,.slice A3 d4.length a3,.int .i64 d5,.int .i64 d6] 28 (0,0))) rfl rfl rfl ?hr ?_;(case hr=>first | (go_simp;done) | (go_simp;rfl));intro wz hw;have hb:Below w1.heap.size w1 wz:=(by rw [hw];exact below_alloc (Below.refl _ _) _);have hbox:=(by rw [hw];exact blk_new w1 _:wz.heap[w1.heap.size]? = some (.cells #[.slice A0 d1.length a0,.slice A1 d2.length a1,.slice A2 d3.length a2,.slice A3 d4.length a3,.int .i64 d5,.int .i64 d6] 28 (0,0)));clear hw;obtain ⟨gD,hg⟩:∃ g,g=w1.heap.size:=⟨_,rfl⟩;rw [← hg] at hbox;have GD0:=Aside0.mk (show w.heap.size≤gD by rw [hg];exact HB.out.size);have GD2:=Aside0.mk (show gD≠g by rw [hg];exact Nat.ne_of_gt HI.out.lt);(try (have RD:=Aside0.mk (show gR≠gD by rw [hg];exact Nat.ne_of_lt (blk_lt BR.out))));(try rw [← hg]);clear hg;(try replace HI:=Aside0.mk (HI.out.below hb));replace HB:=Aside0.mk (below_step HB.out hb);(try replace BD:=Aside0.mk ((hb.block gD (blk_lt BD.out)).trans BD.out));(try replace BR:=Aside0.mk ((hb.block gR (blk_lt BR.out)).trans BR.out));(try replace Do:=Aside0.mk (Do.out.on hb));(try replace RL:=Aside0.mk (Kd.R_below RL.out hb));have BD:=Aside0.mk hbox;clear hb hbox;obtain ⟨w1,hw1⟩:∃ x,x=wz:=⟨_,rfl⟩;subst hw1;(try replace iD:=blk6 BD.out);(try replace zD:=z6_ BD.out)))
  (try clear iD zD)
  have hb:=below_drew (Below.refl w1.heap.size w1)
  (try replace HI:=Aside0.mk (HI.out.below hb));replace HB:=Aside0.mk (below_step HB.out hb);(try replace BD:=Aside0.mk ((hb.block gD (blk_lt BD.out)).trans BD.out));(try replace BR:=Aside0.mk ((hb.block gR (blk_lt BR.out)).trans BR.out));(try replace Do:=Aside0.mk (Do.out.on hb));(try replace RL:=Aside0.mk (Kd.R_below RL.out hb))
  clear hb
  refine start_ (n:=8) (S:=fun w'=>w'.cell? ⟨gD,0,none⟩=some (.slice A0 d1.length a0)∧w'.cell? ⟨gD,1,none⟩=some (.slice A1 d2.length a1)∧w'.cell? ⟨gD,2,none⟩=some (.slice A2 d3.length a2)∧w'.cell? ⟨gD,3,none⟩=some (.slice A3 d4.length a3)∧w'.cell? ⟨gD,4,none⟩=some (.int .i64 d5)∧w'.cell? ⟨gD,5,none⟩=some (.int .i64 d6)) (ds:=[]) (marks 8 0) (by kernel_rfl) rfl rfl ⟨(blk_cell BD.out 0).trans rfl,(blk_cell BD.out 1).trans rfl,(blk_cell BD.out 2).trans rfl,(blk_cell BD.out 3).trans rfl,(blk_cell BD.out 4).trans rfl,(blk_cell BD.out 5).trans rfl⟩ (fun hHeld=>?_)
  generalize w1.drew=w2 at HI HB BD BR Do hHeld ⊢
  refine pure_ (i:=1) (N:=some 12) (v:=?_) (a':=?_) (marks 8 2) rfl rfl (by kernel_rfl) (fun _ _ _ h=>h) (Or.inl ⟨by rfl,?_⟩) ?_ ?_
  rotate_left
  · intro w'
    go_simp
    with_reducible rfl
  rotate_left
  · simp only [Act.put,List.setIfInBounds_toArray,List.set_cons_zero,List.set_cons_succ,i64_w,i32_w]
    rfl
  refine pure_ (i:=3) (N:=some 14) (v:=?_) (a':=?_) (marks 8 10) rfl rfl (by kernel_rfl) (fun _ _ _ h=>h) (Or.inl ⟨by rfl,?_⟩) ?_ ?_
  rotate_left
  · intro w'
    go_simp
    with_reducible rfl
  rotate_left
  · simp only [Act.put,List.setIfInBounds_toArray,List.set_cons_zero,List.set_cons_succ,i64_w,i32_w]
    rfl
  refine take_ (i:=0) (N:=some 11) (v:=?_) (a':=?_) (marks 8 11) rfl rfl (by kernel_rfl) (fun _ _ _ h=>h) (Or.inl ⟨by rfl,?_⟩) hHeld ?_ ?_
  rotate_left
  · rintro w' ⟨s0,s1,s2,s3,s4,s5⟩
    go_simp
    with_reducible rfl
  rotate_left
  · simp only [Act.put,List.setIfInBounds_toArray,List.set_cons_zero,List.set_cons_succ,i64_w,i32_w]
    rfl
  refine one_ (i:=2) (N:=some 13) (marks 8 15) rfl rfl (by kernel_rfl) (by decide) (fun K hK=>?_)
  refine goes_ Tryz.func52 (by kernel_rfl) rfl #[.pointer (some ⟨g,0,none⟩)] (by rfl) rfl rfl (by (try simp only [List.map_toArray,List.map_cons,List.map_nil]);first | done | rfl | (go_simp;done)) ?_
  with_reducible refine (C1.out _ _ HI.out HB.out).mono ?_
  rintro e w1 ⟨rfl,hi,hb,hk⟩
  refine ⟨_,rfl,?_⟩
  (try replace Do:=Aside0.mk (Do.out.step fun k ho hl=>hk.2 k hl (own_far HI.out Do.out k ho) (by simp)));replace HI:=Aside0.mk hi;replace HB:=Aside0.mk hb;(try replace BD:=Aside0.mk (KeepBut.blk hk BD.out GD2.out (by simp)));(try replace BR:=Aside0.mk (KeepBut.blk hk BR.out GR2.out (by simp)))
  clear hi hb hk
  refine hK.out _ _ ⟨(blk_cell BD.out 0).trans rfl,(blk_cell BD.out 1).trans rfl,(blk_cell BD.out 2).trans rfl,(blk_cell BD.out 3).trans rfl,(blk_cell BD.out 4).trans rfl,(blk_cell BD.out 5).trans rfl⟩ (fun hHeld=>?_)
  clear hK K
  refine norm_ (a':=?_) ?_ ?_
  rotate_left
  · show Act.put _ (some 13) _=_
    simp only [Act.put,List.setIfInBounds_toArray,List.set_cons_zero,List.set_cons_succ,i64_w,i32_w]
    rfl
  refine one_ (i:=4) (N:=some 15) (marks 8 31) rfl rfl (by kernel_rfl) (by decide) (fun K hK=>?_)
  refine goes_ Tryz.func52 (by kernel_rfl) rfl #[.pointer (some ⟨g,0,none⟩)] (by rfl) rfl rfl (by (try simp only [List.map_toArray,List.map_cons,List.map_nil]);first | done | rfl | (go_simp;done)) ?_
  with_reducible refine (C2.out _ _ HI.out HB.out).mono ?_
  rintro e w1 ⟨rfl,hi,hb,hk⟩
  refine ⟨_,rfl,?_⟩
  (try replace Do:=Aside0.mk (Do.out.step fun k ho hl=>hk.2 k hl (own_far HI.out Do.out k ho) (by simp)));replace HI:=Aside0.mk hi;replace HB:=Aside0.mk hb;(try replace BD:=Aside0.mk (KeepBut.blk hk BD.out GD2.out (by simp)));(try replace BR:=Aside0.mk (KeepBut.blk hk BR.out GR2.out (by simp)))
  clear hi hb hk
  refine hK.out _ _ ⟨(blk_cell BD.out 0).trans rfl,(blk_cell BD.out 1).trans rfl,(blk_cell BD.out 2).trans rfl,(blk_cell BD.out 3).trans rfl,(blk_cell BD.out 4).trans rfl,(blk_cell BD.out 5).trans rfl⟩ (fun hHeld=>?_)
  clear hK K
  refine norm_ (a':=?_) ?_ ?_
  rotate_left
  · show Act.put _ (some 15) _=_
    simp only [Act.put,List.setIfInBounds_toArray,List.set_cons_zero,List.set_cons_succ,i64_w,i32_w]
    rfl
  refine one_ (i:=5) (N:=none) (marks 8 63) rfl rfl (by kernel_rfl) (by decide) (fun K hK=>?_)
  have iR:=blk6 BR.out
  have zR:=z6_ BR.out
  refine skip_ (w1:=?_) (by rfl) rfl ?_ ?_
  rotate_left
  · go_simp
    rfl
  clear iR zR
  have hs:∀ j,j≠gR→((((((w1.setCell ⟨gR,0,none⟩ (.slice A0 d1.length a0)).setCell ⟨gR,1,none⟩ (.slice A1 d2.length a1)).setCell ⟨gR,2,none⟩ (.slice A2 d3.length a2)).setCell ⟨gR,3,none⟩ (.slice A3 d4.length a3)).setCell ⟨gR,4,none⟩ (.int .i64 d5)).setCell ⟨gR,5,none⟩ (.int .i64 d6)).heap[j]? = w1.heap[j]?:=fun j hj=>fill6_far hj
  have hG:=(hs gD (Ne.symm RD.out)).trans BD.out
  refine hK.out _ _ ⟨(blk_cell hG 0).trans rfl,(blk_cell hG 1).trans rfl,(blk_cell hG 2).trans rfl,(blk_cell hG 3).trans rfl,(blk_cell hG 4).trans rfl,(blk_cell hG 5).trans rfl⟩ (fun hHeld=>?_)
  clear hK K
  have hR:((((((w1.setCell ⟨gR,0,none⟩ (.slice A0 d1.length a0)).setCell ⟨gR,1,none⟩ (.slice A1 d2.length a1)).setCell ⟨gR,2,none⟩ (.slice A2 d3.length a2)).setCell ⟨gR,3,none⟩ (.slice A3 d4.length a3)).setCell ⟨gR,4,none⟩ (.int .i64 d5)).setCell ⟨gR,5,none⟩ (.int .i64 d6)).heap[gR]? = some (.cells #[.slice A0 d1.length a0,.slice A1 d2.length a1,.slice A2 d3.length a2,.slice A3 d4.length a3,.int .i64 d5,.int .i64 d6] 28 (0,0)):=fill6_at BR.out
  have hI:=cur6 HI.out (Ne.symm GR2.out) (.slice A0 d1.length a0) (.slice A1 d2.length a1) (.slice A2 d3.length a2) (.slice A3 d4.length a3) (.int .i64 d5) (.int .i64 d6)
  have hB1:Below w.heap.size w ((((((w1.setCell ⟨gR,0,none⟩ (.slice A0 d1.length a0)).setCell ⟨gR,1,none⟩ (.slice A1 d2.length a1)).setCell ⟨gR,2,none⟩ (.slice A2 d3.length a2)).setCell ⟨gR,3,none⟩ (.slice A3 d4.length a3)).setCell ⟨gR,4,none⟩ (.int .i64 d5)).setCell ⟨gR,5,none⟩ (.int .i64 d6)):=fill6_below HB.out GR0.out
  have Dm:=HasD.fill Do.out BR.out hs
  clear hs Do BD HI HB BR
  generalize ((((((w1.setCell ⟨gR,0,none⟩ (.slice A0 d1.length a0)).setCell ⟨gR,1,none⟩ (.slice A1 d2.length a1)).setCell ⟨gR,2,none⟩ (.slice A2 d3.length a2)).setCell ⟨gR,3,none⟩ (.slice A3 d4.length a3)).setCell ⟨gR,4,none⟩ (.int .i64 d5)).setCell ⟨gR,5,none⟩ (.int .i64 d6))=w3 at hG hR hI hB1 Dm hHeld ⊢
  have Do:=Aside0.mk Dm
  have BD:=Aside0.mk hG
  have BR:=Aside0.mk hR
  have HI:=Aside0.mk hI
  have HB:=Aside0.mk hB1
  clear Dm hG hR hI hB1
  obtain ⟨w1,hw1⟩:∃ x,x=w3:=⟨_,rfl⟩
  subst hw1
  refine pure_ (i:=6) (N:=some 3) (v:=?_) (a':=?_) (marks 8 127) rfl rfl (by kernel_rfl) (fun _ _ _ h=>h) (Or.inl ⟨by rfl,?_⟩) ?_ ?_
  rotate_left
  · intro w'
    go_simp
    with_reducible rfl
  rotate_left
  · simp only [Act.put,List.setIfInBounds_toArray,List.set_cons_zero,List.set_cons_succ,i64_w,i32_w]
    rfl
  refine pure_ (i:=7) (N:=some 4) (v:=?_) (a':=?_) (marks 8 255) rfl rfl (by kernel_rfl) (fun _ _ _ h=>h) (Or.inl ⟨by rfl,?_⟩) ?_ ?_
  rotate_left
  · intro w'
    go_simp
    with_reducible rfl
  rotate_left
  · simp only [Act.put,List.setIfInBounds_toArray,List.set_cons_zero,List.set_cons_succ,i64_w,i32_w]
    rfl
  refine done_ (by kernel_rfl) ?_
  go_wp2_with fail
  refine bodyPost_ret (results_ctt rfl _ _ gR 28 #[.slice A0 d1.length a0,.slice A1 d2.length a1,.slice A2 d3.length a2,.slice A3 d4.length a3,.int .i64 d5,.int .i64 d6] (0,0) _ rfl BR.out Tryz.underlying28 rfl (by kernel_rfl)) rfl ?_
  have hT:=HasD.told Do.out
  exact ⟨_,_,_,_,rfl,hT.1,hT.2.1,hT.2.2.1,hT.2.2.2,HB.out⟩

/-! ### impl_UsedOn: function 19 -/
def impl_UsedOn.l0:Nat→Int→List (S38)→Int→Int→Option (Int)
 | 0,_,_,_,_=>none
 | k+1,x3,x7,x8,x9=>if x9<x8 then (if 0≤x9 then (if x9<(x7.length:Int) then (impl_UsedOn.l0 k (wrap64 (x3+(((rd_T38 x7 x9).f1).size:Int))) x7 x8 (wrap64 (x9+1))) else (none)) else (none)) else (some x3)
def impl_UsedOn.f (k:Nat) (l0_0:List (S38)) (l0_1:List (S64)) (l0_2:List (S64)) (l0_3:List ByteArray) (a0_4:Int) (a0_5:Int):Option (Int):=impl_UsedOn.l0 k 0 l0_0 (l0_0.length:Int) 0
theorem impl_UsedOn.mono_l:∀ k,(∀ y0 y1 y2 y3,LeO (impl_UsedOn.l0 k y0 y1 y2 y3) (impl_UsedOn.l0 (k+1) y0 y1 y2 y3))
 | 0=>fun _ _ _ _ r h=>by simp [impl_UsedOn.l0] at h
 | k+1=>by
  have ih0:=impl_UsedOn.mono_l k
  ·intro y0 y1 y2 y3
   unfold impl_UsedOn.l0
   repeat' first | (with_reducible exact ih0 _ _ _ _) | (with_reducible exact LeO.refl _) | (with_reducible refine LeO.ite ?_ ?_)
theorem impl_UsedOn.mono:∀ a0 a1 a2 a3 a4 a5 k,LeO (impl_UsedOn.f k a0 a1 a2 a3 a4 a5) (impl_UsedOn.f (k+1) a0 a1 a2 a3 a4 a5):=by
 intro a0 a1 a2 a3 a4 a5 k
 have ih0:=impl_UsedOn.mono_l k
 unfold impl_UsedOn.f
 repeat' (with_reducible exact ih0 _ _ _ _)
set_option maxHeartbeats 8000000 in
set_option maxRecDepth 100000 in
theorem impl_UsedOn.calls (k:Nat) (A0_0:Option Addr) (c0_0:Nat) (l0_0:List (S38)) (A0_1:Option Addr) (c0_1:Nat) (l0_1:List (S64)) (A0_2:Option Addr) (c0_2:Nat) (l0_2:List (S64)) (A0_3:Option Addr) (c0_3:Nat) (l0_3:List ByteArray) (a0_4:Int) (a0_5:Int) (r:Int) (w:World) (hr0_0:Kd.C k38 w A0_0 l0_0.length l0_0) (hc0_0:l0_0.length≤c0_0) (hr0_1:Kd.C k64 w A0_1 l0_1.length l0_1) (hc0_1:l0_1.length≤c0_1) (hr0_2:Kd.C k64 w A0_2 l0_2.length l0_2) (hc0_2:l0_2.length≤c0_2) (hr0_3:Kd.C Kd.string w A0_3 l0_3.length l0_3) (hc0_3:l0_3.length≤c0_3) (h:impl_UsedOn.f k l0_0 l0_1 l0_2 l0_3 a0_4 a0_5=some r) :
  Calls Tryz.prog 19 #[.agg #[.slice A0_0 l0_0.length c0_0,.slice A0_1 l0_1.length c0_1,.slice A0_2 l0_2.length c0_2,.slice A0_3 l0_3.length c0_3,.int .i64 a0_4,.int .i64 a0_5]] w fun e w'=>e=.returned (.int .i64 r)∧Below w.heap.size w w':=by
 have HR0_0:=Aside0.mk hr0_0
 clear hr0_0 hc0_0
 clear hr0_1 hc0_1
 clear hr0_2 hc0_2
 clear hr0_3 hc0_3
 have HB:=Aside0.mk (Below.refl w.heap.size w)
 have H:(impl_UsedOn.l0 k 0 l0_0 (l0_0.length:Int) 0)=some r:=h
 clear h
 have H':=Aside0.mk H
 clear H
 go_enter Tryz.func19,Tryz.ntmps19
 go_wp2_with (((with_reducible refine gate_dst (N:=1) rfl ?_);refine box_event ?hg (N:=1) ?hd (cs:=#[.slice A0_0 l0_0.length c0_0,.slice A0_1 l0_1.length c0_1,.slice A0_2 l0_2.length c0_2,.slice A0_3 l0_3.length c0_3,.int .i64 a0_4,.int .i64 a0_5]) (t:=28) ?hr ?_;(case hd=>rfl);(case hg=>rfl);(case hr=>(go_simp;done));intro gb285 hg w2 hbox hb;have BK285:=Aside0.mk (hbox);replace HB:=Aside0.mk (below_step HB.out hb);clear hb hbox hg;obtain ⟨hcz3_0,hcz3_1,hcz3_2,hcz3_3,hcz3_4,hcz3_5⟩:=b6of BK285.out;obtain ⟨hfz3_0,hfz3_1,hfz3_2,hfz3_3,hfz3_4,hfz3_5⟩:=z6of BK285.out))
 go_loopg [3,9] k (fun kq v3 v9 w'=>∃ (x3_1:Int) (x9_1:Int),v3=.int .i64 x3_1∧v9=.int .i64 x9_1∧Aside0 (impl_UsedOn.l0 kq x3_1 l0_0 (l0_0.length:Int) x9_1=some r)∧Aside0 (kq≤k)∧Aside0 (w'.heap[gb285]? = some (.cells #[(.slice A0_0 l0_0.length c0_0),(.slice A0_1 l0_1.length c0_1),(.slice A0_2 l0_2.length c0_2),(.slice A0_3 l0_3.length c0_3),.int .i64 a0_4,.int .i64 a0_5] 28 (0,0)))∧Aside0 (Below w.heap.size w w'))
 case atStart=>exact ⟨(0),(0),(by rfl),(by rfl),H',⟨Nat.le_refl _⟩,⟨by exact BK285.out⟩,⟨by repeat (with_reducible exact HB.out)⟩⟩
 case round=>
  clear H'
  try clear c1
  try clear p2
  try clear hcz3_0
  try clear hcz3_1
  try clear hcz3_2
  try clear hcz3_3
  try clear hcz3_4
  try clear hcz3_5
  try clear hfz3_0
  try clear hfz3_1
  try clear hfz3_2
  try clear hfz3_3
  try clear hfz3_4
  try clear hfz3_5
  obtain ⟨x3_1,x9_1,rfl,rfl,HA,HK1,BK285,HB⟩:=hrel
  cases gk with
  | zero=>exact absurd HA.out (by simp [impl_UsedOn.l0])
  | succ k1=>
   have H:=HA.out
   clear HA
   simp only [impl_UsedOn.l0] at H
   by_cases c4:x9_1<(l0_0.length:Int)
   ·rw [if_pos c4] at H
    have c4b0:decide (x9_1<(l0_0.length:Int))=true:=decide_eq_true c4
    clear c4
    by_cases c5:0≤x9_1
    ·rw [if_pos c5] at H
     have c5b0:decide (0≤x9_1)=true:=decide_eq_true c5
     clear c5
     by_cases c6:x9_1<(l0_0.length:Int)
     ·rw [if_pos c6] at H
      have c6b0:decide (x9_1<(l0_0.length:Int))=true:=decide_eq_true c6
      clear c6
      have H':=Aside0.mk H
      clear H
      have p286:0≤(x9_1:Int):=of_decide_eq_true (by (with_reducible assumption))
      have q286:x9_1<(l0_0.length:Int):=of_decide_eq_true (by (with_reducible assumption))
      obtain ⟨ad286,e286,hx286_0,hx286_1,hx286_2⟩:=at_T38 HR0_0.out x9_1 p286 q286
      cases e286
      replace hx286_0:=(HB.out.cell (World.block_lt_of_cell? w _ hx286_0)).trans hx286_0
      replace hx286_1:=(HB.out.cell (World.block_lt_of_cell? w _ hx286_1)).trans hx286_1
      replace hx286_2:=(HB.out.cell (World.block_lt_of_cell? w _ hx286_2)).trans hx286_2
      replace p286:=eq_true p286
      replace q286:=eq_true q286
      go_wp2_with (((with_reducible refine gate_dst (N:=5) rfl ?_);refine box_event ?hg (N:=5) ?hd (cs:=#[.int .i64 0,.string (⟨#[]⟩:ByteArray),.int .i64 0]) (t:=38) ?hr ?_;(case hd=>rfl);(case hg=>rfl);(case hr=>(go_simp;done));intro gb287 hg w7 hbox hb;have BK287:=Aside0.mk (hbox);have GE287:=Aside0.mk ((by rw [hg];exact (below_size HB.out):w.heap.size≤gb287));have NB285_287:=Aside0.mk ((by rw [hg];exact Nat.ne_of_lt (blk_lt BK285.out):gb285≠gb287));replace BK285:=Aside0.mk (bB hb BK285.out);replace HB:=Aside0.mk (below_step HB.out hb);clear hb hbox hg;have hcz9_0:w7.cell? ⟨gb287,0,none⟩=some (.int .i64 0):=(blk_cell BK287.out 0).trans rfl;have hcz9_1:w7.cell? ⟨gb287,1,none⟩=some (.string (⟨#[]⟩:ByteArray)):=(blk_cell BK287.out 1).trans rfl;have hcz9_2:w7.cell? ⟨gb287,2,none⟩=some (.int .i64 0):=(blk_cell BK287.out 2).trans rfl;have hfz9_0:=blk_frozen BK287.out 0;have hfz9_1:=blk_frozen BK287.out 1;have hfz9_2:=blk_frozen BK287.out 2))
      go_roundg k1
      case measure=>have:=HK1.out;omega
      case rel=>exact ⟨(wrap64 (x3_1+(((rd_T38 l0_0 x9_1).f1).size:Int))),(wrap64 (x9_1+1)),(by rfl),(by rfl),H',⟨by have:=HK1.out;omega⟩,⟨by refine blk_far ?_ NB285_287.out _;refine blk_far ?_ NB285_287.out _;refine blk_far ?_ NB285_287.out _;exact BK285.out⟩,⟨by repeat (with_reducible first | exact HB.out | refine below_set ?_ GE287.out)⟩⟩
     ·rw [if_neg c6] at H
      exact absurd H (by simp)
    ·rw [if_neg c5] at H
     exact absurd H (by simp)
   ·rw [if_neg c4] at H
    have c4b0:decide (x9_1<(l0_0.length:Int))=false:=decide_eq_false c4
    clear c4
    obtain rfl:=Option.some.inj H
    go_wp2
    all_goals (go_ret)
    all_goals exact ⟨by rfl,by repeat (with_reducible exact HB.out)⟩

/-! ### impl_within: function 39 -/
def impl_within.f (a0:Int) (a1:Int) (a2:Int):Option (Bool):=if a0≥a1 then (some (decide (a0≤a2))) else (some false)
set_option maxHeartbeats 8000000 in
set_option maxRecDepth 100000 in
theorem impl_within.calls (a0:Int) (a1:Int) (a2:Int) (r:Bool) (w:World) (h:impl_within.f a0 a1 a2=some r) :
  Calls Tryz.prog 39 #[.int .i64 a0,.int .i64 a1,.int .i64 a2] w fun e w'=>e=.returned (.bool r)∧Drawn0 w w':=by
 have H:(if a0≥a1 then (some (decide (a0≤a2))) else (some false))=some r:=h
 clear h
 by_cases c4:a0≥a1
 ·rw [if_pos c4] at H
  have c4b0:decide (a1≤a0)=true:=decide_eq_true c4
  clear c4
  obtain rfl:=Option.some.inj H
  go_enter Tryz.func39,Tryz.ntmps39
  go_wp2
  all_goals (go_ret)
  exact ⟨by first | rfl | (simp;done) | (simp [*];done),by repeat (exact Drawn0.refl _)⟩
 ·rw [if_neg c4] at H
  have c4b0:decide (a1≤a0)=false:=decide_eq_false c4
  clear c4
  obtain rfl:=Option.some.inj H
  go_enter Tryz.func39,Tryz.ntmps39
  go_wp2
  all_goals (go_ret)
  exact ⟨by first | rfl | (simp;done) | (simp [*];done),by repeat (exact Drawn0.refl _)⟩

/-! ### impl_isNumber: function 38 -/
def impl_isNumber.f (a0:Int):Option (Bool):=(impl_within.f a0 0 1000000000).bind fun t288=>(some t288)
set_option maxHeartbeats 8000000 in
set_option maxRecDepth 100000 in
theorem impl_isNumber.calls (a0:Int) (r:Bool) (w:World) (h:impl_isNumber.f a0=some r) :
  Calls Tryz.prog 38 #[.int .i64 a0] w fun e w'=>e=.returned (.bool r)∧Drawn0 w w':=by
 have H:((impl_within.f a0 0 1000000000).bind fun t288=>(some t288))=some r:=h
 clear h
 obtain ⟨t288,A2,H⟩:=bA H
 replace H:(some t288)=some r:=H
 obtain rfl:=Option.some.inj H
 go_enter Tryz.func38,Tryz.ntmps38
 go_wp2_with (((with_reducible refine gate_callee (f:=39) rfl ?_);refine goesL_ (some 4) rfl rfl Tryz.func39 (by kernel_rfl) rfl #[.int .i64 a0,.int .i64 0,.int .i64 1000000000] rfl (by (try simp only [List.map_toArray,List.map_cons,List.map_nil]);rfl) ?_;(with_reducible refine (impl_within.calls a0 0 1000000000 t288 _ A2.out).mono ?_);rintro e w' ⟨rfl,⟨nd,rfl⟩⟩;refine ⟨_,rfl,?_⟩))
 all_goals (go_ret)
 exact ⟨by first | rfl | (simp;done) | (simp [*];done),by repeat (first | exact Drawn0.refl _ | apply Drawn0.step)⟩

/-! ### impl_Disk_areNodes: function 40 -/
def inR (n low high:Int):Bool:=decide (low≤n) && decide (n≤high)
theorem within_any (n low high:Int) (w:World):Calls Tryz.prog 39 #[.int .i64 n,.int .i64 low,.int .i64 high] w fun e w'=>e=.returned (.bool (inR n low high))∧∃ q,w'=w.drewN q:=by
  unfold inR
  by_cases h:low≤n
  · rw [decide_eq_true h,Bool.true_and]
    go_enter Tryz.func39,Tryz.ntmps39
    go_wp2
    go_ret
    exact ⟨rfl,0,rfl⟩
  · rw [decide_eq_false h,Bool.false_and]
    go_enter Tryz.func39,Tryz.ntmps39
    go_wp2
    go_ret
    exact ⟨rfl,0,rfl⟩
def nodeFine (next:Int) (prev:Option Int) (x:S38):Bool:=(match prev with | none=>true | some p=>!decide (x.f0≤p)) && (inR x.f0 1 (wrap64 (next-1)) && inR x.f2 0 (x.f1.size:Int))
def nodesFine (next:Int):Option Int→List S38→Bool
  | _,[]=>true
  | p,x :: l=>nodeFine next p x && nodesFine next (some x.f0) l
def prevN (l:List S38):Nat→Option Int
  | 0=>none
  | k+1=>some (rd_T38 l (k:Int)).f0
def impl_Disk_areNodes.f (l0_0:List S38) (l0_1:List S64) (l0_2:List S64) (l0_3:List ByteArray) (a0_4:Int) (a0_5:Int):Option Bool:=some (nodesFine a0_5 none l0_0 && decide ((l0_0.length:Int)≤64))
set_option maxHeartbeats 2000000 in
set_option maxRecDepth 100000 in
theorem impl_Disk_areNodes.calls (A0_0:Option Addr) (c0_0:Nat) (l0_0:List (S38)) (A0_1:Option Addr) (c0_1:Nat) (l0_1:List (S64)) (A0_2:Option Addr) (c0_2:Nat) (l0_2:List (S64)) (A0_3:Option Addr) (c0_3:Nat) (l0_3:List ByteArray) (a0_4:Int) (a0_5:Int) (r:Bool) (w:World) (hr0_0:Kd.C k38 w A0_0 l0_0.length l0_0) (hc0_0:l0_0.length≤c0_0) (hr0_1:Kd.C k64 w A0_1 l0_1.length l0_1) (hc0_1:l0_1.length≤c0_1) (hr0_2:Kd.C k64 w A0_2 l0_2.length l0_2) (hc0_2:l0_2.length≤c0_2) (hr0_3:Kd.C Kd.string w A0_3 l0_3.length l0_3) (hc0_3:l0_3.length≤c0_3) (h:impl_Disk_areNodes.f l0_0 l0_1 l0_2 l0_3 a0_4 a0_5=some r) :
    Calls Tryz.prog 40 #[.agg #[.slice A0_0 l0_0.length c0_0,.slice A0_1 l0_1.length c0_1,.slice A0_2 l0_2.length c0_2,.slice A0_3 l0_3.length c0_3,.int .i64 a0_4,.int .i64 a0_5]] w fun e w'=>e=.returned (.bool r)∧Below w.heap.size w w':=by
  obtain rfl:=Option.some.inj h
  have hmax:=hr0_0.2.1
  have HR:=Aside0.mk hr0_0
  clear h hr0_0 hc0_0 hr0_1 hc0_1 hr0_2 hc0_2 hr0_3 hc0_3
  go_enter Tryz.func40,Tryz.ntmps40
  go_wp2_with (((with_reducible refine gate_dst (N:=1) rfl ?_);refine box_event ?hg (N:=1) ?hd (cs:=#[.slice A0_0 l0_0.length c0_0,.slice A0_1 l0_1.length c0_1,.slice A0_2 l0_2.length c0_2,.slice A0_3 l0_3.length c0_3,.int .i64 a0_4,.int .i64 a0_5]) (t:=28) ?hr ?_;(case hd=>rfl);(case hg=>rfl);(case hr=>(go_simp;done));intro g5 hg w1 hbox b5;have BK:=Aside0.mk hbox;have B1:=Aside0.mk b5;obtain ⟨q0,q1,q2,q3,q4,q5⟩:=b6of BK.out;clear hg hbox b5))
  go_loopg [8] l0_0.length (fun gg s8 wr=>∃ kk:Nat,kk≤l0_0.length∧l0_0.length-kk≤gg∧s8=.int .i64 kk∧Aside0 (Below w.heap.size w wr)∧Aside0 (wr.heap[g5]? = some (.cells #[.slice A0_0 l0_0.length c0_0,.slice A0_1 l0_1.length c0_1,.slice A0_2 l0_2.length c0_2,.slice A0_3 l0_3.length c0_3,.int .i64 a0_4,.int .i64 a0_5] 28))∧Aside0 (nodesFine a0_5 (prevN l0_0 kk) (l0_0.drop kk)=nodesFine a0_5 none l0_0))
  case atStart=>exact ⟨0,Nat.zero_le _,by omega,rfl,B1,BK,⟨rfl⟩⟩
  case round=>
    clear q0 q1 q2 q3 q4 q5
    obtain ⟨kk,hkk,hg,rfl,BW,BK2,A⟩:=hrel
    clear B1 BK
    by_cases hlt:kk<l0_0.length
    · have hltz:(kk:Int)<(l0_0.length:Int):=by omega
      obtain ⟨ad,rfl,hx0,hx1,hx2⟩:=at_T38 (Kd.C_below HR.out BW.out) (kk:Int) (by omega) hltz
      rw [Int.toNat_natCast] at hx0 hx1 hx2
      have hd:l0_0.drop kk=rd_T38 l0_0 (kk:Int) :: l0_0.drop (kk+1):=by
        rw [List.drop_eq_getElem_cons hlt]
        unfold rd_T38
        rw [Int.toNat_natCast,List.getD_eq_getElem?_getD,List.getElem?_eq_getElem hlt];rfl
      have A2:=A.out
      rw [hd,nodesFine] at A2
      have A3:(nodeFine a0_5 (prevN l0_0 kk) (rd_T38 l0_0 (kk:Int)) && nodesFine a0_5 (prevN l0_0 (kk+1)) (l0_0.drop (kk+1)))=nodesFine a0_5 none l0_0:=A2
      have AA:=Aside0.mk A3
      clear A A2 A3 hd
      generalize rd_T38 l0_0 (kk:Int)=y at hx0 hx1 hx2 AA
      go_wp2_with (((with_reducible refine gate_dst (N:=4) rfl ?_);refine box_event ?hg (N:=4) ?hd (cs:=#[.int .i64 0,.string (⟨#[]⟩:ByteArray),.int .i64 0]) (t:=38) ?hr ?_;(case hd=>rfl);(case hg=>rfl);(case hr=>(go_simp;done));intro g6 hg6 w2 hbox b6;have N2:=Aside0.mk hbox;have S2:=Aside0.mk b6;have G6:=Aside0.mk hg6;have n0:w2.cell? ⟨g6,0,none⟩=some (.int .i64 0):=(blk_cell N2.out 0).trans rfl;have n1:w2.cell? ⟨g6,1,none⟩=some (.string (⟨#[]⟩:ByteArray)):=(blk_cell N2.out 1).trans rfl;have n2:w2.cell? ⟨g6,2,none⟩=some (.int .i64 0):=(blk_cell N2.out 2).trans rfl;have z0:=blk_frozen N2.out 0;have z1:=blk_frozen N2.out 1;have z2:=blk_frozen N2.out 2;clear hg6 hbox b6))
      refine gen_wp (R:=fun W=>Below w.heap.size w W∧W.heap[g5]? = some (.cells #[.slice (some ad) l0_0.length c0_0,.slice A0_1 l0_1.length c0_1,.slice A0_2 l0_2.length c0_2,.slice A0_3 l0_3.length c0_3,.int .i64 a0_4,.int .i64 a0_5] 28)∧W.heap[g6]? = some (.cells #[.int .i64 y.f0,.string y.f1,.int .i64 y.f2] 38)) ?_ ?_
      · have hg6:g6≠g5:=by have:=blk_lt BK2.out;have:=G6.out;omega
        have hge:w.heap.size≤g6:=by rw [G6.out];exact BW.out.size
        have hb2:=BW.out.trans (S2.out.mono BW.out.size)
        have hk:=(S2.out.block g5 (blk_lt BK2.out)).trans BK2.out
        refine ⟨below_set (below_set (below_set hb2 hge) hge) hge,blk_far (blk_far (blk_far hk (Ne.symm hg6) _) (Ne.symm hg6) _) (Ne.symm hg6) _,?_⟩
        exact blk_put (cs:=#[.int .i64 y.f0,.string y.f1,.int .i64 0]) (blk_put (cs:=#[.int .i64 y.f0,.string (⟨#[]⟩:ByteArray),.int .i64 0]) (blk_put (cs:=#[.int .i64 0,.string (⟨#[]⟩:ByteArray),.int .i64 0]) N2.out 0 _ rfl) 1 _ rfl) 2 _ rfl
      rintro W2 ⟨hB2,hK2,hN2⟩
      have BW2:=Aside0.mk hB2
      have BKd:=Aside0.mk hK2
      have e0:W2.cell? ⟨g5,0,none⟩=some (.slice (some ad) l0_0.length c0_0):=(blk_cell hK2 0).trans rfl
      have e5:W2.cell? ⟨g5,5,none⟩=some (.int .i64 a0_5):=(blk_cell hK2 5).trans rfl
      have m0:W2.cell? ⟨g6,0,none⟩=some (.int .i64 y.f0):=(blk_cell hN2 0).trans rfl
      have m1:W2.cell? ⟨g6,1,none⟩=some (.string y.f1):=(blk_cell hN2 1).trans rfl
      have m2:W2.cell? ⟨g6,2,none⟩=some (.int .i64 y.f2):=(blk_cell hN2 2).trans rfl
      clear hB2 hK2 hN2 n0 n1 n2 z0 z1 z2 N2 S2 G6 hx0 hx1 hx2 BK2 BW
      have WN2:=fun (w:World)=>within_any y.f0 1 (wrap64 (a0_5-1)) w
      have WN3:=fun (w:World)=>within_any y.f2 0 (y.f1.size:Int) w
      have A4:=AA.out
      unfold nodeFine at A4
      generalize inR y.f0 1 (wrap64 (a0_5-1))=b2 at WN2 A4
      generalize inR y.f2 0 (y.f1.size:Int)=b3 at WN3 A4
      have hz5:IntKind.i64.wrap (a0_5-1)=wrap64 (a0_5-1):=i64_w _
      have AB:=Aside0.mk A4
      have H2:=Aside0.mk WN2
      have H3:=Aside0.mk WN3
      clear A4 AA WN2 WN3
      cases kk with
      | zero=>
        have AC:=Aside0.mk (show (true && (b2 && b3) && nodesFine a0_5 (prevN l0_0 (0+1)) (l0_0.drop (0+1)))=nodesFine a0_5 none l0_0 from AB.out)
        clear AB
        cases b2 with
        | false=>
          go_quiet ((go_at_call 39;with_reducible exact Calls.quiet_of (H2.out _)))
          go_wp2
          go_ret
          exact ⟨by rw [← AC.out];rfl,pw_below_drewN BW2.out _⟩
        | true=>
          cases b3 with
          | false=>
            go_quiet (first | (go_at_call 39;with_reducible exact Calls.quiet_of (H2.out _)) | (go_at_call 39;with_reducible exact Calls.quiet_of (H3.out _)))
            go_wp2
            go_ret
            exact ⟨by rw [← AC.out];rfl,pw_below_drewN BW2.out _⟩
          | true=>
            go_quiet (first | (go_at_call 39;with_reducible exact Calls.quiet_of (H2.out _)) | (go_at_call 39;with_reducible exact Calls.quiet_of (H3.out _)))
            go_wp2
            go_roundg (l0_0.length-(0+1))
            case measure=>omega
            case rel=>exact ⟨0+1,by omega,by omega,by go_num,⟨pw_below_drewN BW2.out _⟩,⟨BKd.out⟩,⟨AC.out⟩⟩
      | succ j=>
        have hw1:IntKind.i64.wrap ((j:Int)+1-1)=(j:Int):=by rw [show (j:Int)+1-1=(j:Int) by omega,IntKind.wrap_i64];omega
        have hj0:(0:Int)≤(j:Int):=by omega
        have hjl:(j:Int)<(l0_0.length:Int):=by omega
        obtain ⟨ad2,e2,hv0,hv1,hv2⟩:=at_T38 (Kd.C_below HR.out BW2.out) (j:Int) hj0 hjl
        cases e2
        rw [Int.toNat_natCast] at hv0 hv1 hv2
        clear hv1 hv2
        have AC:=Aside0.mk (show (!decide (y.f0≤(rd_T38 l0_0 (j:Int)).f0) && (b2 && b3) && nodesFine a0_5 (prevN l0_0 (j+1+1)) (l0_0.drop (j+1+1)))=nodesFine a0_5 none l0_0 from AB.out)
        clear AB
        generalize (rd_T38 l0_0 (j:Int)).f0=p0 at hv0 AC
        by_cases hle:y.f0≤p0
        · rw [decide_eq_true hle] at AC
          have hle':decide (y.f0≤p0)=true:=decide_eq_true hle
          clear hle
          go_quiet (fail)
          go_wp2
          go_ret
          exact ⟨by rw [← AC.out];rfl,pw_below_drewN BW2.out _⟩
        · rw [decide_eq_false hle] at AC
          have hle':decide (y.f0≤p0)=false:=decide_eq_false hle
          clear hle
          cases b2 with
          | false=>
            go_quiet ((go_at_call 39;with_reducible exact Calls.quiet_of (H2.out _)))
            go_wp2
            go_ret
            exact ⟨by rw [← AC.out];rfl,pw_below_drewN BW2.out _⟩
          | true=>
            cases b3 with
            | false=>
              go_quiet (first | (go_at_call 39;with_reducible exact Calls.quiet_of (H2.out _)) | (go_at_call 39;with_reducible exact Calls.quiet_of (H3.out _)))
              go_wp2
              go_ret
              exact ⟨by rw [← AC.out];rfl,pw_below_drewN BW2.out _⟩
            | true=>
              go_quiet (first | (go_at_call 39;with_reducible exact Calls.quiet_of (H2.out _)) | (go_at_call 39;with_reducible exact Calls.quiet_of (H3.out _)))
              go_wp2
              go_roundg (l0_0.length-(j+1+1))
              case measure=>omega
              case rel=>exact ⟨j+1+1,by omega,by omega,by go_num,⟨pw_below_drewN BW2.out _⟩,⟨BKd.out⟩,⟨AC.out⟩⟩
    · have hltz:¬ (kk:Int)<(l0_0.length:Int):=by omega
      have A2:=A.out
      rw [List.drop_of_length_le (by omega),nodesFine] at A2
      have e0:wr.cell? ⟨g5,0,none⟩=some (.slice A0_0 l0_0.length c0_0):=(blk_cell BK2.out 0).trans rfl
      have A3:=Aside0.mk A2
      clear A A2
      go_wp2
      go_ret
      exact ⟨by rw [← A3.out,Bool.true_and];rfl,BW.out⟩

/-! ### impl_Entry_41: function 41 -/
set_option maxHeartbeats 2000000 in
theorem cloneE (A0:Option Addr) (c0:Nat) (l0:List S64) (w:World) (hr:Kd.C k64 w A0 l0.length l0) (hb:l0.length*24≤140737488355328) :
    Calls Tryz.prog 41 #[.slice A0 l0.length c0] w fun e w'=>∃ v,e=.returned v∧Kd.R k64 64 w' w.heap.size (fun _=>True) v l0∧Below w.heap.size w w':=by
  have q22:∀ (w:World) (a:Option Addr) (n c n' c':Nat),(binOp .eql 25 (.slice a n c) (.slice none n' c')).run Tryz.prog w=.ok (.bool a.isNone) w:=fun w a n c n' c'=>Lib.run_eql_slice_nil w _ _ a n c n' c' Tryz.underlying25
  have HR:=Aside0.mk hr
  cases A0 with
  | none=>
    have h0:l0=[]:=by
      rcases Nat.eq_zero_or_pos l0.length with h | h
      · exact List.eq_nil_of_length_eq_zero h
      · obtain ⟨ad,e,_⟩:=hr.2.2 h
        cases e
    subst h0
    clear hr
    go_enter Tryz.func41,Tryz.ntmps41
    go_wp2
    go_ret
    exact ⟨_,rfl,Kd.R_nil _ _ _ _ _,Below.refl _ _⟩
  | some ad=>
    clear hr
    go_enter Tryz.func41,Tryz.ntmps41
    go_wp2_with (at_builtin;refine Kd.R_append_rows k64 (w0:=w) w.heap.size rfl _ _ 25 64 (.agg #[(.string ⟨#[]⟩),(.int .i64 0)]) 24 rfl Tryz.underlying25 info64 rfl (by decide) (by decide) (.slice (some ⟨w.heap.size,0,none⟩) 0 0) [] l0 (some ad) l0.length c0 (fun _=>True) (fun _=>False) rfl rfl ⟨fun _ _=>trivial,[],World.ownsRow_made w #[] 0 (Nat.le_refl _) (Nat.zero_le _) (by simp),Reps.none _ _⟩ (Kd.C_alloc HR.out _) (fun x cs h=>by obtain rfl:=k64_open h;exact k64_mkM _ _ _ x) (fun _ h=>h.elim) (fun _ _=>trivial) (below_alloc (Below.refl _ _) _) (by simp) (by simpa using hb) ?_;intro v1 w1 hO hb1 hg hat)
    go_wp2
    go_ret
    exact ⟨v1,rfl,by simpa using hO,hb1⟩
def impl_Entry_41.f (l0:List S64):Option (List S64):=if l0.length*24≤140737488355328 then some l0 else none
theorem impl_Entry_41.calls (A0:Option Addr) (c0:Nat) (l0:List S64) (r:List S64) (w:World) (hr0:Kd.C k64 w A0 l0.length l0) (hc0:l0.length≤c0) (h:impl_Entry_41.f l0=some r) :
    Calls Tryz.prog 41 #[.slice A0 l0.length c0] w fun e w'=>∃ v0_:Value,e=.returned v0_∧Kd.R k64 64 w' w.heap.size (fun _=>True) v0_ r∧Below w.heap.size w w':=by
  unfold impl_Entry_41.f at h
  by_cases hz:l0.length*24≤140737488355328
  · rw [if_pos hz] at h
    obtain rfl:=Option.some.inj h
    exact cloneE A0 c0 l0 w hr0 hz
  · rw [if_neg hz] at h;cases h

/-! ### impl_Disk_areEntries: function 42 -/
def nmc (c:UInt8):Bool:=decide (97≤c.toNat∧c.toNat≤122) || decide (48≤c.toNat∧c.toNat≤57) || decide (c.toNat=46) || decide (c.toNat=45)
def nmOk (l:List UInt8):Bool:=l.all nmc && decide (1≤l.length∧l.length≤20)
theorem nmc_true {c:UInt8} (h:(97≤c.toNat∧c.toNat≤122)∨(48≤c.toNat∧c.toNat≤57)∨c.toNat=46∨c.toNat=45):nmc c=true:=by
  unfold nmc
  rcases h with h | h | h | h <;> simp [h]
theorem nmc_false {c:UInt8} (h:c.toNat<45∨c.toNat=47∨(58≤c.toNat∧c.toNat≤96)∨123≤c.toNat):nmc c=false:=by
  unfold nmc
  rw [decide_eq_false (by omega),decide_eq_false (by omega),decide_eq_false (by omega),decide_eq_false (by omega)];rfl
set_option maxHeartbeats 4000000 in
theorem nameOk_any (s:ByteArray) (hs:s.size≤140737488355328) (W:World) :
    Calls Tryz.prog 54 #[.string s] W fun e w'=>e=.returned (.bool (nmOk s.data.toList))∧∃ q,w'=W.drewN q:=by
  have hll:s.data.toList.length=s.size:=Array.length_toList
  go_enter Tryz.func54,Tryz.ntmps54
  go_wp2
  go_loopg [7] s.size (fun g v7 w'=>∃ i:Nat,i≤s.size∧s.size-i≤g∧v7=.int .i64 i∧Aside0 ((s.data.toList.drop i).all nmc=s.data.toList.all nmc)∧∃ m,w'=W.drewN m)
  case atStart=>exact ⟨0,Nat.zero_le _,by omega,rfl,⟨rfl⟩,0,rfl⟩
  case round=>
    obtain ⟨i,hi,hg,rfl,A,⟨m,rfl⟩⟩:=hrel
    by_cases hlt:i<s.size
    · have hltz:(i:Int)<(s.size:Int):=by omega
      have hx:∀ h:i<s.size,((s[i]'h).toNat:Int)=((s.data.toList[i]'(by omega)).toNat:Int):=fun h=>rfl
      have hd:s.data.toList.drop i=s.data.toList[i]'(by omega) :: s.data.toList.drop (i+1):=List.drop_eq_getElem_cons (by omega)
      have A2:=A.out
      rw [hd,List.all_cons] at A2
      clear A hd
      generalize s.data.toList[i]'(by omega)=c at hx A2
      have hc256:c.toNat<256:=c.toNat_lt
      obtain ⟨z,hz⟩:∃ z:Int,z=(c.toNat:Int):=⟨_,rfl⟩
      rw [← hz] at hx
      have A3:=Aside0.mk A2
      have HZ:=Aside0.mk hz
      clear A2 hz
      have ok:∀ h:(97≤z∧z≤122)∨(48≤z∧z≤57)∨z=46∨z=45,Aside0 ((s.data.toList.drop (i+1)).all nmc=s.data.toList.all nmc):=fun h=>⟨by
        have h1:=A3.out
        have h2:=HZ.out
        rwa [nmc_true (by omega),Bool.true_and] at h1⟩
      have no:∀ h:z<45∨z=47∨(58≤z∧z≤96)∨123≤z,Aside0 (nmOk s.data.toList=false):=fun h=>⟨by
        have h1:=A3.out
        have h2:=HZ.out
        rw [nmc_false (by omega),Bool.false_and] at h1
        unfold nmOk
        rw [← h1,Bool.false_and]⟩
      have hz0:0≤z∧z<256:=by have:=HZ.out;omega
      clear HZ A3
      rcases (show (97≤z∧z≤122)∨(48≤z∧z≤57)∨z=46∨z=45∨z<45∨z=47∨(58≤z∧z≤96)∨123≤z by omega) with h | h | h | h | h | h | h | h
      · have A:=ok (by omega)
        clear ok no
        obtain ⟨h1,h2⟩:=h
        go_wp2
        go_roundg (s.size-(i+1))
        case measure=>omega
        case rel=>exact ⟨i+1,by omega,by omega,by go_num,A,_,rfl⟩
      · have A:=ok (by omega)
        clear ok no
        obtain ⟨h1,h2⟩:=h
        go_wp2
        go_roundg (s.size-(i+1))
        case measure=>omega
        case rel=>exact ⟨i+1,by omega,by omega,by go_num,A,_,rfl⟩
      · have A:=ok (by omega)
        clear ok no
        subst h
        go_wp2
        go_roundg (s.size-(i+1))
        case measure=>omega
        case rel=>exact ⟨i+1,by omega,by omega,by go_num,A,_,rfl⟩
      · have A:=ok (by omega)
        clear ok no
        subst h
        go_wp2
        go_roundg (s.size-(i+1))
        case measure=>omega
        case rel=>exact ⟨i+1,by omega,by omega,by go_num,A,_,rfl⟩
      · have A:=no (by omega)
        have e46:(z == 46)=false:=beq_eq_false_iff_ne.mpr (by omega)
        have e45:(z == 45)=false:=beq_eq_false_iff_ne.mpr (by omega)
        clear ok no
        go_wp2
        go_ret
        exact ⟨by rw [A.out];rfl,_,rfl⟩
      · have A:=no (by omega)
        have e46:(z == 46)=false:=beq_eq_false_iff_ne.mpr (by omega)
        have e45:(z == 45)=false:=beq_eq_false_iff_ne.mpr (by omega)
        clear ok no e46 e45
        subst h
        go_wp2
        go_ret
        exact ⟨by rw [A.out];rfl,_,rfl⟩
      · have A:=no (by omega)
        have d57:decide (z≤57)=false:=decide_eq_false (by omega)
        have e46:(z == 46)=false:=beq_eq_false_iff_ne.mpr (by omega)
        have e45:(z == 45)=false:=beq_eq_false_iff_ne.mpr (by omega)
        clear ok no
        obtain ⟨h1,h2⟩:=h
        go_wp2
        go_ret
        exact ⟨by rw [A.out];rfl,_,rfl⟩
      · have A:=no (by omega)
        have d57:decide (z≤57)=false:=decide_eq_false (by omega)
        have d122:decide (z≤122)=false:=decide_eq_false (by omega)
        have e46:(z == 46)=false:=beq_eq_false_iff_ne.mpr (by omega)
        have e45:(z == 45)=false:=beq_eq_false_iff_ne.mpr (by omega)
        clear ok no
        go_wp2
        go_ret
        exact ⟨by rw [A.out];rfl,_,rfl⟩
    · have hltz:¬ (i:Int)<(s.size:Int):=by omega
      have hall:s.data.toList.all nmc=true:=by rw [← A.out,List.drop_eq_nil_of_le (by omega)];rfl
      have HALL:=Aside0.mk hall
      clear hall A
      have fin:∀ b:Bool,b=decide (1≤s.size∧s.size≤20)→b=nmOk s.data.toList:=fun b hb=>by unfold nmOk;rw [HALL.out,Bool.true_and,hb,hll]
      rcases (show s.size<1∨(1≤s.size∧s.size≤20)∨20<s.size by omega) with h | h | h
      · have h1:(s.size:Int)<1:=by omega
        have FIN:=fin false (by rw [decide_eq_false (by omega)])
        clear fin
        have F:=Aside0.mk FIN
        clear FIN
        go_wp2
        go_ret
        exact ⟨by rw [← F.out];rfl,_,rfl⟩
      · have h1:(1:Int)≤s.size:=by omega
        have h2:(s.size:Int)≤20:=by omega
        have FIN:=fin true (by rw [decide_eq_true (by omega)])
        clear fin
        have F:=Aside0.mk FIN
        clear FIN
        go_wp2
        go_ret
        exact ⟨by rw [← F.out];rfl,_,rfl⟩
      · have h1:(20:Int)<s.size:=by omega
        have h2:(1:Int)≤s.size:=by omega
        have FIN:=fin false (by rw [decide_eq_false (by omega)])
        clear fin
        have F:=Aside0.mk FIN
        clear FIN
        go_wp2
        go_ret
        exact ⟨by rw [← F.out];show Ending.returned (Value.bool (decide ((s.size:Int)≤20)))=_;rw [decide_eq_false (by omega)],_,rfl⟩
def nameLe (a b:ByteArray):Bool:=Op.bytesLess a.toList b.toList || a.toList == b.toList
def entryFine (nodes:List S38) (prev:Option ByteArray) (x:S64):Bool:=(match prev with | none=>true | some p=>!nameLe x.f0 p) && (nmOk x.f0.data.toList && decide (0≤idxOf (fun n:S38=>n.f0 == x.f1) nodes 0))
def entriesFine (nodes:List S38):Option ByteArray→List S64→Bool
  | _,[]=>true
  | p,x :: l=>entryFine nodes p x && entriesFine nodes (some x.f0) l
def impl_Disk_areEntries.f (l0_0:List S38) (l0_1:List S64) (l0_2:List S64) (l0_3:List ByteArray) (a0_4:Int) (a0_5:Int) (l1:List S64):Option Bool:=if ∀ x∈l1,x.f0.size≤140737488355328 then some (entriesFine l0_0 none l1 && decide ((l1.length:Int)≤16)) else none
set_option maxHeartbeats 2000000 in
set_option maxRecDepth 100000 in
theorem impl_Disk_areEntries.calls (A0_0:Option Addr) (c0_0:Nat) (l0_0:List (S38)) (A0_1:Option Addr) (c0_1:Nat) (l0_1:List (S64)) (A0_2:Option Addr) (c0_2:Nat) (l0_2:List (S64)) (A0_3:Option Addr) (c0_3:Nat) (l0_3:List ByteArray) (a0_4:Int) (a0_5:Int) (A1:Option Addr) (c1:Nat) (l1:List (S64)) (r:Bool) (w:World) (hr0_0:Kd.C k38 w A0_0 l0_0.length l0_0) (hc0_0:l0_0.length≤c0_0) (hr0_1:Kd.C k64 w A0_1 l0_1.length l0_1) (hc0_1:l0_1.length≤c0_1) (hr0_2:Kd.C k64 w A0_2 l0_2.length l0_2) (hc0_2:l0_2.length≤c0_2) (hr0_3:Kd.C Kd.string w A0_3 l0_3.length l0_3) (hc0_3:l0_3.length≤c0_3) (hr1:Kd.C k64 w A1 l1.length l1) (hc1:l1.length≤c1) (h:impl_Disk_areEntries.f l0_0 l0_1 l0_2 l0_3 a0_4 a0_5 l1=some r) :
    Calls Tryz.prog 42 #[.agg #[.slice A0_0 l0_0.length c0_0,.slice A0_1 l0_1.length c0_1,.slice A0_2 l0_2.length c0_2,.slice A0_3 l0_3.length c0_3,.int .i64 a0_4,.int .i64 a0_5],.slice A1 l1.length c1] w fun e w'=>e=.returned (.bool r)∧Below w.heap.size w w':=by
  unfold impl_Disk_areEntries.f at h
  by_cases hsz:∀ x∈l1,x.f0.size≤140737488355328
  · rw [if_pos hsz] at h
    obtain rfl:=Option.some.inj h
    have hmax:=hr1.2.1
    have HR:=Aside0.mk hr1
    have HZ:=Aside0.mk hsz
    have HN:=Aside0.mk (fun (w1:World) (h:Below w.heap.size w w1) (v:Int)=>impl_Disk_nodeOf.calls A0_0 c0_0 l0_0 A0_1 c0_1 l0_1 A0_2 c0_2 l0_2 A0_3 c0_3 l0_3 a0_4 a0_5 v _ w1 (Kd.C_below hr0_0 h) hc0_0 (Kd.C_below hr0_1 h) hc0_1 (Kd.C_below hr0_2 h) hc0_2 (Kd.C_below hr0_3 h) hc0_3 rfl)
    clear h hsz hr1 hc1 hr0_0 hc0_0 hr0_1 hc0_1 hr0_2 hc0_2 hr0_3 hc0_3
    go_enter Tryz.func42,Tryz.ntmps42
    go_wp2_with (((with_reducible refine gate_dst (N:=2) rfl ?_);refine box_event ?hg (N:=2) ?hd (cs:=#[.slice A0_0 l0_0.length c0_0,.slice A0_1 l0_1.length c0_1,.slice A0_2 l0_2.length c0_2,.slice A0_3 l0_3.length c0_3,.int .i64 a0_4,.int .i64 a0_5]) (t:=28) ?hr ?_;(case hd=>rfl);(case hg=>rfl);(case hr=>(go_simp;done));intro g5 hg w1 hbox b5;have BK:=Aside0.mk hbox;have B1:=Aside0.mk b5;obtain ⟨q0,q1,q2,q3,q4,q5⟩:=b6of BK.out;clear hg hbox b5))
    go_loopg [9] l1.length (fun gg s8 wr=>∃ kk:Nat,kk≤l1.length∧l1.length-kk≤gg∧s8=.int .i64 kk∧Aside0 (Below w.heap.size w wr)∧Aside0 (wr.heap[g5]? = some (.cells #[.slice A0_0 l0_0.length c0_0,.slice A0_1 l0_1.length c0_1,.slice A0_2 l0_2.length c0_2,.slice A0_3 l0_3.length c0_3,.int .i64 a0_4,.int .i64 a0_5] 28))∧Aside0 (entriesFine l0_0 (prevE l1 kk) (l1.drop kk)=entriesFine l0_0 none l1))
    case atStart=>exact ⟨0,Nat.zero_le _,by omega,rfl,B1,BK,⟨rfl⟩⟩
    case round=>
      clear q0 q1 q2 q3 q4 q5
      obtain ⟨kk,hkk,hg,rfl,BW,BK2,A⟩:=hrel
      clear B1 BK
      by_cases hlt:kk<l1.length
      · have hltz:(kk:Int)<(l1.length:Int):=by omega
        obtain ⟨ad,rfl,hx0,hx1⟩:=at_T64 (Kd.C_below HR.out BW.out) (kk:Int) (by omega) hltz
        rw [Int.toNat_natCast] at hx0 hx1
        have hd:l1.drop kk=rd_T64 l1 (kk:Int) :: l1.drop (kk+1):=by
          rw [List.drop_eq_getElem_cons hlt]
          unfold rd_T64
          rw [Int.toNat_natCast,List.getD_eq_getElem?_getD,List.getElem?_eq_getElem hlt];rfl
        have hys:(rd_T64 l1 (kk:Int)).f0.size≤140737488355328:=HZ.out _ (by
          have hm:=List.mem_of_mem_drop (i:=kk) (l:=l1) (a:=rd_T64 l1 (kk:Int)) (by rw [hd];exact List.mem_cons_self)
          exact hm)
        have A2:=A.out
        rw [hd,entriesFine] at A2
        have A3:(entryFine l0_0 (prevE l1 kk) (rd_T64 l1 (kk:Int)) && entriesFine l0_0 (prevE l1 (kk+1)) (l1.drop (kk+1)))=entriesFine l0_0 none l1:=A2
        have AA:=Aside0.mk A3
        clear A A2 A3 hd
        generalize rd_T64 l1 (kk:Int)=y at hx0 hx1 AA hys
        have HY:=Aside0.mk hys
        clear hys
        go_wp2
        refine gen_wp (R:=fun W=>Below w.heap.size w W∧W.heap[g5]? = some (.cells #[.slice A0_0 l0_0.length c0_0,.slice A0_1 l0_1.length c0_1,.slice A0_2 l0_2.length c0_2,.slice A0_3 l0_3.length c0_3,.int .i64 a0_4,.int .i64 a0_5] 28)∧W.heap[wr.heap.size]? = some (.cells #[.string y.f0,.int .i64 y.f1] 64)) ⟨BW.out.alloc BW.out.size _,(heap_alloc_old wr _ (blk_lt BK2.out)).trans BK2.out,heap_alloc_new wr _⟩ ?_
        generalize wr.heap.size=g6
        rintro W2 ⟨hB2,hK2,hN2⟩
        have BW2:=Aside0.mk hB2
        have Z5:=Aside0.mk hK2
        have e0:W2.cell? ⟨g5,0,none⟩=some (.slice A0_0 l0_0.length c0_0):=(blk_cell hK2 0).trans rfl
        have e1:W2.cell? ⟨g5,1,none⟩=some (.slice A0_1 l0_1.length c0_1):=(blk_cell hK2 1).trans rfl
        have e2:W2.cell? ⟨g5,2,none⟩=some (.slice A0_2 l0_2.length c0_2):=(blk_cell hK2 2).trans rfl
        have e3:W2.cell? ⟨g5,3,none⟩=some (.slice A0_3 l0_3.length c0_3):=(blk_cell hK2 3).trans rfl
        have e4:W2.cell? ⟨g5,4,none⟩=some (.int .i64 a0_4):=(blk_cell hK2 4).trans rfl
        have e5:W2.cell? ⟨g5,5,none⟩=some (.int .i64 a0_5):=(blk_cell hK2 5).trans rfl
        have m0:W2.cell? ⟨g6,0,none⟩=some (.string y.f0):=(blk_cell hN2 0).trans rfl
        have m1:W2.cell? ⟨g6,1,none⟩=some (.int .i64 y.f1):=(blk_cell hN2 1).trans rfl
        clear hB2 hK2 hN2 hx0 hx1 BK2 BW
        have hk:=fun w=>nameOk_any y.f0 HY.out w
        have hn:=fun w1 h=>HN.out w1 h y.f1
        have A4:=AA.out
        unfold entryFine at A4
        generalize nmOk y.f0.data.toList=bn at hk A4
        generalize idxOf (fun n:S38=>n.f0 == y.f1) l0_0 0=t at hn A4
        have HK:=Aside0.mk hk
        have HM:=Aside0.mk hn
        have AB:=Aside0.mk A4
        clear A4 AA hk hn
        cases kk with
        | zero=>
          have AC:=Aside0.mk (show (true && (bn && decide (0≤t)) && entriesFine l0_0 (prevE l1 (0+1)) (l1.drop (0+1)))=entriesFine l0_0 none l1 from AB.out)
          clear AB
          cases bn with
          | false=>
            go_quiet ((go_at_call 54;with_reducible exact Calls.quiet_of (HK.out _)))
            go_wp2
            go_ret
            exact ⟨by rw [← AC.out];rfl,pw_below_drewN BW2.out _⟩
          | true=>
            have sq0_:∀ p_:LaidBy W2,p_.W.cell? ⟨g6,0,none⟩=some (.string y.f0):=fun p_=>p_.cell (m0)
            have sq1_:∀ p_:LaidBy W2,p_.W.cell? ⟨g6,1,none⟩=some (.int .i64 y.f1):=fun p_=>p_.cell (m1)
            have sq2_:∀ p_:LaidBy W2,p_.W.cell? ⟨g5,0,none⟩=some (.slice A0_0 l0_0.length c0_0):=fun p_=>p_.cell (e0)
            have sq3_:∀ p_:LaidBy W2,p_.W.cell? ⟨g5,1,none⟩=some (.slice A0_1 l0_1.length c0_1):=fun p_=>p_.cell (e1)
            have sq4_:∀ p_:LaidBy W2,p_.W.cell? ⟨g5,2,none⟩=some (.slice A0_2 l0_2.length c0_2):=fun p_=>p_.cell (e2)
            have sq5_:∀ p_:LaidBy W2,p_.W.cell? ⟨g5,3,none⟩=some (.slice A0_3 l0_3.length c0_3):=fun p_=>p_.cell (e3)
            have sq6_:∀ p_:LaidBy W2,p_.W.cell? ⟨g5,4,none⟩=some (.int .i64 a0_4):=fun p_=>p_.cell (e4)
            have sq7_:∀ p_:LaidBy W2,p_.W.cell? ⟨g5,5,none⟩=some (.int .i64 a0_5):=fun p_=>p_.cell (e5)
            refine wp_region_laid (by kernel_rfl) (by kernel_rfl) ?_
            repeat (go_big_quiet_step (first | (go_at_call 54;with_reducible exact laid_drawn _ (HK.out _)) | (go_at_call 77;with_reducible exact laid_of _ (HM.out _ (LaidBy.below _ BW2.out)))))
            refine wpQuiet_nil ?_
            rintro w9 ⟨p_,hp_⟩
            have hq_:Below W2.heap.size W2 w9:=hp_▸p_.ok
            clear hp_ p_ sq0_ sq1_ sq2_ sq3_ sq4_ sq5_ sq6_ sq7_
            have Z5:=Aside0.mk ((hq_.block g5 (blk_lt Z5.out)).trans Z5.out)
            have BD:=Aside0.mk hq_
            clear hq_
            by_cases ht:t<0
            · have ht1:decide (t<0)=true:=decide_eq_true ht
              rw [show decide (0≤t)=false from decide_eq_false (by omega)] at AC
              go_wp2
              go_ret
              exact ⟨by rw [← AC.out];rfl,BW2.out.trans (BD.out.mono BW2.out.size)⟩
            · have ht1:decide (t<0)=false:=decide_eq_false ht
              rw [show decide (0≤t)=true from decide_eq_true (by omega)] at AC
              go_wp2
              go_roundg (l1.length-(0+1))
              case measure=>omega
              case rel=>exact ⟨0+1,by omega,by omega,by go_num,⟨BW2.out.trans (BD.out.mono BW2.out.size)⟩,Z5,⟨AC.out⟩⟩
        | succ j=>
          have hw1:IntKind.i64.wrap ((j:Int)+1-1)=(j:Int):=by rw [show (j:Int)+1-1=(j:Int) by omega,IntKind.wrap_i64];omega
          have hw2:wrap64 (j:Int)=(j:Int):=by rw [← i64_w,IntKind.wrap_i64];omega
          have hj0:(0:Int)≤(j:Int):=by omega
          have hjl:(j:Int)<(l1.length:Int):=by omega
          obtain ⟨ad2,e2,hv0,hv1⟩:=at_T64 (Kd.C_below HR.out BW2.out) (j:Int) hj0 hjl
          cases e2
          rw [Int.toNat_natCast] at hv0 hv1
          clear hv1
          have AC:=Aside0.mk (show ((!nameLe y.f0 (rd_T64 l1 (j:Int)).f0) && (bn && decide (0≤t)) && entriesFine l0_0 (prevE l1 (j+1+1)) (l1.drop (j+1+1)))=entriesFine l0_0 none l1 from AB.out)
          clear AB
          generalize (rd_T64 l1 (j:Int)).f0=p0 at hv0 AC
          have V:=Aside0.mk hv0
          have hcm:(Op.bytesLess y.f0.toList p0.toList || y.f0.toList == p0.toList)=nameLe y.f0 p0:=rfl
          cases hle:nameLe y.f0 p0 with
          | true=>
            rw [hle] at hcm AC
            go_quiet (fail)
            go_wp2
            go_ret
            exact ⟨by rw [← AC.out];rfl,pw_below_drewN BW2.out _⟩
          | false=>
            rw [hle] at hcm AC
            cases bn with
            | false=>
              go_quiet ((go_at_call 54;with_reducible exact Calls.quiet_of (HK.out _)))
              go_wp2
              go_ret
              exact ⟨by rw [← AC.out];rfl,pw_below_drewN BW2.out _⟩
            | true=>
              have sq0_:∀ p_:LaidBy W2,p_.W.cell? ⟨g6,0,none⟩=some (.string y.f0):=fun p_=>p_.cell (m0)
              have sq1_:∀ p_:LaidBy W2,p_.W.cell? ⟨g6,1,none⟩=some (.int .i64 y.f1):=fun p_=>p_.cell (m1)
              have sq2_:∀ p_:LaidBy W2,p_.W.cell? ⟨g5,0,none⟩=some (.slice A0_0 l0_0.length c0_0):=fun p_=>p_.cell (e0)
              have sq3_:∀ p_:LaidBy W2,p_.W.cell? ⟨g5,1,none⟩=some (.slice A0_1 l0_1.length c0_1):=fun p_=>p_.cell (e1)
              have sq4_:∀ p_:LaidBy W2,p_.W.cell? ⟨g5,2,none⟩=some (.slice A0_2 l0_2.length c0_2):=fun p_=>p_.cell (e2)
              have sq5_:∀ p_:LaidBy W2,p_.W.cell? ⟨g5,3,none⟩=some (.slice A0_3 l0_3.length c0_3):=fun p_=>p_.cell (e3)
              have sq6_:∀ p_:LaidBy W2,p_.W.cell? ⟨g5,4,none⟩=some (.int .i64 a0_4):=fun p_=>p_.cell (e4)
              have sq7_:∀ p_:LaidBy W2,p_.W.cell? ⟨g5,5,none⟩=some (.int .i64 a0_5):=fun p_=>p_.cell (e5)
              have sq8_:∀ p_:LaidBy W2,p_.W.cell? (ad.add (j*2))=some (.string p0):=fun p_=>p_.cell (V.out)
              refine wp_region_laid (by kernel_rfl) (by kernel_rfl) ?_
              repeat (go_big_quiet_step (first | (go_at_call 54;with_reducible exact laid_drawn _ (HK.out _)) | (go_at_call 77;with_reducible exact laid_of _ (HM.out _ (LaidBy.below _ BW2.out)))))
              refine wpQuiet_nil ?_
              rintro w9 ⟨p_,hp_⟩
              have hq_:Below W2.heap.size W2 w9:=hp_▸p_.ok
              clear hp_ p_ sq0_ sq1_ sq2_ sq3_ sq4_ sq5_ sq6_ sq7_ sq8_
              have Z5:=Aside0.mk ((hq_.block g5 (blk_lt Z5.out)).trans Z5.out)
              have BD:=Aside0.mk hq_
              clear hq_
              by_cases ht:t<0
              · have ht1:decide (t<0)=true:=decide_eq_true ht
                rw [show decide (0≤t)=false from decide_eq_false (by omega)] at AC
                go_wp2
                go_ret
                exact ⟨by rw [← AC.out];rfl,BW2.out.trans (BD.out.mono BW2.out.size)⟩
              · have ht1:decide (t<0)=false:=decide_eq_false ht
                rw [show decide (0≤t)=true from decide_eq_true (by omega)] at AC
                go_wp2
                go_roundg (l1.length-(j+1+1))
                case measure=>omega
                case rel=>exact ⟨j+1+1,by omega,by omega,by go_num,⟨BW2.out.trans (BD.out.mono BW2.out.size)⟩,Z5,⟨AC.out⟩⟩
      · have hltz:¬ (kk:Int)<(l1.length:Int):=by omega
        have A2:=A.out
        rw [List.drop_of_length_le (by omega),entriesFine] at A2
        have A3:=Aside0.mk A2
        clear A A2
        go_wp2
        go_ret
        exact ⟨by rw [← A3.out,Bool.true_and];rfl,BW.out⟩
  · rw [if_neg hsz] at h;cases h

end Go.Proofs.YthbffdjjmapaaaaGreatDoor.MFnRenamed
