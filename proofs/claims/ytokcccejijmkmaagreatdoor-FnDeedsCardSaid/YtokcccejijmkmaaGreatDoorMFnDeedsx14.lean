/- Each theorem here says that a call of one Go function answers what the Lean function beside it answers; its conditions stand in it. Written by a program of this session. -/
import Derived.Test.YtokcccejijmkmaaGreatDoorMFnDeedsx0
import Derived.Test.YtokcccejijmkmaaGreatDoorMFnDeedsx3
import Derived.Test.YtokcccejijmkmaaGreatDoorMFnDeedsx7
import Derived.Test.YtokcccejijmkmaaGreatDoorMFnDeedsx10
import Derived.Test.YtokcccejijmkmaaGreatDoorMFnDeedsx12
import Derived.Test.YtokcccejijmkmaaGreatDoorMFnDeedsx13
namespace Go.Proofs.YtokcccejijmkmaaGreatDoor.MFnDeeds
set_option maxHeartbeats 40000000
set_option maxRecDepth 100000
open Go.RowKit Go.Proofs.YtokcccejijmkmaaGreatDoorW.PrintWords Go.Proofs.YtokcccejijmkmaaGreatDoorW.PrintLast Go.Proofs.YtokcccejijmkmaaGreatDoorW.PrintMore
attribute [local go_sem] max2_int min2_int max_two min_two max_three min_three max_four min_four
set_option linter.unusedVariables false
set_option linter.unusedSimpArgs false
section
variable {w w1:World} {g base:Nat} {b:List Int} {i h:Int} {v0 v1 v2 v3:Value} {a:List S45} {p q:List S47} {d:List ByteArray}
theorem own_far (hI:IsS87 w w1 g b i h) (hD:HasD w1 base v0 v1 v2 v3 a p q d):∀ k,ownD v0 v1 v2 v3 k→k≠g:=fun k hk e=>by
  subst e
  rcases hk with hk | hk | hk | hk
  · exact IsS87.own_ne hI hD.r0 (by decide) hk
  · exact IsS87.own_ne hI hD.r1 (by decide) hk
  · exact IsS87.own_ne hI hD.r2 (by decide) hk
  · exact IsS87.own_ne hI hD.r3 (by decide) hk
end
theorem z6_ {w:World} {g:Nat} {cs:Array Value} {t:TypeId} (h:w.heap[g]? = some (.cells cs t (0,0))) :
    w.frozen? ⟨g,0,none⟩=false∧w.frozen? ⟨g,1,none⟩=false∧w.frozen? ⟨g,2,none⟩=false∧w.frozen? ⟨g,3,none⟩=false∧w.frozen? ⟨g,4,none⟩=false∧w.frozen? ⟨g,5,none⟩=false:=
  ⟨blk_frozen h 0,blk_frozen h 1,blk_frozen h 2,blk_frozen h 3,blk_frozen h 4,blk_frozen h 5⟩
def spec_DrawAppendFile.f (k:Nat) (l0:List Int):Option (List S45×List S47×List S47×List ByteArray×Int×Int×ByteArray×ByteArray):=(spec_l01New.f k l0).bind fun y=>(spec_l05Any.f k y.1 y.2.1 y.2.2).bind fun o=>(spec_l05Name.f y.1 o.2.2.2.2.2.2.1 o.2.2.2.2.2.2.2).bind fun p=>(spec_l01Once.f y.1 p.2.1 p.2.2 6).bind fun t=>if t.1=true then (spec_l01Below.f y.1 t.2.1 t.2.2 200).bind fun m=>(spec_l01Long.f k (wrap64 (101+m.1)) 7).bind fun x=>some (o.1,o.2.1,o.2.2.1,o.2.2.2.1,o.2.2.2.2.1,o.2.2.2.2.2.1,p.1,x) else (spec_l01Below.f y.1 t.2.1 t.2.2 20).bind fun m=>(spec_l01Text.f k y.1 m.2.1 m.2.2 m.1).bind fun x=>some (o.1,o.2.1,o.2.2.1,o.2.2.2.1,o.2.2.2.2.1,o.2.2.2.2.2.1,p.1,x.1)
theorem spec_DrawAppendFile.mono:∀ l0 k,LeO (spec_DrawAppendFile.f k l0) (spec_DrawAppendFile.f (k+1) l0):=by
  intro l0 k
  unfold spec_DrawAppendFile.f
  repeat' first | (with_reducible exact LeO.refl _) | (with_reducible exact spec_l01New.mono _ _) | (with_reducible exact spec_l05Any.mono _ _ _ _) | (with_reducible exact spec_l01Text.mono _ _ _ _ _) | (with_reducible exact spec_l01Long.mono _ _ _) | (with_reducible refine LeO.ite ?_ ?_) | (with_reducible refine LeO.bind ?_ (fun _=>?_))
theorem spec_DrawAppendFile.calls (k:Nat) (A0:Option Addr) (c0:Nat) (l0:List Int) (r1:List S45) (r2:List S47) (r3:List S47) (r4:List ByteArray) (r5:Int) (r6:Int) (r7:ByteArray) (r8:ByteArray) (w:World) (hr0:Kd.C (Kd.int .u8) w A0 l0.length l0) (hc0:l0.length≤c0) (h:spec_DrawAppendFile.f k l0=some (r1,r2,r3,r4,r5,r6,r7,r8)) :
    Calls Tryz.prog 6 #[.slice A0 l0.length c0] w fun e w'=>∃ v0_ v1_ v2_ v3_:Value,e=.returned (.tuple #[.agg #[v0_,v1_,v2_,v3_,.int .i64 r5,.int .i64 r6],.string r7,.string r8])∧Kd.R k45 45 w' w.heap.size (fun _=>True) v0_ r1∧Kd.R k47 47 w' w.heap.size (fun k_=>some k_≠(v2_:Value).ownBlock) v1_ r2∧Kd.R k47 47 w' w.heap.size (fun k_=>some k_≠(v1_:Value).ownBlock) v2_ r3∧Kd.R Kd.string 9 w' w.heap.size (fun _=>True) v3_ r4∧Below w.heap.size w w':=by
  unfold spec_DrawAppendFile.f at h
  replace h:=zo h
  obtain ⟨⟨y0,y1,y2⟩,hy,h⟩:=h
  replace h:=zo h
  obtain ⟨⟨d1,d2,d3,d4,d5,d6,d7,d8⟩,hd,h⟩:=h
  dsimp only at hd h
  have HB:=zA (Below.refl w.heap.size w)
  have CN:=zA (fun (w1:World) (hB:Below w.heap.size w w1)=>spec_l01New.calls k A0 c0 l0 y0 y1 y2 w w1 hB hr0 hc0 hy)
  have CA:=zA (fun (w1:World) (g:Nat) (hI:IsS87 w w1 g y0 y1 y2) (hB:Below w.heap.size w w1)=>spec_l05Any.calls k g y0 y1 y2 d1 d2 d3 d4 d5 d6 d7 d8 w w1 hI hB hd)
  clear hy hd hr0 hc0
  replace h:=zo h
  obtain ⟨⟨p,p2,p3⟩,hp,h⟩:=h
  (try dsimp only at hp h)
  replace h:=zo h
  obtain ⟨⟨t,t2,t3⟩,ht,h⟩:=h
  (try dsimp only at ht h)
  have C1:=zA (fun (w1:World) (g:Nat) (hI:IsS87 w w1 g y0 d7 d8) (hB:Below w.heap.size w w1)=>spec_l05Name.calls g y0 d7 d8 p p2 p3 w w1 hI hB hp)
  have C2:=zA (fun (w1:World) (g:Nat) (hI:IsS87 w w1 g y0 p2 p3) (hB:Below w.heap.size w w1)=>spec_l01Once.calls g y0 p2 p3 6 t t2 t3 w w1 hI hB ht)
  clear hp ht
  cases t
  case false=>
    rw [if_neg (by decide)] at h
    replace h:=zo h
    obtain ⟨⟨m,m2,m3⟩,hm,h⟩:=h
    (try dsimp only at hm h)
    replace h:=zo h
    obtain ⟨⟨x,x2,x3⟩,hx,h⟩:=h
    (try dsimp only at hx h)
    have C3:=zA (fun (w1:World) (g:Nat) (hI:IsS87 w w1 g y0 t2 t3) (hB:Below w.heap.size w w1)=>spec_l01Below.calls g y0 t2 t3 20 m m2 m3 w w1 hI hB hm)
    have C4:=zA (fun (w1:World) (g:Nat) (hI:IsS87 w w1 g y0 m2 m3) (hB:Below w.heap.size w w1)=>spec_l01Text.calls k g y0 m2 m3 m x x2 x3 w w1 hI hB hx)
    simp only [Option.some.injEq,Prod.mk.injEq] at h
    obtain ⟨rfl,rfl,rfl,rfl,rfl,rfl,rfl,rfl⟩:=h
    clear hm hx
    go_enter Tryz.func6,Tryz.ntmps6
    go_wp2_with (first | ((with_reducible refine gate_dst (N:=2) rfl ?_);refine box_event ?hg (N:=2) ?hd (cs:=#[.slice none 0 0,.slice none 0 0,.slice none 0 0,.slice none 0 0,.int .i64 0,.int .i64 0]) (t:=28) ?hr ?_;(case hd=>rfl);(case hg=>rfl);(case hr=>(go_simp;done));intro gR hg w1 hbox hb;have GR0:=zA (show w.heap.size≤gR by rw [hg];exact Nat.le_refl _);have HB:=zA hb;have BR:=zA hbox;clear hb hbox hg) | (go_at_call 32;(with_reducible refine (CN.out _ HB.out).mono ?_);rintro e w1 ⟨g,rfl,hi,hB1,hb⟩;replace HB:=zs HB hb;(try replace BR:=zb BR hb);have HI:=zA hi;(try (have GR2:=zA (show gR≠g from (IsS87.ne_blk hi BR.out (by decide)).symm)));clear hi hb hB1) | (go_at_call 33;have hbs:=HB.out.size;(with_reducible refine (CA.out _ _ HI.out HB.out).mono ?_);rintro e w1 ⟨u0,u1,u2,u3,rfl,p0,p1,p2,p3,hi,hb,hk⟩;have hD:=HasD.of p0 p1 p2 p3;replace HI:=zA hi;replace HB:=zA hb;(try replace BR:=zA (KeepBut.blk hk BR.out GR2.out (by simp)));have Do:=zA (hD.lower hbs);obtain ⟨A0,a0,rfl⟩:=Kd.R_slice p0;obtain ⟨A1,a1,rfl⟩:=Kd.R_slice p1;obtain ⟨A2,a2,rfl⟩:=Kd.R_slice p2;obtain ⟨A3,a3,rfl⟩:=Kd.R_slice p3;clear hD hb hi hk hbs p0 p1 p2 p3) | ((with_reducible refine gate_store (t:=28) (p:=6) rfl ?_);refine store_event (t:=28) (p:=6) (w1:=w1.alloc (.cells #[.slice A0 d1.length a0,.slice A1 d2.length a1,.slice A2 d3.length a2,.slice A3 d4.length a3,.int .i64 d5,.int .i64 d6] 28 (0,0))) rfl rfl rfl ?hr ?_;(case hr=>(go_simp;done));intro wz hw;have hb:Below w1.heap.size w1 wz:=(by rw [hw];exact below_alloc (Below.refl _ _) _);have hbox:=(by rw [hw];exact blk_new w1 _:wz.heap[w1.heap.size]? = some (.cells #[.slice A0 d1.length a0,.slice A1 d2.length a1,.slice A2 d3.length a2,.slice A3 d4.length a3,.int .i64 d5,.int .i64 d6] 28 (0,0)));clear hw;obtain ⟨gD,hg⟩:∃ g,g=w1.heap.size:=⟨_,rfl⟩;rw [← hg] at hbox;have GD2:=zA (show gD≠g by rw [hg];exact Nat.ne_of_gt HI.out.lt);(try (have RD:=zA (show gR≠gD by rw [hg];exact Nat.ne_of_lt (blk_lt BR.out))));(try rw [← hg]);clear hg;(try replace HI:=zA (HI.out.below hb));replace HB:=zs HB hb;(try replace BR:=zb BR hb);(try replace Do:=zA (Do.out.on hb));have BD:=zA hbox;clear hb hbox;obtain ⟨w1,hw1⟩:∃ x,x=wz:=⟨_,rfl⟩;subst hw1;(try replace iD:=blk6 BD.out);(try replace zD:=z6_ BD.out)) | (go_at_call 34;(with_reducible refine (C1.out _ _ HI.out HB.out).mono ?_);rintro e w1 ⟨rfl,hi,hb,hk⟩;(try replace Do:=zA (Do.out.step fun k ho hl=>hk.2 k hl (own_far HI.out Do.out k ho) (by simp)));replace HI:=zA hi;replace HB:=zA hb;(try replace BD:=zA (KeepBut.blk hk BD.out GD2.out (by simp)));(try replace BR:=zA (KeepBut.blk hk BR.out GR2.out (by simp)));clear hi hb hk;(try replace iD:=blk6 BD.out);(try replace zD:=z6_ BD.out)) | (go_at_call 35;(with_reducible refine (C2.out _ _ HI.out HB.out).mono ?_);rintro e w1 ⟨rfl,hi,hb,hk⟩;(try replace Do:=zA (Do.out.step fun k ho hl=>hk.2 k hl (own_far HI.out Do.out k ho) (by simp)));replace HI:=zA hi;replace HB:=zA hb;(try replace BD:=zA (KeepBut.blk hk BD.out GD2.out (by simp)));(try replace BR:=zA (KeepBut.blk hk BR.out GR2.out (by simp)));clear hi hb hk;(try replace iD:=blk6 BD.out);(try replace zD:=z6_ BD.out)))
    (try clear iD zD)
    have hb:=below_drew (Below.refl w1.heap.size w1)
    (try replace HI:=zA (HI.out.below hb));replace HB:=zs HB hb;(try replace BD:=zb BD hb);(try replace BR:=zb BR hb);(try replace Do:=zA (Do.out.on hb));(try replace RL:=zA (Kd.R_below RL.out hb))
    clear hb
    refine start_ (n:=9) (S:=fun w'=>w'.cell? ⟨gD,0,none⟩=some (.slice A0 d1.length a0)∧w'.cell? ⟨gD,1,none⟩=some (.slice A1 d2.length a1)∧w'.cell? ⟨gD,2,none⟩=some (.slice A2 d3.length a2)∧w'.cell? ⟨gD,3,none⟩=some (.slice A3 d4.length a3)∧w'.cell? ⟨gD,4,none⟩=some (.int .i64 d5)∧w'.cell? ⟨gD,5,none⟩=some (.int .i64 d6)) (ds:=[]) (marks 9 0) (by kernel_rfl) rfl rfl (zc BD) (fun hHeld=>?_)
    generalize w1.drew=w2 at HI HB BD BR Do hHeld ⊢
    refine take_ (i:=0) (N:=some 22) (v:=?_) (a':=?_) (marks 9 1) rfl rfl (by kernel_rfl) (fun _ _ _ h=>h) (Or.inl ⟨by rfl,?_⟩) hHeld ?_ ?_
    rotate_left
    · rintro w' ⟨s0,s1,s2,s3,s4,s5⟩
      go_simp
      with_reducible rfl
    rotate_left
    · simp only [Act.put,yA,yB,yC,i64_w,i32_w]
      rfl
    refine pure_ (i:=1) (N:=some 23) (v:=?_) (a':=?_) (marks 9 3) rfl rfl (by kernel_rfl) (fun _ _ _ h=>h) (Or.inl ⟨by rfl,?_⟩) ?_ ?_
    rotate_left
    · intro w'
      go_simp
      with_reducible rfl
    rotate_left
    · simp only [Act.put,yA,yB,yC,i64_w,i32_w]
      rfl
    refine pure_ (i:=2) (N:=some 24) (v:=?_) (a':=?_) (marks 9 7) rfl rfl (by kernel_rfl) (fun _ _ _ h=>h) (Or.inl ⟨by rfl,?_⟩) ?_ ?_
    rotate_left
    · intro w'
      go_simp
      with_reducible rfl
    rotate_left
    · simp only [Act.put,yA,yB,yC,i64_w,i32_w]
      rfl
    refine pure_ (i:=3) (N:=some 25) (v:=?_) (a':=?_) (marks 9 15) rfl rfl (by kernel_rfl) (fun _ _ _ h=>h) (Or.inl ⟨by rfl,?_⟩) ?_ ?_
    rotate_left
    · intro w'
      go_simp
      with_reducible rfl
    rotate_left
    · simp only [Act.put,yA,yB,yC,i64_w,i32_w]
      rfl
    refine one_ (i:=4) (N:=some 26) (marks 9 31) rfl rfl (by kernel_rfl) (by decide) (fun K hK=>?_)
    refine goes_ Tryz.func37 (by kernel_rfl) rfl #[.pointer (some ⟨g,0,none⟩),.int .i64 20] (by rfl) rfl rfl (by (try simp only [List.map_toArray,List.map_cons,List.map_nil]);rfl) ?_
    with_reducible refine (C3.out _ _ HI.out HB.out).mono ?_
    rintro e w1 ⟨rfl,hi,hb,hk⟩
    refine ⟨_,rfl,?_⟩
    (try replace Do:=zA (Do.out.step fun k ho hl=>hk.2 k hl (own_far HI.out Do.out k ho) (by simp)));replace HI:=zA hi;replace HB:=zA hb;(try replace BD:=zA (KeepBut.blk hk BD.out GD2.out (by simp)));(try replace BR:=zA (KeepBut.blk hk BR.out GR2.out (by simp)))
    clear hi hb hk
    refine hK.out _ _ (zc BD) (fun hHeld=>?_)
    clear hK K
    refine norm_ (a':=?_) ?_ ?_
    rotate_left
    · show Act.put _ (some 26) _=_
      simp only [Act.put,yA,yB,yC,i64_w,i32_w]
      rfl
    refine one_ (i:=5) (N:=some 27) (marks 9 63) rfl rfl (by kernel_rfl) (by decide) (fun K hK=>?_)
    refine goes_ Tryz.func38 (by kernel_rfl) rfl #[.pointer (some ⟨g,0,none⟩),.int .i64 m] (by rfl) rfl rfl (by (try simp only [List.map_toArray,List.map_cons,List.map_nil]);rfl) ?_
    with_reducible refine (C4.out _ _ HI.out HB.out).mono ?_
    rintro e w1 ⟨rfl,hi,hb,hk⟩
    refine ⟨_,rfl,?_⟩
    (try replace Do:=zA (Do.out.step fun k ho hl=>hk.2 k hl (own_far HI.out Do.out k ho) (by simp)));replace HI:=zA hi;replace HB:=zA hb;(try replace BD:=zA (KeepBut.blk hk BD.out GD2.out (by simp)));(try replace BR:=zA (KeepBut.blk hk BR.out GR2.out (by simp)))
    clear hi hb hk
    refine hK.out _ _ (zc BD) (fun hHeld=>?_)
    clear hK K
    refine norm_ (a':=?_) ?_ ?_
    rotate_left
    · show Act.put _ (some 27) _=_
      simp only [Act.put,yA,yB,yC,i64_w,i32_w]
      rfl
    refine one_ (i:=6) (N:=none) (marks 9 127) rfl rfl (by kernel_rfl) (by decide) (fun K hK=>?_)
    have iR:=blk6 BR.out
    have zR:=z6_ BR.out
    refine skip_ (w1:=?_) (by rfl) rfl ?_ ?_
    rotate_left
    · go_simp
      rfl
    clear iR zR
    have hs:∀ j,j≠gR→((((((w1.setCell ⟨gR,0,none⟩ (.slice A0 d1.length a0)).setCell ⟨gR,1,none⟩ (.slice A1 d2.length a1)).setCell ⟨gR,2,none⟩ (.slice A2 d3.length a2)).setCell ⟨gR,3,none⟩ (.slice A3 d4.length a3)).setCell ⟨gR,4,none⟩ (.int .i64 d5)).setCell ⟨gR,5,none⟩ (.int .i64 d6)).heap[j]? = w1.heap[j]?:=fun j hj=>fill6_far hj
    have hG:=(hs gD (Ne.symm RD.out)).trans BD.out
    refine hK.out _ _ ⟨(blk_cell hG 0).trans rfl,(blk_cell hG 1).trans rfl,(blk_cell hG 2).trans rfl,(blk_cell hG 3).trans rfl,(blk_cell hG 4).trans rfl,(blk_cell hG 5).trans rfl⟩ (fun hHeld=>?_)
    clear hK K
    have hR:((((((w1.setCell ⟨gR,0,none⟩ (.slice A0 d1.length a0)).setCell ⟨gR,1,none⟩ (.slice A1 d2.length a1)).setCell ⟨gR,2,none⟩ (.slice A2 d3.length a2)).setCell ⟨gR,3,none⟩ (.slice A3 d4.length a3)).setCell ⟨gR,4,none⟩ (.int .i64 d5)).setCell ⟨gR,5,none⟩ (.int .i64 d6)).heap[gR]? = some (.cells #[.slice A0 d1.length a0,.slice A1 d2.length a1,.slice A2 d3.length a2,.slice A3 d4.length a3,.int .i64 d5,.int .i64 d6] 28 (0,0)):=fill6_at BR.out
    have hI:=cur6 HI.out (Ne.symm GR2.out) (.slice A0 d1.length a0) (.slice A1 d2.length a1) (.slice A2 d3.length a2) (.slice A3 d4.length a3) (.int .i64 d5) (.int .i64 d6)
    have hB1:Below w.heap.size w ((((((w1.setCell ⟨gR,0,none⟩ (.slice A0 d1.length a0)).setCell ⟨gR,1,none⟩ (.slice A1 d2.length a1)).setCell ⟨gR,2,none⟩ (.slice A2 d3.length a2)).setCell ⟨gR,3,none⟩ (.slice A3 d4.length a3)).setCell ⟨gR,4,none⟩ (.int .i64 d5)).setCell ⟨gR,5,none⟩ (.int .i64 d6)):=fill6_below HB.out GR0.out
    have Dm:=HasD.fill Do.out BR.out hs
    clear hs Do BD HI HB BR
    generalize ((((((w1.setCell ⟨gR,0,none⟩ (.slice A0 d1.length a0)).setCell ⟨gR,1,none⟩ (.slice A1 d2.length a1)).setCell ⟨gR,2,none⟩ (.slice A2 d3.length a2)).setCell ⟨gR,3,none⟩ (.slice A3 d4.length a3)).setCell ⟨gR,4,none⟩ (.int .i64 d5)).setCell ⟨gR,5,none⟩ (.int .i64 d6))=w3 at hG hR hI hB1 Dm hHeld ⊢
    have Do:=zA Dm
    have BD:=zA hG
    have BR:=zA hR
    have HI:=zA hI
    have HB:=zA hB1
    clear Dm hG hR hI hB1
    obtain ⟨w1,hw1⟩:∃ x,x=w3:=⟨_,rfl⟩
    subst hw1
    refine pure_ (i:=7) (N:=some 3) (v:=?_) (a':=?_) (marks 9 255) rfl rfl (by kernel_rfl) (fun _ _ _ h=>h) (Or.inl ⟨by rfl,?_⟩) ?_ ?_
    rotate_left
    · intro w'
      go_simp
      with_reducible rfl
    rotate_left
    · simp only [Act.put,yA,yB,yC,i64_w,i32_w]
      rfl
    refine pure_ (i:=8) (N:=some 4) (v:=?_) (a':=?_) (marks 9 511) rfl rfl (by kernel_rfl) (fun _ _ _ h=>h) (Or.inl ⟨by rfl,?_⟩) ?_ ?_
    rotate_left
    · intro w'
      go_simp
      with_reducible rfl
    rotate_left
    · simp only [Act.put,yA,yB,yC,i64_w,i32_w]
      rfl
    refine done_ (by kernel_rfl) ?_
    go_wp2_with fail
    refine bodyPost_ret (results_ctt rfl _ _ gR 28 #[.slice A0 d1.length a0,.slice A1 d2.length a1,.slice A2 d3.length a2,.slice A3 d4.length a3,.int .i64 d5,.int .i64 d6] (0,0) _ rfl BR.out Tryz.underlying28 rfl (by kernel_rfl)) rfl ?_
    have hT:=HasD.told Do.out
    exact ⟨_,_,_,_,rfl,hT.1,hT.2.1,hT.2.2.1,hT.2.2.2,HB.out⟩
  case true=>
    rw [if_pos rfl] at h
    replace h:=zo h
    obtain ⟨⟨m,m2,m3⟩,hm,h⟩:=h
    (try dsimp only at hm h)
    generalize hn:wrap64 (101+m)=n at h
    have hw_:IntKind.i64.wrap (101+m)=n:=(i64_w _).trans hn
    replace h:=zo h
    obtain ⟨x,hx,h⟩:=h
    (try dsimp only at hx h)
    have C3:=zA (fun (w1:World) (g:Nat) (hI:IsS87 w w1 g y0 t2 t3) (hB:Below w.heap.size w w1)=>spec_l01Below.calls g y0 t2 t3 200 m m2 m3 w w1 hI hB hm)
    have C4:=zA (fun (w1:World)=>spec_l01Long.calls k n 7 x w1 hx)
    simp only [Option.some.injEq,Prod.mk.injEq] at h
    obtain ⟨rfl,rfl,rfl,rfl,rfl,rfl,rfl,rfl⟩:=h
    clear hm hx hn
    go_enter Tryz.func6,Tryz.ntmps6
    go_wp2_with (first | ((with_reducible refine gate_dst (N:=2) rfl ?_);refine box_event ?hg (N:=2) ?hd (cs:=#[.slice none 0 0,.slice none 0 0,.slice none 0 0,.slice none 0 0,.int .i64 0,.int .i64 0]) (t:=28) ?hr ?_;(case hd=>rfl);(case hg=>rfl);(case hr=>(go_simp;done));intro gR hg w1 hbox hb;have GR0:=zA (show w.heap.size≤gR by rw [hg];exact Nat.le_refl _);have HB:=zA hb;have BR:=zA hbox;clear hb hbox hg) | (go_at_call 32;(with_reducible refine (CN.out _ HB.out).mono ?_);rintro e w1 ⟨g,rfl,hi,hB1,hb⟩;replace HB:=zs HB hb;(try replace BR:=zb BR hb);have HI:=zA hi;(try (have GR2:=zA (show gR≠g from (IsS87.ne_blk hi BR.out (by decide)).symm)));clear hi hb hB1) | (go_at_call 33;have hbs:=HB.out.size;(with_reducible refine (CA.out _ _ HI.out HB.out).mono ?_);rintro e w1 ⟨u0,u1,u2,u3,rfl,p0,p1,p2,p3,hi,hb,hk⟩;have hD:=HasD.of p0 p1 p2 p3;replace HI:=zA hi;replace HB:=zA hb;(try replace BR:=zA (KeepBut.blk hk BR.out GR2.out (by simp)));have Do:=zA (hD.lower hbs);obtain ⟨A0,a0,rfl⟩:=Kd.R_slice p0;obtain ⟨A1,a1,rfl⟩:=Kd.R_slice p1;obtain ⟨A2,a2,rfl⟩:=Kd.R_slice p2;obtain ⟨A3,a3,rfl⟩:=Kd.R_slice p3;clear hD hb hi hk hbs p0 p1 p2 p3) | ((with_reducible refine gate_store (t:=28) (p:=6) rfl ?_);refine store_event (t:=28) (p:=6) (w1:=w1.alloc (.cells #[.slice A0 d1.length a0,.slice A1 d2.length a1,.slice A2 d3.length a2,.slice A3 d4.length a3,.int .i64 d5,.int .i64 d6] 28 (0,0))) rfl rfl rfl ?hr ?_;(case hr=>(go_simp;done));intro wz hw;have hb:Below w1.heap.size w1 wz:=(by rw [hw];exact below_alloc (Below.refl _ _) _);have hbox:=(by rw [hw];exact blk_new w1 _:wz.heap[w1.heap.size]? = some (.cells #[.slice A0 d1.length a0,.slice A1 d2.length a1,.slice A2 d3.length a2,.slice A3 d4.length a3,.int .i64 d5,.int .i64 d6] 28 (0,0)));clear hw;obtain ⟨gD,hg⟩:∃ g,g=w1.heap.size:=⟨_,rfl⟩;rw [← hg] at hbox;have GD2:=zA (show gD≠g by rw [hg];exact Nat.ne_of_gt HI.out.lt);(try (have RD:=zA (show gR≠gD by rw [hg];exact Nat.ne_of_lt (blk_lt BR.out))));(try rw [← hg]);clear hg;(try replace HI:=zA (HI.out.below hb));replace HB:=zs HB hb;(try replace BR:=zb BR hb);(try replace Do:=zA (Do.out.on hb));have BD:=zA hbox;clear hb hbox;obtain ⟨w1,hw1⟩:∃ x,x=wz:=⟨_,rfl⟩;subst hw1;(try replace iD:=blk6 BD.out);(try replace zD:=z6_ BD.out)) | (go_at_call 34;(with_reducible refine (C1.out _ _ HI.out HB.out).mono ?_);rintro e w1 ⟨rfl,hi,hb,hk⟩;(try replace Do:=zA (Do.out.step fun k ho hl=>hk.2 k hl (own_far HI.out Do.out k ho) (by simp)));replace HI:=zA hi;replace HB:=zA hb;(try replace BD:=zA (KeepBut.blk hk BD.out GD2.out (by simp)));(try replace BR:=zA (KeepBut.blk hk BR.out GR2.out (by simp)));clear hi hb hk;(try replace iD:=blk6 BD.out);(try replace zD:=z6_ BD.out)) | (go_at_call 35;(with_reducible refine (C2.out _ _ HI.out HB.out).mono ?_);rintro e w1 ⟨rfl,hi,hb,hk⟩;(try replace Do:=zA (Do.out.step fun k ho hl=>hk.2 k hl (own_far HI.out Do.out k ho) (by simp)));replace HI:=zA hi;replace HB:=zA hb;(try replace BD:=zA (KeepBut.blk hk BD.out GD2.out (by simp)));(try replace BR:=zA (KeepBut.blk hk BR.out GR2.out (by simp)));clear hi hb hk;(try replace iD:=blk6 BD.out);(try replace zD:=z6_ BD.out)))
    (try clear iD zD)
    have hb:=below_drew (Below.refl w1.heap.size w1)
    (try replace HI:=zA (HI.out.below hb));replace HB:=zs HB hb;(try replace BD:=zb BD hb);(try replace BR:=zb BR hb);(try replace Do:=zA (Do.out.on hb));(try replace RL:=zA (Kd.R_below RL.out hb))
    clear hb
    refine start_ (n:=9) (S:=fun w'=>w'.cell? ⟨gD,0,none⟩=some (.slice A0 d1.length a0)∧w'.cell? ⟨gD,1,none⟩=some (.slice A1 d2.length a1)∧w'.cell? ⟨gD,2,none⟩=some (.slice A2 d3.length a2)∧w'.cell? ⟨gD,3,none⟩=some (.slice A3 d4.length a3)∧w'.cell? ⟨gD,4,none⟩=some (.int .i64 d5)∧w'.cell? ⟨gD,5,none⟩=some (.int .i64 d6)) (ds:=[]) (marks 9 0) (by kernel_rfl) rfl rfl (zc BD) (fun hHeld=>?_)
    generalize w1.drew=w2 at HI HB BD BR Do hHeld ⊢
    refine take_ (i:=0) (N:=some 16) (v:=?_) (a':=?_) (marks 9 1) rfl rfl (by kernel_rfl) (fun _ _ _ h=>h) (Or.inl ⟨by rfl,?_⟩) hHeld ?_ ?_
    rotate_left
    · rintro w' ⟨s0,s1,s2,s3,s4,s5⟩
      go_simp
      with_reducible rfl
    rotate_left
    · simp only [Act.put,yA,yB,yC,i64_w,i32_w]
      rfl
    refine pure_ (i:=1) (N:=some 17) (v:=?_) (a':=?_) (marks 9 3) rfl rfl (by kernel_rfl) (fun _ _ _ h=>h) (Or.inl ⟨by rfl,?_⟩) ?_ ?_
    rotate_left
    · intro w'
      go_simp
      with_reducible rfl
    rotate_left
    · simp only [Act.put,yA,yB,yC,i64_w,i32_w]
      rfl
    refine pure_ (i:=2) (N:=some 18) (v:=?_) (a':=?_) (marks 9 7) rfl rfl (by kernel_rfl) (fun _ _ _ h=>h) (Or.inl ⟨by rfl,?_⟩) ?_ ?_
    rotate_left
    · intro w'
      go_simp
      with_reducible rfl
    rotate_left
    · simp only [Act.put,yA,yB,yC,i64_w,i32_w]
      rfl
    refine one_ (i:=3) (N:=some 19) (marks 9 15) rfl rfl (by kernel_rfl) (by decide) (fun K hK=>?_)
    refine goes_ Tryz.func37 (by kernel_rfl) rfl #[.pointer (some ⟨g,0,none⟩),.int .i64 200] (by rfl) rfl rfl (by (try simp only [List.map_toArray,List.map_cons,List.map_nil]);rfl) ?_
    with_reducible refine (C3.out _ _ HI.out HB.out).mono ?_
    rintro e w1 ⟨rfl,hi,hb,hk⟩
    refine ⟨_,rfl,?_⟩
    (try replace Do:=zA (Do.out.step fun k ho hl=>hk.2 k hl (own_far HI.out Do.out k ho) (by simp)));replace HI:=zA hi;replace HB:=zA hb;(try replace BD:=zA (KeepBut.blk hk BD.out GD2.out (by simp)));(try replace BR:=zA (KeepBut.blk hk BR.out GR2.out (by simp)))
    clear hi hb hk
    refine hK.out _ _ (zc BD) (fun hHeld=>?_)
    clear hK K
    refine norm_ (a':=?_) ?_ ?_
    rotate_left
    · show Act.put _ (some 19) _=_
      simp only [Act.put,yA,yB,yC,i64_w,i32_w]
      rfl
    refine pure_ (i:=4) (N:=some 20) (v:=?_) (a':=?_) (marks 9 31) rfl rfl (by kernel_rfl) (fun _ _ _ h=>h) (Or.inl ⟨by rfl,?_⟩) ?_ ?_
    rotate_left
    · intro w'
      go_simp
      with_reducible rfl
    rotate_left
    · simp only [Act.put,yA,yB,yC,i64_w,i32_w]
      rfl
    refine one_ (i:=5) (N:=some 21) (marks 9 63) rfl rfl (by kernel_rfl) (by decide) (fun K hK=>?_)
    refine goes_ Tryz.func36 (by kernel_rfl) rfl #[.int .i64 n,.int .u8 7] (by rfl) rfl rfl (by (try simp only [List.map_toArray,List.map_cons,List.map_nil]);rfl) ?_
    with_reducible refine (C4.out w1).mono ?_
    rintro e w1 ⟨rfl,hb⟩
    refine ⟨_,rfl,?_⟩
    (try replace HI:=zA (HI.out.below hb));replace HB:=zs HB hb;(try replace BD:=zb BD hb);(try replace BR:=zb BR hb);(try replace Do:=zA (Do.out.on hb));(try replace RL:=zA (Kd.R_below RL.out hb))
    clear hb
    refine hK.out _ _ (zc BD) (fun hHeld=>?_)
    clear hK K
    refine norm_ (a':=?_) ?_ ?_
    rotate_left
    · show Act.put _ (some 21) _=_
      simp only [Act.put,yA,yB,yC,i64_w,i32_w]
      rfl
    refine one_ (i:=6) (N:=none) (marks 9 127) rfl rfl (by kernel_rfl) (by decide) (fun K hK=>?_)
    have iR:=blk6 BR.out
    have zR:=z6_ BR.out
    refine skip_ (w1:=?_) (by rfl) rfl ?_ ?_
    rotate_left
    · go_simp
      rfl
    clear iR zR
    have hs:∀ j,j≠gR→((((((w1.setCell ⟨gR,0,none⟩ (.slice A0 d1.length a0)).setCell ⟨gR,1,none⟩ (.slice A1 d2.length a1)).setCell ⟨gR,2,none⟩ (.slice A2 d3.length a2)).setCell ⟨gR,3,none⟩ (.slice A3 d4.length a3)).setCell ⟨gR,4,none⟩ (.int .i64 d5)).setCell ⟨gR,5,none⟩ (.int .i64 d6)).heap[j]? = w1.heap[j]?:=fun j hj=>fill6_far hj
    have hG:=(hs gD (Ne.symm RD.out)).trans BD.out
    refine hK.out _ _ ⟨(blk_cell hG 0).trans rfl,(blk_cell hG 1).trans rfl,(blk_cell hG 2).trans rfl,(blk_cell hG 3).trans rfl,(blk_cell hG 4).trans rfl,(blk_cell hG 5).trans rfl⟩ (fun hHeld=>?_)
    clear hK K
    have hR:((((((w1.setCell ⟨gR,0,none⟩ (.slice A0 d1.length a0)).setCell ⟨gR,1,none⟩ (.slice A1 d2.length a1)).setCell ⟨gR,2,none⟩ (.slice A2 d3.length a2)).setCell ⟨gR,3,none⟩ (.slice A3 d4.length a3)).setCell ⟨gR,4,none⟩ (.int .i64 d5)).setCell ⟨gR,5,none⟩ (.int .i64 d6)).heap[gR]? = some (.cells #[.slice A0 d1.length a0,.slice A1 d2.length a1,.slice A2 d3.length a2,.slice A3 d4.length a3,.int .i64 d5,.int .i64 d6] 28 (0,0)):=fill6_at BR.out
    have hI:=cur6 HI.out (Ne.symm GR2.out) (.slice A0 d1.length a0) (.slice A1 d2.length a1) (.slice A2 d3.length a2) (.slice A3 d4.length a3) (.int .i64 d5) (.int .i64 d6)
    have hB1:Below w.heap.size w ((((((w1.setCell ⟨gR,0,none⟩ (.slice A0 d1.length a0)).setCell ⟨gR,1,none⟩ (.slice A1 d2.length a1)).setCell ⟨gR,2,none⟩ (.slice A2 d3.length a2)).setCell ⟨gR,3,none⟩ (.slice A3 d4.length a3)).setCell ⟨gR,4,none⟩ (.int .i64 d5)).setCell ⟨gR,5,none⟩ (.int .i64 d6)):=fill6_below HB.out GR0.out
    have Dm:=HasD.fill Do.out BR.out hs
    clear hs Do BD HI HB BR
    generalize ((((((w1.setCell ⟨gR,0,none⟩ (.slice A0 d1.length a0)).setCell ⟨gR,1,none⟩ (.slice A1 d2.length a1)).setCell ⟨gR,2,none⟩ (.slice A2 d3.length a2)).setCell ⟨gR,3,none⟩ (.slice A3 d4.length a3)).setCell ⟨gR,4,none⟩ (.int .i64 d5)).setCell ⟨gR,5,none⟩ (.int .i64 d6))=w3 at hG hR hI hB1 Dm hHeld ⊢
    have Do:=zA Dm
    have BD:=zA hG
    have BR:=zA hR
    have HI:=zA hI
    have HB:=zA hB1
    clear Dm hG hR hI hB1
    obtain ⟨w1,hw1⟩:∃ x,x=w3:=⟨_,rfl⟩
    subst hw1
    refine pure_ (i:=7) (N:=some 3) (v:=?_) (a':=?_) (marks 9 255) rfl rfl (by kernel_rfl) (fun _ _ _ h=>h) (Or.inl ⟨by rfl,?_⟩) ?_ ?_
    rotate_left
    · intro w'
      go_simp
      with_reducible rfl
    rotate_left
    · simp only [Act.put,yA,yB,yC,i64_w,i32_w]
      rfl
    refine pure_ (i:=8) (N:=some 4) (v:=?_) (a':=?_) (marks 9 511) rfl rfl (by kernel_rfl) (fun _ _ _ h=>h) (Or.inl ⟨by rfl,?_⟩) ?_ ?_
    rotate_left
    · intro w'
      go_simp
      with_reducible rfl
    rotate_left
    · simp only [Act.put,yA,yB,yC,i64_w,i32_w]
      rfl
    refine done_ (by kernel_rfl) ?_
    go_wp2_with fail
    refine bodyPost_ret (results_ctt rfl _ _ gR 28 #[.slice A0 d1.length a0,.slice A1 d2.length a1,.slice A2 d3.length a2,.slice A3 d4.length a3,.int .i64 d5,.int .i64 d6] (0,0) _ rfl BR.out Tryz.underlying28 rfl (by kernel_rfl)) rfl ?_
    have hT:=HasD.told Do.out
    exact ⟨_,_,_,_,rfl,hT.1,hT.2.1,hT.2.2.1,hT.2.2.2,HB.out⟩
def spec_NodeAt.f (k:Nat) (aa:List S45) (ab:List S47) (ad:List S47) (ae:List ByteArray) (af:Int) (ag:Int) (a1:ByteArray):Option (Int×ByteArray×Int×Bool):=(spec_EntryAt.f k ab a1).bind fun i=>(spec_l05Node.f k aa ab ad ae af ag i).bind fun n=>if n<0 then some (0,(⟨#[]⟩:ByteArray),0,false) else (spec_l06Has.f k ab a1).bind fun t=>if t=true then (if 0≤n then (if n<(aa.length:Int) then some ((rd_T45 aa n).f0,(rd_T45 aa n).f1,(rd_T45 aa n).f2,true) else none) else none) else some (0,(⟨#[]⟩:ByteArray),0,false)
theorem spec_NodeAt.mono:∀ aa ab ad ae af ag a1 k,LeO (spec_NodeAt.f k aa ab ad ae af ag a1) (spec_NodeAt.f (k+1) aa ab ad ae af ag a1):=by
  intro aa ab ad ae af ag a1 k
  unfold spec_NodeAt.f
  repeat' first | (with_reducible exact LeO.refl _) | (with_reducible exact spec_EntryAt.mono _ _ _) | (with_reducible exact spec_l05Node.mono _ _ _ _ _ _ _ _) | (with_reducible exact spec_l06Has.mono _ _ _) | (with_reducible refine LeO.ite ?_ ?_) | (with_reducible refine LeO.bind ?_ (fun _=>?_))
theorem blk3_ {w:World} {g:Nat} {t:TypeId} {a b c:Value} (h:w.heap[g]? = some (.cells #[a,b,c] t (0,0))):(w.cell? ⟨g,0,none⟩=some a∧w.cell? ⟨g,1,none⟩=some b∧w.cell? ⟨g,2,none⟩=some c)∧w.frozen? ⟨g,0,none⟩=false∧w.frozen? ⟨g,1,none⟩=false∧w.frozen? ⟨g,2,none⟩=false:=
  ⟨⟨(blk_cell h 0).trans rfl,(blk_cell h 1).trans rfl,(blk_cell h 2).trans rfl⟩,blk_frozen h 0,blk_frozen h 1,blk_frozen h 2⟩
theorem put3_ {w:World} {g:Nat} {t:TypeId} {x0 x1 x2:Value} (h:w.heap[g]? = some (.cells #[x0,x1,x2] t (0,0))) (a b c:Value):(((w.setCell ⟨g,0,none⟩ a).setCell ⟨g,1,none⟩ b).setCell ⟨g,2,none⟩ c).heap[g]? = some (.cells #[a,b,c] t (0,0)):=blk_put (cs:=#[a,b,x2]) (blk_put (cs:=#[a,x1,x2]) (blk_put (cs:=#[x0,x1,x2]) h 0 _ rfl) 1 _ rfl) 2 _ rfl
theorem spec_NodeAt.calls (k:Nat) (ak:Option Addr) (al:Nat) (aa:List (S45)) (ag:Option Addr) (ah:Nat) (ab:List (S47)) (an:Option Addr) (ao:Nat) (ae:List (S47)) (aq:Option Addr) (ar:Nat) (af:List ByteArray) (au:Int) (av:Int) (a1:ByteArray) (r1:Int) (r2:ByteArray) (r3:Int) (r4:Bool) (w:World) (aw:Kd.C k45 w ak aa.length aa) (ax:aa.length≤al) (ai:Kd.C k47 w ag ab.length ab) (aj:ab.length≤ah) (ay:Kd.C k47 w an ae.length ae) (az:ae.length≤ao) (aA:Kd.C Kd.string w aq af.length af) (aB:af.length≤ar) (h:spec_NodeAt.f k aa ab ae af au av a1=some (r1,r2,r3,r4)) :
    Calls Tryz.prog 39 #[.agg #[.slice ak aa.length al,.slice ag ab.length ah,.slice an ae.length ao,.slice aq af.length ar,.int .i64 au,.int .i64 av],.string a1] w fun e w'=>e=.returned (.tuple #[.agg #[.int .i64 r1,.string r2,.int .i64 r3],.bool r4])∧Below w.heap.size w w':=by
  unfold spec_NodeAt.f at h
  replace h:=zo h
  obtain ⟨i,hi,h⟩:=h
  replace h:=zo h
  obtain ⟨n,hn,h⟩:=h
  have CI:=zA (fun (w1:World) (hb:Below w.heap.size w w1)=>((spec_EntryAt.calls k ag ah ab a1 i w1 (Kd.C_below ai hb) aj hi).mono (fun e w' q=>⟨q.1,by obtain ⟨nd,hnd⟩:=q.2;rw [hnd];exact pw_below_drewN (Below.refl _ _) nd⟩):Calls Tryz.prog 47 _ w1 fun e w'=>e=.returned (.int .i64 i)∧Below w1.heap.size w1 w'))
  have CN:=zA (fun (w1:World) (hb:Below w.heap.size w w1)=>spec_l05Node.calls k ak al aa ag ah ab an ao ae aq ar af au av i n w1 (Kd.C_below aw hb) ax (Kd.C_below ai hb) aj (Kd.C_below ay hb) az (Kd.C_below aA hb) aB hn)
  have BL:=zA (Below.refl w.heap.size w)
  have HR:=zA aw
  by_cases tn:n<0
  (rw [if_pos tn] at h;have t1:decide (n<0)=true:=zt tn;(simp only [Option.some.injEq,Prod.mk.injEq] at h);obtain ⟨rfl,rfl,rfl,rfl⟩:=h)
  (rotate_left 1;(rw [if_neg tn] at h;have t1:decide (n<0)=false:=zf tn;replace h:=zo h;obtain ⟨t,ht,h⟩:=h;have CH:=zA (fun (w1:World) (hb:Below w.heap.size w w1)=>spec_l06Has.calls k ag ah ab a1 t w1 (Kd.C_below ai hb) aj ht);clear ht;cases t);rotate_right 1)
  (rotate_left 1;(rw [if_neg (by decide)] at h;(simp only [Option.some.injEq,Prod.mk.injEq] at h);obtain ⟨rfl,rfl,rfl,rfl⟩:=h);rotate_right 1)
  (rotate_left 2;(rw [if_pos rfl] at h;by_cases n0:0≤n);rotate_right 2)
  (rotate_left 3;(rw [if_neg n0] at h;cases h);rotate_right 3)
  (rotate_left 2;(rw [if_pos n0] at h;by_cases n1:n<(aa.length:Int));rotate_right 2)
  (rotate_left 3;(rw [if_neg n1] at h;cases h);rotate_right 3)
  (rotate_left 2;(rw [if_pos n1] at h;(simp only [Option.some.injEq,Prod.mk.injEq] at h);obtain ⟨rfl,rfl,rfl,rfl⟩:=h);rotate_right 2)
  all_goals (clear hi hn aw ax ai aj ay az aA aB;go_enter Tryz.func39,Tryz.ntmps39;go_wp2_with (first | ((with_reducible refine gate_dst (N:=2) rfl ?_);refine box_event ?hg (N:=2) ?hd (cs:=#[.slice ak aa.length al,.slice ag ab.length ah,.slice an ae.length ao,.slice aq af.length ar,.int .i64 au,.int .i64 av]) (t:=28) ?hr ?_;(case hd=>rfl);(case hg=>rfl);(case hr=>(go_simp;done));intro gD hg w1 hbox hb;replace BL:=zs BL hb;have BD:=zA hbox;clear hg hbox hb;(try replace iD:=b6of BD.out)) | ((with_reducible refine gate_dst (N:=4) rfl ?_);refine box_event ?hg (N:=4) ?hd (cs:=#[.int .i64 0,.string (⟨#[]⟩:ByteArray),.int .i64 0]) (t:=45) ?hr ?_;(case hd=>rfl);(case hg=>rfl);(case hr=>(go_simp;done));intro gR hg w1 hbox hb;(try (have GR:=zA (show w.heap.size≤gR by rw [hg];exact BL.out.size)));replace BL:=zs BL hb;(try replace BD:=zb BD hb);have BR:=zA hbox;clear hg hbox hb;(try replace iD:=b6of BD.out);(try replace iR:=blk3_ BR.out))))
  all_goals
    have BN:=zA (Below.refl w1.heap.size w1)
    have CI2:=zA (fun (W:World) (hb:Below w1.heap.size w1 W)=>CI.out W (BL.out.trans (hb.mono BL.out.size)))
    have CN2:=zA (fun (W:World) (hb:Below w1.heap.size w1 W)=>CN.out W (BL.out.trans (hb.mono BL.out.size)))
    have aC:∀ p_:LaidBy w1,p_.W.cell? ⟨gD,0,none⟩=some (.slice ak aa.length al):=fun p_=>p_.cell (iD.1)
    have aD:∀ p_:LaidBy w1,p_.W.cell? ⟨gD,1,none⟩=some (.slice ag ab.length ah):=fun p_=>p_.cell (iD.2.1)
    have aE:∀ p_:LaidBy w1,p_.W.cell? ⟨gD,2,none⟩=some (.slice an ae.length ao):=fun p_=>p_.cell (iD.2.2.1)
    have aF:∀ p_:LaidBy w1,p_.W.cell? ⟨gD,3,none⟩=some (.slice aq af.length ar):=fun p_=>p_.cell (iD.2.2.2.1)
    have aG:∀ p_:LaidBy w1,p_.W.cell? ⟨gD,4,none⟩=some (.int .i64 au):=fun p_=>p_.cell (iD.2.2.2.2.1)
    have aH:∀ p_:LaidBy w1,p_.W.cell? ⟨gD,5,none⟩=some (.int .i64 av):=fun p_=>p_.cell (iD.2.2.2.2.2)
    refine wp_region_laid (by kernel_rfl) (by kernel_rfl) ?_
    repeat (go_big_quiet_step (first | (go_at_call 47;with_reducible exact laid_of _ (CI2.out _ (LaidBy.below _ BN.out))) | (go_at_call 46;with_reducible exact laid_of _ (CN2.out _ (LaidBy.below _ BN.out)))))
    refine wpQuiet_nil ?_
    rintro w9 ⟨p_,hp_⟩
    have hq_:Below w1.heap.size w1 w9:=hp_▸p_.ok
    clear hp_ p_ aC aD aE aF aG aH
    have hb:=hq_
    clear BN CI2 CN2 CI CN
    replace BL:=zs BL hb;(try replace BD:=zb BD hb);(try replace BR:=zb BR hb)
    clear hb hq_
    obtain ⟨w1,hw1⟩:∃ x,x=w9:=⟨_,rfl⟩
    subst hw1
    (try replace iD:=b6of BD.out);(try replace iR:=blk3_ BR.out)
  (focus (go_wp2_with fail;refine bodyPost_ret (results_ct rfl _ _ gR 45 #[.int .i64 0,.string (⟨#[]⟩:ByteArray),.int .i64 0] (0,0) _ rfl (put3_ BR.out _ _ _) Tryz.underlying45 rfl (by kernel_rfl)) rfl ?_;exact ⟨rfl,below_set (below_set (below_set BL.out GR.out) GR.out) GR.out⟩))
  (focus (go_wp2_with ((go_at_call 45;(with_reducible refine (CH.out _ BL.out).mono ?_);rintro e wq ⟨rfl,hq⟩;have hb:Below w1.heap.size w1 wq:=(by obtain ⟨nd,hnd⟩:=hq;rw [hnd];exact pw_below_drewN (Below.refl _ _) nd);clear hq;replace BL:=zs BL hb;(try replace BD:=zb BD hb);(try replace BR:=zb BR hb);clear hb;obtain ⟨w1,hw1⟩:∃ x,x=wq:=⟨_,rfl⟩;subst hw1;(try replace iD:=b6of BD.out);(try replace iR:=blk3_ BR.out)));refine bodyPost_ret (results_ct rfl _ _ gR 45 #[.int .i64 0,.string (⟨#[]⟩:ByteArray),.int .i64 0] (0,0) _ rfl (put3_ BR.out _ _ _) Tryz.underlying45 rfl (by kernel_rfl)) rfl ?_;exact ⟨rfl,below_set (below_set (below_set BL.out GR.out) GR.out) GR.out⟩))
  (focus (obtain ⟨ad,hA,x0,x1,x2⟩:=at_T45 (Kd.C_below HR.out BL.out) n n0 n1;subst hA;obtain ⟨kk,rfl⟩:∃ kk:Nat,n=(kk:Int):=⟨n.toNat,(by omega)⟩;rw [Int.toNat_natCast] at x0 x1 x2;go_wp2_with ((go_at_call 45;(with_reducible refine (CH.out _ BL.out).mono ?_);rintro e wq ⟨rfl,hq⟩;have hb:Below w1.heap.size w1 wq:=(by obtain ⟨nd,hnd⟩:=hq;rw [hnd];exact pw_below_drewN (Below.refl _ _) nd);clear hq;replace BL:=zs BL hb;(try replace BD:=zb BD hb);(try replace BR:=zb BR hb);clear hb;obtain ⟨w1,hw1⟩:∃ x,x=wq:=⟨_,rfl⟩;subst hw1;(try replace iD:=b6of BD.out);(try replace iR:=blk3_ BR.out);clear x0 x1 x2;obtain ⟨ad2,e2,x0,x1,x2⟩:=at_T45 (Kd.C_below HR.out BL.out) (kk:Int) n0 n1;injection e2 with e2;subst e2;rw [Int.toNat_natCast] at x0 x1 x2));refine bodyPost_ret (results_ct rfl _ _ gR 45 #[.int .i64 (rd_T45 aa kk).f0,.string (rd_T45 aa kk).f1,.int .i64 (rd_T45 aa kk).f2] (0,0) _ rfl (put3_ BR.out _ _ _) Tryz.underlying45 rfl (by kernel_rfl)) rfl ?_;exact ⟨rfl,below_set (below_set (below_set BL.out GR.out) GR.out) GR.out⟩))
def spec_ReadFile.f (k:Nat) (aa:List S45) (ab:List S47) (ad:List S47) (ae:List ByteArray) (af:Int) (ag:Int) (a1:ByteArray):Option (ByteArray×Bool):=(spec_NodeAt.f k aa ab ad ae af ag a1).bind fun o=>some (o.2.1,o.2.2.2)
theorem spec_ReadFile.mono:∀ aa ab ad ae af ag a1 k,LeO (spec_ReadFile.f k aa ab ad ae af ag a1) (spec_ReadFile.f (k+1) aa ab ad ae af ag a1):=by
  intro aa ab ad ae af ag a1 k
  unfold spec_ReadFile.f
  repeat' first | (with_reducible exact LeO.refl _) | (with_reducible exact spec_NodeAt.mono _ _ _ _ _ _ _ _) | (with_reducible refine LeO.bind ?_ (fun _=>?_))
theorem spec_ReadFile.calls (k:Nat) (af:Option Addr) (ag:Nat) (aa:List (S45)) (ah:Option Addr) (ai:Nat) (ab:List (S47)) (aj:Option Addr) (ak:Nat) (ad:List (S47)) (al:Option Addr) (an:Nat) (ae:List ByteArray) (ao:Int) (aq:Int) (a1:ByteArray) (r1:ByteArray) (r2:Bool) (w:World) (ar:Kd.C k45 w af aa.length aa) (au:aa.length≤ag) (av:Kd.C k47 w ah ab.length ab) (aw:ab.length≤ai) (ax:Kd.C k47 w aj ad.length ad) (ay:ad.length≤ak) (az:Kd.C Kd.string w al ae.length ae) (aA:ae.length≤an) (h:spec_ReadFile.f k aa ab ad ae ao aq a1=some (r1,r2)) :
    Calls Tryz.prog 7 #[.agg #[.slice af aa.length ag,.slice ah ab.length ai,.slice aj ad.length ak,.slice al ae.length an,.int .i64 ao,.int .i64 aq],.string a1] w fun e w'=>e=.returned (.tuple #[.string r1,.bool r2])∧Below w.heap.size w w':=by
  unfold spec_ReadFile.f at h
  replace h:=zo h
  obtain ⟨⟨m1,m2,m3,m4⟩,hm,h⟩:=h
  simp only [Option.some.injEq,Prod.mk.injEq] at h
  obtain ⟨rfl,rfl⟩:=h
  have C:=zA (fun (w1:World) (hb:Below w.heap.size w w1)=>spec_NodeAt.calls k af ag aa ah ai ab aj ak ad al an ae ao aq a1 m1 m2 m3 m4 w1 (Kd.C_below ar hb) au (Kd.C_below av hb) aw (Kd.C_below ax hb) ay (Kd.C_below az hb) aA hm)
  have BL:=zA (Below.refl w.heap.size w)
  clear hm ar au av aw ax ay az aA
  go_enter Tryz.func7,Tryz.ntmps7
  go_wp2_with (first | ((with_reducible refine gate_dst (N:=2) rfl ?_);refine box_event ?hg (N:=2) ?hd (cs:=#[.slice af aa.length ag,.slice ah ab.length ai,.slice aj ad.length ak,.slice al ae.length an,.int .i64 ao,.int .i64 aq]) (t:=28) ?hr ?_;(case hd=>rfl);(case hg=>rfl);(case hr=>(go_simp;done));intro gD hg w1 hbox hb;replace BL:=zs BL hb;have BD:=zA hbox;clear hg hbox hb;(try replace iD:=b6of BD.out)) | (go_at_call 39;(with_reducible refine (C.out _ BL.out).mono ?_);rintro e w1 ⟨rfl,hb⟩;replace BL:=zs BL hb;(try replace BD:=zb BD hb);clear hb;(try replace iD:=b6of BD.out)) | ((with_reducible refine gate_store (t:=45) (p:=6) rfl ?_);refine store_event (t:=45) (p:=6) (w1:=w1.alloc (.cells #[.int .i64 m1,.string m2,.int .i64 m3] 45 (0,0))) rfl rfl rfl ?hr ?_;(case hr=>(go_simp;done));intro wz hw;have hb:Below w1.heap.size w1 wz:=(by rw [hw];exact below_alloc (Below.refl _ _) _);have hbox:=(by rw [hw];exact blk_new w1 _:wz.heap[w1.heap.size]? = some (.cells #[.int .i64 m1,.string m2,.int .i64 m3] 45 (0,0)));clear hw;obtain ⟨gR,hg⟩:∃ g,g=w1.heap.size:=⟨_,rfl⟩;rw [← hg] at hbox;(try rw [← hg]);clear hg;replace BL:=zs BL hb;(try replace BD:=zb BD hb);have BR:=zA hbox;clear hb hbox;have i3:wz.cell? ⟨gR,1,none⟩=some (.string m2):=(blk_cell BR.out 1).trans rfl;obtain ⟨w1,hw1⟩:∃ x,x=wz:=⟨_,rfl⟩;subst hw1))
  go_ret2
  exact ⟨rfl,BL.out⟩
theorem cloneN (A0:Option Addr) (c0:Nat) (l0:List S45) (w:World) (hr:Kd.C k45 w A0 l0.length l0) (hb:l0.length*32≤140737488355328) :
    Calls Tryz.prog 82 #[.slice A0 l0.length c0] w fun e w'=>∃ v,e=.returned v∧Kd.R k45 45 w' w.heap.size (fun _=>True) v l0∧Below w.heap.size w w':=by
  have q22:∀ (w:World) (a:Option Addr) (n c n' c':Nat),(binOp .eql 24 (.slice a n c) (.slice none n' c')).run Tryz.prog w=.ok (.bool a.isNone) w:=fun w a n c n' c'=>Lib.run_eql_slice_nil w _ _ a n c n' c' Tryz.underlying24
  have HR:=zA hr
  cases A0 with
  | none=>
    have h0:l0=[]:=by
      rcases Nat.eq_zero_or_pos l0.length with h | h
      · exact List.eq_nil_of_length_eq_zero h
      · obtain ⟨ad,e,_⟩:=hr.2.2 h
        cases e
    subst h0
    clear hr
    go_enter Tryz.func82,Tryz.ntmps82
    go_wp2
    go_ret
    exact ⟨_,rfl,Kd.R_nil _ _ _ _ _,Below.refl _ _⟩
  | some ad=>
    clear hr
    go_enter Tryz.func82,Tryz.ntmps82
    go_wp2_with (at_builtin;refine Kd.R_append_rows k45 (w0:=w) w.heap.size rfl _ _ 24 45 (.agg #[(.int .i64 0),(.string ⟨#[]⟩),(.int .i64 0)]) 32 rfl Tryz.underlying24 info45 rfl (by decide) (by decide) (.slice (some ⟨w.heap.size,0,none⟩) 0 0) [] l0 (some ad) l0.length c0 (fun _=>True) (fun _=>False) rfl rfl ⟨fun _ _=>trivial,[],World.ownsRow_made w #[] 0 (Nat.le_refl _) (Nat.zero_le _) (by simp),Reps.none _ _⟩ (Kd.C_alloc HR.out _) (fun x cs h=>by obtain rfl:=k45_open h;exact k45_mkM _ _ _ x) (fun _ h=>h.elim) (fun _ _=>trivial) (below_alloc (Below.refl _ _) _) (by simp) (by simpa using hb) ?_;intro v1 w1 hO hb1 hg hat)
    go_wp2
    go_ret
    exact ⟨v1,rfl,by simpa using hO,hb1⟩
def impl_Node.f (l0:List (S45)):Option (List (S45)):=if l0.length*32≤140737488355328 then some l0 else none
theorem impl_Node.calls (A0:Option Addr) (c0:Nat) (l0:List (S45)) (r:List (S45)) (w:World) (hr0:Kd.C k45 w A0 l0.length l0) (hc0:l0.length≤c0) (h:impl_Node.f l0=some r) :
    Calls Tryz.prog 82 #[.slice A0 l0.length c0] w fun e w'=>∃ v0_:Value,e=.returned v0_∧Kd.R k45 45 w' w.heap.size (fun _=>True) v0_ r∧Below w.heap.size w w':=by
  unfold impl_Node.f at h
  by_cases hz:l0.length*32≤140737488355328
  · rw [if_pos hz] at h
    obtain rfl:=Option.some.inj h
    exact cloneN A0 c0 l0 w hr0 hz
  · rw [if_neg hz] at h;cases h
theorem cloneE (A0:Option Addr) (c0:Nat) (l0:List S47) (w:World) (hr:Kd.C k47 w A0 l0.length l0) (hb:l0.length*24≤140737488355328) :
    Calls Tryz.prog 83 #[.slice A0 l0.length c0] w fun e w'=>∃ v,e=.returned v∧Kd.R k47 47 w' w.heap.size (fun _=>True) v l0∧Below w.heap.size w w':=by
  have q22:∀ (w:World) (a:Option Addr) (n c n' c':Nat),(binOp .eql 25 (.slice a n c) (.slice none n' c')).run Tryz.prog w=.ok (.bool a.isNone) w:=fun w a n c n' c'=>Lib.run_eql_slice_nil w _ _ a n c n' c' Tryz.underlying25
  have HR:=zA hr
  cases A0 with
  | none=>
    have h0:l0=[]:=by
      rcases Nat.eq_zero_or_pos l0.length with h | h
      · exact List.eq_nil_of_length_eq_zero h
      · obtain ⟨ad,e,_⟩:=hr.2.2 h
        cases e
    subst h0
    clear hr
    go_enter Tryz.func83,Tryz.ntmps83
    go_wp2
    go_ret
    exact ⟨_,rfl,Kd.R_nil _ _ _ _ _,Below.refl _ _⟩
  | some ad=>
    clear hr
    go_enter Tryz.func83,Tryz.ntmps83
    go_wp2_with (at_builtin;refine Kd.R_append_rows k47 (w0:=w) w.heap.size rfl _ _ 25 47 (.agg #[(.string ⟨#[]⟩),(.int .i64 0)]) 24 rfl Tryz.underlying25 info47 rfl (by decide) (by decide) (.slice (some ⟨w.heap.size,0,none⟩) 0 0) [] l0 (some ad) l0.length c0 (fun _=>True) (fun _=>False) rfl rfl ⟨fun _ _=>trivial,[],World.ownsRow_made w #[] 0 (Nat.le_refl _) (Nat.zero_le _) (by simp),Reps.none _ _⟩ (Kd.C_alloc HR.out _) (fun x cs h=>by obtain rfl:=k47_open h;exact k47_mkM _ _ _ x) (fun _ h=>h.elim) (fun _ _=>trivial) (below_alloc (Below.refl _ _) _) (by simp) (by simpa using hb) ?_;intro v1 w1 hO hb1 hg hat)
    go_wp2
    go_ret
    exact ⟨v1,rfl,by simpa using hO,hb1⟩
def impl_Entry_83.f (l0:List S47):Option (List S47):=if l0.length*24≤140737488355328 then some l0 else none
theorem impl_Entry_83.calls (A0:Option Addr) (c0:Nat) (l0:List S47) (r:List S47) (w:World) (hr0:Kd.C k47 w A0 l0.length l0) (hc0:l0.length≤c0) (h:impl_Entry_83.f l0=some r) :
    Calls Tryz.prog 83 #[.slice A0 l0.length c0] w fun e w'=>∃ v0_:Value,e=.returned v0_∧Kd.R k47 47 w' w.heap.size (fun _=>True) v0_ r∧Below w.heap.size w w':=by
  unfold impl_Entry_83.f at h
  by_cases hz:l0.length*24≤140737488355328
  · rw [if_pos hz] at h
    obtain rfl:=Option.some.inj h
    exact cloneE A0 c0 l0 w hr0 hz
  · rw [if_neg hz] at h;cases h
theorem cloneS (A0:Option Addr) (c0:Nat) (l0:List ByteArray) (w:World) (hr:Kd.C Kd.string w A0 l0.length l0) (hb:l0.length*16≤140737488355328) :
    Calls Tryz.prog 84 #[.slice A0 l0.length c0] w fun e w'=>∃ v,e=.returned v∧Kd.R Kd.string 9 w' w.heap.size (fun _=>True) v l0∧Below w.heap.size w w':=by
  have q22:∀ (w:World) (a:Option Addr) (n c n' c':Nat),(binOp .eql 26 (.slice a n c) (.slice none n' c')).run Tryz.prog w=.ok (.bool a.isNone) w:=fun w a n c n' c'=>Lib.run_eql_slice_nil w _ _ a n c n' c' Tryz.underlying26
  have HR:=zA hr
  cases A0 with
  | none=>
    have h0:l0=[]:=by
      rcases Nat.eq_zero_or_pos l0.length with h | h
      · exact List.eq_nil_of_length_eq_zero h
      · obtain ⟨ad,e,_⟩:=hr.2.2 h
        cases e
    subst h0
    clear hr
    go_enter Tryz.func84,Tryz.ntmps84
    go_wp2
    go_ret
    exact ⟨_,rfl,Kd.R_nil _ _ _ _ _,Below.refl _ _⟩
  | some ad=>
    clear hr
    go_enter Tryz.func84,Tryz.ntmps84
    go_wp2_with (at_builtin;refine Kd.R_append_rows Kd.string (w0:=w) w.heap.size rfl _ _ 26 9 (.string ⟨#[]⟩) 16 rfl Tryz.underlying26 info9 rfl (by decide) (by decide) (.slice (some ⟨w.heap.size,0,none⟩) 0 0) [] l0 (some ad) l0.length c0 (fun _=>True) (fun _=>False) rfl rfl ⟨fun _ _=>trivial,[],World.ownsRow_made w #[] 0 (Nat.le_refl _) (Nat.zero_le _) (by simp),Reps.none _ _⟩ (Kd.C_alloc HR.out _) (fun _ _ h=>h) (fun _ h=>h.elim) (fun _ _=>trivial) (below_alloc (Below.refl _ _) _) (by simp) (by simpa using hb) ?_;intro v1 w1 hO hb1 hg hat)
    go_wp2
    go_ret
    exact ⟨v1,rfl,by simpa using hO,hb1⟩
def slices_Clone_string_string.f (l0:List (ByteArray)):Option (List (ByteArray)):=if l0.length*16≤140737488355328 then some l0 else none
theorem slices_Clone_string_string.calls (A0:Option Addr) (c0:Nat) (l0:List (ByteArray)) (r:List (ByteArray)) (w:World) (hr0:Kd.C Kd.string w A0 l0.length l0) (hc0:l0.length≤c0) (h:slices_Clone_string_string.f l0=some r) :
    Calls Tryz.prog 84 #[.slice A0 l0.length c0] w fun e w'=>∃ v0_:Value,e=.returned v0_∧Kd.R Kd.string 9 w' w.heap.size (fun _=>True) v0_ r∧Below w.heap.size w w':=by
  unfold slices_Clone_string_string.f at h
  by_cases hz:l0.length*16≤140737488355328
  · rw [if_pos hz] at h
    obtain rfl:=Option.some.inj h
    exact cloneS A0 c0 l0 w hr0 hz
  · rw [if_neg hz] at h;cases h
def impl_copyDisk.f (aa:List (S45)) (ab:List (S47)) (ad:List (S47)) (ae:List ByteArray) (af:Int) (ag:Int):Option ((List (S45))×(List (S47))×(List (S47))×List ByteArray×Int×Int):=(impl_Node.f aa).bind fun ah=>((impl_Entry_83.f ab).bind fun ai=>((impl_Entry_83.f ad).bind fun aj=>((slices_Clone_string_string.f ae).bind fun ak=>(some (ah,ai,aj,ak,af,ag)))))
def impl_copyDisk.T1:Bool×List (List Nat×List Nat):=(true,[([],[]),([0],[0]),([1],[1]),([],[]),([3],[3]),([4,2],[4]),([],[]),([6],[6]),([7,5],[7]),([],[]),([9],[9]),([10,8],[10]),([0,1,2,3,4,6,7,9,10],[]),([12,2,11,0,1,2,3,4,6,7,9,10],[2,12]),([0,1,2,3,4,5,6,7,9,10,12,13],[]),([14,5,13,0,1,2,3,4,5,6,7,9,10,12,13],[5,14]),([0,1,2,3,4,5,6,7,8,9,10,12,13,14,15],[]),([16,8,15,0,1,2,3,4,5,6,7,8,9,10,12,13,14,15],[8,16]),([0,1,2,3,4,5,6,7,8,9,10,11,12,13,14,15,16,17],[]),([18,11,17,0,1,2,3,4,5,6,7,8,9,10,11,12,13,14,15,16,17],[11,18])])
def impl_copyDisk.B1:List Nat:=[0,1,3,0,8,31,0,64,255,0,512,2047,1759,8191,16383,32767,65535,131071,262143,524287]
theorem impl_copyDisk.tab1:rtab .any (opsOf Tryz.f40 1)=impl_copyDisk.T1:=by kernel_rfl
theorem impl_copyDisk.bits1:waitsOk impl_copyDisk.T1.2 impl_copyDisk.B1=true:=by kernel_rfl
theorem impl_copyDisk.calls (aE:Option Addr) (aF:Nat) (aC:List (S45)) (aG:Option Addr) (aH:Nat) (az:List (S47)) (aI:Option Addr) (aJ:Nat) (aw:List (S47)) (aK:Option Addr) (aL:Nat) (ar:List ByteArray) (ak:Int) (al:Int) (r1:List (S45)) (r2:List (S47)) (r3:List (S47)) (r4:List ByteArray) (r5:Int) (r6:Int) (w:World) (aN:Kd.C k45 w aE aC.length aC) (aO:aC.length≤aF) (aP:Kd.C k47 w aG az.length az) (aQ:az.length≤aH) (aR:Kd.C k47 w aI aw.length aw) (aS:aw.length≤aJ) (aT:Kd.C Kd.string w aK ar.length ar) (aU:ar.length≤aL) (h:impl_copyDisk.f aC az aw ar ak al=some (r1,r2,r3,r4,r5,r6)) :
  Calls Tryz.prog 40 #[.agg #[.slice aE aC.length aF,.slice aG az.length aH,.slice aI aw.length aJ,.slice aK ar.length aL,.int .i64 ak,.int .i64 al]] w fun e w'=>∃ v0_ v1_ v2_ v3_:Value,e=.returned (.agg #[v0_,v1_,v2_,v3_,.int .i64 r5,.int .i64 r6])∧Kd.R k45 45 w' w.heap.size (fun _=>True) v0_ r1∧Kd.R k47 47 w' w.heap.size (fun k_=>some k_≠(v2_:Value).ownBlock) v1_ r2∧Kd.R k47 47 w' w.heap.size (fun k_=>some k_≠(v1_:Value).ownBlock) v2_ r3∧Kd.R Kd.string 9 w' w.heap.size (fun _=>True) v3_ r4∧Below w.heap.size w w':=by
 have aW:=zA aN
 have aX:=zA aO
 clear aN aO
 have aY:=zA aP
 have aZ:=zA aQ
 clear aP aQ
 have ba:=zA aR
 have bb:=zA aS
 clear aR aS
 have bc:=zA aT
 have bd:=zA aU
 clear aT aU
 have HB:=zA (Below.refl w.heap.size w)
 have H:((impl_Node.f aC).bind fun ae=>((impl_Entry_83.f az).bind fun af=>((impl_Entry_83.f aw).bind fun ag=>((slices_Clone_string_string.f ar).bind fun ah=>(some (ae,af,ag,ah,ak,al))))))=some (r1,r2,r3,r4,r5,r6):=h
 clear h
 obtain ⟨ae,A2,H⟩:=bA H
 replace H:((impl_Entry_83.f az).bind fun af=>((impl_Entry_83.f aw).bind fun ag=>((slices_Clone_string_string.f ar).bind fun ah=>(some (ae,af,ag,ah,ak,al)))))=some (r1,r2,r3,r4,r5,r6):=H
 obtain ⟨af,A3,H⟩:=bA H
 replace H:((impl_Entry_83.f aw).bind fun ag=>((slices_Clone_string_string.f ar).bind fun ah=>(some (ae,af,ag,ah,ak,al))))=some (r1,r2,r3,r4,r5,r6):=H
 obtain ⟨ag,A4,H⟩:=bA H
 replace H:((slices_Clone_string_string.f ar).bind fun ah=>(some (ae,af,ag,ah,ak,al)))=some (r1,r2,r3,r4,r5,r6):=H
 obtain ⟨ah,A5,H⟩:=bA H
 replace H:(some (ae,af,ag,ah,ak,al))=some (r1,r2,r3,r4,r5,r6):=H
 simp only [Option.some.injEq,Prod.mk.injEq] at H
 obtain ⟨rfl,rfl,rfl,rfl,rfl,rfl⟩:=H
 go_enter Tryz.func40,Tryz.ntmps40
 try go_wp2_with (first | ((with_reducible refine gate_dst (N:=1) rfl ?_);refine box_event ?hg (N:=1) ?hd (cs:=#[.slice aE aC.length aF,.slice aG az.length aH,.slice aI aw.length aJ,.slice aK ar.length aL,.int .i64 ak,.int .i64 al]) (t:=28) ?hr ?_;(case hd=>rfl);(case hg=>rfl);(case hr=>(go_simp;done));intro ab hg w6 hbox hb;have aa:=zA (hbox);have bf:=zA ((by rw [hg];exact (below_size HB.out):w.heap.size≤ab));replace HB:=zs HB hb;clear hb hbox hg) | ((with_reducible refine gate_dst (N:=2) rfl ?_);refine box_event ?hg (N:=2) ?hd (cs:=#[.slice none 0 0,.slice none 0 0,.slice none 0 0,.slice none 0 0,.int .i64 0,.int .i64 0]) (t:=28) ?hr ?_;(case hd=>rfl);(case hg=>rfl);(case hr=>(go_simp;done));intro aM hg w7 hbox hb;have ad:=zA (hbox);have bg:=zA ((by rw [hg];exact (below_size HB.out):w.heap.size≤aM));have ai:=zA ((by rw [hg];exact Nat.ne_of_gt (blk_lt aa.out):aM≠ab));replace aa:=zA (bB hb aa.out);replace HB:=zs HB hb;clear hb hbox hg))
 have n0_:=zA (blk_drew aa.out)
 have n1_:=zA (blk_drew ad.out)
 have n2_:=zA (below_drew1 HB.out)
 clear aa ad HB
 have aa:=n0_
 have ad:=n1_
 have HB:=n2_
 clear n0_ n1_ n2_
 refine start_ (n:=20) (S:=fun w'=>w'.cell? ⟨ab,0,none⟩=some (.slice aE aC.length aF)∧w'.cell? ⟨ab,1,none⟩=some (.slice aG az.length aH)∧w'.cell? ⟨ab,2,none⟩=some (.slice aI aw.length aJ)∧w'.cell? ⟨ab,3,none⟩=some (.slice aK ar.length aL)∧w'.cell? ⟨ab,4,none⟩=some (.int .i64 ak)∧w'.cell? ⟨ab,5,none⟩=some (.int .i64 al)) (ds:=[13,15,17,19]) (marks 20 0) (by kernel_rfl) rfl rfl (zc aa) (fun hHeld=>?_);refine with_tabW impl_copyDisk.tab1 impl_copyDisk.bits1 (fun HT_ HW_=>?_)
 generalize w7.drew=w8 at aa ad HB hHeld ⊢
 refine pure_ (i:=0) (N:=some 3) (v:=?_) (a':=?_) (marks 20 1) rfl rfl (any_of HT_.out (by kernel_rfl)) (fun _ _ _ h=>h) (Or.inl ⟨by rfl,?_⟩) ?_ ?_
 rotate_left
 ·intro w'
  go_simp
  with_reducible rfl
 rotate_left
 ·simp only [Act.put,yA,yB,yC,i64_w,i32_w]
  rfl
 refine pure_ (i:=3) (N:=some 6) (v:=?_) (a':=?_) (marks 20 9) rfl rfl (any_of HT_.out (by kernel_rfl)) (fun _ _ _ h=>h) (Or.inl ⟨by rfl,?_⟩) ?_ ?_
 rotate_left
 ·intro w'
  go_simp
  with_reducible rfl
 rotate_left
 ·simp only [Act.put,yA,yB,yC,i64_w,i32_w]
  rfl
 refine pure_ (i:=6) (N:=some 9) (v:=?_) (a':=?_) (marks 20 73) rfl rfl (any_of HT_.out (by kernel_rfl)) (fun _ _ _ h=>h) (Or.inl ⟨by rfl,?_⟩) ?_ ?_
 rotate_left
 ·intro w'
  go_simp
  with_reducible rfl
 rotate_left
 ·simp only [Act.put,yA,yB,yC,i64_w,i32_w]
  rfl
 refine pure_ (i:=9) (N:=some 12) (v:=?_) (a':=?_) (marks 20 585) rfl rfl (any_of HT_.out (by kernel_rfl)) (fun _ _ _ h=>h) (Or.inl ⟨by rfl,?_⟩) ?_ ?_
 rotate_left
 ·intro w'
  go_simp
  with_reducible rfl
 rotate_left
 ·simp only [Act.put,yA,yB,yC,i64_w,i32_w]
  rfl
 refine take_ (i:=1) (N:=some 4) (v:=?_) (a':=?_) (marks 20 587) rfl rfl (take_ofW HT_.out HW_.out (by kernel_rfl)) (fun _ _ _ h=>h) (Or.inl ⟨by rfl,?_⟩) hHeld ?_ ?_
 rotate_left
 ·rintro w' ⟨s0,s1,s2,s3,s4,s5⟩
  go_simp
  with_reducible rfl
 rotate_left
 ·simp only [Act.put,yA,yB,yC,i64_w,i32_w]
  rfl
 refine take_ (i:=4) (N:=some 7) (v:=?_) (a':=?_) (marks 20 603) rfl rfl (take_ofW HT_.out HW_.out (by kernel_rfl)) (fun _ _ _ h=>h) (Or.inl ⟨by rfl,?_⟩) hHeld ?_ ?_
 rotate_left
 ·rintro w' ⟨s0,s1,s2,s3,s4,s5⟩
  go_simp
  with_reducible rfl
 rotate_left
 ·simp only [Act.put,yA,yB,yC,i64_w,i32_w]
  rfl
 refine take_ (i:=7) (N:=some 10) (v:=?_) (a':=?_) (marks 20 731) rfl rfl (take_ofW HT_.out HW_.out (by kernel_rfl)) (fun _ _ _ h=>h) (Or.inl ⟨by rfl,?_⟩) hHeld ?_ ?_
 rotate_left
 ·rintro w' ⟨s0,s1,s2,s3,s4,s5⟩
  go_simp
  with_reducible rfl
 rotate_left
 ·simp only [Act.put,yA,yB,yC,i64_w,i32_w]
  rfl
 refine take_ (i:=10) (N:=some 13) (v:=?_) (a':=?_) (marks 20 1755) rfl rfl (take_ofW HT_.out HW_.out (by kernel_rfl)) (fun _ _ _ h=>h) (Or.inl ⟨by rfl,?_⟩) hHeld ?_ ?_
 rotate_left
 ·rintro w' ⟨s0,s1,s2,s3,s4,s5⟩
  go_simp
  with_reducible rfl
 rotate_left
 ·simp only [Act.put,yA,yB,yC,i64_w,i32_w]
  rfl
 refine one_ (i:=2) (N:=some 5) (marks 20 1759) rfl rfl (one_of HT_.out (by kernel_rfl)) (by decide) (fun K hK=>?_)
 refine goes_ Tryz.func82 (by kernel_rfl) rfl #[.slice aE aC.length aF] (by rfl) rfl rfl (by (try simp only [List.map_toArray,List.map_cons,List.map_nil]);rfl) ?_
 with_reducible refine (impl_Node.calls _ _ aC ae _ ?side1 ?side2 A2.out).mono ?_
 (case side1=>repeat (exact (Kd.C_below aW.out HB.out)))
 (case side2=>exact aX.out)
 rintro e w9 ⟨v281,rfl,ho0,hb⟩
 refine ⟨_,rfl,?_⟩
 have n0_:=zA (Kd.R_lower ho0 (below_size HB.out))
 have n1_:=zA (bB hb aa.out)
 have n2_:=zA (bB hb ad.out)
 have n3_:=zs HB hb
 clear aa ad HB
 have aj:=n0_
 have aa:=n1_
 have ad:=n2_
 have HB:=n3_
 clear n0_ n1_ n2_ n3_
 (try clear hb)
 (try clear hb2)
 (try clear hk)
 (try clear hi)
 (try clear ho0)
 refine hK.out _ _ (zc aa) (fun hHeld=>?_)
 clear hK K
 refine norm_ (a':=?_) ?_ ?_
 rotate_left
 ·show Act.put _ (some 5) _=_
  simp only [Act.put,yA,yB,yC,i64_w,i32_w]
  rfl
 refine pure_ (i:=12) (N:=some 15) (v:=?_) (a':=?_) (marks 20 5855) rfl rfl (any_of HT_.out (by kernel_rfl)) (fun _ _ _ h=>h) (Or.inl ⟨by rfl,?_⟩) ?_ ?_
 rotate_left
 ·intro w'
  go_simp
  with_reducible rfl
 rotate_left
 ·simp only [Act.put,yA,yB,yC,i64_w,i32_w]
  rfl
 refine one_ (i:=5) (N:=some 8) (marks 20 5887) rfl rfl (one_of HT_.out (by kernel_rfl)) (by decide) (fun K hK=>?_)
 refine goes_ Tryz.func83 (by kernel_rfl) rfl #[.slice aG az.length aH] (by rfl) rfl rfl (by (try simp only [List.map_toArray,List.map_cons,List.map_nil]);rfl) ?_
 with_reducible refine (impl_Entry_83.calls _ _ az af _ ?side1 ?side2 A3.out).mono ?_
 (case side1=>repeat (exact (Kd.C_below aY.out HB.out)))
 (case side2=>exact aZ.out)
 rintro e w10 ⟨v284,rfl,ho0,hb⟩
 refine ⟨_,rfl,?_⟩
 have n0_:=zA (Kd.R_below aj.out hb)
 have n1_:=zA (Kd.R_lower ho0 (below_size HB.out))
 have n2_:=zA (bB hb aa.out)
 have n3_:=zA (bB hb ad.out)
 have n4_:=zs HB hb
 clear aj aa ad HB
 have aj:=n0_
 have an:=n1_
 have aa:=n2_
 have ad:=n3_
 have HB:=n4_
 clear n0_ n1_ n2_ n3_ n4_
 (try clear hb)
 (try clear hb2)
 (try clear hk)
 (try clear hi)
 (try clear ho0)
 refine hK.out _ _ (zc aa) (fun hHeld=>?_)
 clear hK K
 refine norm_ (a':=?_) ?_ ?_
 rotate_left
 ·show Act.put _ (some 8) _=_
  simp only [Act.put,yA,yB,yC,i64_w,i32_w]
  rfl
 refine one_ (i:=8) (N:=some 11) (marks 20 6143) rfl rfl (one_of HT_.out (by kernel_rfl)) (by decide) (fun K hK=>?_)
 refine goes_ Tryz.func83 (by kernel_rfl) rfl #[.slice aI aw.length aJ] (by rfl) rfl rfl (by (try simp only [List.map_toArray,List.map_cons,List.map_nil]);rfl) ?_
 with_reducible refine (impl_Entry_83.calls _ _ aw ag _ ?side1 ?side2 A4.out).mono ?_
 (case side1=>repeat (exact (Kd.C_below ba.out HB.out)))
 (case side2=>exact bb.out)
 rintro e w11 ⟨v287,rfl,ho0,hb⟩
 refine ⟨_,rfl,?_⟩
 have n0_:=zA (Kd.R_below aj.out hb)
 have n1_:=zA (Kd.R_elder' an.out (Kd.R_base ho0) hb)
 have n2_:=zA (Kd.R_lower (Kd.R_new' ho0 (Kd.R_lt an.out)) (below_size HB.out))
 have n3_:=zA (bB hb aa.out)
 have n4_:=zA (bB hb ad.out)
 have n5_:=zs HB hb
 clear aj an aa ad HB
 have aj:=n0_
 have an:=n1_
 have aD:=n2_
 have aa:=n3_
 have ad:=n4_
 have HB:=n5_
 clear n0_ n1_ n2_ n3_ n4_ n5_
 (try clear hb)
 (try clear hb2)
 (try clear hk)
 (try clear hi)
 (try clear ho0)
 refine hK.out _ _ (zc aa) (fun hHeld=>?_)
 clear hK K
 refine norm_ (a':=?_) ?_ ?_
 rotate_left
 ·show Act.put _ (some 11) _=_
  simp only [Act.put,yA,yB,yC,i64_w,i32_w]
  rfl
 refine one_ (i:=11) (N:=some 14) (marks 20 8191) rfl rfl (one_of HT_.out (by kernel_rfl)) (by decide) (fun K hK=>?_)
 refine goes_ Tryz.func84 (by kernel_rfl) rfl #[.slice aK ar.length aL] (by rfl) rfl rfl (by (try simp only [List.map_toArray,List.map_cons,List.map_nil]);rfl) ?_
 with_reducible refine (slices_Clone_string_string.calls _ _ ar ah _ ?side1 ?side2 A5.out).mono ?_
 (case side1=>repeat (exact (Kd.C_below bc.out HB.out)))
 (case side2=>exact bd.out)
 rintro e w12 ⟨v290,rfl,ho0,hb⟩
 refine ⟨_,rfl,?_⟩
 have n0_:=zA (Kd.R_below aj.out hb)
 have n1_:=zA (Kd.R_below an.out hb)
 have n2_:=zA (Kd.R_below aD.out hb)
 have n3_:=zA (Kd.R_lower ho0 (below_size HB.out))
 have n4_:=zA (bB hb aa.out)
 have n5_:=zA (bB hb ad.out)
 have n6_:=zs HB hb
 clear aj an aD aa ad HB
 have aj:=n0_
 have an:=n1_
 have aD:=n2_
 have aV:=n3_
 have aa:=n4_
 have ad:=n5_
 have HB:=n6_
 clear n0_ n1_ n2_ n3_ n4_ n5_ n6_
 (try clear hb)
 (try clear hb2)
 (try clear hk)
 (try clear hi)
 (try clear ho0)
 obtain ⟨ao,aq,bh⟩:=Kd.R_slice aj.out
 (subst bh)
 obtain ⟨au,av,bj⟩:=Kd.R_slice an.out
 (subst bj)
 obtain ⟨ax,ay,bk⟩:=Kd.R_slice aD.out
 (subst bk)
 obtain ⟨aA,aB,bl⟩:=Kd.R_slice aV.out
 (subst bl)
 refine hK.out _ _ (zc aa) (fun hHeld=>?_)
 clear hK K
 refine norm_ (a':=?_) ?_ ?_
 rotate_left
 ·show Act.put _ (some 14) _=_
  simp only [Act.put,yA,yB,yC,i64_w,i32_w]
  rfl
 refine last_ (i:=13) (N:=none) (marks 20 16383) rfl rfl (one_of HT_.out (by kernel_rfl)) (by decide) (fun K hK=>?_)
 have hfs14:=blk_frozen aa.out 0
 refine skip_ (w1:=?_) (by rfl) rfl ?_ ?_
 rotate_left
 ·go_simp
  rfl
 refine hK.out _ _ ?_
 clear hK K
 refine pure_ (i:=14) (N:=some 16) (v:=?_) (a':=?_) (marks 20 32767) rfl rfl (any_of HT_.out (by kernel_rfl)) (fun _ _ _ h=>h) (Or.inl ⟨by rfl,?_⟩) ?_ ?_
 rotate_left
 ·intro w'
  go_simp
  with_reducible rfl
 rotate_left
 ·simp only [Act.put,yA,yB,yC,i64_w,i32_w]
  rfl
 refine last_ (i:=15) (N:=none) (marks 20 65535) rfl rfl (one_of HT_.out (by kernel_rfl)) (by decide) (fun K hK=>?_)
 have hfs16:=blk_frozen aa.out 1
 refine skip_ (w1:=?_) (by rfl) rfl ?_ ?_
 rotate_left
 ·go_simp
  rfl
 refine hK.out _ _ ?_
 clear hK K
 refine pure_ (i:=16) (N:=some 17) (v:=?_) (a':=?_) (marks 20 131071) rfl rfl (any_of HT_.out (by kernel_rfl)) (fun _ _ _ h=>h) (Or.inl ⟨by rfl,?_⟩) ?_ ?_
 rotate_left
 ·intro w'
  go_simp
  with_reducible rfl
 rotate_left
 ·simp only [Act.put,yA,yB,yC,i64_w,i32_w]
  rfl
 refine last_ (i:=17) (N:=none) (marks 20 262143) rfl rfl (one_of HT_.out (by kernel_rfl)) (by decide) (fun K hK=>?_)
 have hfs18:=blk_frozen aa.out 2
 refine skip_ (w1:=?_) (by rfl) rfl ?_ ?_
 rotate_left
 ·go_simp
  rfl
 refine hK.out _ _ ?_
 clear hK K
 refine pure_ (i:=18) (N:=some 18) (v:=?_) (a':=?_) (marks 20 524287) rfl rfl (any_of HT_.out (by kernel_rfl)) (fun _ _ _ h=>h) (Or.inl ⟨by rfl,?_⟩) ?_ ?_
 rotate_left
 ·intro w'
  go_simp
  with_reducible rfl
 rotate_left
 ·simp only [Act.put,yA,yB,yC,i64_w,i32_w]
  rfl
 refine last_ (i:=19) (N:=none) (marks 20 1048575) rfl rfl (one_of HT_.out (by kernel_rfl)) (by decide) (fun K hK=>?_)
 have hfs20:=blk_frozen aa.out 3
 refine skip_ (w1:=?_) (by rfl) rfl ?_ ?_
 rotate_left
 ·go_simp
  rfl
 refine hK.out _ _ ?_
 clear hK K
 refine done_ (done_of HT_.out (by kernel_rfl)) ?_
 have hnc21:=ai.out
 obtain ⟨hcz22_0,hcz22_1,hcz22_2,hcz22_3,hcz22_4,hcz22_5⟩:=b6of aa.out
 obtain ⟨hfz22_0,hfz22_1,hfz22_2,hfz22_3,hfz22_4,hfz22_5⟩:=z6of aa.out
 obtain ⟨hcz23_0,hcz23_1,hcz23_2,hcz23_3,hcz23_4,hcz23_5⟩:=b6of ad.out
 obtain ⟨hfz23_0,hfz23_1,hfz23_2,hfz23_3,hfz23_4,hfz23_5⟩:=z6of ad.out
 try go_wp2
 refine bodyPost_ret (results_cell_row rfl _ _ aM 28 #[.slice ao ae.length aq,.slice au af.length av,.slice ax ag.length ay,.slice aA ah.length aB,.int .i64 ak,.int .i64 al] (0,0) _ rfl (by refine blk_put (cs:=#[.slice ao ae.length aq,.slice au af.length av,.slice ax ag.length ay,.slice aA ah.length aB,.int .i64 ak,.int .i64 0]) ?_ 5 _ rfl;refine blk_put (cs:=#[.slice ao ae.length aq,.slice au af.length av,.slice ax ag.length ay,.slice aA ah.length aB,.int .i64 0,.int .i64 0]) ?_ 4 _ rfl;refine blk_put (cs:=#[.slice ao ae.length aq,.slice au af.length av,.slice ax ag.length ay,.slice none 0 0,.int .i64 0,.int .i64 0]) ?_ 3 _ rfl;refine blk_put (cs:=#[.slice ao ae.length aq,.slice au af.length av,.slice none 0 0,.slice none 0 0,.int .i64 0,.int .i64 0]) ?_ 2 _ rfl;refine blk_put (cs:=#[.slice ao ae.length aq,.slice none 0 0,.slice none 0 0,.slice none 0 0,.int .i64 0,.int .i64 0]) ?_ 1 _ rfl;refine blk_put (cs:=#[.slice none 0 0,.slice none 0 0,.slice none 0 0,.slice none 0 0,.int .i64 0,.int .i64 0]) ?_ 0 _ rfl;refine blk_far ?_ ai.out _;refine blk_far ?_ ai.out _;refine blk_far ?_ ai.out _;refine blk_far ?_ ai.out _;exact ad.out) Tryz.underlying28 rfl (by kernel_rfl)) rfl ?_
 all_goals exact ⟨_,_,_,_,by rfl,by exact Kd.R_mono (R6 (Kd.R_far (p:=⟨ab,3,none⟩) (Kd.R_far (p:=⟨ab,2,none⟩) (Kd.R_far (p:=⟨ab,1,none⟩) (Kd.R_far (p:=⟨ab,0,none⟩) (Kd.R_types (Kd.R_types aj.out aa.out (by decide)) ad.out (by decide)) (fun _ hk=>hk.1.2) (.slice ao ae.length aq)) (fun _ hk=>hk.1.2) (.slice au af.length av)) (fun _ hk=>hk.1.2) (.slice ax ag.length ay)) (fun _ hk=>hk.1.2) (.slice aA ah.length aB)) (.slice ao ae.length aq) (.slice au af.length av) (.slice ax ag.length ay) (.slice aA ah.length aB) (.int .i64 ak) (.int .i64 al)) (fun _ hk=>trivial),by exact Kd.R_mono (R6 (Kd.R_far (p:=⟨ab,3,none⟩) (Kd.R_far (p:=⟨ab,2,none⟩) (Kd.R_far (p:=⟨ab,1,none⟩) (Kd.R_far (p:=⟨ab,0,none⟩) (Kd.R_types (Kd.R_types an.out aa.out (by decide)) ad.out (by decide)) (fun _ hk=>hk.1.2) (.slice ao ae.length aq)) (fun _ hk=>hk.1.2) (.slice au af.length av)) (fun _ hk=>hk.1.2) (.slice ax ag.length ay)) (fun _ hk=>hk.1.2) (.slice aA ah.length aB)) (.slice ao ae.length aq) (.slice au af.length av) (.slice ax ag.length ay) (.slice aA ah.length aB) (.int .i64 ak) (.int .i64 al)) (fun _ hk=>hk.1.1.2),by exact Kd.R_mono (R6 (Kd.R_far (p:=⟨ab,3,none⟩) (Kd.R_far (p:=⟨ab,2,none⟩) (Kd.R_far (p:=⟨ab,1,none⟩) (Kd.R_far (p:=⟨ab,0,none⟩) (Kd.R_types (Kd.R_types aD.out aa.out (by decide)) ad.out (by decide)) (fun _ hk=>hk.1.2) (.slice ao ae.length aq)) (fun _ hk=>hk.1.2) (.slice au af.length av)) (fun _ hk=>hk.1.2) (.slice ax ag.length ay)) (fun _ hk=>hk.1.2) (.slice aA ah.length aB)) (.slice ao ae.length aq) (.slice au af.length av) (.slice ax ag.length ay) (.slice aA ah.length aB) (.int .i64 ak) (.int .i64 al)) (fun _ hk=>hk.1.1.2),by exact Kd.R_mono (R6 (Kd.R_far (p:=⟨ab,3,none⟩) (Kd.R_far (p:=⟨ab,2,none⟩) (Kd.R_far (p:=⟨ab,1,none⟩) (Kd.R_far (p:=⟨ab,0,none⟩) (Kd.R_types (Kd.R_types aV.out aa.out (by decide)) ad.out (by decide)) (fun _ hk=>hk.1.2) (.slice ao ae.length aq)) (fun _ hk=>hk.1.2) (.slice au af.length av)) (fun _ hk=>hk.1.2) (.slice ax ag.length ay)) (fun _ hk=>hk.1.2) (.slice aA ah.length aB)) (.slice ao ae.length aq) (.slice au af.length av) (.slice ax ag.length ay) (.slice aA ah.length aB) (.int .i64 ak) (.int .i64 al)) (fun _ hk=>trivial),by repeat (with_reducible first | exact HB.out | refine below_set ?_ bf.out | refine below_set ?_ bg.out)⟩
end Go.Proofs.YtokcccejijmkmaaGreatDoor.MFnDeeds
