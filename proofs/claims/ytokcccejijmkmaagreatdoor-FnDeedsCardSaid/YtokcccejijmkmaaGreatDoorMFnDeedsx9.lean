/- Each theorem here says that a call of one Go function answers what the Lean function beside it answers; its conditions stand in it. Written by a program of this session. -/
import Derived.Test.YtokcccejijmkmaaGreatDoorMFnDeedsx0
import Derived.Test.YtokcccejijmkmaaGreatDoorMFnDeedsx7
namespace Go.Proofs.YtokcccejijmkmaaGreatDoor.MFnDeeds
set_option maxHeartbeats 8000000
set_option maxRecDepth 100000
open Go.RowKit Go.Proofs.YtokcccejijmkmaaGreatDoorW.PrintWords Go.Proofs.YtokcccejijmkmaaGreatDoorW.PrintLast Go.Proofs.YtokcccejijmkmaaGreatDoorW.PrintMore
attribute [local go_sem] max2_int min2_int max_two min_two max_three min_three max_four min_four
set_option linter.unusedVariables false
set_option linter.unusedSimpArgs false
mutual
def spec_l06Clean.l0:Nat→List (S45)→Int→List (S45)→List (S47)→List (S47)→List ByteArray→Int→Int→Option ((List (S45))×(List (S47))×(List (S47))×List ByteArray×Int×Int)
 | 0,_,_,_,_,_,_,_,_=>none
 | k+1,x3,x4,aa,ae,ad,ab,af,ag=>if x4<(aa.length:Int) then (spec_l06Clean.l1 k x3 x4 false 0 aa ae ad ab af ag) else (some (x3,ae,ad,ab,af,ag))
def spec_l06Clean.l1:Nat→List (S45)→Int→Bool→Int→List (S45)→List (S47)→List (S47)→List ByteArray→Int→Int→Option ((List (S45))×(List (S47))×(List (S47))×List ByteArray×Int×Int)
 | 0,_,_,_,_,_,_,_,_,_,_=>none
 | k+1,x3,x4,x5,x6,aa,ae,ad,ab,af,ag=>if x6≤(ab.length:Int) then (spec_l06Clean.j2 k x3 x4 x5 x6 (!x5) aa ae ad ab af ag) else (spec_l06Clean.j2 k x3 x4 x5 x6 false aa ae ad ab af ag)
def spec_l06Clean.j2:Nat→List (S45)→Int→Bool→Int→Bool→List (S45)→List (S47)→List (S47)→List ByteArray→Int→Int→Option ((List (S45))×(List (S47))×(List (S47))×List ByteArray×Int×Int)
 | 0,_,_,_,_,_,_,_,_,_,_,_=>none
 | k+1,x3,x4,x5,x6,x26,aa,ae,ad,ab,af,ag=>if x26=true then ((spec_StepsDone.f k ad ab x6).bind fun ah=>(spec_l06Clean.l2 k x3 x4 x5 x6 ah.1 0 aa ae ad ab af ag)) else (if x5=true then (if 0≤x4 then (if x4<(aa.length:Int) then (if x3.length<4398046511104 then (spec_l06Clean.l0 k (x3++[(⟨(rd_T45 aa x4).f0,(rd_T45 aa x4).f1,(rd_T45 aa x4).f2⟩:S45)]) (wrap64 (x4+1)) aa ae ad ab af ag) else (none)) else (none)) else (none)) else (spec_l06Clean.l0 k x3 (wrap64 (x4+1)) aa ae ad ab af ag))
def spec_l06Clean.l2:Nat→List (S45)→Int→Bool→Int→List (S47)→Int→List (S45)→List (S47)→List (S47)→List ByteArray→Int→Int→Option ((List (S45))×(List (S47))×(List (S47))×List ByteArray×Int×Int)
 | 0,_,_,_,_,_,_,_,_,_,_,_,_=>none
 | k+1,x3,x4,x5,x6,x7,x9,aa,ae,ad,ab,af,ag=>if x9<(x7.length:Int) then (if x5=true then (spec_l06Clean.l2 k x3 x4 true x6 x7 (wrap64 (x9+1)) aa ae ad ab af ag) else (if 0≤x9 then (if 0≤x4 then (if x4<(aa.length:Int) then (spec_l06Clean.l2 k x3 x4 (((rd_T47 x7 x9).f1) == ((rd_T45 aa x4).f0)) x6 x7 (wrap64 (x9+1)) aa ae ad ab af ag) else (none)) else (none)) else (none))) else (spec_l06Clean.l1 k x3 x4 x5 (wrap64 (x6+1)) aa ae ad ab af ag)
end
def spec_l06Clean.f (k:Nat) (aa:List (S45)) (ab:List (S47)) (ad:List (S47)) (ae:List ByteArray) (af:Int) (ag:Int):Option ((List (S45))×(List (S47))×(List (S47))×List ByteArray×Int×Int):=spec_l06Clean.l0 k (([]:List (S45))) 0 aa ab ad ae af ag
theorem spec_l06Clean.mono_l:∀ k,(∀ y0 y1 y2 y3 y4 y5 y6 y7,LeO (spec_l06Clean.l0 k y0 y1 y2 y3 y4 y5 y6 y7) (spec_l06Clean.l0 (k+1) y0 y1 y2 y3 y4 y5 y6 y7))∧(∀ y0 y1 y2 y3 y4 y5 y6 y7 y8 y9,LeO (spec_l06Clean.l1 k y0 y1 y2 y3 y4 y5 y6 y7 y8 y9) (spec_l06Clean.l1 (k+1) y0 y1 y2 y3 y4 y5 y6 y7 y8 y9))∧(∀ y0 y1 y2 y3 y4 y5 y6 y7 y8 y9 y10,LeO (spec_l06Clean.j2 k y0 y1 y2 y3 y4 y5 y6 y7 y8 y9 y10) (spec_l06Clean.j2 (k+1) y0 y1 y2 y3 y4 y5 y6 y7 y8 y9 y10))∧(∀ y0 y1 y2 y3 y4 y5 y6 y7 y8 y9 y10 y11,LeO (spec_l06Clean.l2 k y0 y1 y2 y3 y4 y5 y6 y7 y8 y9 y10 y11) (spec_l06Clean.l2 (k+1) y0 y1 y2 y3 y4 y5 y6 y7 y8 y9 y10 y11))
 | 0=>⟨fun _ _ _ _ _ _ _ _ r h=>by simp [spec_l06Clean.l0] at h,fun _ _ _ _ _ _ _ _ _ _ r h=>by simp [spec_l06Clean.l1] at h,fun _ _ _ _ _ _ _ _ _ _ _ r h=>by simp [spec_l06Clean.j2] at h,fun _ _ _ _ _ _ _ _ _ _ _ _ r h=>by simp [spec_l06Clean.l2] at h⟩
 | k+1=>by
  obtain ⟨ih0,ih1,ih2,ih3⟩:=spec_l06Clean.mono_l k
  refine ⟨?_,?_,?_,?_⟩
  ·intro y0 y1 y2 y3 y4 y5 y6 y7
   unfold spec_l06Clean.l0
   repeat' first | (with_reducible exact ih1 _ _ _ _ _ _ _ _ _ _) | (with_reducible exact LeO.refl _) | (with_reducible refine LeO.ite ?_ ?_)
  ·intro y0 y1 y2 y3 y4 y5 y6 y7 y8 y9
   unfold spec_l06Clean.l1
   repeat' first | (with_reducible exact ih2 _ _ _ _ _ _ _ _ _ _ _) | (with_reducible refine LeO.ite ?_ ?_)
  ·intro y0 y1 y2 y3 y4 y5 y6 y7 y8 y9 y10
   unfold spec_l06Clean.j2
   repeat' first | (with_reducible exact ih0 _ _ _ _ _ _ _ _) | (with_reducible exact ih3 _ _ _ _ _ _ _ _ _ _ _ _) | (with_reducible exact spec_StepsDone.mono _ _ _ _) | (with_reducible exact LeO.refl _) | (with_reducible refine LeO.ite ?_ ?_) | (with_reducible refine LeO.bind ?_ (fun _=>?_))
  ·intro y0 y1 y2 y3 y4 y5 y6 y7 y8 y9 y10 y11
   unfold spec_l06Clean.l2
   repeat' first | (with_reducible exact ih1 _ _ _ _ _ _ _ _ _ _) | (with_reducible exact ih3 _ _ _ _ _ _ _ _ _ _ _ _) | (with_reducible exact LeO.refl _) | (with_reducible refine LeO.ite ?_ ?_)
theorem spec_l06Clean.mono:∀ a0 a1 a2 a3 a4 a5 k,LeO (spec_l06Clean.f k a0 a1 a2 a3 a4 a5) (spec_l06Clean.f (k+1) a0 a1 a2 a3 a4 a5):=by
 intro a0 a1 a2 a3 a4 a5 k
 obtain ⟨ih0,ih1,ih2,ih3⟩:=spec_l06Clean.mono_l k
 unfold spec_l06Clean.f
 repeat' (with_reducible exact ih0 _ _ _ _ _ _ _ _)
theorem spec_l06Clean.calls (k:Nat) (bg:Option Addr) (bf:Nat) (aj:List (S45)) (ae:Nat→Prop) (aM:Value) (al:List (S47)) (af:Nat→Prop) (aN:Value) (ak:List (S47)) (ah:Nat→Prop) (bh:Value) (an:List ByteArray) (ar:Int) (au:Int) (r1:List (S45)) (r2:List (S47)) (r3:List (S47)) (r4:List ByteArray) (r5:Int) (r6:Int) (w0 w:World) (hB:Below w0.heap.size w0 w) (ch:∀ W_,Kept w W_ (fun k_=>ae k_∨af k_∨ah k_)→Kd.C k45 W_ bg aj.length aj) (cw:aj.length≤bf) (cj:Kd.R k47 47 w w0.heap.size ae aM al) (bM:∀ k_,ae k_→¬ af k_) (ck:Kd.R k47 47 w w0.heap.size af aN ak) (bN:∀ k_,af k_→¬ ae k_) (cx:Kd.R Kd.string 9 w w0.heap.size ah bh an) (h:spec_l06Clean.f k aj al ak an ar au=some (r1,r2,r3,r4,r5,r6)) :
  Calls Tryz.prog 66 #[.agg #[.slice bg aj.length bf,aM,aN,bh,.int .i64 ar,.int .i64 au]] w fun e w'=>∃ v0_ v1_ v2_ v3_:Value,e=.returned (.agg #[v0_,v1_,v2_,v3_,.int .i64 r5,.int .i64 r6])∧Kd.R k45 45 w' w0.heap.size (fun k_=>((ae k_∨af k_∨ah k_)∨w.heap.size≤k_)) v0_ r1∧Kd.R k47 47 w' w0.heap.size (fun k_=>((ae k_∨af k_∨ah k_)∨w.heap.size≤k_)∧some k_≠(v2_:Value).ownBlock) v1_ r2∧Kd.R k47 47 w' w0.heap.size (fun k_=>((ae k_∨af k_∨ah k_)∨w.heap.size≤k_)∧some k_≠(v1_:Value).ownBlock) v2_ r3∧Kd.R Kd.string 9 w' w0.heap.size (fun k_=>((ae k_∨af k_∨ah k_)∨w.heap.size≤k_)) v3_ r4∧Below w0.heap.size w0 w'∧Kept w w' (fun k_=>ae k_∨af k_∨ah k_):=by
 have cl:=zA ch
 clear ch cw
 have aE:=zA (show Kd.R k47 47 w w0.heap.size (fun k_=>((ae k_∨af k_∨ah k_)∨w.heap.size≤k_)∧some k_≠(aN:Value).ownBlock) aM al from Kd.R_mono cj (fun k_ hk=>⟨(.inl (.inl hk)),fun e_=>bM k_ hk (ck.1 k_ e_.symm)⟩))
 have aG:=zA (show Kd.R k47 47 w w0.heap.size (fun k_=>((ae k_∨af k_∨ah k_)∨w.heap.size≤k_)∧some k_≠(aM:Value).ownBlock) aN ak from Kd.R_mono ck (fun k_ hk=>⟨(.inl (.inr (.inl hk))),fun e_=>bN k_ hk (cj.1 k_ e_.symm)⟩))
 have aH:=zA (show Kd.R Kd.string 9 w w0.heap.size (fun k_=>((ae k_∨af k_∨ah k_)∨w.heap.size≤k_)) bh an from Kd.R_mono cx (fun k_ hk=>(.inl (.inr (.inr hk)))))
 have HK:=zA (Kept.refl w (fun k_=>ae k_∨af k_∨ah k_))
 have HB:=zA hB
 clear hB
 have H:(spec_l06Clean.l0 k (([]:List (S45))) 0 aj al ak an ar au)=some (r1,r2,r3,r4,r5,r6):=h
 clear h
 obtain ⟨cy,bP⟩:∃ y_:List (S45),y_=(([]:List (S45))):=⟨_,rfl⟩
 replace H:(spec_l06Clean.l0 k cy 0 aj al ak an ar au)=some (r1,r2,r3,r4,r5,r6):=by (rw [bP];with_reducible exact H)
 have cz:=zA bP
 clear bP
 have H':=zA H
 clear H
 obtain ⟨Ao2,co2,eo2⟩:=Kd.R_slice aE.out
 subst eo2
 obtain ⟨Ao3,co3,eo3⟩:=Kd.R_slice aG.out
 subst eo3
 obtain ⟨Ao4,co4,eo4⟩:=Kd.R_slice aH.out
 subst eo4
 go_enter Tryz.func66,Tryz.ntmps66
 go_wp2_with (first | ((with_reducible refine gate_dst (N:=1) rfl ?_);refine box_event ?hg (N:=1) ?hd (cs:=#[.slice bg aj.length bf,.slice Ao2 al.length co2,.slice Ao3 ak.length co3,.slice Ao4 an.length co4,.int .i64 ar,.int .i64 au]) (t:=28) ?hr ?_;(case hd=>rfl);(case hg=>rfl);(case hr=>(go_simp;done));intro aw hg w5 hbox hb;have ag:=zA (hbox);have cA:=zA (by rw [hg];exact HK.out.1:w.heap.size≤aw);have cB:=zA ((by rw [hg];exact (below_size HB.out):w0.heap.size≤aw));replace aE:=zA (Kd.R_below aE.out hb);replace aG:=zA (Kd.R_below aG.out hb);replace aH:=zA (Kd.R_below aH.out hb);replace HK:=zA (Kept.below (S:=(fun k_=>ae k_∨af k_∨ah k_)) HK.out hb);replace HB:=zs HB hb;clear hb hbox hg) | ((with_reducible refine gate_dst (N:=2) rfl ?_);refine box_event ?hg (N:=2) ?hd (cs:=#[.slice none 0 0,.slice none 0 0,.slice none 0 0,.slice none 0 0,.int .i64 0,.int .i64 0]) (t:=28) ?hr ?_;(case hd=>rfl);(case hg=>rfl);(case hr=>(go_simp;done));intro az hg w6 hbox hb;have ao:=zA (hbox);have cC:=zA (by rw [hg];exact HK.out.1:w.heap.size≤az);have cD:=zA ((by rw [hg];exact (below_size HB.out):w0.heap.size≤az));have aK:=zA ((by rw [hg];exact Nat.ne_of_gt (blk_lt ag.out):az≠aw));replace aE:=zA (Kd.R_below aE.out hb);replace aG:=zA (Kd.R_below aG.out hb);replace aH:=zA (Kd.R_below aH.out hb);replace ag:=zA (bB hb ag.out);replace HK:=zA (Kept.below (S:=(fun k_=>ae k_∨af k_∨ah k_)) HK.out hb);replace HB:=zs HB hb;clear hb hbox hg) | ((with_reducible refine gate_dst (N:=10) rfl ?_);refine Kd.R_lit k45 _ 45 ?hg (N:=10) ?hd (xs:=([]:List (S45))) (inner:=[]) (ok:=fun _=>True) (okp:=fun _=>True) ?hr ?hp (fun _ hk=>hk) trivial (Below.refl _ _) (Nat.le_refl _) (by simp) ?_;(case hd=>rfl);(case hg=>rfl);(case hr=>(go_simp;done));(case hp=>exact (Reps.none _ _));intro v239 w7 ho8 hb hg_ hnew_;clear hg_ hnew_;(rw [← cz.out] at ho8);have cE:=zA (Kd.R_lower (Kd.R_newM (M:=fun k_=>((ae k_∨af k_∨ah k_)∨w.heap.size≤k_)) ho8 HK.out.1 (fun k_ h_=>.inr h_)) (below_size HB.out));replace aE:=zA (Kd.R_below aE.out hb);replace aG:=zA (Kd.R_below aG.out hb);replace aH:=zA (Kd.R_below aH.out hb);replace ag:=zA (bB hb ag.out);replace ao:=zA (bB hb ao.out);replace HK:=zA (Kept.below (S:=(fun k_=>ae k_∨af k_∨ah k_)) HK.out hb);replace HB:=zs HB hb;clear hb ho8))
 repeat (go_quiet (fail);try go_wp2_with fail)
 go_loopg [3,4] k (fun kq v3 v4 w'=>∃ (aq:List (S45)) (ai:Int),v4=.int .i64 ai∧Aside0 (spec_l06Clean.l0 kq aq ai aj al ak an ar au=some (r1,r2,r3,r4,r5,r6))∧Aside0 (kq≤k)∧Aside0 (Kd.R k45 45 w' w0.heap.size (fun k_=>((ae k_∨af k_∨ah k_)∨w.heap.size≤k_)) v3 aq)∧Aside0 (Kd.R k47 47 w' w0.heap.size (fun k_=>((ae k_∨af k_∨ah k_)∨w.heap.size≤k_)∧some k_≠((.slice Ao3 ak.length co3):Value).ownBlock) (.slice Ao2 al.length co2) al)∧Aside0 (Kd.R k47 47 w' w0.heap.size (fun k_=>((ae k_∨af k_∨ah k_)∨w.heap.size≤k_)∧some k_≠((.slice Ao2 al.length co2):Value).ownBlock) (.slice Ao3 ak.length co3) ak)∧Aside0 (Kd.R Kd.string 9 w' w0.heap.size (fun k_=>((ae k_∨af k_∨ah k_)∨w.heap.size≤k_)) (.slice Ao4 an.length co4) an)∧Aside0 (w'.heap[aw]? = some (.cells #[(.slice bg aj.length bf),(.slice Ao2 al.length co2),(.slice Ao3 ak.length co3),(.slice Ao4 an.length co4),.int .i64 ar,.int .i64 au] 28 (0,0)))∧Aside0 (w'.heap[az]? = some (.cells #[(.slice none 0 0),(.slice none 0 0),(.slice none 0 0),(.slice none 0 0),.int .i64 0,.int .i64 0] 28 (0,0)))∧Aside0 (Kept w w' (fun k_=>ae k_∨af k_∨ah k_))∧Aside0 (Below w0.heap.size w0 w'))
 case atStart=>exact ⟨(cy),(0),(by rfl),H',⟨Nat.le_refl _⟩,⟨by exact Kd.R_mono cE.out (fun _ hk=>hk.1)⟩,⟨by exact aE.out⟩,⟨by exact aG.out⟩,⟨by exact aH.out⟩,⟨by exact ag.out⟩,⟨by exact ao.out⟩,⟨by repeat (with_reducible exact HK.out)⟩,⟨by repeat (with_reducible exact HB.out)⟩⟩
 case round=>
  clear H'
  try clear p2
  try clear c6
  try clear p6
  obtain ⟨aq,ai,rfl,HA,HK1,av,ad,aa,ab,ag,ao,HK,HB⟩:=hrel
  cases gk with
  | zero=>exact absurd HA.out (by simp [spec_l06Clean.l0])
  | succ k1=>
   have H:=HA.out
   clear HA
   simp only [spec_l06Clean.l0] at H
   by_cases c9:ai<(aj.length:Int)
   ·rw [if_pos c9] at H
    have bT:decide (ai<(aj.length:Int))=true:=zt c9
    clear c9
    have H':=zA H
    clear H
    obtain ⟨aQ,aR,aT,aU,aV,aW⟩:=b6of ag.out
    obtain ⟨aX,aY,aZ,ba,bb,bc⟩:=z6of ag.out
    go_wp2
    repeat (go_quiet (fail);try go_wp2)
    go_loopg [5,6] k1 (fun kq v5 v6 w'=>∃ (aI:Bool) (ay:Int),v5=.bool aI∧v6=.int .i64 ay∧Aside0 (spec_l06Clean.l1 kq aq ai aI ay aj al ak an ar au=some (r1,r2,r3,r4,r5,r6))∧Aside0 (kq≤k1)∧Aside0 (Kd.R k45 45 w' w0.heap.size (fun k_=>((ae k_∨af k_∨ah k_)∨w.heap.size≤k_)) u3 aq)∧Aside0 (Kd.R k47 47 w' w0.heap.size (fun k_=>((ae k_∨af k_∨ah k_)∨w.heap.size≤k_)∧some k_≠((.slice Ao3 ak.length co3):Value).ownBlock) (.slice Ao2 al.length co2) al)∧Aside0 (Kd.R k47 47 w' w0.heap.size (fun k_=>((ae k_∨af k_∨ah k_)∨w.heap.size≤k_)∧some k_≠((.slice Ao2 al.length co2):Value).ownBlock) (.slice Ao3 ak.length co3) ak)∧Aside0 (Kd.R Kd.string 9 w' w0.heap.size (fun k_=>((ae k_∨af k_∨ah k_)∨w.heap.size≤k_)) (.slice Ao4 an.length co4) an)∧Aside0 (w'.heap[aw]? = some (.cells #[(.slice bg aj.length bf),(.slice Ao2 al.length co2),(.slice Ao3 ak.length co3),(.slice Ao4 an.length co4),.int .i64 ar,.int .i64 au] 28 (0,0)))∧Aside0 (w'.heap[az]? = some (.cells #[(.slice none 0 0),(.slice none 0 0),(.slice none 0 0),(.slice none 0 0),.int .i64 0,.int .i64 0] 28 (0,0)))∧Aside0 (Kept w w' (fun k_=>ae k_∨af k_∨ah k_))∧Aside0 (Below w0.heap.size w0 w'))
    case atStart=>exact ⟨(false),(0),(by rfl),(by rfl),H',⟨Nat.le_refl _⟩,⟨by exact av.out⟩,⟨by exact ad.out⟩,⟨by exact aa.out⟩,⟨by exact ab.out⟩,⟨by exact ag.out⟩,⟨by exact ao.out⟩,⟨by repeat (with_reducible exact HK.out)⟩,⟨by repeat (with_reducible exact HB.out)⟩⟩
    case round=>
     clear H'
     try clear c1
     try clear p2
     try clear c6
     try clear p6
     try clear c9
     try clear bT
     try clear c10
     try clear aQ
     try clear aR
     try clear aT
     try clear aU
     try clear aV
     try clear aW
     try clear aX
     try clear aY
     try clear aZ
     try clear ba
     try clear bb
     try clear bc
     try clear p2
     try clear p6
     obtain ⟨aI,ay,rfl,rfl,HA,HK2,av,ad,aa,ab,ag,ao,HK,HB⟩:=hrel
     cases gk with
     | zero=>exact absurd HA.out (by simp [spec_l06Clean.l1])
     | succ k2=>
      have H:=HA.out
      clear HA
      simp only [spec_l06Clean.l1] at H
      have cm:=zA H
      clear H
      go_upto_region 7 with (fail)
      repeat (go_quiet (fail);go_upto_region 7 with (fail))
      go_cut [26] (fun v26 wc=>∃ (kq:Nat) (bd:Bool),v26=.bool bd∧Aside0 (spec_l06Clean.j2 kq aq ai aI ay bd aj al ak an ar au=some (r1,r2,r3,r4,r5,r6))∧Aside0 (kq≤k2)∧Aside0 (Kd.R k45 45 wc w0.heap.size (fun k_=>((ae k_∨af k_∨ah k_)∨w.heap.size≤k_)) u3 aq)∧Aside0 (Kd.R k47 47 wc w0.heap.size (fun k_=>((ae k_∨af k_∨ah k_)∨w.heap.size≤k_)∧some k_≠((.slice Ao3 ak.length co3):Value).ownBlock) (.slice Ao2 al.length co2) al)∧Aside0 (Kd.R k47 47 wc w0.heap.size (fun k_=>((ae k_∨af k_∨ah k_)∨w.heap.size≤k_)∧some k_≠((.slice Ao2 al.length co2):Value).ownBlock) (.slice Ao3 ak.length co3) ak)∧Aside0 (Kd.R Kd.string 9 wc w0.heap.size (fun k_=>((ae k_∨af k_∨ah k_)∨w.heap.size≤k_)) (.slice Ao4 an.length co4) an)∧Aside0 (wc.heap[aw]? = some (.cells #[(.slice bg aj.length bf),(.slice Ao2 al.length co2),(.slice Ao3 ak.length co3),(.slice Ao4 an.length co4),.int .i64 ar,.int .i64 au] 28 (0,0)))∧Aside0 (wc.heap[az]? = some (.cells #[(.slice none 0 0),(.slice none 0 0),(.slice none 0 0),(.slice none 0 0),.int .i64 0,.int .i64 0] 28 (0,0)))∧Aside0 (Kept w wc (fun k_=>ae k_∨af k_∨ah k_))∧Aside0 (Below w0.heap.size w0 wc))
      case first=>
       have H:=cm.out
       clear cm
       by_cases c13:ay≤(an.length:Int)
       ·rw [if_pos c13] at H
        have bQ:decide (ay≤(an.length:Int))=true:=zt c13
        clear c13
        (skip)
        have H':=zA H
        clear H
        obtain ⟨bj,bk,bl,bm,bn,bo⟩:=b6of ag.out
        obtain ⟨bp,bq,br,bs,bu,bw⟩:=z6of ag.out
        go_wp2
        repeat (go_quiet (fail);try go_wp2)
        go_meet
        case rel=>exact ⟨_,(!aI),(by rfl),H',⟨by have:=HK1.out;have:=HK2.out;omega⟩,⟨by exact av.out⟩,⟨by exact ad.out⟩,⟨by exact aa.out⟩,⟨by exact ab.out⟩,⟨by exact ag.out⟩,⟨by exact ao.out⟩,⟨by repeat (with_reducible exact HK.out)⟩,⟨by repeat (with_reducible exact HB.out)⟩⟩
       ·rw [if_neg c13] at H
        have bQ:decide (ay≤(an.length:Int))=false:=zf c13
        clear c13
        (skip)
        have H':=zA H
        clear H
        obtain ⟨bx,bz,bC,bD,bE,bF⟩:=b6of ag.out
        obtain ⟨bG,bH,bI,bJ,bK,bL⟩:=z6of ag.out
        go_wp2
        repeat (go_quiet (fail);try go_wp2)
        go_meet
        case rel=>exact ⟨_,(false),(by rfl),H',⟨by have:=HK1.out;have:=HK2.out;omega⟩,⟨by exact av.out⟩,⟨by exact ad.out⟩,⟨by exact aa.out⟩,⟨by exact ab.out⟩,⟨by exact ag.out⟩,⟨by exact ao.out⟩,⟨by repeat (with_reducible exact HK.out)⟩,⟨by repeat (with_reducible exact HB.out)⟩⟩
      case rest=>
       clear cm
       try clear c1
       try clear p2
       try clear c6
       try clear p6
       try clear c9
       try clear bT
       try clear c10
       try clear c13
       try clear bQ
       try clear c14
       try clear c16
       try clear aQ
       try clear aR
       try clear aT
       try clear aU
       try clear aV
       try clear aW
       try clear bj
       try clear bk
       try clear bl
       try clear bm
       try clear bn
       try clear bo
       try clear bx
       try clear bz
       try clear bC
       try clear bD
       try clear bE
       try clear bF
       try clear aX
       try clear aY
       try clear aZ
       try clear ba
       try clear bb
       try clear bc
       try clear bp
       try clear bq
       try clear br
       try clear bs
       try clear bu
       try clear bw
       try clear bG
       try clear bH
       try clear bI
       try clear bJ
       try clear bK
       try clear bL
       try clear p2
       try clear p6
       obtain ⟨kq,bd,rfl,HA,aJ,av,ad,aa,ab,ag,ao,HK,HB⟩:=hcut
       cases kq with
       | zero=>exact absurd HA.out (by simp [spec_l06Clean.j2])
       | succ aD=>
        have H:=HA.out
        clear HA
        simp only [spec_l06Clean.j2] at H
        by_cases c18:bd=true
        ·subst c18
         have H1:((spec_StepsDone.f aD ak an ay).bind fun cF=>(spec_l06Clean.l2 aD aq ai aI ay cF.1 0 aj al ak an ar au))=some (r1,r2,r3,r4,r5,r6):=by rw [if_pos rfl] at H;exact H
         clear H
         have H:=H1
         clear H1
         obtain ⟨⟨t245,t246⟩,A19,H⟩:=bA H
         replace H:(spec_l06Clean.l2 aD aq ai aI ay t245 0 aj al ak an ar au)=some (r1,r2,r3,r4,r5,r6):=H
         have H':=zA H
         clear H
         obtain ⟨bU,bV,bW,bX,bY,bZ⟩:=b6of ag.out
         obtain ⟨ca,cb,cc,cd,cf,cg⟩:=z6of ag.out
         go_wp2_with ((go_at_call 52;(with_reducible refine (spec_StepsDone.calls aD _ _ ak _ _ an ay t245 t246 _ ?side1 ?side2 ?side3 ?side4 A19.out).mono ?_);(case side1=>repeat (exact (Kd.R_reads' aa.out).2.2));(case side2=>exact (Kd.R_reads' aa.out).2.1);(case side3=>repeat (exact (Kd.R_reads' ab.out).2.2));(case side4=>exact (Kd.R_reads' ab.out).2.1);rintro e w22 ⟨cn,rfl,ho0,hb⟩;have cG:=zA (Kd.R_lower (Kd.R_new' (Kd.R_new' (Kd.R_newM (M:=fun k_=>((ae k_∨af k_∨ah k_)∨w.heap.size≤k_)) ho0 HK.out.1 (fun k_ h_=>.inr h_)) (Kd.R_lt ad.out)) (Kd.R_lt aa.out)) (below_size HB.out));replace av:=zA (Kd.R_below av.out hb);replace ad:=zA (Kd.R_elder' ad.out (Kd.R_base ho0) hb);replace aa:=zA (Kd.R_elder' aa.out (Kd.R_base ho0) hb);replace ab:=zA (Kd.R_below ab.out hb);replace ag:=zA (bB hb ag.out);replace ao:=zA (bB hb ao.out);replace HK:=zA (Kept.below (S:=(fun k_=>ae k_∨af k_∨ah k_)) HK.out hb);replace HB:=zs HB hb;(try clear hb);(try clear ho0)))
         repeat (go_quiet (fail);try go_wp2_with fail)
         go_loopg [5,9] aD (fun kq v5 v9 w'=>∃ (bR:Bool) (ax:Int),v5=.bool bR∧v9=.int .i64 ax∧Aside0 (spec_l06Clean.l2 kq aq ai bR ay t245 ax aj al ak an ar au=some (r1,r2,r3,r4,r5,r6))∧Aside0 (kq≤aD)∧Aside0 (Kd.R k45 45 w' w0.heap.size (fun k_=>((ae k_∨af k_∨ah k_)∨w.heap.size≤k_)) u3 aq)∧Aside0 (Kd.R k47 47 w' w0.heap.size (fun k_=>((ae k_∨af k_∨ah k_)∨w.heap.size≤k_)∧some k_≠((.slice Ao2 al.length co2):Value).ownBlock∧some k_≠((.slice Ao3 ak.length co3):Value).ownBlock) cn t245)∧Aside0 (Kd.R k47 47 w' w0.heap.size (fun k_=>((ae k_∨af k_∨ah k_)∨w.heap.size≤k_)∧some k_≠(cn:Value).ownBlock∧some k_≠((.slice Ao3 ak.length co3):Value).ownBlock) (.slice Ao2 al.length co2) al)∧Aside0 (Kd.R k47 47 w' w0.heap.size (fun k_=>((ae k_∨af k_∨ah k_)∨w.heap.size≤k_)∧some k_≠(cn:Value).ownBlock∧some k_≠((.slice Ao2 al.length co2):Value).ownBlock) (.slice Ao3 ak.length co3) ak)∧Aside0 (Kd.R Kd.string 9 w' w0.heap.size (fun k_=>((ae k_∨af k_∨ah k_)∨w.heap.size≤k_)) (.slice Ao4 an.length co4) an)∧Aside0 (w'.heap[aw]? = some (.cells #[(.slice bg aj.length bf),(.slice Ao2 al.length co2),(.slice Ao3 ak.length co3),(.slice Ao4 an.length co4),.int .i64 ar,.int .i64 au] 28 (0,0)))∧Aside0 (w'.heap[az]? = some (.cells #[(.slice none 0 0),(.slice none 0 0),(.slice none 0 0),(.slice none 0 0),.int .i64 0,.int .i64 0] 28 (0,0)))∧Aside0 (Kept w w' (fun k_=>ae k_∨af k_∨ah k_))∧Aside0 (Below w0.heap.size w0 w'))
         case atStart=>exact ⟨(aI),(0),(by rfl),(by rfl),H',⟨Nat.le_refl _⟩,⟨by exact av.out⟩,⟨by exact Kd.R_mono cG.out (fun _ hk=>⟨hk.1.1.1,⟨hk.1.2,hk.2⟩⟩)⟩,⟨by exact Kd.R_mono ad.out (fun _ hk=>⟨hk.1.1,⟨hk.2,hk.1.2⟩⟩)⟩,⟨by exact Kd.R_mono aa.out (fun _ hk=>⟨hk.1.1,⟨hk.2,hk.1.2⟩⟩)⟩,⟨by exact ab.out⟩,⟨by exact ag.out⟩,⟨by exact ao.out⟩,⟨by repeat (with_reducible exact HK.out)⟩,⟨by repeat (with_reducible exact HB.out)⟩⟩
         case round=>
          clear H'
          try clear c1
          try clear c2
          try clear p2
          try clear c6
          try clear p6
          try clear c9
          try clear bT
          try clear c10
          try clear c13
          try clear bQ
          try clear c14
          try clear c16
          try clear c18
          try clear c20
          try clear aQ
          try clear aR
          try clear aT
          try clear aU
          try clear aV
          try clear aW
          try clear bj
          try clear bk
          try clear bl
          try clear bm
          try clear bn
          try clear bo
          try clear bx
          try clear bz
          try clear bC
          try clear bD
          try clear bE
          try clear bF
          try clear bU
          try clear bV
          try clear bW
          try clear bX
          try clear bY
          try clear bZ
          try clear aX
          try clear aY
          try clear aZ
          try clear ba
          try clear bb
          try clear bc
          try clear bp
          try clear bq
          try clear br
          try clear bs
          try clear bu
          try clear bw
          try clear bG
          try clear bH
          try clear bI
          try clear bJ
          try clear bK
          try clear bL
          try clear ca
          try clear cb
          try clear cc
          try clear cd
          try clear cf
          try clear cg
          try clear p2
          try clear p6
          obtain ⟨bR,ax,rfl,rfl,HA,HK4,av,bO,ad,aa,ab,ag,ao,HK,HB⟩:=hrel
          cases gk with
          | zero=>exact absurd HA.out (by simp [spec_l06Clean.l2])
          | succ k4=>
           have H:=HA.out
           clear HA
           simp only [spec_l06Clean.l2] at H
           by_cases c23:ax<(t245.length:Int)
           ·rw [if_pos c23] at H
            have cH:decide (ax<(t245.length:Int))=true:=zt c23
            clear c23
            by_cases c24:bR=true
            ·subst c24
             have H1:(spec_l06Clean.l2 k4 aq ai true ay t245 (wrap64 (ax+1)) aj al ak an ar au)=some (r1,r2,r3,r4,r5,r6):=by rw [if_pos rfl] at H;exact H
             clear H
             have H:=H1
             clear H1
             have H':=zA H
             clear H
             obtain ⟨Ao25,co25,cN⟩:=Kd.R_slice bO.out
             subst cN
             go_wp2
             repeat (go_quiet (fail);try go_wp2)
             go_roundg k4
             case measure=>have:=HK1.out;have:=HK2.out;have:=aJ.out;have:=HK4.out;omega
             case rel=>exact ⟨(true),(wrap64 (ax+1)),(by rfl),(by rfl),H',⟨by have:=HK1.out;have:=HK2.out;have:=aJ.out;have:=HK4.out;omega⟩,⟨by (with_reducible repeat (apply Kd.R_drewN));exact av.out⟩,⟨by (with_reducible repeat (apply Kd.R_drewN));exact bO.out⟩,⟨by (with_reducible repeat (apply Kd.R_drewN));exact ad.out⟩,⟨by (with_reducible repeat (apply Kd.R_drewN));exact aa.out⟩,⟨by (with_reducible repeat (apply Kd.R_drewN));exact ab.out⟩,⟨by (with_reducible repeat (refine blk_drewN ?_ _));exact ag.out⟩,⟨by (with_reducible repeat (refine blk_drewN ?_ _));exact ao.out⟩,⟨by repeat (with_reducible first | exact HK.out | apply Kept.drewN)⟩,⟨by repeat (with_reducible first | exact HB.out | apply pw_below_drewN)⟩⟩
            ·replace c24:=Bool.eq_false_iff.mpr c24
             subst c24
             have H1:(if 0≤ax then (if 0≤ai then (if ai<(aj.length:Int) then (spec_l06Clean.l2 k4 aq ai (((rd_T47 t245 ax).f1) == ((rd_T45 aj ai).f0)) ay t245 (wrap64 (ax+1)) aj al ak an ar au) else (none)) else (none)) else (none))=some (r1,r2,r3,r4,r5,r6):=by rw [if_neg (show ¬ (false=true) by decide)] at H;exact H
             clear H
             have H:=H1
             clear H1
             by_cases c26:0≤ax
             ·rw [if_pos c26] at H
              have c26b0:decide (0≤ax)=true:=zt c26
              clear c26
              by_cases c27:0≤ai
              ·rw [if_pos c27] at H
               have c27b0:decide (0≤ai)=true:=zt c27
               clear c27
               by_cases c28:ai<(aj.length:Int)
               ·rw [if_pos c28] at H
                have c28b0:decide (ai<(aj.length:Int))=true:=zt c28
                clear c28
                have H':=zA H
                clear H
                obtain ⟨Ao29,co29,cO⟩:=Kd.R_slice bO.out
                subst cO
                have cp:0≤(ax:Int):=ze
                have cq:ax<(t245.length:Int):=ze
                obtain ⟨ad249,cP,hx249_0,hx249_1⟩:=at_T47 (Kd.R_reads' bO.out).2.2 ax cp cq
                cases cP
                replace cp:=eq_true cp
                replace cq:=eq_true cq
                obtain ⟨hcz31_0,hcz31_1,hcz31_2,hcz31_3,hcz31_4,hcz31_5⟩:=b6of ag.out
                obtain ⟨hfz31_0,hfz31_1,hfz31_2,hfz31_3,hfz31_4,hfz31_5⟩:=z6of ag.out
                have cr:0≤(ai:Int):=ze
                have ct:ai<(aj.length:Int):=ze
                obtain ⟨ad250,cQ,hx250_0,hx250_1,hx250_2⟩:=at_T45 (Kd.C_kept_now cl.out HK.out) ai cr ct
                cases cQ
                replace cr:=eq_true cr
                replace ct:=eq_true ct
                go_wp2
                repeat (go_quiet (fail);try go_wp2)
                go_roundg k4
                case measure=>have:=HK1.out;have:=HK2.out;have:=aJ.out;have:=HK4.out;omega
                case rel=>exact ⟨((((rd_T47 t245 ax).f1) == ((rd_T45 aj ai).f0))),(wrap64 (ax+1)),(by rfl),(by rfl),H',⟨by have:=HK1.out;have:=HK2.out;have:=aJ.out;have:=HK4.out;omega⟩,⟨by (with_reducible repeat (apply Kd.R_drewN));exact av.out⟩,⟨by (with_reducible repeat (apply Kd.R_drewN));exact bO.out⟩,⟨by (with_reducible repeat (apply Kd.R_drewN));exact ad.out⟩,⟨by (with_reducible repeat (apply Kd.R_drewN));exact aa.out⟩,⟨by (with_reducible repeat (apply Kd.R_drewN));exact ab.out⟩,⟨by (with_reducible repeat (refine blk_drewN ?_ _));exact ag.out⟩,⟨by (with_reducible repeat (refine blk_drewN ?_ _));exact ao.out⟩,⟨by repeat (with_reducible first | exact HK.out | apply Kept.drewN)⟩,⟨by repeat (with_reducible first | exact HB.out | apply pw_below_drewN)⟩⟩
               ·rw [if_neg c28] at H
                exact absurd H (by simp)
              ·rw [if_neg c27] at H
               exact absurd H (by simp)
             ·rw [if_neg c26] at H
              exact absurd H (by simp)
           ·rw [if_neg c23] at H
            have cH:decide (ax<(t245.length:Int))=false:=zf c23
            clear c23
            have H':=zA H
            clear H
            obtain ⟨Ao32,co32,cR⟩:=Kd.R_slice bO.out
            subst cR
            go_wp2
            repeat (go_quiet (fail);try go_wp2)
            go_roundg k4
            case measure=>have:=HK1.out;have:=HK2.out;have:=aJ.out;have:=HK4.out;omega
            case rel=>exact ⟨(bR),(wrap64 (ay+1)),(by rfl),(by rfl),H',⟨by have:=HK1.out;have:=HK2.out;have:=aJ.out;have:=HK4.out;omega⟩,⟨by exact av.out⟩,⟨by exact Kd.R_mono ad.out (fun _ hk=>⟨hk.1,hk.2.2⟩)⟩,⟨by exact Kd.R_mono aa.out (fun _ hk=>⟨hk.1,hk.2.2⟩)⟩,⟨by exact ab.out⟩,⟨by exact ag.out⟩,⟨by exact ao.out⟩,⟨by repeat (with_reducible exact HK.out)⟩,⟨by repeat (with_reducible exact HB.out)⟩⟩
        ·replace c18:=Bool.eq_false_iff.mpr c18
         subst c18
         have H1:(if aI=true then (if 0≤ai then (if ai<(aj.length:Int) then (if aq.length<4398046511104 then (spec_l06Clean.l0 aD (aq++[(⟨(rd_T45 aj ai).f0,(rd_T45 aj ai).f1,(rd_T45 aj ai).f2⟩:S45)]) (wrap64 (ai+1)) aj al ak an ar au) else (none)) else (none)) else (none)) else (spec_l06Clean.l0 aD aq (wrap64 (ai+1)) aj al ak an ar au))=some (r1,r2,r3,r4,r5,r6):=by rw [if_neg (show ¬ (false=true) by decide)] at H;exact H
         clear H
         have H:=H1
         clear H1
         by_cases c33:aI=true
         ·subst c33
          have H1:(if 0≤ai then (if ai<(aj.length:Int) then (if aq.length<4398046511104 then (spec_l06Clean.l0 aD (aq++[(⟨(rd_T45 aj ai).f0,(rd_T45 aj ai).f1,(rd_T45 aj ai).f2⟩:S45)]) (wrap64 (ai+1)) aj al ak an ar au) else (none)) else (none)) else (none))=some (r1,r2,r3,r4,r5,r6):=by rw [if_pos rfl] at H;exact H
          clear H
          have H:=H1
          clear H1
          by_cases c34:0≤ai
          ·rw [if_pos c34] at H
           have c34b0:decide (0≤ai)=true:=zt c34
           clear c34
           by_cases c35:ai<(aj.length:Int)
           ·rw [if_pos c35] at H
            have c35b0:decide (ai<(aj.length:Int))=true:=zt c35
            clear c35
            by_cases c36:aq.length<4398046511104
            ·rw [if_pos c36] at H
             have cI:=zA c36
             clear c36
             obtain ⟨cJ,bS⟩:∃ y_:List (S45),y_=(aq++[(⟨(rd_T45 aj ai).f0,(rd_T45 aj ai).f1,(rd_T45 aj ai).f2⟩:S45)]):=⟨_,rfl⟩
             replace H:(spec_l06Clean.l0 aD cJ (wrap64 (ai+1)) aj al ak an ar au)=some (r1,r2,r3,r4,r5,r6):=by (rw [bS];with_reducible exact H)
             have cK:=zA bS
             clear bS
             have H':=zA H
             clear H
             obtain ⟨hcz38_0,hcz38_1,hcz38_2,hcz38_3,hcz38_4,hcz38_5⟩:=b6of ag.out
             obtain ⟨hfz38_0,hfz38_1,hfz38_2,hfz38_3,hfz38_4,hfz38_5⟩:=z6of ag.out
             have cu:0≤(ai:Int):=ze
             have cv:ai<(aj.length:Int):=ze
             obtain ⟨cL,cS,hx241_0,hx241_1,hx241_2⟩:=at_T45 (Kd.C_kept_now cl.out HK.out) ai cu cv
             cases cS
             replace cu:=eq_true cu
             replace cv:=eq_true cv
             go_wp2_with (((with_reducible refine gate_builtin (b:=.append) (xs:=#[.tmp 60,.tmp 66]) rfl ?_);at_builtin;refine Kd.R_append k45 (w0:=w0) w0.heap.size rfl (.tmp 60) (.tmp 66) 24 45 (.agg #[(.int .i64 0),(.string ⟨#[]⟩),(.int .i64 0)]) 32 rfl Tryz.underlying24 info45 rfl (by decide) (by omega) u3 aq (⟨(rd_T45 aj ai).f0,(rd_T45 aj ai).f1,(rd_T45 aj ai).f2⟩:S45) [.int .i64 ((rd_T45 aj ai).f0),.string ((rd_T45 aj ai).f1),.int .i64 ((rd_T45 aj ai).f2)] (fun k_=>((ae k_∨af k_∨ah k_)∨w.heap.size≤k_)) (fun _=>False) rfl rfl ?aP (fun _ hk=>hk.elim) ?aF ?aO ?aB ?aS ?aL ?_;(case aP=>exact k45_mkM _ _ _ (⟨(rd_T45 aj ai).f0,(rd_T45 aj ai).f1,(rd_T45 aj ai).f2⟩:S45));(case aB=>exact HB.out);(case aF=>exact (fun k_ hk=>(.inr (Nat.le_trans HK.out.1 hk))));(case aO=>exact av.out);(case aS=>exact (below_size HB.out));(case aL=>have:=cI.out;omega);intro v243 w39 ho hb hg hat;rw [← cK.out] at ho;have cM:=zA (ho);replace ad:=zA (Kd.R_over' ad.out (Kd.R_typed av.out) (by decide) hg);replace aa:=zA (Kd.R_over' aa.out (Kd.R_typed av.out) (by decide) hg);replace ab:=zA (Kd.R_over' ab.out (Kd.R_typed av.out) (by decide) hg);replace ag:=zA (blk_grown (g:=aw) (o:=.cells #[.slice (some cL) aj.length bf,.slice Ao2 al.length co2,.slice Ao3 ak.length co3,.slice Ao4 an.length co4,.int .i64 ar,.int .i64 au] 28 (0,0)) ag.out hg (Kd.R_ne av.out ag.out (by decide)));replace ao:=zA (blk_grown (g:=az) (o:=.cells #[.slice none 0 0,.slice none 0 0,.slice none 0 0,.slice none 0 0,.int .i64 0,.int .i64 0] 28 (0,0)) ao.out hg (Kd.R_ne av.out ao.out (by decide)));replace HB:=zA (hb);replace HK:=zA (Kept.of_grown (S:=(fun k_=>ae k_∨af k_∨ah k_)) hg HK.out (fun k_ e_=>(av.out.1 k_ e_)));clear av;clear ho hb hg hat))
             repeat (go_quiet (fail);try go_wp2_with fail)
             go_roundg aD
             case measure=>have:=HK1.out;have:=HK2.out;have:=aJ.out;omega
             case rel=>exact ⟨(cJ),(wrap64 (ai+1)),(by rfl),H',⟨by have:=HK1.out;have:=HK2.out;have:=aJ.out;omega⟩,⟨by exact cM.out⟩,⟨by exact ad.out⟩,⟨by exact aa.out⟩,⟨by exact ab.out⟩,⟨by exact ag.out⟩,⟨by exact ao.out⟩,⟨by repeat (with_reducible exact HK.out)⟩,⟨by repeat (with_reducible exact HB.out)⟩⟩
            ·rw [if_neg c36] at H
             exact absurd H (by simp)
           ·rw [if_neg c35] at H
            exact absurd H (by simp)
          ·rw [if_neg c34] at H
           exact absurd H (by simp)
         ·replace c33:=Bool.eq_false_iff.mpr c33
          subst c33
          have H1:(spec_l06Clean.l0 aD aq (wrap64 (ai+1)) aj al ak an ar au)=some (r1,r2,r3,r4,r5,r6):=by rw [if_neg (show ¬ (false=true) by decide)] at H;exact H
          clear H
          have H:=H1
          clear H1
          have H':=zA H
          clear H
          go_wp2
          repeat (go_quiet (fail);try go_wp2)
          go_roundg aD
          case measure=>have:=HK1.out;have:=HK2.out;have:=aJ.out;omega
          case rel=>exact ⟨(aq),(wrap64 (ai+1)),(by rfl),H',⟨by have:=HK1.out;have:=HK2.out;have:=aJ.out;omega⟩,⟨by exact av.out⟩,⟨by exact ad.out⟩,⟨by exact aa.out⟩,⟨by exact ab.out⟩,⟨by exact ag.out⟩,⟨by exact ao.out⟩,⟨by repeat (with_reducible exact HK.out)⟩,⟨by repeat (with_reducible exact HB.out)⟩⟩
   ·rw [if_neg c9] at H
    have bT:decide (ai<(aj.length:Int))=false:=zf c9
    clear c9
    simp only [Option.some.injEq,Prod.mk.injEq] at H
    obtain ⟨rfl,rfl,rfl,rfl,rfl,rfl⟩:=H
    have hnc40:=aK.out
    obtain ⟨hcz41_0,hcz41_1,hcz41_2,hcz41_3,hcz41_4,hcz41_5⟩:=b6of ag.out
    obtain ⟨hfz41_0,hfz41_1,hfz41_2,hfz41_3,hfz41_4,hfz41_5⟩:=z6of ag.out
    obtain ⟨aA,aC,cT⟩:=Kd.R_slice av.out
    subst cT
    obtain ⟨hcz43_0,hcz43_1,hcz43_2,hcz43_3,hcz43_4,hcz43_5⟩:=b6of ao.out
    obtain ⟨hfz43_0,hfz43_1,hfz43_2,hfz43_3,hfz43_4,hfz43_5⟩:=z6of ao.out
    go_wp2
    repeat (go_quiet (fail);try go_wp2)
    refine bodyPost_ret (results_cell_row rfl _ _ az 28 #[.slice aA aq.length aC,.slice Ao2 al.length co2,.slice Ao3 ak.length co3,.slice Ao4 an.length co4,.int .i64 ar,.int .i64 au] (0,0) _ rfl (by refine blk_put (cs:=#[.slice aA aq.length aC,.slice Ao2 al.length co2,.slice Ao3 ak.length co3,.slice Ao4 an.length co4,.int .i64 ar,.int .i64 0]) ?_ 5 _ rfl;refine blk_put (cs:=#[.slice aA aq.length aC,.slice Ao2 al.length co2,.slice Ao3 ak.length co3,.slice Ao4 an.length co4,.int .i64 0,.int .i64 0]) ?_ 4 _ rfl;refine blk_put (cs:=#[.slice aA aq.length aC,.slice Ao2 al.length co2,.slice Ao3 ak.length co3,.slice none 0 0,.int .i64 0,.int .i64 0]) ?_ 3 _ rfl;refine blk_put (cs:=#[.slice aA aq.length aC,.slice Ao2 al.length co2,.slice none 0 0,.slice none 0 0,.int .i64 0,.int .i64 0]) ?_ 2 _ rfl;refine blk_put (cs:=#[.slice aA aq.length aC,.slice none 0 0,.slice none 0 0,.slice none 0 0,.int .i64 0,.int .i64 0]) ?_ 1 _ rfl;refine blk_put (cs:=#[.slice none 0 0,.slice none 0 0,.slice none 0 0,.slice none 0 0,.int .i64 0,.int .i64 0]) ?_ 0 _ rfl;refine blk_far ?_ aK.out _;exact ao.out) Tryz.underlying28 rfl (by kernel_rfl)) rfl ?_
    all_goals exact ⟨_,_,_,_,by rfl,by exact Kd.R_mono (R6 (Kd.R_far (p:=⟨aw,0,none⟩) (Kd.R_types (Kd.R_types av.out ag.out (by decide)) ao.out (by decide)) (fun _ hk=>hk.1.2) (.slice aA aq.length aC)) (.slice aA aq.length aC) (.slice Ao2 al.length co2) (.slice Ao3 ak.length co3) (.slice Ao4 an.length co4) (.int .i64 ar) (.int .i64 au)) (fun _ hk=>hk.1.1),by exact Kd.R_mono (R6 (Kd.R_far (p:=⟨aw,0,none⟩) (Kd.R_types (Kd.R_types ad.out ag.out (by decide)) ao.out (by decide)) (fun _ hk=>hk.1.2) (.slice aA aq.length aC)) (.slice aA aq.length aC) (.slice Ao2 al.length co2) (.slice Ao3 ak.length co3) (.slice Ao4 an.length co4) (.int .i64 ar) (.int .i64 au)) (fun _ hk=>⟨hk.1.1.1,hk.1.1.2⟩),by exact Kd.R_mono (R6 (Kd.R_far (p:=⟨aw,0,none⟩) (Kd.R_types (Kd.R_types aa.out ag.out (by decide)) ao.out (by decide)) (fun _ hk=>hk.1.2) (.slice aA aq.length aC)) (.slice aA aq.length aC) (.slice Ao2 al.length co2) (.slice Ao3 ak.length co3) (.slice Ao4 an.length co4) (.int .i64 ar) (.int .i64 au)) (fun _ hk=>⟨hk.1.1.1,hk.1.1.2⟩),by exact Kd.R_mono (R6 (Kd.R_far (p:=⟨aw,0,none⟩) (Kd.R_types (Kd.R_types ab.out ag.out (by decide)) ao.out (by decide)) (fun _ hk=>hk.1.2) (.slice aA aq.length aC)) (.slice aA aq.length aC) (.slice Ao2 al.length co2) (.slice Ao3 ak.length co3) (.slice Ao4 an.length co4) (.int .i64 ar) (.int .i64 au)) (fun _ hk=>hk.1.1),by repeat (with_reducible first | exact HB.out | refine below_set ?_ cB.out | refine below_set ?_ cD.out),by repeat ((with_reducible first | exact HK.out | refine Kept.setCell ?_ (.inr cA.out) _ | refine Kept.setCell ?_ (.inr cC.out) _))⟩
end Go.Proofs.YtokcccejijmkmaaGreatDoor.MFnDeeds
