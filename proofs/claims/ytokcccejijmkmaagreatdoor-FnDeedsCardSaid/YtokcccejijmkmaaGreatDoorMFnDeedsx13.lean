/- Each theorem here says that a call of one Go function answers what the Lean function beside it answers; its conditions stand in it. Written by a program of this session. -/
import Derived.Test.YtokcccejijmkmaaGreatDoorMFnDeedsx0
import Derived.Test.YtokcccejijmkmaaGreatDoorMFnDeedsx3
import Derived.Test.YtokcccejijmkmaaGreatDoorMFnDeedsx10
import Derived.Test.YtokcccejijmkmaaGreatDoorMFnDeedsx11
import Derived.Test.YtokcccejijmkmaaGreatDoorMFnDeedsx12
namespace Go.Proofs.YtokcccejijmkmaaGreatDoor.MFnDeeds
set_option maxHeartbeats 40000000
set_option maxRecDepth 100000
open Go.RowKit Go.Proofs.YtokcccejijmkmaaGreatDoorW.PrintWords Go.Proofs.YtokcccejijmkmaaGreatDoorW.PrintLast Go.Proofs.YtokcccejijmkmaaGreatDoorW.PrintMore
attribute [local go_sem] max2_int min2_int max_two min_two max_three min_three max_four min_four
set_option linter.unusedVariables false
set_option linter.unusedSimpArgs false
def setSure (l:List S45) (q:Int):List S45:=match l with | []=>[] | x :: r=>⟨x.f0,x.f1,q⟩ :: r
def sameId (l:List S45):List S45:=match l with | x :: y :: r=>x :: ⟨x.f0,y.f1,y.f2⟩ :: r | l=>l
def spec_l05Any.f (k:Nat) (aa:List Int) (ab ad:Int):Option (List S45×List S47×List S47×List ByteArray×Int×Int×Int×Int):=(spec_l05Disk.f k aa ab ad).bind fun o=>(spec_l01Below.f aa o.2.2.2.2.2.2.1 o.2.2.2.2.2.2.2 16).bind fun z=>
  if z.1=0 then (spec_l01PickInt.f aa z.2.1 z.2.2 [(-1),0,5,1000000001]).bind fun q=>some (o.1,o.2.1,o.2.2.1,o.2.2.2.1,q.1,o.2.2.2.2.2.1,q.2.1,q.2.2)
  else if z.1=1 then (spec_l01PickInt.f aa z.2.1 z.2.2 [0,1,2,(-1),9223372036854775807]).bind fun q=>some (o.1,o.2.1,o.2.2.1,o.2.2.2.1,o.2.2.2.2.1,q.1,q.2.1,q.2.2)
  else if z.1=2 then (spec_l01Below.f aa z.2.1 z.2.2 4).bind fun q=>if (o.2.1.length+1)*24≤140737488355328 then some (o.1,o.2.1++[⟨(⟨#[122]⟩:ByteArray),q.1⟩],o.2.2.1,o.2.2.2.1,o.2.2.2.2.1,o.2.2.2.2.2.1,q.2.1,q.2.2) else none
  else if z.1=3 then (if (o.2.2.1.length+1)*24≤140737488355328 then some (o.1,o.2.1,o.2.2.1++[⟨(⟨#[122]⟩:ByteArray),1⟩],o.2.2.2.1,o.2.2.2.2.1,o.2.2.2.2.2.1,z.2.1,z.2.2) else none)
  else if z.1=4 then (spec_l01Pick.f aa z.2.1 z.2.2 [(⟨#[45,97]⟩:ByteArray),(⟨#[43,113,58,49]⟩:ByteArray),(⟨#[120]⟩:ByteArray),(⟨#[]⟩:ByteArray),(⟨#[43,113,58,57]⟩:ByteArray),(⟨#[45,122,122]⟩:ByteArray),(⟨#[43,58,49]⟩:ByteArray),(⟨#[43,113,58]⟩:ByteArray)]).bind fun q=>if (o.2.2.2.1.length+1)*16≤140737488355328 then some (o.1,o.2.1,o.2.2.1,o.2.2.2.1++[q.1],o.2.2.2.2.1,o.2.2.2.2.2.1,q.2.1,q.2.2) else none
  else if z.1=5 then (if 0<o.1.length then (spec_l01PickInt.f aa z.2.1 z.2.2 [(-1),0,99]).bind fun q=>some (setSure o.1 q.1,o.2.1,o.2.2.1,o.2.2.2.1,o.2.2.2.2.1,o.2.2.2.2.2.1,q.2.1,q.2.2) else some (o.1,o.2.1,o.2.2.1,o.2.2.2.1,o.2.2.2.2.1,o.2.2.2.2.2.1,z.2.1,z.2.2))
  else if z.1=6 then (if 1<o.1.length then some (sameId o.1,o.2.1,o.2.2.1,o.2.2.2.1,o.2.2.2.2.1,o.2.2.2.2.2.1,z.2.1,z.2.2) else some (o.1,o.2.1,o.2.2.1,o.2.2.2.1,o.2.2.2.2.1,o.2.2.2.2.2.1,z.2.1,z.2.2))
  else some (o.1,o.2.1,o.2.2.1,o.2.2.2.1,o.2.2.2.2.1,o.2.2.2.2.2.1,z.2.1,z.2.2)
theorem spec_l05Any.mono:∀ s0 s1 s2 k,LeO (spec_l05Any.f k s0 s1 s2) (spec_l05Any.f (k+1) s0 s1 s2):=fun s0 s1 s2 k=>LeO.bind (spec_l05Disk.mono _ _ _ _) fun _=>LeO.refl _
theorem setSure_eq {l:List S45} {x:S45} (h:l[0]? = some x) (q:Int):l.set 0 ⟨x.f0,x.f1,q⟩=setSure l q:=by
  cases l with
  | nil=>cases h
  | cons y r=>obtain rfl:y=x:=(by simpa using h);rfl
theorem sameId_row {l:List S45} {x:S45} (h:l[0]? = some x) (h1:1<l.length):(sameId l).length=l.length∧(cellsN l).set 3 (.int .i64 x.f0)=cellsN (sameId l):=by
  cases l with
  | nil=>cases h
  | cons y r=>
    obtain rfl:y=x:=(by simpa using h)
    cases r with
    | nil=>exact absurd h1 (by simp)
    | cons z r=>exact ⟨rfl,rfl⟩
section
variable {w w1:World} {base:Nat} {v0 v1 v2 v3 v1':Value} {a:List S45} {b c b':List S47} {d:List ByteArray}
theorem has_g1 (h:HasD w base v0 v1 v2 v3 a b c d) (hT:Turned w w1 (fun k=>some k=v1.ownBlock)) (hR:Kd.R k47 47 w1 base (fun k=>some k≠v2.ownBlock) v1' b'):HasD w1 base v0 v1' v2 v3 a b' c d:=by
  have ty:=Kd.R_typed h.r1
  refine ⟨Kd.R_step h.r0 fun k hk hl=>hT.block k hl fun e=>?_,Kd.R_tight rfl hR,Kd.R_step h.r2 fun k hk hl=>hT.block k hl fun e=>h.ne k e hk,Kd.R_step h.r3 fun k hk hl=>hT.block k hl fun e=>?_,fun k hk=>hR.1 k hk.symm⟩
  · obtain ⟨z,hz⟩:=ty k e.symm
    exact Kd.R_ne h.r0 hz (by decide) hk
  · obtain ⟨z,hz⟩:=ty k e.symm
    exact Kd.R_ne h.r3 hz (by decide) hk
theorem has_g2 (h:HasD w base v0 v1 v2 v3 a b c d) (hT:Turned w w1 (fun k=>some k=v2.ownBlock)) (hR:Kd.R k47 47 w1 base (fun k=>some k≠v1.ownBlock) v1' b'):HasD w1 base v0 v1 v1' v3 a b b' d:=by
  have ty:=Kd.R_typed h.r2
  refine ⟨Kd.R_step h.r0 fun k hk hl=>hT.block k hl fun e=>?_,Kd.R_step h.r1 fun k hk hl=>hT.block k hl fun e=>h.ne k hk e,Kd.R_tight rfl hR,Kd.R_step h.r3 fun k hk hl=>hT.block k hl fun e=>?_,fun k hk hk2=>hR.1 k hk2.symm hk⟩
  · obtain ⟨z,hz⟩:=ty k e.symm
    exact Kd.R_ne h.r0 hz (by decide) hk
  · obtain ⟨z,hz⟩:=ty k e.symm
    exact Kd.R_ne h.r3 hz (by decide) hk
end
theorem spec_l05Any.calls (k:Nat) (g:Nat) (aa:List Int) (ad:Int) (ae:Int) (r1:List S45) (r2:List S47) (r3:List S47) (r4:List ByteArray) (r5:Int) (r6:Int) (r7:Int) (r8:Int) (w0 w:World) (hI:IsS87 w0 w g aa ad ae) (hB:Below w0.heap.size w0 w) (h:spec_l05Any.f k aa ad ae=some (r1,r2,r3,r4,r5,r6,r7,r8)) :
    Calls Tryz.prog 33 #[.pointer (some ⟨g,0,none⟩)] w fun e w'=>∃ v0_ v1_ v2_ v3_:Value,e=.returned (.agg #[v0_,v1_,v2_,v3_,.int .i64 r5,.int .i64 r6])∧Kd.R k45 45 w' w.heap.size (fun _=>True) v0_ r1∧Kd.R k47 47 w' w.heap.size (fun k_=>some k_≠(v2_:Value).ownBlock) v1_ r2∧Kd.R k47 47 w' w.heap.size (fun k_=>some k_≠(v1_:Value).ownBlock) v2_ r3∧Kd.R Kd.string 9 w' w.heap.size (fun _=>True) v3_ r4∧IsS87 w0 w' g aa r7 r8∧Below w0.heap.size w0 w'∧KeepBut w w' g none:=by
  unfold spec_l05Any.f at h
  obtain ⟨li0,af⟩:∃ x,x=([(-1),0,5,1000000001]:List Int):=⟨_,rfl⟩
  rw [← af] at h
  have HL0:=zA af
  clear af
  obtain ⟨li1,ag⟩:∃ x,x=([0,1,2,(-1),9223372036854775807]:List Int):=⟨_,rfl⟩
  rw [← ag] at h
  have HL1:=zA ag
  clear ag
  obtain ⟨li5,ah⟩:∃ x,x=([(-1),0,99]:List Int):=⟨_,rfl⟩
  rw [← ah] at h
  have HL5:=zA ah
  clear ah
  obtain ⟨ls4,ai⟩:∃ x,x=([(⟨#[45,97]⟩:ByteArray),(⟨#[43,113,58,49]⟩:ByteArray),(⟨#[120]⟩:ByteArray),(⟨#[]⟩:ByteArray),(⟨#[43,113,58,57]⟩:ByteArray),(⟨#[45,122,122]⟩:ByteArray),(⟨#[43,58,49]⟩:ByteArray),(⟨#[43,113,58]⟩:ByteArray)]:List ByteArray):=⟨_,rfl⟩
  rw [← ai] at h
  have HL4:=zA ai
  clear ai
  have GLT:=zA hI.lt
  have GWW:=zA hB.size
  have HK:=zA (KeepBut.refl w g none)
  replace h:=zo h
  obtain ⟨⟨d1,d2,d3,d4,d5,d6,d7,d8⟩,hd,h⟩:=h
  replace h:=zo h
  obtain ⟨⟨z,z2,z3⟩,hz,h⟩:=h
  dsimp only at hz h
  have CD:=zA (fun (w1:World) (hI:IsS87 w0 w1 g aa ad ae) (hB:Below w0.heap.size w0 w1)=>spec_l05Disk.calls k g aa ad ae d1 d2 d3 d4 d5 d6 d7 d8 w0 w1 hI hB hd)
  have CZ:=zA (fun (w1:World) (hI:IsS87 w0 w1 g aa d7 d8) (hB:Below w0.heap.size w0 w1)=>spec_l01Below.calls g aa d7 d8 16 z z2 z3 w0 w1 hI hB hz)
  have HI:=zA hI
  have HB:=zA hB
  clear hI hB hd hz
  (by_cases hz0:z=0)
  (rw [if_pos hz0] at h;subst hz0;replace h:=zo h;obtain ⟨⟨q,q2,q3⟩,hq,h⟩:=h;dsimp only at hq h;have CP:=zA (fun (w1:World) (bb:Nat) (pp:Nat→Prop) (Al:Option Addr) (cl:Nat) (hI:IsS87 w0 w1 g aa z2 z3) (hB:Below w0.heap.size w0 w1) (hr:Kd.R (Kd.int .i64) 3 w1 bb pp (.slice Al li0.length cl) li0)=>spec_l01PickInt.calls g aa z2 z3 Al cl li0 q q2 q3 w0 w1 hI hB (Kd.R_reads' hr).2.2 (Kd.R_reads' hr).2.1 (far_slice (IsS87.own_ne hI hr (by decide))) hq);clear hq;(simp only [Option.some.injEq,Prod.mk.injEq] at h;obtain ⟨rfl,rfl,rfl,rfl,rfl,rfl,rfl,rfl⟩:=h))
  (rotate_left 1;(rw [if_neg hz0] at h;have f0:(z == 0)=false:=beq_eq_false_iff_ne.mpr hz0;by_cases hz1:z=1);rotate_right 1)
  (rotate_left 1;(rw [if_pos hz1] at h;subst hz1;replace h:=zo h;obtain ⟨⟨q,q2,q3⟩,hq,h⟩:=h;dsimp only at hq h;have CP:=zA (fun (w1:World) (bb:Nat) (pp:Nat→Prop) (Al:Option Addr) (cl:Nat) (hI:IsS87 w0 w1 g aa z2 z3) (hB:Below w0.heap.size w0 w1) (hr:Kd.R (Kd.int .i64) 3 w1 bb pp (.slice Al li1.length cl) li1)=>spec_l01PickInt.calls g aa z2 z3 Al cl li1 q q2 q3 w0 w1 hI hB (Kd.R_reads' hr).2.2 (Kd.R_reads' hr).2.1 (far_slice (IsS87.own_ne hI hr (by decide))) hq);clear hq;(simp only [Option.some.injEq,Prod.mk.injEq] at h;obtain ⟨rfl,rfl,rfl,rfl,rfl,rfl,rfl,rfl⟩:=h));rotate_right 1)
  (rotate_left 2;(rw [if_neg hz1] at h;have f1:(z == 1)=false:=beq_eq_false_iff_ne.mpr hz1;by_cases hz2:z=2);rotate_right 2)
  (rotate_left 2;(rw [if_pos hz2] at h;subst hz2;replace h:=zo h;obtain ⟨⟨q,q2,q3⟩,hq,h⟩:=h;dsimp only at hq h;have CQ:=zA (fun (w1:World) (hI:IsS87 w0 w1 g aa z2 z3) (hB:Below w0.heap.size w0 w1)=>spec_l01Below.calls g aa z2 z3 4 q q2 q3 w0 w1 hI hB hq);clear hq;by_cases hl:(d2.length+1)*24≤140737488355328);rotate_right 2)
  (rotate_left 3;(rw [if_neg hl] at h;cases h);rotate_right 3)
  (rotate_left 2;(rw [if_pos hl] at h;have HL:=zA hl;generalize hnl:(d2++[(⟨(⟨#[122]⟩:ByteArray),q⟩:S47)])=nl at h;have HN:=zA hnl;clear hl hnl;(simp only [Option.some.injEq,Prod.mk.injEq] at h;obtain ⟨rfl,rfl,rfl,rfl,rfl,rfl,rfl,rfl⟩:=h));rotate_right 2)
  (rotate_left 3;(rw [if_neg hz2] at h;have f2:(z == 2)=false:=beq_eq_false_iff_ne.mpr hz2;by_cases hz3:z=3);rotate_right 3)
  (rotate_left 3;(rw [if_pos hz3] at h;subst hz3;by_cases hl:(d3.length+1)*24≤140737488355328);rotate_right 3)
  (rotate_left 4;(rw [if_neg hl] at h;cases h);rotate_right 4)
  (rotate_left 3;(rw [if_pos hl] at h;have HL:=zA hl;generalize hnl:(d3++[(⟨(⟨#[122]⟩:ByteArray),1⟩:S47)])=nl at h;have HN:=zA hnl;clear hl hnl;(simp only [Option.some.injEq,Prod.mk.injEq] at h;obtain ⟨rfl,rfl,rfl,rfl,rfl,rfl,rfl,rfl⟩:=h));rotate_right 3)
  (rotate_left 4;(rw [if_neg hz3] at h;have f3:(z == 3)=false:=beq_eq_false_iff_ne.mpr hz3;by_cases hz4:z=4);rotate_right 4)
  (rotate_left 4;(rw [if_pos hz4] at h;subst hz4;replace h:=zo h;obtain ⟨⟨q,q2,q3⟩,hq,h⟩:=h;dsimp only at hq h;have CP:=zA (fun (w1:World) (bb:Nat) (pp:Nat→Prop) (Al:Option Addr) (cl:Nat) (hI:IsS87 w0 w1 g aa z2 z3) (hB:Below w0.heap.size w0 w1) (hr:Kd.R Kd.string 9 w1 bb pp (.slice Al ls4.length cl) ls4)=>spec_l01Pick.calls g aa z2 z3 Al cl ls4 q q2 q3 w0 w1 hI hB (Kd.R_reads' hr).2.2 (Kd.R_reads' hr).2.1 (far_slice (IsS87.own_ne hI hr (by decide))) hq);clear hq;by_cases hl:(d4.length+1)*16≤140737488355328);rotate_right 4)
  (rotate_left 5;(rw [if_neg hl] at h;cases h);rotate_right 5)
  (rotate_left 4;(rw [if_pos hl] at h;have HL:=zA hl;generalize hnl:(d4++[q])=nl at h;have HN:=zA hnl;clear hl hnl;(simp only [Option.some.injEq,Prod.mk.injEq] at h;obtain ⟨rfl,rfl,rfl,rfl,rfl,rfl,rfl,rfl⟩:=h));rotate_right 4)
  (rotate_left 5;(rw [if_neg hz4] at h;have f4:(z == 4)=false:=beq_eq_false_iff_ne.mpr hz4;by_cases hz5:z=5);rotate_right 5)
  (rotate_left 5;(rw [if_pos hz5] at h;subst hz5;by_cases hl:0<d1.length);rotate_right 5)
  (rotate_left 5;(rw [if_pos hl] at h;replace h:=zo h;obtain ⟨⟨q,q2,q3⟩,hq,h⟩:=h;dsimp only at hq h;have CP:=zA (fun (w1:World) (bb:Nat) (pp:Nat→Prop) (Al:Option Addr) (cl:Nat) (hI:IsS87 w0 w1 g aa z2 z3) (hB:Below w0.heap.size w0 w1) (hr:Kd.R (Kd.int .i64) 3 w1 bb pp (.slice Al li5.length cl) li5)=>spec_l01PickInt.calls g aa z2 z3 Al cl li5 q q2 q3 w0 w1 hI hB (Kd.R_reads' hr).2.2 (Kd.R_reads' hr).2.1 (far_slice (IsS87.own_ne hI hr (by decide))) hq);clear hq;have f1_:decide (0<d1.length)=true:=zt hl;have f2_:decide ((0:Int)<(d1.length:Int))=true:=zt (by omega);obtain ⟨x,hx⟩:∃ x,d1[0]? = some x:=⟨_,List.getElem?_eq_getElem (by omega)⟩;have HX:=zA hx;clear hx;generalize hnl:setSure d1 q=nl at h;have HN:=zA hnl;clear hnl;have HLL:=zA hl;clear hl;(simp only [Option.some.injEq,Prod.mk.injEq] at h;obtain ⟨rfl,rfl,rfl,rfl,rfl,rfl,rfl,rfl⟩:=h));rotate_right 5)
  (rotate_left 6;(rw [if_neg hl] at h;have f1_:decide (0<d1.length)=false:=zf hl;have f2_:decide ((0:Int)<(d1.length:Int))=false:=zf (by omega);clear hl;(simp only [Option.some.injEq,Prod.mk.injEq] at h;obtain ⟨rfl,rfl,rfl,rfl,rfl,rfl,rfl,rfl⟩:=h));rotate_right 6)
  (rotate_left 7;(rw [if_neg hz5] at h;have f5:(z == 5)=false:=beq_eq_false_iff_ne.mpr hz5;by_cases hz6:z=6);rotate_right 7)
  (rotate_left 7;(rw [if_pos hz6] at h;subst hz6;by_cases hl:1<d1.length);rotate_right 7)
  (rotate_left 7;(rw [if_pos hl] at h;have f1_:decide (1<d1.length)=true:=zt hl;have f2_:decide ((1:Int)<(d1.length:Int))=true:=zt (by omega);obtain ⟨x,hx⟩:∃ x,d1[0]? = some x:=⟨_,List.getElem?_eq_getElem (by omega)⟩;have HX:=zA hx;clear hx;generalize hnl:sameId d1=nl at h;have HN:=zA hnl;clear hnl;have HLL:=zA hl;clear hl;(simp only [Option.some.injEq,Prod.mk.injEq] at h;obtain ⟨rfl,rfl,rfl,rfl,rfl,rfl,rfl,rfl⟩:=h));rotate_right 7)
  (rotate_left 8;(rw [if_neg hl] at h;have f1_:decide (1<d1.length)=false:=zf hl;have f2_:decide ((1:Int)<(d1.length:Int))=false:=zf (by omega);clear hl;(simp only [Option.some.injEq,Prod.mk.injEq] at h;obtain ⟨rfl,rfl,rfl,rfl,rfl,rfl,rfl,rfl⟩:=h));rotate_right 8)
  (rotate_left 9;(rw [if_neg hz6] at h;have f6:(z == 6)=false:=beq_eq_false_iff_ne.mpr hz6;(simp only [Option.some.injEq,Prod.mk.injEq] at h;obtain ⟨rfl,rfl,rfl,rfl,rfl,rfl,rfl,rfl⟩:=h));rotate_right 9)
  all_goals (go_enter Tryz.func33,Tryz.ntmps33;go_wp2_with (first | ((with_reducible refine gate_dst (N:=2) rfl ?_);refine box_event ?hg (N:=2) ?hd (cs:=#[.slice none 0 0,.slice none 0 0,.slice none 0 0,.slice none 0 0,.int .i64 0,.int .i64 0]) (t:=28) ?hr ?_;(case hd=>rfl);(case hg=>rfl);(case hr=>(go_simp;done));intro gR hg w1 hbox hb;have GRW:=zA (show w.heap.size≤gR by rw [hg];exact HK.out.1);have GR2:=zA (show gR≠g by rw [hg];exact Nat.ne_of_gt HI.out.lt);replace HI:=zA (HI.out.below hb);replace HK:=zA (KeepBut.trans HK.out (KeepBut.of_below hb g none) (.inl rfl));replace HB:=zs HB hb;have BR:=zA hbox;clear hb;clear hg hbox) | (go_at_call 79;have hbs:=HK.out.1;(with_reducible refine (CD.out _ HI.out HB.out).mono ?_);rintro e w1 ⟨u0,u1,u2,u3,rfl,p0,p1,p2,p3,hi,hb,hk⟩;have hD:=HasD.of p0 p1 p2 p3;replace HI:=zA hi;replace HB:=zA hb;replace HK:=zA (KeepBut.trans HK.out hk (.inl rfl));(try replace BR:=zA (KeepBut.blk hk BR.out GR2.out (by simp)));have Dn:=zA (hD.lower hbs);obtain ⟨A0,a0,rfl⟩:=Kd.R_slice p0;obtain ⟨A1,a1,rfl⟩:=Kd.R_slice p1;obtain ⟨A2,a2,rfl⟩:=Kd.R_slice p2;obtain ⟨A3,a3,rfl⟩:=Kd.R_slice p3;clear hD hb hi hk hbs p0 p1 p2 p3) | ((with_reducible refine gate_store (t:=28) (p:=3) rfl ?_);refine store_event (t:=28) (p:=3) (v:=?voD) (w1:=w1.alloc (.cells #[.slice A0 d1.length a0,.slice A1 d2.length a1,.slice A2 d3.length a2,.slice A3 d4.length a3,.int .i64 d5,.int .i64 d6] 28 (0,0))) ?hg ?ho ?hn ?hr ?_;(case ho=>rfl);(case hg=>rfl);(case hn=>rfl);(case hr=>(go_simp;done));intro wz hw;have hb:Below w1.heap.size w1 wz:=(by rw [hw];exact below_alloc (Below.refl _ _) _);have hbox:=(by rw [hw];exact blk_new w1 _:wz.heap[w1.heap.size]? = some (.cells #[.slice A0 d1.length a0,.slice A1 d2.length a1,.slice A2 d3.length a2,.slice A3 d4.length a3,.int .i64 d5,.int .i64 d6] 28 (0,0)));clear hw;obtain ⟨gD,hg⟩:∃ g,g=w1.heap.size:=⟨_,rfl⟩;rw [← hg] at hbox;have GDW:=zA (show w.heap.size≤gD by rw [hg];exact HK.out.1);have GD0:=zA (Nat.le_trans GWW.out GDW.out);have GD2:=zA (show gD≠g by rw [hg];exact Nat.ne_of_gt HI.out.lt);have RD:=zA (show gR≠gD by rw [hg];exact Nat.ne_of_lt (blk_lt BR.out));(try rw [← hg]);clear hg;have Do:=Dn;clear Dn;replace HI:=zA (HI.out.below hb);replace HK:=zA (KeepBut.trans HK.out (KeepBut.of_below hb g none) (.inl rfl));replace HB:=zs HB hb;(try replace BR:=zb BR hb);(try replace Do:=zA (Do.out.on hb));have BD:=zA hbox;clear hb hbox;obtain ⟨w1,hw1⟩:∃ x,x=wz:=⟨_,rfl⟩;subst hw1) | (go_at_call 37;(with_reducible refine (CZ.out _ HI.out HB.out).mono ?_);rintro e w1 ⟨rfl,hi,hb,hk⟩;replace HI:=zA hi;replace HB:=zA hb;replace HK:=zA (KeepBut.trans HK.out hk (.inl rfl));(try replace BD:=zA (KeepBut.blk hk BD.out GD2.out (by simp)));(try replace BR:=zA (KeepBut.blk hk BR.out GR2.out (by simp)));(try replace Do:=zA (Do.out.step fun k ho hl=>hk.2 k hl (fun e=>Nat.not_le_of_lt GLT.out (e▸Do.out.ge k ho)) (by simp)));clear hi hb hk;replace iD:=blk6 BD.out;replace zD:=z6of BD.out;(try (replace iR:=blk6 BR.out;obtain ⟨zR0,zR1,zR2,zR3,zR4,zR5⟩:=z6of BR.out))) | ((with_reducible refine gate_dst (N:=11) rfl ?_);refine Kd.R_lit (Kd.int .i64) _ 3 ?hg (N:=11) ?hd (xs:=([(-1),0,5,1000000001]:List Int)) (inner:=[.int .i64 (-1),.int .i64 0,.int .i64 5,.int .i64 1000000001]) (ok:=fun _=>True) (okp:=fun _=>True) ?hr ?hp (fun _ hk=>hk) trivial (Below.refl _ _) (Nat.le_refl _) (by simp) ?_;(case hd=>rfl);(case hg=>rfl);(case hr=>(go_simp;done));(case hp=>exact (Reps.one (show Kd.M (Kd.int .i64) _ _ _ (-1) [.int .i64 (-1)] from rfl) (Reps.one (show Kd.M (Kd.int .i64) _ _ _ 0 [.int .i64 0] from rfl) (Reps.one (show Kd.M (Kd.int .i64) _ _ _ 5 [.int .i64 5] from rfl) (Reps.one (show Kd.M (Kd.int .i64) _ _ _ 1000000001 [.int .i64 1000000001] from rfl) (Reps.none _ _))))));intro v9 w1 ho hb hg_ hnew_;clear hg_ hnew_;rw [← HL0.out] at ho;replace HI:=zA (HI.out.below hb);replace HK:=zA (KeepBut.trans HK.out (KeepBut.of_below hb g none) (.inl rfl));replace HB:=zs HB hb;(try replace BD:=zb BD hb);(try replace BR:=zb BR hb);(try replace Do:=zA (Do.out.on hb));have RL:=zA ho;obtain ⟨Al,cl,rfl⟩:=Kd.R_slice ho;clear ho hb;replace iD:=blk6 BD.out;replace zD:=z6of BD.out;(try (replace iR:=blk6 BR.out;obtain ⟨zR0,zR1,zR2,zR3,zR4,zR5⟩:=z6of BR.out))) | ((with_reducible refine gate_dst (N:=17) rfl ?_);refine Kd.R_lit (Kd.int .i64) _ 3 ?hg (N:=17) ?hd (xs:=([0,1,2,(-1),9223372036854775807]:List Int)) (inner:=[.int .i64 0,.int .i64 1,.int .i64 2,.int .i64 (-1),.int .i64 9223372036854775807]) (ok:=fun _=>True) (okp:=fun _=>True) ?hr ?hp (fun _ hk=>hk) trivial (Below.refl _ _) (Nat.le_refl _) (by simp) ?_;(case hd=>rfl);(case hg=>rfl);(case hr=>(go_simp;done));(case hp=>exact (Reps.one (show Kd.M (Kd.int .i64) _ _ _ 0 [.int .i64 0] from rfl) (Reps.one (show Kd.M (Kd.int .i64) _ _ _ 1 [.int .i64 1] from rfl) (Reps.one (show Kd.M (Kd.int .i64) _ _ _ 2 [.int .i64 2] from rfl) (Reps.one (show Kd.M (Kd.int .i64) _ _ _ (-1) [.int .i64 (-1)] from rfl) (Reps.one (show Kd.M (Kd.int .i64) _ _ _ 9223372036854775807 [.int .i64 9223372036854775807] from rfl) (Reps.none _ _)))))));intro v9 w1 ho hb hg_ hnew_;clear hg_ hnew_;rw [← HL1.out] at ho;replace HI:=zA (HI.out.below hb);replace HK:=zA (KeepBut.trans HK.out (KeepBut.of_below hb g none) (.inl rfl));replace HB:=zs HB hb;(try replace BD:=zb BD hb);(try replace BR:=zb BR hb);(try replace Do:=zA (Do.out.on hb));have RL:=zA ho;obtain ⟨Al,cl,rfl⟩:=Kd.R_slice ho;clear ho hb;replace iD:=blk6 BD.out;replace zD:=z6of BD.out;(try (replace iR:=blk6 BR.out;obtain ⟨zR0,zR1,zR2,zR3,zR4,zR5⟩:=z6of BR.out))) | (go_at_call 60;(with_reducible refine (CP.out _ _ _ _ _ HI.out HB.out RL.out).mono ?_);rintro e w1 ⟨rfl,hi,hb,hk⟩;replace HI:=zA hi;replace HB:=zA hb;replace HK:=zA (KeepBut.trans HK.out hk (.inl rfl));(try replace BD:=zA (KeepBut.blk hk BD.out GD2.out (by simp)));(try replace BR:=zA (KeepBut.blk hk BR.out GR2.out (by simp)));(try replace Do:=zA (Do.out.step fun k ho hl=>hk.2 k hl (fun e=>Nat.not_le_of_lt GLT.out (e▸Do.out.ge k ho)) (by simp)));clear hi hb hk RL;replace iD:=blk6 BD.out;replace zD:=z6of BD.out;(try (replace iR:=blk6 BR.out;obtain ⟨zR0,zR1,zR2,zR3,zR4,zR5⟩:=z6of BR.out))) | ((with_reducible refine gate_store (t:=3) (p:=13) rfl ?_);refine store_event (t:=3) (p:=13) (v:=?vo13) (w1:=w1.setCell ⟨gD,4,none⟩ (.int .i64 q)) ?hg ?ho ?hn ?hr ?_;(case ho=>rfl);(case hg=>rfl);(case hn=>rfl);(case hr=>(go_simp;done));intro wz hw;have hs:∀ j,j≠gD→wz.heap[j]? = w1.heap[j]?:=(by rw [hw];exact fun j hj=>Below.heap_setCell w1 ⟨gD,4,none⟩ _ j hj);have hG:wz.heap[gD]? = some (.cells #[.slice A0 d1.length a0,.slice A1 d2.length a1,.slice A2 d3.length a2,.slice A3 d4.length a3,.int .i64 q,.int .i64 d6] 28 (0,0)):=(by rw [hw];exact blk_put (cs:=#[.slice A0 d1.length a0,.slice A1 d2.length a1,.slice A2 d3.length a2,.slice A3 d4.length a3,.int .i64 d5,.int .i64 d6]) BD.out 4 _ rfl);have hI:IsS87 w0 wz g aa _ _:=(by rw [hw];exact IsS87.far (p:=⟨gD,4,none⟩) HI.out (Ne.symm GD2.out) _);have hB1:Below w0.heap.size w0 wz:=(by rw [hw];exact below_set HB.out GD0.out);have hK1:KeepBut w wz g none:=(by rw [hw];exact keep_far HK.out GDW.out _);have Dm:=HasD.fill Do.out BD.out hs;have Rm:=(hs gR RD.out).trans BR.out;clear hw hs Do BD HI HB HK BR;have Do:=zA Dm;have BD:=zA hG;have HI:=zA hI;have HB:=zA hB1;have HK:=zA hK1;have BR:=zA Rm;clear Dm hG hI hB1 hK1 Rm;obtain ⟨w1,hw1⟩:∃ x,x=wz:=⟨_,rfl⟩;subst hw1;replace iD:=blk6 BD.out;replace zD:=z6of BD.out;(try (replace iR:=blk6 BR.out;obtain ⟨zR0,zR1,zR2,zR3,zR4,zR5⟩:=z6of BR.out))) | ((with_reducible refine gate_store (t:=3) (p:=19) rfl ?_);refine store_event (t:=3) (p:=19) (v:=?vo19) (w1:=w1.setCell ⟨gD,5,none⟩ (.int .i64 q)) ?hg ?ho ?hn ?hr ?_;(case ho=>rfl);(case hg=>rfl);(case hn=>rfl);(case hr=>(go_simp;done));intro wz hw;have hs:∀ j,j≠gD→wz.heap[j]? = w1.heap[j]?:=(by rw [hw];exact fun j hj=>Below.heap_setCell w1 ⟨gD,5,none⟩ _ j hj);have hG:wz.heap[gD]? = some (.cells #[.slice A0 d1.length a0,.slice A1 d2.length a1,.slice A2 d3.length a2,.slice A3 d4.length a3,.int .i64 d5,.int .i64 q] 28 (0,0)):=(by rw [hw];exact blk_put (cs:=#[.slice A0 d1.length a0,.slice A1 d2.length a1,.slice A2 d3.length a2,.slice A3 d4.length a3,.int .i64 d5,.int .i64 d6]) BD.out 5 _ rfl);have hI:IsS87 w0 wz g aa _ _:=(by rw [hw];exact IsS87.far (p:=⟨gD,5,none⟩) HI.out (Ne.symm GD2.out) _);have hB1:Below w0.heap.size w0 wz:=(by rw [hw];exact below_set HB.out GD0.out);have hK1:KeepBut w wz g none:=(by rw [hw];exact keep_far HK.out GDW.out _);have Dm:=HasD.fill Do.out BD.out hs;have Rm:=(hs gR RD.out).trans BR.out;clear hw hs Do BD HI HB HK BR;have Do:=zA Dm;have BD:=zA hG;have HI:=zA hI;have HB:=zA hB1;have HK:=zA hK1;have BR:=zA Rm;clear Dm hG hI hB1 hK1 Rm;obtain ⟨w1,hw1⟩:∃ x,x=wz:=⟨_,rfl⟩;subst hw1;replace iD:=blk6 BD.out;replace zD:=z6of BD.out;(try (replace iR:=blk6 BR.out;obtain ⟨zR0,zR1,zR2,zR3,zR4,zR5⟩:=z6of BR.out))) | (at_builtin;refine Kd.R_append k47 w.heap.size rfl (.tmp 33) (.tmp 35) 25 47 (.agg #[(.string ⟨#[]⟩),(.int .i64 0)]) 24 rfl Tryz.underlying25 info47 rfl (by decide) (by omega) (.slice A2 d3.length a2) d3 ⟨(⟨#[122]⟩:ByteArray),1⟩ [.string (⟨#[122]⟩:ByteArray),.int .i64 1] (fun k_=>some k_≠(Value.slice A1 d2.length a1).ownBlock) (fun _=>False) rfl rfl (k47_mkM _ _ _ _) (fun _ h=>h.elim) (fun k_ hk e=>absurd (Kd.R_lt Do.out.r1 k_ e.symm) (Nat.not_lt.mpr hk)) (Kd.R_mono Do.out.r2 fun k_ hk e=>Do.out.ne k_ e hk) (Below.refl _ _) HK.out.1 HL.out ?_;intro v5 w2 ho hb1 hg1 ab;rw [HN.out] at ho;obtain ⟨A4,a4,rfl⟩:=Kd.R_slice ho;have hT:Turned _ w2 _:=⟨hg1.os,hg1.tape,hg1.output,hg1.size,fun k hk hn=>hg1.block k hk hn⟩;have n1:=IsS87.grown HI.out hg1 (IsS87.own_ne HI.out Do.out.r2 (by decide));have n2:=blk_grown BD.out hg1 (Kd.R_ne Do.out.r2 BD.out (by decide));have n3:=blk_grown BR.out hg1 (Kd.R_ne Do.out.r2 BR.out (by decide));have n4:=below_weaken HB.out GWW.out hb1;have n5:=KeepBut.trans HK.out (KeepBut.of_grown hg1 g) (Kd.R_base2 Do.out.r2);have n6:=has_g2 Do.out hT ho;clear HI BD BR HB HK Do;have HI:=zA n1;have BD:=zA n2;have BR:=zA n3;have HB:=zA n4;have HK:=zA n5;have Do:=zA n6;clear n1 n2 n3 n4 n5 n6 hT hb1 hg1 ab ho;obtain ⟨w1,hw1⟩:∃ x,x=w2:=⟨_,rfl⟩;subst hw1;replace iD:=blk6 BD.out;replace zD:=z6of BD.out;(try (replace iR:=blk6 BR.out;obtain ⟨zR0,zR1,zR2,zR3,zR4,zR5⟩:=z6of BR.out))) | ((with_reducible refine gate_store (t:=25) (p:=37) rfl ?_);refine store_event (t:=25) (p:=37) (v:=?vo37) (w1:=w1.setCell ⟨gD,2,none⟩ (.slice A4 nl.length a4)) ?hg ?ho ?hn ?hr ?_;(case ho=>rfl);(case hg=>rfl);(case hn=>rfl);(case hr=>(go_simp;done));intro wz hw;have hs:∀ j,j≠gD→wz.heap[j]? = w1.heap[j]?:=(by rw [hw];exact fun j hj=>Below.heap_setCell w1 ⟨gD,2,none⟩ _ j hj);have hG:wz.heap[gD]? = some (.cells #[.slice A0 d1.length a0,.slice A1 d2.length a1,.slice A4 nl.length a4,.slice A3 d4.length a3,.int .i64 d5,.int .i64 d6] 28 (0,0)):=(by rw [hw];exact blk_put (cs:=#[.slice A0 d1.length a0,.slice A1 d2.length a1,.slice A2 d3.length a2,.slice A3 d4.length a3,.int .i64 d5,.int .i64 d6]) BD.out 2 _ rfl);have hI:IsS87 w0 wz g aa _ _:=(by rw [hw];exact IsS87.far (p:=⟨gD,2,none⟩) HI.out (Ne.symm GD2.out) _);have hB1:Below w0.heap.size w0 wz:=(by rw [hw];exact below_set HB.out GD0.out);have hK1:KeepBut w wz g none:=(by rw [hw];exact keep_far HK.out GDW.out _);have Dm:=HasD.fill Do.out BD.out hs;have Rm:=(hs gR RD.out).trans BR.out;clear hw hs Do BD HI HB HK BR;have Do:=zA Dm;have BD:=zA hG;have HI:=zA hI;have HB:=zA hB1;have HK:=zA hK1;have BR:=zA Rm;clear Dm hG hI hB1 hK1 Rm;obtain ⟨w1,hw1⟩:∃ x,x=wz:=⟨_,rfl⟩;subst hw1;replace iD:=blk6 BD.out;replace zD:=z6of BD.out;(try (replace iR:=blk6 BR.out;obtain ⟨zR0,zR1,zR2,zR3,zR4,zR5⟩:=z6of BR.out)))))
  refine bodyPost_ret (results_cell_row rfl _ _ gR 28 #[.slice A0 d1.length a0,.slice A1 d2.length a1,.slice A2 d3.length a2,.slice A3 d4.length a3,.int .i64 q,.int .i64 d6] (0,0) _ rfl (fill6_at BR.out) Tryz.underlying28 rfl (by kernel_rfl)) rfl ?_
  have hT:=filled_told (.int .i64 q) (.int .i64 d6) Do.out BR.out
  exact ⟨_,_,_,_,rfl,hT.1,hT.2.1,hT.2.2.1,hT.2.2.2,cur6 HI.out (Ne.symm GR2.out) _ _ _ _ _ _,fill6_below HB.out (Nat.le_trans GWW.out GRW.out),keep6 HK.out GRW.out _ _ _ _ _ _⟩
  refine bodyPost_ret (results_cell_row rfl _ _ gR 28 #[.slice A0 d1.length a0,.slice A1 d2.length a1,.slice A2 d3.length a2,.slice A3 d4.length a3,.int .i64 d5,.int .i64 q] (0,0) _ rfl (fill6_at BR.out) Tryz.underlying28 rfl (by kernel_rfl)) rfl ?_
  have hT:=filled_told (.int .i64 d5) (.int .i64 q) Do.out BR.out
  exact ⟨_,_,_,_,rfl,hT.1,hT.2.1,hT.2.2.1,hT.2.2.2,cur6 HI.out (Ne.symm GR2.out) _ _ _ _ _ _,fill6_below HB.out (Nat.le_trans GWW.out GRW.out),keep6 HK.out GRW.out _ _ _ _ _ _⟩
  (try clear iD zD)
  have hb:=below_drew (Below.refl w1.heap.size w1)
  replace HI:=zA (HI.out.below hb);replace HK:=zA (KeepBut.trans HK.out (KeepBut.of_below hb g none) (.inl rfl));replace HB:=zs HB hb;(try replace BD:=zb BD hb);(try replace BR:=zb BR hb);(try replace Do:=zA (Do.out.on hb))
  clear hb
  refine start_ (n:=9) (S:=fun w'=>w'.cell? ⟨gD,0,none⟩=some (.slice A0 d1.length a0)∧w'.cell? ⟨gD,1,none⟩=some (.slice A1 d2.length a1)∧w'.cell? ⟨gD,2,none⟩=some (.slice A2 d3.length a2)∧w'.cell? ⟨gD,3,none⟩=some (.slice A3 d4.length a3)∧w'.cell? ⟨gD,4,none⟩=some (.int .i64 d5)∧w'.cell? ⟨gD,5,none⟩=some (.int .i64 d6)) (ds:=[8]) (marks 9 0) (by kernel_rfl) rfl rfl (zc BD) (fun hHeld=>?_)
  generalize w1.drew=w2 at HI HB HK BD BR Do hHeld ⊢
  refine pure_ (i:=0) (N:=some 22) (v:=?_) (a':=?_) (marks 9 1) rfl rfl (by kernel_rfl) (fun _ _ _ h=>h) (Or.inl ⟨by rfl,?_⟩) ?_ ?_
  rotate_left
  · intro w'
    go_simp
    with_reducible rfl
  rotate_left
  · simp only [Act.put,yA,yB,yC,i64_w,i32_w]
    rfl
  refine take_ (i:=1) (N:=some 23) (v:=?_) (a':=?_) (marks 9 3) rfl rfl (by kernel_rfl) (fun _ _ _ h=>h) (Or.inl ⟨by rfl,?_⟩) hHeld ?_ ?_
  rotate_left
  · rintro w' ⟨s0,s1,s2,s3,s4,s5⟩
    go_simp
    with_reducible rfl
  rotate_left
  · simp only [Act.put,yA,yB,yC,i64_w,i32_w]
    rfl
  refine pure_ (i:=2) (N:=some 24) (v:=?_) (a':=?_) (marks 9 7) rfl rfl (by kernel_rfl) (fun _ _ _ h=>h) (Or.inl ⟨by rfl,?_⟩) ?_ ?_
  rotate_left
  · intro w'
    go_simp
    with_reducible rfl
  rotate_left
  · simp only [Act.put,yA,yB,yC,i64_w,i32_w]
    rfl
  refine one_ (i:=3) (N:=some 25) (marks 9 15) rfl rfl (by kernel_rfl) (by decide) (fun K hK=>?_)
  refine goes_ Tryz.func37 (by kernel_rfl) rfl #[.pointer (some ⟨g,0,none⟩),.int .i64 4] (by rfl) rfl rfl (by (try simp only [List.map_toArray,List.map_cons,List.map_nil]);rfl) ?_
  with_reducible refine (CQ.out _ HI.out HB.out).mono ?_
  rintro e w1 ⟨rfl,hi,hb,hk⟩
  refine ⟨_,rfl,?_⟩
  replace HI:=zA hi;replace HB:=zA hb;replace HK:=zA (KeepBut.trans HK.out hk (.inl rfl));(try replace BD:=zA (KeepBut.blk hk BD.out GD2.out (by simp)));(try replace BR:=zA (KeepBut.blk hk BR.out GR2.out (by simp)));(try replace Do:=zA (Do.out.step fun k ho hl=>hk.2 k hl (fun e=>Nat.not_le_of_lt GLT.out (e▸Do.out.ge k ho)) (by simp)))
  clear hi hb hk
  refine hK.out _ _ (zc BD) (fun hHeld=>?_)
  clear hK K
  refine norm_ (a':=?_) ?_ ?_
  rotate_left
  · show Act.put _ (some 25) _=_
    simp only [Act.put,yA,yB,yC,i64_w,i32_w]
    rfl
  refine pure_ (i:=4) (N:=some 26) (v:=?_) (a':=?_) (marks 9 31) rfl rfl (by kernel_rfl) (fun _ _ _ h=>h) (Or.inl ⟨by rfl,?_⟩) ?_ ?_
  rotate_left
  · intro w'
    go_simp
    with_reducible rfl
  rotate_left
  · simp only [Act.put,yA,yB,yC,i64_w,i32_w]
    rfl
  refine one_ (i:=5) (N:=some 27) (marks 9 63) rfl rfl (by kernel_rfl) (by decide) (fun K hK=>?_)
  refine value_ (w1:=?_) (v:=?_) (by rfl) rfl ?_ ?_
  rotate_left 2
  · go_simp
    constructor
    · rfl
    · rfl
  refine hK.out _ _ ⟨(blk_cell (blk_alloc BD.out _) 0).trans rfl,(blk_cell (blk_alloc BD.out _) 1).trans rfl,(blk_cell (blk_alloc BD.out _) 2).trans rfl,(blk_cell (blk_alloc BD.out _) 3).trans rfl,(blk_cell (blk_alloc BD.out _) 4).trans rfl,(blk_cell (blk_alloc BD.out _) 5).trans rfl⟩ (fun hHeld=>?_)
  clear hK K
  refine norm_ (a':=?_) ?_ ?_
  rotate_left
  · show Act.put _ (some 27) _=_
    simp only [Act.put,yA,yB,yC,i64_w,i32_w]
    rfl
  refine one_ (i:=6) (N:=some 28) (marks 9 127) rfl rfl (by kernel_rfl) (by decide) (fun K hK=>?_)
  refine Kd.R_append_step k47 w.heap.size (by rfl) (.tmp 23) (.tmp 27) 25 47 (.agg #[(.string ⟨#[]⟩),(.int .i64 0)]) 24 rfl Tryz.underlying25 info47 rfl (by decide) (by omega) (.slice A1 d2.length a1) d2 ⟨(⟨#[122]⟩:ByteArray),q⟩ [.string (⟨#[122]⟩:ByteArray),.int .i64 q] (fun k_=>some k_≠(Value.slice A2 d3.length a2).ownBlock) (fun _=>False) rfl rfl (k47_mkM _ _ _ _) (fun _ h=>h.elim) (fun k_ hk e=>absurd (Kd.R_lt Do.out.r2 k_ e.symm) (Nat.not_lt.mpr hk)) (Kd.R_mono Do.out.r1 fun k_ hk=>Do.out.ne k_ hk) (Below.refl _ _) HK.out.1 HL.out ?_
  intro v5 w2 ho hb1 hg1 ab
  rw [HN.out] at ho
  obtain ⟨A4,a4,rfl⟩:=Kd.R_slice ho
  have hT:Turned _ w2 _:=⟨hg1.os,hg1.tape,hg1.output,hg1.size,fun k hk hn=>hg1.block k hk hn⟩
  have n1:=IsS87.grown HI.out hg1 (IsS87.own_ne HI.out Do.out.r1 (by decide))
  have n2:=blk_grown BD.out hg1 (Kd.R_ne Do.out.r1 BD.out (by decide))
  have n3:=blk_grown BR.out hg1 (Kd.R_ne Do.out.r1 BR.out (by decide))
  have n4:=below_weaken HB.out GWW.out hb1
  have n5:=KeepBut.trans HK.out (KeepBut.of_grown hg1 g) (Kd.R_base2 Do.out.r1)
  have n6:=has_g1 Do.out hT ho
  clear HI BD BR HB HK Do
  have HI:=zA n1
  have BD:=zA n2
  have BR:=zA n3
  have HB:=zA n4
  have HK:=zA n5
  have Do:=zA n6
  clear n1 n2 n3 n4 n5 n6 hT hb1 hg1 ab ho
  obtain ⟨w1,hw1⟩:∃ x,x=w2:=⟨_,rfl⟩
  subst hw1
  refine hK.out _ _ (zc BD) (fun hHeld=>?_)
  clear hK K
  refine norm_ (a':=?_) ?_ ?_
  rotate_left
  · show Act.put _ (some 28) _=_
    simp only [Act.put,yA,yB,yC,i64_w,i32_w]
    rfl
  refine pure_ (i:=7) (N:=some 29) (v:=?_) (a':=?_) (marks 9 255) rfl rfl (by kernel_rfl) (fun _ _ _ h=>h) (Or.inl ⟨by rfl,?_⟩) ?_ ?_
  rotate_left
  · intro w'
    go_simp
    with_reducible rfl
  rotate_left
  · simp only [Act.put,yA,yB,yC,i64_w,i32_w]
    rfl
  refine last_ (i:=8) (N:=none) (marks 9 511) rfl rfl (by kernel_rfl) (by decide) (fun K hK=>?_)
  replace iD:=blk6 BD.out;replace zD:=z6of BD.out
  refine skip_ (w1:=?_) (by rfl) rfl ?_ ?_
  rotate_left
  · go_simp
    rfl
  refine hK.out _ _ ?_
  clear hK K
  (try clear iD zD)
  refine done_ (by kernel_rfl) ?_
  have hs:∀ j,j≠gD→(w1.setCell ⟨gD,1,none⟩ (.slice A4 nl.length a4)).heap[j]? = w1.heap[j]?:=(fun j hj=>Below.heap_setCell w1 ⟨gD,1,none⟩ _ j hj)
  have hG:(w1.setCell ⟨gD,1,none⟩ (.slice A4 nl.length a4)).heap[gD]? = some (.cells #[.slice A0 d1.length a0,.slice A4 nl.length a4,.slice A2 d3.length a2,.slice A3 d4.length a3,.int .i64 d5,.int .i64 d6] 28 (0,0)):=(blk_put (cs:=#[.slice A0 d1.length a0,.slice A1 d2.length a1,.slice A2 d3.length a2,.slice A3 d4.length a3,.int .i64 d5,.int .i64 d6]) BD.out 1 _ rfl)
  have hI:IsS87 w0 (w1.setCell ⟨gD,1,none⟩ (.slice A4 nl.length a4)) g aa _ _:=(IsS87.far (p:=⟨gD,1,none⟩) HI.out (Ne.symm GD2.out) _)
  have hB1:Below w0.heap.size w0 (w1.setCell ⟨gD,1,none⟩ (.slice A4 nl.length a4)):=(below_set HB.out GD0.out)
  have hK1:KeepBut w (w1.setCell ⟨gD,1,none⟩ (.slice A4 nl.length a4)) g none:=(keep_far HK.out GDW.out _)
  have Dm:=HasD.fill Do.out BD.out hs
  have Rm:=(hs gR RD.out).trans BR.out
  clear hs Do BD HI HB HK BR
  (try clear RL)
  clear hHeld
  generalize (w1.setCell ⟨gD,1,none⟩ (.slice A4 nl.length a4))=wz at hG hI hB1 hK1 Dm Rm ⊢
  have Do:=zA Dm
  have BD:=zA hG
  have HI:=zA hI
  have HB:=zA hB1
  have HK:=zA hK1
  have BR:=zA Rm
  clear Dm hG hI hB1 hK1 Rm
  obtain ⟨w1,hw1⟩:∃ x,x=wz:=⟨_,rfl⟩
  subst hw1
  replace iD:=blk6 BD.out;replace zD:=z6of BD.out
  replace iR:=blk6 BR.out;obtain ⟨zR0,zR1,zR2,zR3,zR4,zR5⟩:=z6of BR.out
  go_wp2_with fail
  refine bodyPost_ret (results_cell_row rfl _ _ gR 28 #[.slice A0 d1.length a0,.slice A4 nl.length a4,.slice A2 d3.length a2,.slice A3 d4.length a3,.int .i64 d5,.int .i64 d6] (0,0) _ rfl (fill6_at BR.out) Tryz.underlying28 rfl (by kernel_rfl)) rfl ?_
  have hT:=filled_told (.int .i64 d5) (.int .i64 d6) Do.out BR.out
  exact ⟨_,_,_,_,rfl,hT.1,hT.2.1,hT.2.2.1,hT.2.2.2,cur6 HI.out (Ne.symm GR2.out) _ _ _ _ _ _,fill6_below HB.out (Nat.le_trans GWW.out GRW.out),keep6 HK.out GRW.out _ _ _ _ _ _⟩
  refine bodyPost_ret (results_cell_row rfl _ _ gR 28 #[.slice A0 d1.length a0,.slice A1 d2.length a1,.slice A4 nl.length a4,.slice A3 d4.length a3,.int .i64 d5,.int .i64 d6] (0,0) _ rfl (fill6_at BR.out) Tryz.underlying28 rfl (by kernel_rfl)) rfl ?_
  have hT:=filled_told (.int .i64 d5) (.int .i64 d6) Do.out BR.out
  exact ⟨_,_,_,_,rfl,hT.1,hT.2.1,hT.2.2.1,hT.2.2.2,cur6 HI.out (Ne.symm GR2.out) _ _ _ _ _ _,fill6_below HB.out (Nat.le_trans GWW.out GRW.out),keep6 HK.out GRW.out _ _ _ _ _ _⟩
  (try clear iD zD)
  have hb:=below_drew (Below.refl w1.heap.size w1)
  replace HI:=zA (HI.out.below hb);replace HK:=zA (KeepBut.trans HK.out (KeepBut.of_below hb g none) (.inl rfl));replace HB:=zs HB hb;(try replace BD:=zb BD hb);(try replace BR:=zb BR hb);(try replace Do:=zA (Do.out.on hb))
  clear hb
  refine start_ (n:=9) (S:=fun w'=>w'.cell? ⟨gD,0,none⟩=some (.slice A0 d1.length a0)∧w'.cell? ⟨gD,1,none⟩=some (.slice A1 d2.length a1)∧w'.cell? ⟨gD,2,none⟩=some (.slice A2 d3.length a2)∧w'.cell? ⟨gD,3,none⟩=some (.slice A3 d4.length a3)∧w'.cell? ⟨gD,4,none⟩=some (.int .i64 d5)∧w'.cell? ⟨gD,5,none⟩=some (.int .i64 d6)) (ds:=[8]) (marks 9 0) (by kernel_rfl) rfl rfl (zc BD) (fun hHeld=>?_)
  generalize w1.drew=w2 at HI HB HK BD BR Do hHeld ⊢
  refine pure_ (i:=0) (N:=some 40) (v:=?_) (a':=?_) (marks 9 1) rfl rfl (by kernel_rfl) (fun _ _ _ h=>h) (Or.inl ⟨by rfl,?_⟩) ?_ ?_
  rotate_left
  · intro w'
    go_simp
    with_reducible rfl
  rotate_left
  · simp only [Act.put,yA,yB,yC,i64_w,i32_w]
    rfl
  refine take_ (i:=1) (N:=some 41) (v:=?_) (a':=?_) (marks 9 3) rfl rfl (by kernel_rfl) (fun _ _ _ h=>h) (Or.inl ⟨by rfl,?_⟩) hHeld ?_ ?_
  rotate_left
  · rintro w' ⟨s0,s1,s2,s3,s4,s5⟩
    go_simp
    with_reducible rfl
  rotate_left
  · simp only [Act.put,yA,yB,yC,i64_w,i32_w]
    rfl
  refine pure_ (i:=2) (N:=some 42) (v:=?_) (a':=?_) (marks 9 7) rfl rfl (by kernel_rfl) (fun _ _ _ h=>h) (Or.inl ⟨by rfl,?_⟩) ?_ ?_
  rotate_left
  · intro w'
    go_simp
    with_reducible rfl
  rotate_left
  · simp only [Act.put,yA,yB,yC,i64_w,i32_w]
    rfl
  refine one_ (i:=3) (N:=some 43) (marks 9 15) rfl rfl (by kernel_rfl) (by decide) (fun K hK=>?_)
  refine Kd.R_lit_step Kd.string _ 9 ?hg (N:=43) ?hd (xs:=([(⟨#[45,97]⟩:ByteArray),(⟨#[43,113,58,49]⟩:ByteArray),(⟨#[120]⟩:ByteArray),(⟨#[]⟩:ByteArray),(⟨#[43,113,58,57]⟩:ByteArray),(⟨#[45,122,122]⟩:ByteArray),(⟨#[43,58,49]⟩:ByteArray),(⟨#[43,113,58]⟩:ByteArray)]:List ByteArray)) (inner:=[.string (⟨#[45,97]⟩:ByteArray),.string (⟨#[43,113,58,49]⟩:ByteArray),.string (⟨#[120]⟩:ByteArray),.string (⟨#[]⟩:ByteArray),.string (⟨#[43,113,58,57]⟩:ByteArray),.string (⟨#[45,122,122]⟩:ByteArray),.string (⟨#[43,58,49]⟩:ByteArray),.string (⟨#[43,113,58]⟩:ByteArray)]) (ok:=fun _=>True) (okp:=fun _=>True) ?hr ?hp (fun _ hk=>hk) trivial (Below.refl _ _) (Nat.le_refl _) (by simp) ?_
  (case hd=>rfl)
  (case hg=>rfl)
  (case hr=>(go_simp;done))
  (case hp=>exact (Reps.one (show Kd.M Kd.string _ _ _ (⟨#[45,97]⟩:ByteArray) [.string (⟨#[45,97]⟩:ByteArray)] from rfl) (Reps.one (show Kd.M Kd.string _ _ _ (⟨#[43,113,58,49]⟩:ByteArray) [.string (⟨#[43,113,58,49]⟩:ByteArray)] from rfl) (Reps.one (show Kd.M Kd.string _ _ _ (⟨#[120]⟩:ByteArray) [.string (⟨#[120]⟩:ByteArray)] from rfl) (Reps.one (show Kd.M Kd.string _ _ _ (⟨#[]⟩:ByteArray) [.string (⟨#[]⟩:ByteArray)] from rfl) (Reps.one (show Kd.M Kd.string _ _ _ (⟨#[43,113,58,57]⟩:ByteArray) [.string (⟨#[43,113,58,57]⟩:ByteArray)] from rfl) (Reps.one (show Kd.M Kd.string _ _ _ (⟨#[45,122,122]⟩:ByteArray) [.string (⟨#[45,122,122]⟩:ByteArray)] from rfl) (Reps.one (show Kd.M Kd.string _ _ _ (⟨#[43,58,49]⟩:ByteArray) [.string (⟨#[43,58,49]⟩:ByteArray)] from rfl) (Reps.one (show Kd.M Kd.string _ _ _ (⟨#[43,113,58]⟩:ByteArray) [.string (⟨#[43,113,58]⟩:ByteArray)] from rfl) (Reps.none _ _))))))))))
  intro v9 w1 ho hb hg_ hnew_
  clear hg_ hnew_
  rw [← HL4.out] at ho
  replace HI:=zA (HI.out.below hb);replace HK:=zA (KeepBut.trans HK.out (KeepBut.of_below hb g none) (.inl rfl));replace HB:=zs HB hb;(try replace BD:=zb BD hb);(try replace BR:=zb BR hb);(try replace Do:=zA (Do.out.on hb))
  have RL:=zA ho
  obtain ⟨Al,cl,rfl⟩:=Kd.R_slice ho
  clear ho hb
  refine hK.out _ _ (zc BD) (fun hHeld=>?_)
  clear hK K
  refine norm_ (a':=?_) ?_ ?_
  rotate_left
  · show Act.put _ (some 43) _=_
    simp only [Act.put,yA,yB,yC,i64_w,i32_w]
    rfl
  refine one_ (i:=4) (N:=some 44) (marks 9 31) rfl rfl (by kernel_rfl) (by decide) (fun K hK=>?_)
  refine goes_ Tryz.func80 (by kernel_rfl) rfl #[.pointer (some ⟨g,0,none⟩),.slice Al ls4.length cl] (by rfl) rfl rfl (by (try simp only [List.map_toArray,List.map_cons,List.map_nil]);rfl) ?_
  with_reducible refine (CP.out _ _ _ _ _ HI.out HB.out RL.out).mono ?_
  rintro e w1 ⟨rfl,hi,hb,hk⟩
  refine ⟨_,rfl,?_⟩
  replace HI:=zA hi;replace HB:=zA hb;replace HK:=zA (KeepBut.trans HK.out hk (.inl rfl));(try replace BD:=zA (KeepBut.blk hk BD.out GD2.out (by simp)));(try replace BR:=zA (KeepBut.blk hk BR.out GR2.out (by simp)));(try replace Do:=zA (Do.out.step fun k ho hl=>hk.2 k hl (fun e=>Nat.not_le_of_lt GLT.out (e▸Do.out.ge k ho)) (by simp)))
  clear hi hb hk
  refine hK.out _ _ (zc BD) (fun hHeld=>?_)
  clear hK K
  refine norm_ (a':=?_) ?_ ?_
  rotate_left
  · show Act.put _ (some 44) _=_
    simp only [Act.put,yA,yB,yC,i64_w,i32_w]
    rfl
  refine one_ (i:=5) (N:=some 45) (marks 9 63) rfl rfl (by kernel_rfl) (by decide) (fun K hK=>?_)
  refine value_ (w1:=?_) (v:=?_) (by rfl) rfl ?_ ?_
  rotate_left 2
  · go_simp
    constructor
    · rfl
    · rfl
  refine hK.out _ _ ⟨(blk_cell (blk_alloc BD.out _) 0).trans rfl,(blk_cell (blk_alloc BD.out _) 1).trans rfl,(blk_cell (blk_alloc BD.out _) 2).trans rfl,(blk_cell (blk_alloc BD.out _) 3).trans rfl,(blk_cell (blk_alloc BD.out _) 4).trans rfl,(blk_cell (blk_alloc BD.out _) 5).trans rfl⟩ (fun hHeld=>?_)
  clear hK K
  refine norm_ (a':=?_) ?_ ?_
  rotate_left
  · show Act.put _ (some 45) _=_
    simp only [Act.put,yA,yB,yC,i64_w,i32_w]
    rfl
  refine one_ (i:=6) (N:=some 46) (marks 9 127) rfl rfl (by kernel_rfl) (by decide) (fun K hK=>?_)
  refine Kd.R_append_step Kd.string w.heap.size (by rfl) (.tmp 41) (.tmp 45) 26 9 (.string ⟨#[]⟩) 16 rfl Tryz.underlying26 info9 rfl (by decide) (by omega) (.slice A3 d4.length a3) d4 q [.string q] (fun _=>True) (fun _=>False) rfl rfl rfl (fun _ h=>h.elim) (fun _ _=>trivial) (Kd.R_mono Do.out.r3 fun _ _=>trivial) (Below.refl _ _) HK.out.1 HL.out ?_
  intro v5 w2 ho hb1 hg1 ab
  rw [HN.out] at ho
  obtain ⟨A4,a4,rfl⟩:=Kd.R_slice ho
  have hT:Turned _ w2 _:=⟨hg1.os,hg1.tape,hg1.output,hg1.size,fun k hk hn=>hg1.block k hk hn⟩
  have n1:=IsS87.grown HI.out hg1 (IsS87.own_ne HI.out Do.out.r3 (by decide))
  have n2:=blk_grown BD.out hg1 (Kd.R_ne Do.out.r3 BD.out (by decide))
  have n3:=blk_grown BR.out hg1 (Kd.R_ne Do.out.r3 BR.out (by decide))
  have n4:=below_weaken HB.out GWW.out hb1
  have n5:=KeepBut.trans HK.out (KeepBut.of_grown hg1 g) (Kd.R_base2 Do.out.r3)
  have n6:=has_r3 Do.out hT ho
  clear HI BD BR HB HK Do
  have HI:=zA n1
  have BD:=zA n2
  have BR:=zA n3
  have HB:=zA n4
  have HK:=zA n5
  have Do:=zA n6
  clear n1 n2 n3 n4 n5 n6 hT hb1 hg1 ab ho
  obtain ⟨w1,hw1⟩:∃ x,x=w2:=⟨_,rfl⟩
  subst hw1
  refine hK.out _ _ (zc BD) (fun hHeld=>?_)
  clear hK K
  refine norm_ (a':=?_) ?_ ?_
  rotate_left
  · show Act.put _ (some 46) _=_
    simp only [Act.put,yA,yB,yC,i64_w,i32_w]
    rfl
  refine pure_ (i:=7) (N:=some 47) (v:=?_) (a':=?_) (marks 9 255) rfl rfl (by kernel_rfl) (fun _ _ _ h=>h) (Or.inl ⟨by rfl,?_⟩) ?_ ?_
  rotate_left
  · intro w'
    go_simp
    with_reducible rfl
  rotate_left
  · simp only [Act.put,yA,yB,yC,i64_w,i32_w]
    rfl
  refine last_ (i:=8) (N:=none) (marks 9 511) rfl rfl (by kernel_rfl) (by decide) (fun K hK=>?_)
  replace iD:=blk6 BD.out;replace zD:=z6of BD.out
  refine skip_ (w1:=?_) (by rfl) rfl ?_ ?_
  rotate_left
  · go_simp
    rfl
  refine hK.out _ _ ?_
  clear hK K
  (try clear iD zD)
  refine done_ (by kernel_rfl) ?_
  have hs:∀ j,j≠gD→(w1.setCell ⟨gD,3,none⟩ (.slice A4 nl.length a4)).heap[j]? = w1.heap[j]?:=(fun j hj=>Below.heap_setCell w1 ⟨gD,3,none⟩ _ j hj)
  have hG:(w1.setCell ⟨gD,3,none⟩ (.slice A4 nl.length a4)).heap[gD]? = some (.cells #[.slice A0 d1.length a0,.slice A1 d2.length a1,.slice A2 d3.length a2,.slice A4 nl.length a4,.int .i64 d5,.int .i64 d6] 28 (0,0)):=(blk_put (cs:=#[.slice A0 d1.length a0,.slice A1 d2.length a1,.slice A2 d3.length a2,.slice A3 d4.length a3,.int .i64 d5,.int .i64 d6]) BD.out 3 _ rfl)
  have hI:IsS87 w0 (w1.setCell ⟨gD,3,none⟩ (.slice A4 nl.length a4)) g aa _ _:=(IsS87.far (p:=⟨gD,3,none⟩) HI.out (Ne.symm GD2.out) _)
  have hB1:Below w0.heap.size w0 (w1.setCell ⟨gD,3,none⟩ (.slice A4 nl.length a4)):=(below_set HB.out GD0.out)
  have hK1:KeepBut w (w1.setCell ⟨gD,3,none⟩ (.slice A4 nl.length a4)) g none:=(keep_far HK.out GDW.out _)
  have Dm:=HasD.fill Do.out BD.out hs
  have Rm:=(hs gR RD.out).trans BR.out
  clear hs Do BD HI HB HK BR
  (try clear RL)
  clear hHeld
  generalize (w1.setCell ⟨gD,3,none⟩ (.slice A4 nl.length a4))=wz at hG hI hB1 hK1 Dm Rm ⊢
  have Do:=zA Dm
  have BD:=zA hG
  have HI:=zA hI
  have HB:=zA hB1
  have HK:=zA hK1
  have BR:=zA Rm
  clear Dm hG hI hB1 hK1 Rm
  obtain ⟨w1,hw1⟩:∃ x,x=wz:=⟨_,rfl⟩
  subst hw1
  replace iD:=blk6 BD.out;replace zD:=z6of BD.out
  replace iR:=blk6 BR.out;obtain ⟨zR0,zR1,zR2,zR3,zR4,zR5⟩:=z6of BR.out
  go_wp2_with fail
  refine bodyPost_ret (results_cell_row rfl _ _ gR 28 #[.slice A0 d1.length a0,.slice A1 d2.length a1,.slice A2 d3.length a2,.slice A4 nl.length a4,.int .i64 d5,.int .i64 d6] (0,0) _ rfl (fill6_at BR.out) Tryz.underlying28 rfl (by kernel_rfl)) rfl ?_
  have hT:=filled_told (.int .i64 d5) (.int .i64 d6) Do.out BR.out
  exact ⟨_,_,_,_,rfl,hT.1,hT.2.1,hT.2.2.1,hT.2.2.2,cur6 HI.out (Ne.symm GR2.out) _ _ _ _ _ _,fill6_below HB.out (Nat.le_trans GWW.out GRW.out),keep6 HK.out GRW.out _ _ _ _ _ _⟩
  obtain ⟨gN,row,rfl,hbg,hgn,hc0,hc1,hc2,hfr,hs1,hs2⟩:=cutRow Do.out 0 x HX.out
  clear hbg hgn hc0 hc1 hc2 hfr hs1 hs2 row
  (try clear iD zD)
  have hb:=below_drew (Below.refl w1.heap.size w1)
  replace HI:=zA (HI.out.below hb);replace HK:=zA (KeepBut.trans HK.out (KeepBut.of_below hb g none) (.inl rfl));replace HB:=zs HB hb;(try replace BD:=zb BD hb);(try replace BR:=zb BR hb);(try replace Do:=zA (Do.out.on hb))
  clear hb
  refine start_ (n:=8) (S:=fun w'=>w'.cell? ⟨gD,0,none⟩=some (.slice (some ⟨gN,0,none⟩) d1.length a0)∧w'.cell? ⟨gD,1,none⟩=some (.slice A1 d2.length a1)∧w'.cell? ⟨gD,2,none⟩=some (.slice A2 d3.length a2)∧w'.cell? ⟨gD,3,none⟩=some (.slice A3 d4.length a3)∧w'.cell? ⟨gD,4,none⟩=some (.int .i64 d5)∧w'.cell? ⟨gD,5,none⟩=some (.int .i64 d6)) (ds:=[7]) (marks 8 0) (by kernel_rfl) rfl rfl (zc BD) (fun hHeld=>?_)
  generalize w1.drew=w2 at HI HB HK BD BR Do hHeld ⊢
  refine pure_ (i:=0) (N:=some 54) (v:=?_) (a':=?_) (marks 8 1) rfl rfl (by kernel_rfl) (fun _ _ _ h=>h) (Or.inl ⟨by rfl,?_⟩) ?_ ?_
  rotate_left
  · intro w'
    go_simp
    with_reducible rfl
  rotate_left
  · simp only [Act.put,yA,yB,yC,i64_w,i32_w]
    rfl
  refine take_ (i:=1) (N:=some 55) (v:=?_) (a':=?_) (marks 8 3) rfl rfl (by kernel_rfl) (fun _ _ _ h=>h) (Or.inl ⟨by rfl,?_⟩) hHeld ?_ ?_
  rotate_left
  · rintro w' ⟨s0,s1,s2,s3,s4,s5⟩
    go_simp
    with_reducible rfl
  rotate_left
  · simp only [Act.put,yA,yB,yC,i64_w,i32_w]
    rfl
  refine pure_ (i:=2) (N:=some 56) (v:=?_) (a':=?_) (marks 8 7) rfl rfl (by kernel_rfl) (fun _ _ _ h=>h) (Or.inl ⟨by rfl,?_⟩) ?_ ?_
  rotate_left
  · intro w'
    go_simp
    with_reducible rfl
  rotate_left
  · simp only [Act.put,yA,yB,yC,i64_w,i32_w]
    rfl
  refine one_ (i:=3) (N:=some 57) (marks 8 15) rfl rfl (by kernel_rfl) (by decide) (fun K hK=>?_)
  refine Kd.R_lit_step (Kd.int .i64) _ 3 ?hg (N:=57) ?hd (xs:=([(-1),0,99]:List Int)) (inner:=[.int .i64 (-1),.int .i64 0,.int .i64 99]) (ok:=fun _=>True) (okp:=fun _=>True) ?hr ?hp (fun _ hk=>hk) trivial (Below.refl _ _) (Nat.le_refl _) (by simp) ?_
  (case hd=>rfl)
  (case hg=>rfl)
  (case hr=>(go_simp;done))
  (case hp=>exact (Reps.one (show Kd.M (Kd.int .i64) _ _ _ (-1) [.int .i64 (-1)] from rfl) (Reps.one (show Kd.M (Kd.int .i64) _ _ _ 0 [.int .i64 0] from rfl) (Reps.one (show Kd.M (Kd.int .i64) _ _ _ 99 [.int .i64 99] from rfl) (Reps.none _ _)))))
  intro v9 w1 ho hb hg_ hnew_
  clear hg_ hnew_
  rw [← HL5.out] at ho
  replace HI:=zA (HI.out.below hb);replace HK:=zA (KeepBut.trans HK.out (KeepBut.of_below hb g none) (.inl rfl));replace HB:=zs HB hb;(try replace BD:=zb BD hb);(try replace BR:=zb BR hb);(try replace Do:=zA (Do.out.on hb))
  have RL:=zA ho
  obtain ⟨Al,cl,rfl⟩:=Kd.R_slice ho
  clear ho hb
  refine hK.out _ _ (zc BD) (fun hHeld=>?_)
  clear hK K
  refine norm_ (a':=?_) ?_ ?_
  rotate_left
  · show Act.put _ (some 57) _=_
    simp only [Act.put,yA,yB,yC,i64_w,i32_w]
    rfl
  refine one_ (i:=4) (N:=some 58) (marks 8 31) rfl rfl (by kernel_rfl) (by decide) (fun K hK=>?_)
  refine goes_ Tryz.func60 (by kernel_rfl) rfl #[.pointer (some ⟨g,0,none⟩),.slice Al li5.length cl] (by rfl) rfl rfl (by (try simp only [List.map_toArray,List.map_cons,List.map_nil]);rfl) ?_
  with_reducible refine (CP.out _ _ _ _ _ HI.out HB.out RL.out).mono ?_
  rintro e w1 ⟨rfl,hi,hb,hk⟩
  refine ⟨_,rfl,?_⟩
  replace HI:=zA hi;replace HB:=zA hb;replace HK:=zA (KeepBut.trans HK.out hk (.inl rfl));(try replace BD:=zA (KeepBut.blk hk BD.out GD2.out (by simp)));(try replace BR:=zA (KeepBut.blk hk BR.out GR2.out (by simp)));(try replace Do:=zA (Do.out.step fun k ho hl=>hk.2 k hl (fun e=>Nat.not_le_of_lt GLT.out (e▸Do.out.ge k ho)) (by simp)))
  clear hi hb hk
  refine hK.out _ _ (zc BD) (fun hHeld=>?_)
  clear hK K
  refine norm_ (a':=?_) ?_ ?_
  rotate_left
  · show Act.put _ (some 58) _=_
    simp only [Act.put,yA,yB,yC,i64_w,i32_w]
    rfl
  have f3_:0<d1.length:=HLL.out
  refine pure_ (i:=5) (N:=some 59) (v:=?_) (a':=?_) (marks 8 63) rfl rfl (by kernel_rfl) (fun _ _ _ h=>h) (Or.inl ⟨by rfl,?_⟩) ?_ ?_
  rotate_left
  · intro w'
    go_simp
    with_reducible rfl
  rotate_left
  · simp only [Act.put,yA,yB,yC,i64_w,i32_w]
    rfl
  refine pure_ (i:=6) (N:=some 60) (v:=?_) (a':=?_) (marks 8 127) rfl rfl (by kernel_rfl) (fun _ _ _ h=>h) (Or.inl ⟨by rfl,?_⟩) ?_ ?_
  rotate_left
  · intro w'
    go_simp
    with_reducible rfl
  rotate_left
  · simp only [Act.put,yA,yB,yC,i64_w,i32_w]
    rfl
  obtain ⟨gN2,row,hgg,hbg,hgn,hc0,hc1,hc2,hfr,hs1,hs2⟩:=cutRow Do.out 0 x HX.out
  injection hgg with hgg
  injection hgg with hgg
  subst hgg
  refine last_ (i:=7) (N:=none) (marks 8 255) rfl rfl (by kernel_rfl) (by decide) (fun K hK=>?_)
  refine skip_ (w1:=?_) (by rfl) rfl ?_ ?_
  rotate_left
  · go_simp
    rfl
  refine hK.out _ _ ?_
  clear hK K
  (try clear iD zD)
  refine done_ (by kernel_rfl) ?_
  have hS5:HasD (w1.setCell ⟨gN,2,none⟩ (.int .i64 q)) w.heap.size (.slice (some ⟨gN,0,none⟩) d1.length a0) (.slice A1 d2.length a1) (.slice A2 d3.length a2) (.slice A3 d4.length a3) nl d2 d3 d4:=by rw [← HN.out,← setSure_eq HX.out];exact hs2 q
  clear hc0 hc1 hc2 hfr hs1 hs2
  have hneD:gD≠gN:=fun e=>Do.out.nobox BD.out (by decide) (by decide) (by decide) (.inl (by rw [e];rfl))
  have hneR:gR≠gN:=fun e=>Do.out.nobox BR.out (by decide) (by decide) (by decide) (.inl (by rw [e];rfl))
  have hG:(w1.setCell ⟨gN,2,none⟩ (.int .i64 q)).heap[gD]? = some (.cells #[.slice (some ⟨gN,0,none⟩) d1.length a0,.slice A1 d2.length a1,.slice A2 d3.length a2,.slice A3 d4.length a3,.int .i64 d5,.int .i64 d6] 28 (0,0)):=blk_far BD.out hneD _
  have Rm:(w1.setCell ⟨gN,2,none⟩ (.int .i64 q)).heap[gR]? = some (.cells #[.slice none 0 0,.slice none 0 0,.slice none 0 0,.slice none 0 0,.int .i64 0,.int .i64 0] 28 (0,0)):=blk_far BR.out hneR _
  have hI:=IsS87.far (p:=⟨gN,2,none⟩) HI.out (IsS87.ne_blk HI.out hgn (by decide)) (.int .i64 q)
  have hB1:Below w0.heap.size w0 (w1.setCell ⟨gN,2,none⟩ (.int .i64 q)):=below_set HB.out (Nat.le_trans GWW.out hbg)
  have hK1:KeepBut w (w1.setCell ⟨gN,2,none⟩ (.int .i64 q)) g none:=keep_far HK.out hbg _
  have Dm:=hS5
  clear hneD hneR Do BD HI HB HK BR hgn hbg
  (try clear RL)
  (try clear hHeld)
  generalize (w1.setCell ⟨gN,2,none⟩ (.int .i64 q))=wz at hG hI hB1 hK1 Dm Rm ⊢
  have Do:=zA Dm
  have BD:=zA hG
  have HI:=zA hI
  have HB:=zA hB1
  have HK:=zA hK1
  have BR:=zA Rm
  clear Dm hG hI hB1 hK1 Rm
  obtain ⟨w1,hw1⟩:∃ x,x=wz:=⟨_,rfl⟩
  subst hw1
  replace iD:=blk6 BD.out;replace zD:=z6of BD.out
  replace iR:=blk6 BR.out;obtain ⟨zR0,zR1,zR2,zR3,zR4,zR5⟩:=z6of BR.out
  go_wp2_with fail
  refine bodyPost_ret (results_cell_row rfl _ _ gR 28 #[.slice (some ⟨gN,0,none⟩) d1.length a0,.slice A1 d2.length a1,.slice A2 d3.length a2,.slice A3 d4.length a3,.int .i64 d5,.int .i64 d6] (0,0) _ rfl (fill6_at BR.out) Tryz.underlying28 rfl (by kernel_rfl)) rfl ?_
  have hT:=filled_told (.int .i64 d5) (.int .i64 d6) Do.out BR.out
  exact ⟨_,_,_,_,rfl,hT.1,hT.2.1,hT.2.2.1,hT.2.2.2,cur6 HI.out (Ne.symm GR2.out) _ _ _ _ _ _,fill6_below HB.out (Nat.le_trans GWW.out GRW.out),keep6 HK.out GRW.out _ _ _ _ _ _⟩
  refine bodyPost_ret (results_cell_row rfl _ _ gR 28 #[.slice A0 d1.length a0,.slice A1 d2.length a1,.slice A2 d3.length a2,.slice A3 d4.length a3,.int .i64 d5,.int .i64 d6] (0,0) _ rfl (fill6_at BR.out) Tryz.underlying28 rfl (by kernel_rfl)) rfl ?_
  have hT:=filled_told (.int .i64 d5) (.int .i64 d6) Do.out BR.out
  exact ⟨_,_,_,_,rfl,hT.1,hT.2.1,hT.2.2.1,hT.2.2.2,cur6 HI.out (Ne.symm GR2.out) _ _ _ _ _ _,fill6_below HB.out (Nat.le_trans GWW.out GRW.out),keep6 HK.out GRW.out _ _ _ _ _ _⟩
  obtain ⟨gN,row,rfl,hbg,hgn,hc0,hc1,hc2,hfr,hs1,hs2⟩:=cutRow Do.out 0 x HX.out
  (try clear iD zD)
  clear hc1 hc2 hfr hs1 hs2 hbg hgn row
  have hb:=below_drew (Below.refl w1.heap.size w1)
  have hc0:=(hb.cell (World.block_lt_of_cell? w1 _ hc0)).trans hc0
  replace HI:=zA (HI.out.below hb);replace HK:=zA (KeepBut.trans HK.out (KeepBut.of_below hb g none) (.inl rfl));replace HB:=zs HB hb;(try replace BD:=zb BD hb);(try replace BR:=zb BR hb);(try replace Do:=zA (Do.out.on hb))
  clear hb
  refine start_ (n:=10) (S:=fun w'=>w'.cell? ⟨gD,0,none⟩=some (.slice (some ⟨gN,0,none⟩) d1.length a0)∧w'.cell? ⟨gN,0,none⟩=some (.int .i64 x.f0)) (ds:=[9]) (marks 10 0) (by kernel_rfl) rfl rfl ⟨(blk_cell BD.out 0).trans rfl,hc0⟩ (fun hHeld=>?_)
  generalize w1.drew=w2 at HI HB HK BD BR Do hc0 hHeld ⊢
  clear hc0
  obtain ⟨w1,hw1⟩:∃ x,x=w2:=⟨_,rfl⟩
  subst hw1
  refine pure_ (i:=0) (N:=some 67) (v:=?_) (a':=?_) (marks 10 1) rfl rfl (by kernel_rfl) (fun _ _ _ h=>h) (Or.inl ⟨by rfl,?_⟩) ?_ ?_
  rotate_left
  · intro w'
    go_simp
    with_reducible rfl
  rotate_left
  · simp only [Act.put,yA,yB,yC,i64_w,i32_w]
    rfl
  refine pure_ (i:=2) (N:=some 69) (v:=?_) (a':=?_) (marks 10 5) rfl rfl (by kernel_rfl) (fun _ _ _ h=>h) (Or.inl ⟨by rfl,?_⟩) ?_ ?_
  rotate_left
  · intro w'
    go_simp
    with_reducible rfl
  rotate_left
  · simp only [Act.put,yA,yB,yC,i64_w,i32_w]
    rfl
  refine take_ (i:=1) (N:=some 68) (v:=?_) (a':=?_) (marks 10 7) rfl rfl (by kernel_rfl) (fun _ _ _ h=>h) (Or.inl ⟨by rfl,?_⟩) hHeld ?_ ?_
  rotate_left
  · rintro w' ⟨s0,s1⟩
    go_simp
    with_reducible rfl
  rotate_left
  · simp only [Act.put,yA,yB,yC,i64_w,i32_w]
    rfl
  refine take_ (i:=3) (N:=some 70) (v:=?_) (a':=?_) (marks 10 15) rfl rfl (by kernel_rfl) (fun _ _ _ h=>h) (Or.inl ⟨by rfl,?_⟩) hHeld ?_ ?_
  rotate_left
  · rintro w' ⟨s0,s1⟩
    go_simp
    with_reducible rfl
  rotate_left
  · simp only [Act.put,yA,yB,yC,i64_w,i32_w]
    rfl
  have f3_:1<d1.length:=HLL.out
  have f4_:0<d1.length:=Nat.lt_trans Nat.zero_lt_one HLL.out
  have f5_:(1:Int)<(d1.length:Int):=by have:=HLL.out;omega
  refine pure_ (i:=4) (N:=some 71) (v:=?_) (a':=?_) (marks 10 31) rfl rfl (by kernel_rfl) (fun _ _ _ h=>h) (Or.inl ⟨by rfl,?_⟩) ?_ ?_
  rotate_left
  · intro w'
    go_simp
    with_reducible rfl
  rotate_left
  · simp only [Act.put,yA,yB,yC,i64_w,i32_w]
    rfl
  refine pure_ (i:=5) (N:=some 72) (v:=?_) (a':=?_) (marks 10 63) rfl rfl (by kernel_rfl) (fun _ _ _ h=>h) (Or.inl ⟨by rfl,?_⟩) ?_ ?_
  rotate_left
  · intro w'
    go_simp
    with_reducible rfl
  rotate_left
  · simp only [Act.put,yA,yB,yC,i64_w,i32_w]
    rfl
  refine take_ (i:=6) (N:=some 73) (v:=?_) (a':=?_) (marks 10 127) rfl rfl (by kernel_rfl) (fun _ _ _ h=>h) (Or.inl ⟨by rfl,?_⟩) hHeld ?_ ?_
  rotate_left
  · rintro w' ⟨s0,s1⟩
    go_simp
    with_reducible rfl
  rotate_left
  · simp only [Act.put,yA,yB,yC,i64_w,i32_w]
    rfl
  refine pure_ (i:=7) (N:=some 74) (v:=?_) (a':=?_) (marks 10 255) rfl rfl (by kernel_rfl) (fun _ _ _ h=>h) (Or.inl ⟨by rfl,?_⟩) ?_ ?_
  rotate_left
  · intro w'
    go_simp
    with_reducible rfl
  rotate_left
  · simp only [Act.put,yA,yB,yC,i64_w,i32_w]
    rfl
  refine pure_ (i:=8) (N:=some 75) (v:=?_) (a':=?_) (marks 10 511) rfl rfl (by kernel_rfl) (fun _ _ _ h=>h) (Or.inl ⟨by rfl,?_⟩) ?_ ?_
  rotate_left
  · intro w'
    go_simp
    with_reducible rfl
  rotate_left
  · simp only [Act.put,yA,yB,yC,i64_w,i32_w]
    rfl
  obtain ⟨gN2,row,hgg,hmm,hbg,hgn,hc0,hc1,hc2,hfr,hset⟩:=Do.out.row 1 HLL.out
  injection hgg with hgg
  injection hgg with hgg
  subst hgg
  refine last_ (i:=9) (N:=none) (marks 10 1023) rfl rfl (by kernel_rfl) (by decide) (fun K hK=>?_)
  refine skip_ (w1:=?_) (by rfl) rfl ?_ ?_
  rotate_left
  · go_simp
    rfl
  refine hK.out _ _ ?_
  clear hK K
  refine done_ (by kernel_rfl) ?_
  have hS6:=hset 3 (.int .i64 x.f0) nl (by have:=HLL.out;omega) (by rw [← HN.out];exact (sameId_row HX.out HLL.out).1) (by rw [← HN.out];exact (sameId_row HX.out HLL.out).2)
  clear hc0 hc1 hc2 hfr hset hmm
  have hneD:gD≠gN:=fun e=>Do.out.nobox BD.out (by decide) (by decide) (by decide) (.inl (by rw [e];rfl))
  have hneR:gR≠gN:=fun e=>Do.out.nobox BR.out (by decide) (by decide) (by decide) (.inl (by rw [e];rfl))
  have hG:(w1.setCell ⟨gN,3,none⟩ (.int .i64 x.f0)).heap[gD]? = some (.cells #[.slice (some ⟨gN,0,none⟩) d1.length a0,.slice A1 d2.length a1,.slice A2 d3.length a2,.slice A3 d4.length a3,.int .i64 d5,.int .i64 d6] 28 (0,0)):=blk_far BD.out hneD _
  have Rm:(w1.setCell ⟨gN,3,none⟩ (.int .i64 x.f0)).heap[gR]? = some (.cells #[.slice none 0 0,.slice none 0 0,.slice none 0 0,.slice none 0 0,.int .i64 0,.int .i64 0] 28 (0,0)):=blk_far BR.out hneR _
  have hI:=IsS87.far (p:=⟨gN,3,none⟩) HI.out (IsS87.ne_blk HI.out hgn (by decide)) (.int .i64 x.f0)
  have hB1:Below w0.heap.size w0 (w1.setCell ⟨gN,3,none⟩ (.int .i64 x.f0)):=below_set HB.out (Nat.le_trans GWW.out hbg)
  have hK1:KeepBut w (w1.setCell ⟨gN,3,none⟩ (.int .i64 x.f0)) g none:=keep_far HK.out hbg _
  have Dm:=hS6
  clear hneD hneR Do BD HI HB HK BR hgn hbg
  (try clear RL)
  (try clear hHeld)
  generalize (w1.setCell ⟨gN,3,none⟩ (.int .i64 x.f0))=wz at hG hI hB1 hK1 Dm Rm ⊢
  have Do:=zA Dm
  have BD:=zA hG
  have HI:=zA hI
  have HB:=zA hB1
  have HK:=zA hK1
  have BR:=zA Rm
  clear Dm hG hI hB1 hK1 Rm
  obtain ⟨w1,hw1⟩:∃ x,x=wz:=⟨_,rfl⟩
  subst hw1
  replace iD:=blk6 BD.out;replace zD:=z6of BD.out
  replace iR:=blk6 BR.out;obtain ⟨zR0,zR1,zR2,zR3,zR4,zR5⟩:=z6of BR.out
  go_wp2_with fail
  refine bodyPost_ret (results_cell_row rfl _ _ gR 28 #[.slice (some ⟨gN,0,none⟩) d1.length a0,.slice A1 d2.length a1,.slice A2 d3.length a2,.slice A3 d4.length a3,.int .i64 d5,.int .i64 d6] (0,0) _ rfl (fill6_at BR.out) Tryz.underlying28 rfl (by kernel_rfl)) rfl ?_
  have hT:=filled_told (.int .i64 d5) (.int .i64 d6) Do.out BR.out
  exact ⟨_,_,_,_,rfl,hT.1,hT.2.1,hT.2.2.1,hT.2.2.2,cur6 HI.out (Ne.symm GR2.out) _ _ _ _ _ _,fill6_below HB.out (Nat.le_trans GWW.out GRW.out),keep6 HK.out GRW.out _ _ _ _ _ _⟩
  refine bodyPost_ret (results_cell_row rfl _ _ gR 28 #[.slice A0 d1.length a0,.slice A1 d2.length a1,.slice A2 d3.length a2,.slice A3 d4.length a3,.int .i64 d5,.int .i64 d6] (0,0) _ rfl (fill6_at BR.out) Tryz.underlying28 rfl (by kernel_rfl)) rfl ?_
  have hT:=filled_told (.int .i64 d5) (.int .i64 d6) Do.out BR.out
  exact ⟨_,_,_,_,rfl,hT.1,hT.2.1,hT.2.2.1,hT.2.2.2,cur6 HI.out (Ne.symm GR2.out) _ _ _ _ _ _,fill6_below HB.out (Nat.le_trans GWW.out GRW.out),keep6 HK.out GRW.out _ _ _ _ _ _⟩
  refine bodyPost_ret (results_cell_row rfl _ _ gR 28 #[.slice A0 d1.length a0,.slice A1 d2.length a1,.slice A2 d3.length a2,.slice A3 d4.length a3,.int .i64 d5,.int .i64 d6] (0,0) _ rfl (fill6_at BR.out) Tryz.underlying28 rfl (by kernel_rfl)) rfl ?_
  have hT:=filled_told (.int .i64 d5) (.int .i64 d6) Do.out BR.out
  exact ⟨_,_,_,_,rfl,hT.1,hT.2.1,hT.2.2.1,hT.2.2.2,cur6 HI.out (Ne.symm GR2.out) _ _ _ _ _ _,fill6_below HB.out (Nat.le_trans GWW.out GRW.out),keep6 HK.out GRW.out _ _ _ _ _ _⟩
def spec_l05Name.f (ab:List Int) (ad:Int) (ae:Int):Option (ByteArray×Int×Int):=(spec_l01Pick.f ab ad ae (([(⟨#[97]⟩:ByteArray),(⟨#[98]⟩:ByteArray),(⟨#[115,48,48,48,48,48,48,48,48,46,115,101,103]⟩:ByteArray),(⟨#[115,48,48,48,48,48,48,48,51,46,115,101,103]⟩:ByteArray),(⟨#[115,48,48,48,48,48,48,48,48,46,115,101,103,46,116,109,112]⟩:ByteArray),(⟨#[99]⟩:ByteArray),(⟨#[120]⟩:ByteArray),(⟨#[]⟩:ByteArray),(⟨#[65]⟩:ByteArray)]:List ByteArray))).bind fun aa=>(some (aa.1,aa.2.1,aa.2.2))
theorem spec_l05Name.calls (g:Nat) (ad:List Int) (ae:Int) (af:Int) (r1:ByteArray) (r2:Int) (r3:Int) (w0 w:World) (hI:IsS87 w0 w g ad ae af) (hB:Below w0.heap.size w0 w) (h:spec_l05Name.f ad ae af=some (r1,r2,r3)) :
  Calls Tryz.prog 34 #[.pointer (some ⟨g,0,none⟩)] w fun e w'=>e=.returned (.string r1)∧IsS87 w0 w' g ad r2 r3∧Below w0.heap.size w0 w'∧KeepBut w w' g none:=by
 have HI0:=zA hI
 have HK:=zA (KeepBut.refl w g none)
 clear hI
 have HB:=zA hB
 clear hB
 have H:((spec_l01Pick.f ad ae af (([(⟨#[97]⟩:ByteArray),(⟨#[98]⟩:ByteArray),(⟨#[115,48,48,48,48,48,48,48,48,46,115,101,103]⟩:ByteArray),(⟨#[115,48,48,48,48,48,48,48,51,46,115,101,103]⟩:ByteArray),(⟨#[115,48,48,48,48,48,48,48,48,46,115,101,103,46,116,109,112]⟩:ByteArray),(⟨#[99]⟩:ByteArray),(⟨#[120]⟩:ByteArray),(⟨#[]⟩:ByteArray),(⟨#[65]⟩:ByteArray)]:List ByteArray))).bind fun aa=>(some (aa.1,aa.2.1,aa.2.2)))=some (r1,r2,r3):=h
 clear h
 obtain ⟨ah,ag⟩:∃ y_:List ByteArray,y_=(([(⟨#[97]⟩:ByteArray),(⟨#[98]⟩:ByteArray),(⟨#[115,48,48,48,48,48,48,48,48,46,115,101,103]⟩:ByteArray),(⟨#[115,48,48,48,48,48,48,48,51,46,115,101,103]⟩:ByteArray),(⟨#[115,48,48,48,48,48,48,48,48,46,115,101,103,46,116,109,112]⟩:ByteArray),(⟨#[99]⟩:ByteArray),(⟨#[120]⟩:ByteArray),(⟨#[]⟩:ByteArray),(⟨#[65]⟩:ByteArray)]:List ByteArray)):=⟨_,rfl⟩
 replace H:((spec_l01Pick.f ad ae af ah).bind fun aa=>(some (aa.1,aa.2.1,aa.2.2)))=some (r1,r2,r3):=by (rw [ag];with_reducible exact H)
 have ai:=zA ag
 clear ag
 obtain ⟨⟨aj,ak,al⟩,A2,H⟩:=bA H
 replace H:(some (aj,ak,al))=some (r1,r2,r3):=H
 simp only [Option.some.injEq,Prod.mk.injEq] at H
 obtain ⟨rfl,rfl,rfl⟩:=H
 go_enter Tryz.func34,Tryz.ntmps34
 go_wp2_with (first | ((with_reducible refine gate_dst (N:=4) rfl ?_);refine Kd.R_lit Kd.string _ 9 ?hg (N:=4) ?hd (xs:=([(⟨#[97]⟩:ByteArray),(⟨#[98]⟩:ByteArray),(⟨#[115,48,48,48,48,48,48,48,48,46,115,101,103]⟩:ByteArray),(⟨#[115,48,48,48,48,48,48,48,51,46,115,101,103]⟩:ByteArray),(⟨#[115,48,48,48,48,48,48,48,48,46,115,101,103,46,116,109,112]⟩:ByteArray),(⟨#[99]⟩:ByteArray),(⟨#[120]⟩:ByteArray),(⟨#[]⟩:ByteArray),(⟨#[65]⟩:ByteArray)]:List ByteArray)) (inner:=[.string (⟨#[97]⟩:ByteArray),.string (⟨#[98]⟩:ByteArray),.string (⟨#[115,48,48,48,48,48,48,48,48,46,115,101,103]⟩:ByteArray),.string (⟨#[115,48,48,48,48,48,48,48,51,46,115,101,103]⟩:ByteArray),.string (⟨#[115,48,48,48,48,48,48,48,48,46,115,101,103,46,116,109,112]⟩:ByteArray),.string (⟨#[99]⟩:ByteArray),.string (⟨#[120]⟩:ByteArray),.string (⟨#[]⟩:ByteArray),.string (⟨#[65]⟩:ByteArray)]) (ok:=fun _=>True) (okp:=fun _=>True) ?hr ?hp (fun _ hk=>hk) trivial (Below.refl _ _) (Nat.le_refl _) (by simp) ?_;(case hd=>rfl);(case hg=>rfl);(case hr=>(go_simp;done));(case hp=>exact (Reps.one (show Kd.M Kd.string _ _ _ (⟨#[97]⟩:ByteArray) [.string (⟨#[97]⟩:ByteArray)] from rfl) (Reps.one (show Kd.M Kd.string _ _ _ (⟨#[98]⟩:ByteArray) [.string (⟨#[98]⟩:ByteArray)] from rfl) (Reps.one (show Kd.M Kd.string _ _ _ (⟨#[115,48,48,48,48,48,48,48,48,46,115,101,103]⟩:ByteArray) [.string (⟨#[115,48,48,48,48,48,48,48,48,46,115,101,103]⟩:ByteArray)] from rfl) (Reps.one (show Kd.M Kd.string _ _ _ (⟨#[115,48,48,48,48,48,48,48,51,46,115,101,103]⟩:ByteArray) [.string (⟨#[115,48,48,48,48,48,48,48,51,46,115,101,103]⟩:ByteArray)] from rfl) (Reps.one (show Kd.M Kd.string _ _ _ (⟨#[115,48,48,48,48,48,48,48,48,46,115,101,103,46,116,109,112]⟩:ByteArray) [.string (⟨#[115,48,48,48,48,48,48,48,48,46,115,101,103,46,116,109,112]⟩:ByteArray)] from rfl) (Reps.one (show Kd.M Kd.string _ _ _ (⟨#[99]⟩:ByteArray) [.string (⟨#[99]⟩:ByteArray)] from rfl) (Reps.one (show Kd.M Kd.string _ _ _ (⟨#[120]⟩:ByteArray) [.string (⟨#[120]⟩:ByteArray)] from rfl) (Reps.one (show Kd.M Kd.string _ _ _ (⟨#[]⟩:ByteArray) [.string (⟨#[]⟩:ByteArray)] from rfl) (Reps.one (show Kd.M Kd.string _ _ _ (⟨#[65]⟩:ByteArray) [.string (⟨#[65]⟩:ByteArray)] from rfl) (Reps.none _ _)))))))))));intro v266 w3 ho4 hb hg_ hnew_;clear hg_ hnew_;(rw [← ai.out] at ho4);have ab:=zA (Kd.R_lower ho4 (keep_size (w:=w) (g:=g) (row:=none) HK.out));replace HI0:=zA (IsS87.below HI0.out hb);replace HK:=zA (KeepBut.trans HK.out (KeepBut.of_below hb g none) (.inl rfl));replace HB:=zs HB hb;clear hb ho4;obtain ⟨Ao5,co5,eo5⟩:=Kd.R_slice ab.out;subst eo5) | ((with_reducible refine gate_callee (f:=80) rfl ?_);refine goesL_ (some 5) rfl rfl Tryz.func80 (by kernel_rfl) rfl #[.pointer (some ⟨g,0,none⟩),.slice Ao5 ah.length co5] rfl (by (try simp only [List.map_toArray,List.map_cons,List.map_nil]);rfl) ?_;(with_reducible refine (spec_l01Pick.calls g ad ae af _ _ ah aj ak al w0 _ ?side1 ?side2 ?side3 ?side4 ?side5 A2.out).mono ?_);(case side1=>repeat (with_reducible exact HI0.out));(case side2=>repeat (with_reducible exact HB.out));(case side3=>repeat (exact (Kd.R_reads' ab.out).2.2));(case side4=>exact (Kd.R_reads' ab.out).2.1);(case side5=>exact far_slice (IsS87.own_ne HI0.out ab.out (by decide)));rintro e w6 ⟨rfl,hi,hb,hk⟩;refine ⟨_,rfl,?_⟩;replace ab:=zA (Kd.R_mono (Kd.R_keep (IsS87.apart (show IsS87 w0 _ g ad ae af from by repeat (with_reducible exact HI0.out)) ab.out (by decide)) hk (fun _ h=>h.2)) (fun _ h=>h.1));replace HK:=zA (KeepBut.trans HK.out hk (.inl rfl));replace HB:=zA (hb);replace HI0:=zA (hi);(try clear hb);(try clear hk);(try clear hi)))
 all_goals (go_ret)
 all_goals exact ⟨by rfl,by repeat (with_reducible exact HI0.out),by repeat (with_reducible exact HB.out),by repeat (with_reducible exact HK.out)⟩
def spec_l01Once.f (ab:List Int) (ad:Int) (ae:Int) (a1:Int):Option (Bool×Int×Int):=(spec_l01Below.f ab ad ae a1).bind fun aa=>(some ((aa.1 == 0),aa.2.1,aa.2.2))
theorem spec_l01Once.calls (g:Nat) (aa:List Int) (ad:Int) (ae:Int) (a1:Int) (r1:Bool) (r2:Int) (r3:Int) (w0 w:World) (hI:IsS87 w0 w g aa ad ae) (hB:Below w0.heap.size w0 w) (h:spec_l01Once.f aa ad ae a1=some (r1,r2,r3)) :
  Calls Tryz.prog 35 #[.pointer (some ⟨g,0,none⟩),.int .i64 a1] w fun e w'=>e=.returned (.bool r1)∧IsS87 w0 w' g aa r2 r3∧Below w0.heap.size w0 w'∧KeepBut w w' g none:=by
 have HI0:=zA hI
 have HK:=zA (KeepBut.refl w g none)
 clear hI
 have HB:=zA hB
 clear hB
 have H:((spec_l01Below.f aa ad ae a1).bind fun ab=>(some ((ab.1 == 0),ab.2.1,ab.2.2)))=some (r1,r2,r3):=h
 clear h
 obtain ⟨⟨af,ag,ah⟩,A3,H⟩:=bA H
 replace H:(some ((af == 0),ag,ah))=some (r1,r2,r3):=H
 simp only [Option.some.injEq,Prod.mk.injEq] at H
 obtain ⟨rfl,rfl,rfl⟩:=H
 go_enter Tryz.func35,Tryz.ntmps35
 go_wp2_with (((with_reducible refine gate_callee (f:=37) rfl ?_);refine goesL_ (some 7) rfl rfl Tryz.func37 (by kernel_rfl) rfl #[.pointer (some ⟨g,0,none⟩),.int .i64 a1] rfl (by (try simp only [List.map_toArray,List.map_cons,List.map_nil]);rfl) ?_;(with_reducible refine (spec_l01Below.calls g aa ad ae a1 af ag ah w0 _ ?side1 ?side2 A3.out).mono ?_);(case side1=>repeat (with_reducible exact HI0.out));(case side2=>repeat (with_reducible exact HB.out));rintro e w4 ⟨rfl,hi,hb,hk⟩;refine ⟨_,rfl,?_⟩;replace HK:=zA (KeepBut.trans HK.out hk (.inl rfl));replace HB:=zA (hb);replace HI0:=zA (hi);(try clear hb);(try clear hk);(try clear hi)))
 all_goals (go_ret)
 all_goals exact ⟨by rfl,by repeat (with_reducible exact HI0.out),by repeat (with_reducible exact HB.out),by repeat (with_reducible exact HK.out)⟩
def spec_l01Long.l0:Nat→Int→Int→List Int→Int→Option (ByteArray)
 | 0,_,_,_,_=>none
 | k+1,x0,x1,x5,x6=>if x6<x0 then (if 0≤x6 then (if x6<(x5.length:Int) then (spec_l01Long.l0 k x0 x1 (x5.set (x6:Int).toNat x1) (wrap64 (x6+1))) else (none)) else (none)) else (some (strOfNums x5))
def spec_l01Long.f (k:Nat) (a0:Int) (a1:Int):Option (ByteArray):=if 0≤a0 then (if (a0:Int).toNat≤281474976710656 then (spec_l01Long.l0 k a0 a1 (List.replicate (a0:Int).toNat 0) 0) else (none)) else (none)
theorem spec_l01Long.mono_l:∀ k,(∀ y0 y1 y2 y3,LeO (spec_l01Long.l0 k y0 y1 y2 y3) (spec_l01Long.l0 (k+1) y0 y1 y2 y3))
 | 0=>fun _ _ _ _ r h=>by simp [spec_l01Long.l0] at h
 | k+1=>by
  have ih0:=spec_l01Long.mono_l k
  ·intro y0 y1 y2 y3
   unfold spec_l01Long.l0
   repeat' first | (with_reducible exact ih0 _ _ _ _) | (with_reducible exact LeO.refl _) | (with_reducible refine LeO.ite ?_ ?_)
theorem spec_l01Long.mono:∀ a0 a1 k,LeO (spec_l01Long.f k a0 a1) (spec_l01Long.f (k+1) a0 a1):=by
 intro a0 a1 k
 have ih0:=spec_l01Long.mono_l k
 unfold spec_l01Long.f
 repeat' first | (with_reducible exact ih0 _ _ _ _) | (with_reducible exact LeO.refl _) | (with_reducible refine LeO.ite ?_ ?_)
theorem spec_l01Long.calls (k:Nat) (a0:Int) (a1:Int) (r:ByteArray) (w:World) (h:spec_l01Long.f k a0 a1=some r) :
  Calls Tryz.prog 36 #[.int .i64 a0,.int .u8 a1] w fun e w'=>e=.returned (.string r)∧Below w.heap.size w w':=by
 have HB:=zA (Below.refl w.heap.size w)
 have H:(if 0≤a0 then (if (a0:Int).toNat≤281474976710656 then (spec_l01Long.l0 k a0 a1 (List.replicate (a0:Int).toNat 0) 0) else (none)) else (none))=some r:=h
 clear h
 by_cases c3:0≤a0
 ·rw [if_pos c3] at H
  have aq:decide (0≤a0)=true:=zt c3
  clear c3
  by_cases c4:(a0:Int).toNat≤281474976710656
  ·rw [if_pos c4] at H
   have ar:decide ((a0:Int).toNat≤281474976710656)=true:=zt c4
   clear c4
   obtain ⟨aj,ae⟩:∃ y_:List Int,y_=(List.replicate (a0:Int).toNat 0):=⟨_,rfl⟩
   replace H:(spec_l01Long.l0 k a0 a1 aj 0)=some r:=by (rw [ae];with_reducible exact H)
   have ak:=zA ae
   clear ae
   have H':=zA H
   clear H
   go_enter Tryz.func36,Tryz.ntmps36
   go_wp2_with (((with_reducible refine gate_dst (N:=8) rfl ?_);refine Kd.R_make (Kd.int .u8) _ 5 rfl (N:=8) rfl 22 _ _ rfl a0 rfl rfl Tryz.underlying22 (.int .u8 0) 1 info5 rfl (by decide) (by omega) 0 (ok:=fun _=>True) (okp:=fun _=>True) rfl (fun _ hk=>hk) trivial (ze) (Nat.le_trans (Nat.mul_le_mul_right _ (ze:a0.toNat≤281474976710656)) (by omega)) (Below.refl _ _) (Nat.le_refl _) ?_;intro au w5 ho6 hb hg_ hnew_;clear hg_ hnew_;(rw [← ak.out] at ho6);have al:=zA (Kd.R_lower ho6 (below_size HB.out));replace HB:=zs HB hb;clear hb ho6))
   go_loopg [6] k (fun kq v6 w'=>∃ (ab:List Int) (aa:Int),v6=.int .i64 aa∧Aside0 (spec_l01Long.l0 kq a0 a1 ab aa=some r)∧Aside0 (kq≤k)∧Aside0 (Kd.R (Kd.int .u8) 5 w' w.heap.size (fun _=>True) au ab)∧Aside0 (Below w.heap.size w w'))
   case atStart=>exact ⟨(aj),(0),(by rfl),H',⟨Nat.le_refl _⟩,⟨by exact al.out⟩,⟨by repeat (with_reducible exact HB.out)⟩⟩
   case round=>
    clear H'
    try clear p2
    try clear c3
    try skip
    try clear aq
    try clear c4
    try skip
    try clear ar
    obtain ⟨ab,aa,rfl,HA,HK1,ad,HB⟩:=hrel
    cases gk with
    | zero=>exact absurd HA.out (by simp [spec_l01Long.l0])
    | succ k1=>
     have H:=HA.out
     clear HA
     simp only [spec_l01Long.l0] at H
     by_cases c7:aa<a0
     ·rw [if_pos c7] at H
      have av:decide (aa<a0)=true:=zt c7
      clear c7
      by_cases c8:0≤aa
      ·rw [if_pos c8] at H
       have c8b0:decide (0≤aa)=true:=zt c8
       clear c8
       by_cases c9:aa<(ab.length:Int)
       ·rw [if_pos c9] at H
        have c9b0:decide (aa<(ab.length:Int))=true:=zt c9
        clear c9
        obtain ⟨ag,af⟩:∃ y_:List Int,y_=(ab.set (aa:Int).toNat a1):=⟨_,rfl⟩
        replace H:(spec_l01Long.l0 k1 a0 a1 ag (wrap64 (aa+1)))=some r:=by (rw [af];with_reducible exact H)
        have an:=zA af
        clear af
        have H':=zA H
        clear H
        have p10:0≤(aa:Int):=ze
        have q10:(aa:Int)<((ab.length:Int):Int):=ze
        obtain ⟨ah,aw,ax,ao,ay,cl10,az⟩:=Kd.R_form ad.out (by omega)
        (cases ax)
        have aA:=zA ao
        clear ao ay az
        obtain ⟨hx10_0,hf10_0⟩:=Kd.R_celln 0 ad.out (aa:Int) p10 q10
        replace p10:=eq_true p10
        replace q10:=eq_true q10
        have ai:=Kd.R_putg ad.out (aa:Int) a1
        go_wp2_with (((with_reducible refine gate_store (t:=5) (p:=17) rfl ?_);refine store_event (t:=5) (p:=17) (v:=?vo_w12) (w1:=(wr.setCell ⟨ah,(aa:Int).toNat,none⟩ (.int .u8 a1))) ?hg ?ho ?hn ?hr ?_;(case ho=>rfl);(case hg=>rfl);(case hn=>rfl);(case hr=>(go_simp;done));intro w12 hw;have hg:wr.grownBy w12 (some ah):=(by rw [hw];exact ai.2);have hp_:Kd.R (Kd.int .u8) 5 w12 w.heap.size (fun _=>True) (.slice (some ⟨ah,0,none⟩) ab.length aw) ag:=(by rw [hw,an.out];exact ai.1);clear ai;replace ad:=zA (hp_);replace HB:=zA ((by rw [hw];exact below_set (HB.out) aA.out:Below w.heap.size w w12));clear hg hw hp_))
        go_roundg k1
        case measure=>have:=HK1.out;omega
        case rel=>exact ⟨(ag),(wrap64 (aa+1)),(by rfl),H',⟨by have:=HK1.out;omega⟩,⟨by exact ad.out⟩,⟨by repeat (with_reducible exact HB.out)⟩⟩
       ·rw [if_neg c9] at H
        exact absurd H (by simp)
      ·rw [if_neg c8] at H
       exact absurd H (by simp)
     ·rw [if_neg c7] at H
      have av:decide (aa<a0)=false:=zf c7
      clear c7
      obtain rfl:=Option.some.inj H
      have hcv13:=own_string (P:=Tryz.prog) Tryz.underlying22 Tryz.underlying5 Tryz.underlying9 (Kd.own_of_R ad.out)
      go_wp2
      all_goals (go_ret)
      all_goals exact ⟨by rfl,by repeat (with_reducible exact HB.out)⟩
  ·rw [if_neg c4] at H
   exact absurd H (by simp)
 ·rw [if_neg c3] at H
  exact absurd H (by simp)
end Go.Proofs.YtokcccejijmkmaaGreatDoor.MFnDeeds
