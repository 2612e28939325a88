/- Each theorem here says that a call of one Go function answers what the Lean function beside it answers; its conditions stand in it. Written by a program of this session. -/
import Derived.Test.YtokcccejijmkmaaGreatDoorMFnDeedsx0
import Derived.Test.YtokcccejijmkmaaGreatDoorMFnDeedsx3
import Derived.Test.YtokcccejijmkmaaGreatDoorMFnDeedsx10
import Derived.Test.YtokcccejijmkmaaGreatDoorMFnDeedsx11
namespace Go.Proofs.YtokcccejijmkmaaGreatDoor.MFnDeeds
set_option maxHeartbeats 40000000
set_option maxRecDepth 100000
open Go.RowKit Go.Proofs.YtokcccejijmkmaaGreatDoorW.PrintWords Go.Proofs.YtokcccejijmkmaaGreatDoorW.PrintLast Go.Proofs.YtokcccejijmkmaaGreatDoorW.PrintMore
attribute [local go_sem] max2_int min2_int max_two min_two max_three min_three max_four min_four
set_option linter.unusedVariables false
set_option linter.unusedSimpArgs false
theorem cur6 {w0 w1:World} {g gD:Nat} {b:List Int} {i h:Int} (hI:IsS87 w0 w1 g b i h) (hne:g≠gD) (v0 v1 v2 v3 v4 v5:Value):IsS87 w0 ((((((w1.setCell ⟨gD,0,none⟩ v0).setCell ⟨gD,1,none⟩ v1).setCell ⟨gD,2,none⟩ v2).setCell ⟨gD,3,none⟩ v3).setCell ⟨gD,4,none⟩ v4).setCell ⟨gD,5,none⟩ v5) g b i h:=
  IsS87.far (p:=⟨gD,5,none⟩) (IsS87.far (p:=⟨gD,4,none⟩) (IsS87.far (p:=⟨gD,3,none⟩) (IsS87.far (p:=⟨gD,2,none⟩) (IsS87.far (p:=⟨gD,1,none⟩) (IsS87.far (p:=⟨gD,0,none⟩) hI hne v0) hne v1) hne v2) hne v3) hne v4) hne v5
theorem keep6 {w w1:World} {g gD:Nat} (hK:KeepBut w w1 g none) (hge:w.heap.size≤gD) (v0 v1 v2 v3 v4 v5:Value):KeepBut w ((((((w1.setCell ⟨gD,0,none⟩ v0).setCell ⟨gD,1,none⟩ v1).setCell ⟨gD,2,none⟩ v2).setCell ⟨gD,3,none⟩ v3).setCell ⟨gD,4,none⟩ v4).setCell ⟨gD,5,none⟩ v5) g none:=
  ⟨by simpa using hK.1,fun j hj hg hr=>(fill6_far (by omega)).trans (hK.2 j hj hg hr)⟩
def drawStep (k:Nat) (b:List Int) (D:(List S45×List S47×List S47×List ByteArray×Int×Int)) (i h:Int):Option ((List S45×List S47×List S47×List ByteArray×Int×Int)×Int×Int):=(spec_l01Pick.f b i h [(⟨#[97]⟩:ByteArray),(⟨#[98]⟩:ByteArray),(⟨#[115,48,48,48,48,48,48,48,48,46,115,101,103]⟩:ByteArray),(⟨#[115,48,48,48,48,48,48,48,51,46,115,101,103]⟩:ByteArray),(⟨#[115,48,48,48,48,48,48,48,48,46,115,101,103,46,116,109,112]⟩:ByteArray),(⟨#[99]⟩:ByteArray)]).bind fun p=>(spec_l01Below.f b p.2.1 p.2.2 8).bind fun z=>
  if z.1=0 then (spec_RemoveFile.f k D.1 D.2.1 D.2.2.1 D.2.2.2.1 D.2.2.2.2.1 D.2.2.2.2.2 p.1).bind fun o=>some ((o.1,o.2.1,o.2.2.1,o.2.2.2.1,o.2.2.2.2.1,o.2.2.2.2.2.1),z.2.1,z.2.2)
  else if z.1=1 then (spec_SyncNames.f k D.1 D.2.1 D.2.2.1 D.2.2.2.1 D.2.2.2.2.1 D.2.2.2.2.2).bind fun o=>some (o,z.2.1,z.2.2)
  else if z.1=2 then (spec_SyncFile.f k D.1 D.2.1 D.2.2.1 D.2.2.2.1 D.2.2.2.2.1 D.2.2.2.2.2 p.1).bind fun o=>some ((o.1,o.2.1,o.2.2.1,o.2.2.2.1,o.2.2.2.2.1,o.2.2.2.2.2.1),z.2.1,z.2.2)
  else if z.1=3 then (spec_l01Pick.f b z.2.1 z.2.2 [(⟨#[98]⟩:ByteArray),(⟨#[120]⟩:ByteArray),(⟨#[115,48,48,48,48,48,48,48,51,46,115,101,103]⟩:ByteArray)]).bind fun q=>(spec_RenameFile.f k D.1 D.2.1 D.2.2.1 D.2.2.2.1 D.2.2.2.2.1 D.2.2.2.2.2 p.1 q.1).bind fun o=>some ((o.1,o.2.1,o.2.2.1,o.2.2.2.1,o.2.2.2.2.1,o.2.2.2.2.2.1),q.2.1,q.2.2)
  else if z.1=4∨z.1=5 then (spec_CreateFile.f k D.1 D.2.1 D.2.2.1 D.2.2.2.1 D.2.2.2.2.1 D.2.2.2.2.2 p.1).bind fun o=>some ((o.1,o.2.1,o.2.2.1,o.2.2.2.1,o.2.2.2.2.1,o.2.2.2.2.2.1),z.2.1,z.2.2)
  else (spec_CreateFile.f k D.1 D.2.1 D.2.2.1 D.2.2.2.1 D.2.2.2.2.1 D.2.2.2.2.2 p.1).bind fun o=>(spec_l01Below.f b z.2.1 z.2.2 12).bind fun y=>(spec_l01Text.f k b y.2.1 y.2.2 y.1).bind fun t=>(spec_AppendFile.f k o.1 o.2.1 o.2.2.1 o.2.2.2.1 o.2.2.2.2.1 o.2.2.2.2.2.1 p.1 t.1).bind fun u=>some ((u.1,u.2.1,u.2.2.1,u.2.2.2.1,u.2.2.2.2.1,u.2.2.2.2.2.1),t.2.1,t.2.2)
def drawLoop (k:Nat) (b:List Int):Nat→Nat→(List S45×List S47×List S47×List ByteArray×Int×Int)→Int→Int→Option ((List S45×List S47×List S47×List ByteArray×Int×Int)×Int×Int)
  | 0,_,_,_,_=>none
  | n+1,j,D,i,h=>(spec_l01Below.f b i h 9).bind fun y=>if (j:Int)<y.1 then (drawStep k b D y.2.1 y.2.2).bind fun s=>drawLoop k b n (j+1) s.1 s.2.1 s.2.2 else some (D,y.2.1,y.2.2)
def spec_l05Disk.f (k:Nat) (aa:List Int) (ab ad:Int):Option (List S45×List S47×List S47×List ByteArray×Int×Int×Int×Int):=(spec_l01PickInt.f aa ab ad [4000,4000,4000,300,100]).bind fun r=>(spec_DiskNew.f r.1).bind fun D=>(drawLoop k aa 10 0 D r.2.1 r.2.2).bind fun s=>some (s.1.1,s.1.2.1,s.1.2.2.1,s.1.2.2.2.1,s.1.2.2.2.2.1,s.1.2.2.2.2.2,s.2.1,s.2.2)
theorem nxt_ (j:Nat):Value.int .i64 ((j:Int)+1)=.int .i64 ((j+1:Nat):Int):=rfl
theorem drawStep_mono (k:Nat) (b:List Int) (D:(List S45×List S47×List S47×List ByteArray×Int×Int)) (i h:Int):LeO (drawStep k b D i h) (drawStep (k+1) b D i h):=by
  unfold drawStep
  refine LeO.bind (LeO.refl _) fun _=>LeO.bind (LeO.refl _) fun _=>?_
  repeat' first | (with_reducible exact LeO.refl _) | (with_reducible exact spec_RemoveFile.mono _ _ _ _ _ _ _ _) | (with_reducible exact spec_SyncNames.mono _ _ _ _ _ _ _) | (with_reducible exact spec_SyncFile.mono _ _ _ _ _ _ _ _) | (with_reducible exact spec_RenameFile.mono _ _ _ _ _ _ _ _ _) | (with_reducible exact spec_CreateFile.mono _ _ _ _ _ _ _ _) | (with_reducible exact spec_AppendFile.mono _ _ _ _ _ _ _ _ _) | (with_reducible exact spec_l01Text.mono _ _ _ _ _) | (with_reducible refine LeO.ite ?_ ?_) | (with_reducible refine LeO.bind ?_ (fun _=>?_))
theorem drawLoop_mono (k:Nat) (b:List Int):∀ (n j:Nat) (D:(List S45×List S47×List S47×List ByteArray×Int×Int)) (i h:Int),LeO (drawLoop k b n j D i h) (drawLoop (k+1) b n j D i h)
  | 0,_,_,_,_=>LeO.refl _
  | n+1,j,D,i,h=>LeO.bind (LeO.refl _) fun _=>LeO.ite (LeO.bind (drawStep_mono k b D _ _) fun _=>drawLoop_mono k b n (j+1) _ _ _) (LeO.refl _)
theorem spec_l05Disk.mono:∀ s0 s1 s2 k,LeO (spec_l05Disk.f k s0 s1 s2) (spec_l05Disk.f (k+1) s0 s1 s2):=fun s0 s1 s2 k=>LeO.bind (LeO.refl _) fun _=>LeO.bind (LeO.refl _) fun _=>LeO.bind (drawLoop_mono k _ _ _ _ _ _) fun _=>LeO.refl _
theorem spec_l05Disk.calls (k:Nat) (g:Nat) (aa:List Int) (ab:Int) (ad:Int) (r1:List S45) (r2:List S47) (r3:List S47) (r4:List ByteArray) (r5:Int) (r6:Int) (r7:Int) (r8:Int) (w0 w:World) (hI:IsS87 w0 w g aa ab ad) (hB:Below w0.heap.size w0 w) (h:spec_l05Disk.f k aa ab ad=some (r1,r2,r3,r4,r5,r6,r7,r8)) :
    Calls Tryz.prog 79 #[.pointer (some ⟨g,0,none⟩)] w fun e w'=>∃ v0_ v1_ v2_ v3_:Value,e=.returned (.agg #[v0_,v1_,v2_,v3_,.int .i64 r5,.int .i64 r6])∧Kd.R k45 45 w' w.heap.size (fun _=>True) v0_ r1∧Kd.R k47 47 w' w.heap.size (fun k_=>some k_≠(v2_:Value).ownBlock) v1_ r2∧Kd.R k47 47 w' w.heap.size (fun k_=>some k_≠(v1_:Value).ownBlock) v2_ r3∧Kd.R Kd.string 9 w' w.heap.size (fun _=>True) v3_ r4∧IsS87 w0 w' g aa r7 r8∧Below w0.heap.size w0 w'∧KeepBut w w' g none:=by
  unfold spec_l05Disk.f at h
  obtain ⟨lr,hlr⟩:∃ x,x=([4000,4000,4000,300,100]:List Int):=⟨_,rfl⟩
  rw [← hlr] at h
  replace h:=zo h
  obtain ⟨⟨p1,p2,p3⟩,hp,h⟩:=h
  replace h:=zo h
  obtain ⟨⟨d1,d2,d3,d4,d5,d6⟩,hd,h⟩:=h
  replace h:=zo h
  obtain ⟨⟨⟨e1,e2,e3,e4,e5,e6⟩,e7,e8⟩,hl,h⟩:=h
  simp only [Option.some.injEq,Prod.mk.injEq] at h
  obtain ⟨rfl,rfl,rfl,rfl,rfl,rfl,rfl,rfl⟩:=h
  dsimp only at hd hl
  obtain ⟨ln,hln⟩:∃ x,x=([(⟨#[97]⟩:ByteArray),(⟨#[98]⟩:ByteArray),(⟨#[115,48,48,48,48,48,48,48,48,46,115,101,103]⟩:ByteArray),(⟨#[115,48,48,48,48,48,48,48,51,46,115,101,103]⟩:ByteArray),(⟨#[115,48,48,48,48,48,48,48,48,46,115,101,103,46,116,109,112]⟩:ByteArray),(⟨#[99]⟩:ByteArray)]:List ByteArray):=⟨_,rfl⟩
  obtain ⟨lt,hlt⟩:∃ x,x=([(⟨#[98]⟩:ByteArray),(⟨#[120]⟩:ByteArray),(⟨#[115,48,48,48,48,48,48,48,51,46,115,101,103]⟩:ByteArray)]:List ByteArray):=⟨_,rfl⟩
  have HLR:=zA hlr
  have HLN:=zA hln
  have HLT:=zA hlt
  have GLT:=zA hI.lt
  have GWW:=zA hB.size
  have HI:=zA hI
  have HB:=zA hB
  have HK:=zA (KeepBut.refl w g none)
  have HL:=zA hl
  have CP:=zA (fun (w1:World) (bb:Nat) (pp:Nat→Prop) (Al:Option Addr) (cl:Nat) (hI:IsS87 w0 w1 g aa ab ad) (hB:Below w0.heap.size w0 w1) (hr:Kd.R (Kd.int .i64) 3 w1 bb pp (.slice Al lr.length cl) lr)=>spec_l01PickInt.calls g aa ab ad Al cl lr p1 p2 p3 w0 w1 hI hB (Kd.R_reads' hr).2.2 (Kd.R_reads' hr).2.1 (far_slice (IsS87.own_ne hI hr (by decide))) hp)
  have CN:=zA (fun (w1:World)=>spec_DiskNew.calls p1 d1 d2 d3 d4 d5 d6 w1 hd)
  clear hI hB hp hd hl hlr hln hlt
  go_enter Tryz.func79,Tryz.ntmps79
  go_wp2_with (first | ((with_reducible refine gate_dst (N:=2) rfl ?_);refine box_event ?hg (N:=2) ?hd (cs:=#[.slice none 0 0,.slice none 0 0,.slice none 0 0,.slice none 0 0,.int .i64 0,.int .i64 0]) (t:=28) ?hr ?_;(case hd=>rfl);(case hg=>rfl);(case hr=>(go_simp;done));intro gR hg w1 hbox hb;have GRW:=zA (show w.heap.size≤gR by rw [hg];exact HK.out.1);have GR2:=zA (show gR≠g by rw [hg];exact Nat.ne_of_gt HI.out.lt);replace HI:=zA (HI.out.below hb);replace HK:=zA (KeepBut.trans HK.out (KeepBut.of_below hb g none) (.inl rfl));replace HB:=zs HB hb;have BR:=zA hbox;clear hb;clear hg hbox) | ((with_reducible refine gate_dst (N:=7) rfl ?_);refine Kd.R_lit (Kd.int .i64) _ 3 ?hg (N:=7) ?hd (xs:=([4000,4000,4000,300,100]:List Int)) (inner:=[.int .i64 4000,.int .i64 4000,.int .i64 4000,.int .i64 300,.int .i64 100]) (ok:=fun _=>True) (okp:=fun _=>True) ?hr ?hp (fun _ hk=>hk) trivial (Below.refl _ _) (Nat.le_refl _) (by simp) ?_;(case hd=>rfl);(case hg=>rfl);(case hr=>(go_simp;done));(case hp=>exact (Reps.one (show Kd.M (Kd.int .i64) _ _ _ 4000 [.int .i64 4000] from rfl) (Reps.one (show Kd.M (Kd.int .i64) _ _ _ 4000 [.int .i64 4000] from rfl) (Reps.one (show Kd.M (Kd.int .i64) _ _ _ 4000 [.int .i64 4000] from rfl) (Reps.one (show Kd.M (Kd.int .i64) _ _ _ 300 [.int .i64 300] from rfl) (Reps.one (show Kd.M (Kd.int .i64) _ _ _ 100 [.int .i64 100] from rfl) (Reps.none _ _)))))));intro v9 w1 ho hb hg_ hnew_;clear hg_ hnew_;replace HI:=zA (HI.out.below hb);replace HK:=zA (KeepBut.trans HK.out (KeepBut.of_below hb g none) (.inl rfl));replace HB:=zs HB hb;(try replace BR:=zb BR hb);rw [← HLR.out] at ho;have RL:=zA ho;obtain ⟨Al,cl,rfl⟩:=Kd.R_slice ho;clear ho hb) | (go_at_call 60;(with_reducible refine (CP.out _ _ _ _ _ HI.out HB.out RL.out).mono ?_);rintro e w1 ⟨rfl,hi,hb,hk⟩;replace HI:=zA hi;replace HB:=zA hb;replace HK:=zA (KeepBut.trans HK.out hk (.inl rfl));(try replace BR:=zA (KeepBut.blk hk BR.out GR2.out (by simp)));clear hi hb hk RL) | (go_at_call 21;have hbs:=HK.out.1;(with_reducible refine (CN.out _).mono ?_);rintro e w1 ⟨u0,u1,u2,u3,rfl,p0,p1,p2,p3,hb⟩;have hD:=HasD.of p0 p1 p2 p3;replace HI:=zA (HI.out.below hb);replace HK:=zA (KeepBut.trans HK.out (KeepBut.of_below hb g none) (.inl rfl));replace HB:=zs HB hb;(try replace BR:=zb BR hb);have Dn:=zA (hD.lower hbs);obtain ⟨A0,a0,rfl⟩:=Kd.R_slice p0;obtain ⟨A1,a1,rfl⟩:=Kd.R_slice p1;obtain ⟨A2,a2,rfl⟩:=Kd.R_slice p2;obtain ⟨A3,a3,rfl⟩:=Kd.R_slice p3;clear hD hb hbs p0 p1 p2 p3) | ((with_reducible refine gate_store (t:=28) (p:=3) rfl ?_);refine store_event (t:=28) (p:=3) (v:=?voD) (w1:=w1.alloc (.cells #[.slice A0 d1.length a0,.slice A1 d2.length a1,.slice A2 d3.length a2,.slice A3 d4.length a3,.int .i64 d5,.int .i64 d6] 28 (0,0))) ?hg ?ho ?hn ?hr ?_;(case ho=>rfl);(case hg=>rfl);(case hn=>rfl);(case hr=>(go_simp;done));intro wz hw;have hb:Below w1.heap.size w1 wz:=(by rw [hw];exact below_alloc (Below.refl _ _) _);have hbox:=(by rw [hw];exact blk_new w1 _:wz.heap[w1.heap.size]? = some (.cells #[.slice A0 d1.length a0,.slice A1 d2.length a1,.slice A2 d3.length a2,.slice A3 d4.length a3,.int .i64 d5,.int .i64 d6] 28 (0,0)));clear hw;obtain ⟨gD,hg⟩:∃ g,g=w1.heap.size:=⟨_,rfl⟩;rw [← hg] at hbox;have GDW:=zA (show w.heap.size≤gD by rw [hg];exact HK.out.1);have GD0:=zA (Nat.le_trans GWW.out GDW.out);have GD2:=zA (show gD≠g by rw [hg];exact Nat.ne_of_gt HI.out.lt);have RD:=zA (show gR≠gD by rw [hg];exact Nat.ne_of_lt (blk_lt BR.out));(try rw [← hg]);clear hg;have Do:=Dn;clear Dn;replace HI:=zA (HI.out.below hb);replace HK:=zA (KeepBut.trans HK.out (KeepBut.of_below hb g none) (.inl rfl));replace HB:=zs HB hb;(try replace BR:=zb BR hb);(try replace Do:=zA (Do.out.on hb));have BD:=zA hbox;clear hb hbox;obtain ⟨w1,hw1⟩:∃ x,x=wz:=⟨_,rfl⟩;subst hw1))
  go_loopg [4] 10 (fun gg s4 wr=>∃ (j:Nat) (d1:List S45) (d2 d3:List S47) (d4:List ByteArray) (d5 d6 i h:Int) (A0:Option Addr) (a0:Nat) (A1:Option Addr) (a1:Nat) (A2:Option Addr) (a2:Nat) (A3:Option Addr) (a3:Nat),10-j≤gg∧s4=.int .i64 j∧Aside0 (drawLoop k aa (10-j) j (d1,d2,d3,d4,d5,d6) i h=some ((e1,e2,e3,e4,e5,e6),e7,e8))∧Aside0 (IsS87 w0 wr g aa i h)∧Aside0 (Below w0.heap.size w0 wr)∧Aside0 (KeepBut w wr g none)∧Aside0 (wr.heap[gD]? = some (.cells #[.slice A0 d1.length a0,.slice A1 d2.length a1,.slice A2 d3.length a2,.slice A3 d4.length a3,.int .i64 d5,.int .i64 d6] 28 (0,0)))∧Aside0 (wr.heap[gR]? = some (.cells #[.slice none 0 0,.slice none 0 0,.slice none 0 0,.slice none 0 0,.int .i64 0,.int .i64 0] 28 (0,0)))∧Aside0 (HasD wr w.heap.size (.slice A0 d1.length a0) (.slice A1 d2.length a1) (.slice A2 d3.length a2) (.slice A3 d4.length a3) d1 d2 d3 d4))
  case atStart=>exact ⟨0,d1,d2,d3,d4,d5,d6,p2,p3,A0,a0,A1,a1,A2,a2,A3,a3,by omega,rfl,HL,HI,HB,HK,BD,BR,Do⟩
  case round=>
    clear HL HI HB HK BD BR Do
    obtain ⟨j,d1,d2,d3,d4,d5,d6,i,h,A0,a0,A1,a1,A2,a2,A3,a3,hgg,rfl,PC,HI,HB,HK,BD,BR,Do⟩:=hrel
    have H:=PC.out
    by_cases hj:j<10
    case neg=>rw [show 10-j=0 by omega,drawLoop] at H;cases H
    rw [show 10-j=(9-j)+1 by omega,drawLoop] at H
    replace H:=zo H
    obtain ⟨⟨y1,y2,y3⟩,hy,H⟩:=H
    dsimp only at H
    have C9:=zA (fun (w1:World) (hI:IsS87 w0 w1 g aa i h) (hB:Below w0.heap.size w0 w1)=>spec_l01Below.calls g aa i h 9 y1 y2 y3 w0 w1 hI hB hy)
    clear hy PC
    by_cases t:(j:Int)<y1
    · rw [if_pos t] at H
      have t1:decide ((j:Int)<y1)=true:=zt t
      replace H:=zo H
      obtain ⟨⟨⟨n1,n2,n3,n4,n5,n6⟩,i2,h2⟩,hs,H⟩:=H
      dsimp only at H
      have PC2:Aside0 (drawLoop k aa (10-(j+1)) (j+1) (n1,n2,n3,n4,n5,n6) i2 h2=some ((e1,e2,e3,e4,e5,e6),e7,e8)):=⟨by rw [show 10-(j+1)=9-j by omega];exact H⟩
      clear H
      unfold drawStep at hs
      rw [← HLN.out,← HLT.out] at hs
      replace hs:=zo hs
      obtain ⟨⟨p,p2,p3⟩,hp,hs⟩:=hs
      replace hs:=zo hs
      obtain ⟨⟨z,z2,z3⟩,hz,hs⟩:=hs
      dsimp only at hp hz hs
      have CPn:=zA (fun (w1:World) (bb:Nat) (pp:Nat→Prop) (Al:Option Addr) (cl:Nat) (hI:IsS87 w0 w1 g aa y2 y3) (hB:Below w0.heap.size w0 w1) (hr:Kd.R Kd.string 9 w1 bb pp (.slice Al ln.length cl) ln)=>spec_l01Pick.calls g aa y2 y3 Al cl ln p p2 p3 w0 w1 hI hB (Kd.R_reads' hr).2.2 (Kd.R_reads' hr).2.1 (far_slice (IsS87.own_ne hI hr (by decide))) hp)
      have C8:=zA (fun (w1:World) (hI:IsS87 w0 w1 g aa p2 p3) (hB:Below w0.heap.size w0 w1)=>spec_l01Below.calls g aa p2 p3 8 z z2 z3 w0 w1 hI hB hz)
      clear hp hz t
      replace iD:=blk6 BD.out;replace zD:=z6of BD.out
      (by_cases hz0:z=0)
      (rw [if_pos hz0] at hs;subst hz0;replace hs:=zo hs;obtain ⟨⟨o1,o2,o3,o4,o5,o6,o7⟩,ho,hs⟩:=hs;(try dsimp only at hs);have CR:=zA (fun (w1:World) (A0:Option Addr) (a0:Nat) (A1:Option Addr) (a1:Nat) (A2:Option Addr) (a2:Nat) (A3:Option Addr) (a3:Nat) (h:HasD w1 w.heap.size (.slice A0 d1.length a0) (.slice A1 d2.length a1) (.slice A2 d3.length a2) (.slice A3 d4.length a3) d1 d2 d3 d4)=>spec_RemoveFile.calls k A0 a0 d1 A1 a1 d2 A2 a2 d3 A3 a3 d4 d5 d6 p o1 o2 o3 o4 o5 o6 o7 w1 (Kd.R_reads' h.r0).2.2 (Kd.R_reads' h.r0).2.1 (Kd.R_reads' h.r1).2.2 (Kd.R_reads' h.r1).2.1 (Kd.R_reads' h.r2).2.2 (Kd.R_reads' h.r2).2.1 (Kd.R_reads' h.r3).2.2 (Kd.R_reads' h.r3).2.1 ho);clear ho;(simp only [Option.some.injEq,Prod.mk.injEq] at hs;obtain ⟨⟨rfl,rfl,rfl,rfl,rfl,rfl⟩,rfl,rfl⟩:=hs))
      (rotate_left 1;(rw [if_neg hz0] at hs;have f0:(z == 0)=false:=beq_eq_false_iff_ne.mpr hz0;by_cases hz1:z=1);rotate_right 1)
      (rotate_left 1;(rw [if_pos hz1] at hs;subst hz1;replace hs:=zo hs;obtain ⟨⟨o1,o2,o3,o4,o5,o6⟩,ho,hs⟩:=hs;have CR:=zA (fun (w1:World) (A0:Option Addr) (a0:Nat) (A1:Option Addr) (a1:Nat) (A2:Option Addr) (a2:Nat) (A3:Option Addr) (a3:Nat) (h:HasD w1 w.heap.size (.slice A0 d1.length a0) (.slice A1 d2.length a1) (.slice A2 d3.length a2) (.slice A3 d4.length a3) d1 d2 d3 d4)=>spec_SyncNames.calls k A0 a0 d1 A1 a1 d2 A2 a2 d3 A3 a3 d4 d5 d6 o1 o2 o3 o4 o5 o6 w1 (Kd.R_reads' h.r0).2.2 (Kd.R_reads' h.r0).2.1 (Kd.R_reads' h.r1).2.2 (Kd.R_reads' h.r1).2.1 (Kd.R_reads' h.r2).2.2 (Kd.R_reads' h.r2).2.1 (Kd.R_reads' h.r3).2.2 (Kd.R_reads' h.r3).2.1 ho);clear ho;(simp only [Option.some.injEq,Prod.mk.injEq] at hs;obtain ⟨⟨rfl,rfl,rfl,rfl,rfl,rfl⟩,rfl,rfl⟩:=hs));rotate_right 1)
      (rotate_left 2;(rw [if_neg hz1] at hs;have f1:(z == 1)=false:=beq_eq_false_iff_ne.mpr hz1;by_cases hz2:z=2);rotate_right 2)
      (rotate_left 2;(rw [if_pos hz2] at hs;subst hz2;replace hs:=zo hs;obtain ⟨⟨o1,o2,o3,o4,o5,o6,o7⟩,ho,hs⟩:=hs;(try dsimp only at hs);have CR:=zA (fun (w1:World) (A0:Option Addr) (a0:Nat) (A1:Option Addr) (a1:Nat) (A2:Option Addr) (a2:Nat) (A3:Option Addr) (a3:Nat) (h:HasD w1 w.heap.size (.slice A0 d1.length a0) (.slice A1 d2.length a1) (.slice A2 d3.length a2) (.slice A3 d4.length a3) d1 d2 d3 d4)=>spec_SyncFile.calls k A0 a0 d1 A1 a1 d2 A2 a2 d3 A3 a3 d4 d5 d6 p o1 o2 o3 o4 o5 o6 o7 w1 (Kd.R_reads' h.r0).2.2 (Kd.R_reads' h.r0).2.1 (Kd.R_reads' h.r1).2.2 (Kd.R_reads' h.r1).2.1 (Kd.R_reads' h.r2).2.2 (Kd.R_reads' h.r2).2.1 (Kd.R_reads' h.r3).2.2 (Kd.R_reads' h.r3).2.1 ho);clear ho;(simp only [Option.some.injEq,Prod.mk.injEq] at hs;obtain ⟨⟨rfl,rfl,rfl,rfl,rfl,rfl⟩,rfl,rfl⟩:=hs));rotate_right 2)
      (rotate_left 3;(rw [if_neg hz2] at hs;have f2:(z == 2)=false:=beq_eq_false_iff_ne.mpr hz2;by_cases hz3:z=3);rotate_right 3)
      (rotate_left 3;(rw [if_pos hz3] at hs;subst hz3;replace hs:=zo hs;obtain ⟨⟨q,q2,q3⟩,hq,hs⟩:=hs;dsimp only at hq hs;have CQ:=zA (fun (w1:World) (bb:Nat) (pp:Nat→Prop) (Al:Option Addr) (cl:Nat) (hI:IsS87 w0 w1 g aa z2 z3) (hB:Below w0.heap.size w0 w1) (hr:Kd.R Kd.string 9 w1 bb pp (.slice Al lt.length cl) lt)=>spec_l01Pick.calls g aa z2 z3 Al cl lt q q2 q3 w0 w1 hI hB (Kd.R_reads' hr).2.2 (Kd.R_reads' hr).2.1 (far_slice (IsS87.own_ne hI hr (by decide))) hq);clear hq;replace hs:=zo hs;obtain ⟨⟨o1,o2,o3,o4,o5,o6,o7⟩,ho,hs⟩:=hs;(try dsimp only at hs);have CR:=zA (fun (w1:World) (A0:Option Addr) (a0:Nat) (A1:Option Addr) (a1:Nat) (A2:Option Addr) (a2:Nat) (A3:Option Addr) (a3:Nat) (h:HasD w1 w.heap.size (.slice A0 d1.length a0) (.slice A1 d2.length a1) (.slice A2 d3.length a2) (.slice A3 d4.length a3) d1 d2 d3 d4)=>spec_RenameFile.calls k A0 a0 d1 A1 a1 d2 A2 a2 d3 A3 a3 d4 d5 d6 p q o1 o2 o3 o4 o5 o6 o7 w1 (Kd.R_reads' h.r0).2.2 (Kd.R_reads' h.r0).2.1 (Kd.R_reads' h.r1).2.2 (Kd.R_reads' h.r1).2.1 (Kd.R_reads' h.r2).2.2 (Kd.R_reads' h.r2).2.1 (Kd.R_reads' h.r3).2.2 (Kd.R_reads' h.r3).2.1 ho);clear ho;(simp only [Option.some.injEq,Prod.mk.injEq] at hs;obtain ⟨⟨rfl,rfl,rfl,rfl,rfl,rfl⟩,rfl,rfl⟩:=hs));rotate_right 3)
      (rotate_left 4;(rw [if_neg hz3] at hs;have f3:(z == 3)=false:=beq_eq_false_iff_ne.mpr hz3;by_cases hz4:z=4);rotate_right 4)
      (rotate_left 4;(rw [if_pos (Or.inl hz4)] at hs;subst hz4;replace hs:=zo hs;obtain ⟨⟨o1,o2,o3,o4,o5,o6,o7⟩,ho,hs⟩:=hs;(try dsimp only at hs);have CR:=zA (fun (w1:World) (A0:Option Addr) (a0:Nat) (A1:Option Addr) (a1:Nat) (A2:Option Addr) (a2:Nat) (A3:Option Addr) (a3:Nat) (h:HasD w1 w.heap.size (.slice A0 d1.length a0) (.slice A1 d2.length a1) (.slice A2 d3.length a2) (.slice A3 d4.length a3) d1 d2 d3 d4)=>spec_CreateFile.calls k A0 a0 d1 A1 a1 d2 A2 a2 d3 A3 a3 d4 d5 d6 p o1 o2 o3 o4 o5 o6 o7 w1 (Kd.R_reads' h.r0).2.2 (Kd.R_reads' h.r0).2.1 (Kd.R_reads' h.r1).2.2 (Kd.R_reads' h.r1).2.1 (Kd.R_reads' h.r2).2.2 (Kd.R_reads' h.r2).2.1 (Kd.R_reads' h.r3).2.2 (Kd.R_reads' h.r3).2.1 ho);clear ho;(simp only [Option.some.injEq,Prod.mk.injEq] at hs;obtain ⟨⟨rfl,rfl,rfl,rfl,rfl,rfl⟩,rfl,rfl⟩:=hs));rotate_right 4)
      (rotate_left 5;(have f4:(z == 4)=false:=beq_eq_false_iff_ne.mpr hz4;by_cases hz5:z=5);rotate_right 5)
      (rotate_left 5;(rw [if_pos (Or.inr hz5)] at hs;subst hz5;replace hs:=zo hs;obtain ⟨⟨o1,o2,o3,o4,o5,o6,o7⟩,ho,hs⟩:=hs;(try dsimp only at hs);have CR:=zA (fun (w1:World) (A0:Option Addr) (a0:Nat) (A1:Option Addr) (a1:Nat) (A2:Option Addr) (a2:Nat) (A3:Option Addr) (a3:Nat) (h:HasD w1 w.heap.size (.slice A0 d1.length a0) (.slice A1 d2.length a1) (.slice A2 d3.length a2) (.slice A3 d4.length a3) d1 d2 d3 d4)=>spec_CreateFile.calls k A0 a0 d1 A1 a1 d2 A2 a2 d3 A3 a3 d4 d5 d6 p o1 o2 o3 o4 o5 o6 o7 w1 (Kd.R_reads' h.r0).2.2 (Kd.R_reads' h.r0).2.1 (Kd.R_reads' h.r1).2.2 (Kd.R_reads' h.r1).2.1 (Kd.R_reads' h.r2).2.2 (Kd.R_reads' h.r2).2.1 (Kd.R_reads' h.r3).2.2 (Kd.R_reads' h.r3).2.1 ho);clear ho;(simp only [Option.some.injEq,Prod.mk.injEq] at hs;obtain ⟨⟨rfl,rfl,rfl,rfl,rfl,rfl⟩,rfl,rfl⟩:=hs));rotate_right 5)
      (rotate_left 6;(rw [if_neg (fun e:z=4∨z=5=>e.elim hz4 hz5)] at hs;have f5:(z == 5)=false:=beq_eq_false_iff_ne.mpr hz5;replace hs:=zo hs;obtain ⟨⟨o1,o2,o3,o4,o5,o6,o7⟩,ho,hs⟩:=hs;dsimp only at hs;have CR:=zA (fun (w1:World) (A0:Option Addr) (a0:Nat) (A1:Option Addr) (a1:Nat) (A2:Option Addr) (a2:Nat) (A3:Option Addr) (a3:Nat) (h:HasD w1 w.heap.size (.slice A0 d1.length a0) (.slice A1 d2.length a1) (.slice A2 d3.length a2) (.slice A3 d4.length a3) d1 d2 d3 d4)=>spec_CreateFile.calls k A0 a0 d1 A1 a1 d2 A2 a2 d3 A3 a3 d4 d5 d6 p o1 o2 o3 o4 o5 o6 o7 w1 (Kd.R_reads' h.r0).2.2 (Kd.R_reads' h.r0).2.1 (Kd.R_reads' h.r1).2.2 (Kd.R_reads' h.r1).2.1 (Kd.R_reads' h.r2).2.2 (Kd.R_reads' h.r2).2.1 (Kd.R_reads' h.r3).2.2 (Kd.R_reads' h.r3).2.1 ho);clear ho;replace hs:=zo hs;obtain ⟨⟨m,m2,m3⟩,hm,hs⟩:=hs;replace hs:=zo hs;obtain ⟨⟨tx,t2,t3⟩,ht,hs⟩:=hs;replace hs:=zo hs;obtain ⟨⟨q1,q2,q3,q4,q5,q6,q7⟩,ho,hs⟩:=hs;dsimp only at hm ht ho hs;have CM:=zA (fun (w1:World) (hI:IsS87 w0 w1 g aa z2 z3) (hB:Below w0.heap.size w0 w1)=>spec_l01Below.calls g aa z2 z3 12 m m2 m3 w0 w1 hI hB hm);have CT:=zA (fun (w1:World) (hI:IsS87 w0 w1 g aa m2 m3) (hB:Below w0.heap.size w0 w1)=>spec_l01Text.calls k g aa m2 m3 m tx t2 t3 w0 w1 hI hB ht);have CA:=zA (fun (w1:World) (B0:Option Addr) (b0:Nat) (B1:Option Addr) (b1:Nat) (B2:Option Addr) (b2:Nat) (B3:Option Addr) (b3:Nat) (h:HasD w1 w.heap.size (.slice B0 o1.length b0) (.slice B1 o2.length b1) (.slice B2 o3.length b2) (.slice B3 o4.length b3) o1 o2 o3 o4)=>spec_AppendFile.calls k B0 b0 o1 B1 b1 o2 B2 b2 o3 B3 b3 o4 o5 o6 p tx q1 q2 q3 q4 q5 q6 q7 w1 (Kd.R_reads' h.r0).2.2 (Kd.R_reads' h.r0).2.1 (Kd.R_reads' h.r1).2.2 (Kd.R_reads' h.r1).2.1 (Kd.R_reads' h.r2).2.2 (Kd.R_reads' h.r2).2.1 (Kd.R_reads' h.r3).2.2 (Kd.R_reads' h.r3).2.1 ho);clear hm ht ho;(simp only [Option.some.injEq,Prod.mk.injEq] at hs;obtain ⟨⟨rfl,rfl,rfl,rfl,rfl,rfl⟩,rfl,rfl⟩:=hs));rotate_right 6)
      all_goals go_wp2_with (first | (go_at_call 37;(with_reducible refine (C9.out _ HI.out HB.out).mono ?_);rintro e w1 ⟨rfl,hi,hb,hk⟩;replace HI:=zA hi;replace HB:=zA hb;replace HK:=zA (KeepBut.trans HK.out hk (.inl rfl));(try replace BD:=zA (KeepBut.blk hk BD.out GD2.out (by simp)));(try replace BR:=zA (KeepBut.blk hk BR.out GR2.out (by simp)));(try replace Do:=zA (Do.out.step fun k ho hl=>hk.2 k hl (fun e=>Nat.not_le_of_lt GLT.out (e▸Do.out.ge k ho)) (by simp)));clear hi hb hk;(try (replace iD:=blk6 BD.out;replace zD:=z6of BD.out))) | ((with_reducible refine gate_dst (N:=17) rfl ?_);refine Kd.R_lit Kd.string _ 9 ?hg (N:=17) ?hd (xs:=([(⟨#[97]⟩:ByteArray),(⟨#[98]⟩:ByteArray),(⟨#[115,48,48,48,48,48,48,48,48,46,115,101,103]⟩:ByteArray),(⟨#[115,48,48,48,48,48,48,48,51,46,115,101,103]⟩:ByteArray),(⟨#[115,48,48,48,48,48,48,48,48,46,115,101,103,46,116,109,112]⟩:ByteArray),(⟨#[99]⟩:ByteArray)]:List ByteArray)) (inner:=[.string (⟨#[97]⟩:ByteArray),.string (⟨#[98]⟩:ByteArray),.string (⟨#[115,48,48,48,48,48,48,48,48,46,115,101,103]⟩:ByteArray),.string (⟨#[115,48,48,48,48,48,48,48,51,46,115,101,103]⟩:ByteArray),.string (⟨#[115,48,48,48,48,48,48,48,48,46,115,101,103,46,116,109,112]⟩:ByteArray),.string (⟨#[99]⟩:ByteArray)]) (ok:=fun _=>True) (okp:=fun _=>True) ?hr ?hp (fun _ hk=>hk) trivial (Below.refl _ _) (Nat.le_refl _) (by simp) ?_;(case hd=>rfl);(case hg=>rfl);(case hr=>(go_simp;done));(case hp=>exact (Reps.one (show Kd.M Kd.string _ _ _ (⟨#[97]⟩:ByteArray) [.string (⟨#[97]⟩:ByteArray)] from rfl) (Reps.one (show Kd.M Kd.string _ _ _ (⟨#[98]⟩:ByteArray) [.string (⟨#[98]⟩:ByteArray)] from rfl) (Reps.one (show Kd.M Kd.string _ _ _ (⟨#[115,48,48,48,48,48,48,48,48,46,115,101,103]⟩:ByteArray) [.string (⟨#[115,48,48,48,48,48,48,48,48,46,115,101,103]⟩:ByteArray)] from rfl) (Reps.one (show Kd.M Kd.string _ _ _ (⟨#[115,48,48,48,48,48,48,48,51,46,115,101,103]⟩:ByteArray) [.string (⟨#[115,48,48,48,48,48,48,48,51,46,115,101,103]⟩:ByteArray)] from rfl) (Reps.one (show Kd.M Kd.string _ _ _ (⟨#[115,48,48,48,48,48,48,48,48,46,115,101,103,46,116,109,112]⟩:ByteArray) [.string (⟨#[115,48,48,48,48,48,48,48,48,46,115,101,103,46,116,109,112]⟩:ByteArray)] from rfl) (Reps.one (show Kd.M Kd.string _ _ _ (⟨#[99]⟩:ByteArray) [.string (⟨#[99]⟩:ByteArray)] from rfl) (Reps.none _ _))))))));intro v9 w1 ho hb hg_ hnew_;clear hg_ hnew_;replace HI:=zA (HI.out.below hb);replace HK:=zA (KeepBut.trans HK.out (KeepBut.of_below hb g none) (.inl rfl));replace HB:=zs HB hb;(try replace BD:=zb BD hb);(try replace BR:=zb BR hb);(try replace Do:=zA (Do.out.on hb));rw [← HLN.out] at ho;have RL:=zA ho;obtain ⟨Al,cl,rfl⟩:=Kd.R_slice ho;clear ho hb;(try (replace iD:=blk6 BD.out;replace zD:=z6of BD.out))) | (go_at_call 80;(with_reducible refine (CPn.out _ _ _ _ _ HI.out HB.out RL.out).mono ?_);rintro e w1 ⟨rfl,hi,hb,hk⟩;replace HI:=zA hi;replace HB:=zA hb;replace HK:=zA (KeepBut.trans HK.out hk (.inl rfl));(try replace BD:=zA (KeepBut.blk hk BD.out GD2.out (by simp)));(try replace BR:=zA (KeepBut.blk hk BR.out GR2.out (by simp)));(try replace Do:=zA (Do.out.step fun k ho hl=>hk.2 k hl (fun e=>Nat.not_le_of_lt GLT.out (e▸Do.out.ge k ho)) (by simp)));clear hi hb hk RL;(try (replace iD:=blk6 BD.out;replace zD:=z6of BD.out))) | (go_at_call 37;(with_reducible refine (C8.out _ HI.out HB.out).mono ?_);rintro e w1 ⟨rfl,hi,hb,hk⟩;replace HI:=zA hi;replace HB:=zA hb;replace HK:=zA (KeepBut.trans HK.out hk (.inl rfl));(try replace BD:=zA (KeepBut.blk hk BD.out GD2.out (by simp)));(try replace BR:=zA (KeepBut.blk hk BR.out GR2.out (by simp)));(try replace Do:=zA (Do.out.step fun k ho hl=>hk.2 k hl (fun e=>Nat.not_le_of_lt GLT.out (e▸Do.out.ge k ho)) (by simp)));clear hi hb hk;(try (replace iD:=blk6 BD.out;replace zD:=z6of BD.out))) | ((first | go_at_call 104 | go_at_call 101 | go_at_call 105 | go_at_call 67);have hbs:=Nat.le_trans HK.out.1 (Nat.le_refl _);(with_reducible refine (CR.out _ _ _ _ _ _ _ _ _ Do.out).mono ?_);rintro e w1 ⟨u0,u1,u2,u3,rfl,p0,p1,p2,p3,hb⟩;have hD:=HasD.of p0 p1 p2 p3;replace HI:=zA (HI.out.below hb);replace HK:=zA (KeepBut.trans HK.out (KeepBut.of_below hb g none) (.inl rfl));replace HB:=zs HB hb;(try replace BD:=zb BD hb);(try replace BR:=zb BR hb);(try replace Do:=zA (Do.out.on hb));have Dn:=zA (hD.lower hbs);obtain ⟨B0,b0,rfl⟩:=Kd.R_slice p0;obtain ⟨B1,b1,rfl⟩:=Kd.R_slice p1;obtain ⟨B2,b2,rfl⟩:=Kd.R_slice p2;obtain ⟨B3,b3,rfl⟩:=Kd.R_slice p3;clear hD hb hbs p0 p1 p2 p3;replace iD:=blk6 BD.out;replace zD:=z6of BD.out) | ((with_reducible refine gate_store (t:=28) (p:=3) rfl ?_);refine store_event (t:=28) (p:=3) (w1:=((((((w1.setCell ⟨gD,0,none⟩ (.slice B0 o1.length b0)).setCell ⟨gD,1,none⟩ (.slice B1 o2.length b1)).setCell ⟨gD,2,none⟩ (.slice B2 o3.length b2)).setCell ⟨gD,3,none⟩ (.slice B3 o4.length b3)).setCell ⟨gD,4,none⟩ (.int .i64 o5)).setCell ⟨gD,5,none⟩ (.int .i64 o6))) rfl rfl rfl ?hr ?_;(case hr=>(go_simp;done));intro wz hw;have hs:∀ j,j≠gD→wz.heap[j]? = w1.heap[j]?:=(by rw [hw];exact fun j hj=>fill6_far hj);have hG:wz.heap[gD]? = some (.cells #[.slice B0 o1.length b0,.slice B1 o2.length b1,.slice B2 o3.length b2,.slice B3 o4.length b3,.int .i64 o5,.int .i64 o6] 28 (0,0)):=(by rw [hw];exact fill6_at BD.out);have hI:=(by rw [hw];exact cur6 HI.out (Ne.symm GD2.out) _ _ _ _ _ _:IsS87 w0 wz g aa _ _);have hB1:Below w0.heap.size w0 wz:=(by rw [hw];exact fill6_below HB.out GD0.out);have hK1:KeepBut w wz g none:=(by rw [hw];exact keep6 HK.out GDW.out _ _ _ _ _ _);have Dm:=zA (HasD.fill Dn.out BD.out hs);replace BR:=zA ((hs gR RD.out).trans BR.out);clear hw Do Dn BD HI HB HK;have Do:=Dm;have BD:=zA hG;have HI:=zA hI;have HB:=zA hB1;have HK:=zA hK1;clear Dm hs hG hI hB1 hK1;obtain ⟨w1,hw1⟩:∃ x,x=wz:=⟨_,rfl⟩;subst hw1;replace iD:=blk6 BD.out;replace zD:=z6of BD.out))
      go_roundg (10-(j+1))
      case measure=>omega
      case rel=>with_reducible exact ⟨j+1,o1,o2,o3,o4,o5,o6,z2,z3,B0,b0,B1,b1,B2,b2,B3,b3,Nat.le_refl _,nxt_ j,PC2,HI,HB,HK,BD,BR,Do⟩
      go_roundg (10-(j+1))
      case measure=>omega
      case rel=>with_reducible exact ⟨j+1,o1,o2,o3,o4,o5,o6,z2,z3,B0,b0,B1,b1,B2,b2,B3,b3,Nat.le_refl _,nxt_ j,PC2,HI,HB,HK,BD,BR,Do⟩
      go_roundg (10-(j+1))
      case measure=>omega
      case rel=>with_reducible exact ⟨j+1,o1,o2,o3,o4,o5,o6,z2,z3,B0,b0,B1,b1,B2,b2,B3,b3,Nat.le_refl _,nxt_ j,PC2,HI,HB,HK,BD,BR,Do⟩
      (try clear iD zD)
      have hb:=below_drew (Below.refl w1.heap.size w1)
      replace HI:=zA (HI.out.below hb);replace HK:=zA (KeepBut.trans HK.out (KeepBut.of_below hb g none) (.inl rfl));replace HB:=zs HB hb;(try replace BD:=zb BD hb);(try replace BR:=zb BR hb);(try replace Do:=zA (Do.out.on hb))
      clear hb
      refine start_ (n:=10) (S:=fun w'=>w'.cell? ⟨gD,0,none⟩=some (.slice A0 d1.length a0)∧w'.cell? ⟨gD,1,none⟩=some (.slice A1 d2.length a1)∧w'.cell? ⟨gD,2,none⟩=some (.slice A2 d3.length a2)∧w'.cell? ⟨gD,3,none⟩=some (.slice A3 d4.length a3)∧w'.cell? ⟨gD,4,none⟩=some (.int .i64 d5)∧w'.cell? ⟨gD,5,none⟩=some (.int .i64 d6)) (ds:=[9]) (marks 10 0) (by kernel_rfl) rfl rfl (zc BD) (fun hHeld=>?_)
      generalize w1.drew=w2 at HI HB HK BD BR Do hHeld ⊢
      refine pure_ (i:=1) (N:=some 61) (v:=?_) (a':=?_) (marks 10 2) rfl rfl (by kernel_rfl) (fun _ _ _ h=>h) (Or.inl ⟨by rfl,?_⟩) ?_ ?_
      rotate_left
      · intro w'
        go_simp
        with_reducible rfl
      rotate_left
      · simp only [Act.put,yA,yB,yC,i64_w,i32_w]
        rfl
      refine pure_ (i:=2) (N:=some 62) (v:=?_) (a':=?_) (marks 10 6) rfl rfl (by kernel_rfl) (fun _ _ _ h=>h) (Or.inl ⟨by rfl,?_⟩) ?_ ?_
      rotate_left
      · intro w'
        go_simp
        with_reducible rfl
      rotate_left
      · simp only [Act.put,yA,yB,yC,i64_w,i32_w]
        rfl
      refine take_ (i:=0) (N:=some 60) (v:=?_) (a':=?_) (marks 10 7) rfl rfl (by kernel_rfl) (fun _ _ _ h=>h) (Or.inl ⟨by rfl,?_⟩) hHeld ?_ ?_
      rotate_left
      · rintro w' ⟨s0,s1,s2,s3,s4,s5⟩
        go_simp
        with_reducible rfl
      rotate_left
      · simp only [Act.put,yA,yB,yC,i64_w,i32_w]
        rfl
      refine one_ (i:=3) (N:=some 63) (marks 10 15) rfl rfl (by kernel_rfl) (by decide) (fun K hK=>?_)
      refine Kd.R_lit_step Kd.string _ 9 ?hg (N:=63) ?hd (xs:=([(⟨#[98]⟩:ByteArray),(⟨#[120]⟩:ByteArray),(⟨#[115,48,48,48,48,48,48,48,51,46,115,101,103]⟩:ByteArray)]:List ByteArray)) (inner:=[.string (⟨#[98]⟩:ByteArray),.string (⟨#[120]⟩:ByteArray),.string (⟨#[115,48,48,48,48,48,48,48,51,46,115,101,103]⟩:ByteArray)]) (ok:=fun _=>True) (okp:=fun _=>True) ?hr ?hp (fun _ hk=>hk) trivial (Below.refl _ _) (Nat.le_refl _) (by simp) ?_
      (case hd=>rfl)
      (case hg=>rfl)
      (case hr=>(go_simp;done))
      (case hp=>exact (Reps.one (show Kd.M Kd.string _ _ _ (⟨#[98]⟩:ByteArray) [.string (⟨#[98]⟩:ByteArray)] from rfl) (Reps.one (show Kd.M Kd.string _ _ _ (⟨#[120]⟩:ByteArray) [.string (⟨#[120]⟩:ByteArray)] from rfl) (Reps.one (show Kd.M Kd.string _ _ _ (⟨#[115,48,48,48,48,48,48,48,51,46,115,101,103]⟩:ByteArray) [.string (⟨#[115,48,48,48,48,48,48,48,51,46,115,101,103]⟩:ByteArray)] from rfl) (Reps.none _ _)))))
      intro v9 w1 ho hb hg_ hnew_
      clear hg_ hnew_
      rw [← HLT.out] at ho
      replace HI:=zA (HI.out.below hb);replace HK:=zA (KeepBut.trans HK.out (KeepBut.of_below hb g none) (.inl rfl));replace HB:=zs HB hb;(try replace BD:=zb BD hb);(try replace BR:=zb BR hb);(try replace Do:=zA (Do.out.on hb))
      have RL:=zA ho
      obtain ⟨Al,cl,rfl⟩:=Kd.R_slice ho
      clear ho hb
      refine hK.out _ _ (zc BD) (fun hHeld=>?_)
      clear hK K
      refine norm_ (a':=?_) ?_ ?_
      rotate_left
      · show Act.put _ (some 63) _=_
        simp only [Act.put,yA,yB,yC,i64_w,i32_w]
        rfl
      refine one_ (i:=4) (N:=some 64) (marks 10 31) rfl rfl (by kernel_rfl) (by decide) (fun K hK=>?_)
      refine goes_ Tryz.func80 (by kernel_rfl) rfl #[.pointer (some ⟨g,0,none⟩),.slice Al lt.length cl] (by rfl) rfl rfl (by (try simp only [List.map_toArray,List.map_cons,List.map_nil]);rfl) ?_
      with_reducible refine (CQ.out _ _ _ _ _ HI.out HB.out RL.out).mono ?_
      rintro e w1 ⟨rfl,hi,hb,hk⟩
      refine ⟨_,rfl,?_⟩
      replace HI:=zA hi;replace HB:=zA hb;replace HK:=zA (KeepBut.trans HK.out hk (.inl rfl));(try replace BD:=zA (KeepBut.blk hk BD.out GD2.out (by simp)));(try replace BR:=zA (KeepBut.blk hk BR.out GR2.out (by simp)));(try replace Do:=zA (Do.out.step fun k ho hl=>hk.2 k hl (fun e=>Nat.not_le_of_lt GLT.out (e▸Do.out.ge k ho)) (by simp)))
      clear hi hb hk
      refine hK.out _ _ (zc BD) (fun hHeld=>?_)
      clear hK K
      refine norm_ (a':=?_) ?_ ?_
      rotate_left
      · show Act.put _ (some 64) _=_
        simp only [Act.put,yA,yB,yC,i64_w,i32_w]
        rfl
      refine one_ (i:=5) (N:=some 65) (marks 10 63) rfl rfl (by kernel_rfl) (by decide) (fun K hK=>?_)
      refine goes_ Tryz.func106 (by kernel_rfl) rfl #[.agg #[.slice A0 d1.length a0,.slice A1 d2.length a1,.slice A2 d3.length a2,.slice A3 d4.length a3,.int .i64 d5,.int .i64 d6],.string p,.string q] (by rfl) rfl rfl (by (try simp only [List.map_toArray,List.map_cons,List.map_nil]);rfl) ?_
      with_reducible refine (CR.out _ _ _ _ _ _ _ _ _ Do.out).mono ?_
      have hbs:=Nat.le_trans HK.out.1 (Nat.le_refl _)
      rintro e w1 ⟨u0,u1,u2,u3,rfl,p0,p1,p2,p3,hb⟩
      refine ⟨_,rfl,?_⟩
      have hD:=HasD.of p0 p1 p2 p3
      replace HI:=zA (HI.out.below hb);replace HK:=zA (KeepBut.trans HK.out (KeepBut.of_below hb g none) (.inl rfl));replace HB:=zs HB hb;(try replace BD:=zb BD hb);(try replace BR:=zb BR hb);(try replace Do:=zA (Do.out.on hb))
      have Dn:=zA (hD.lower hbs)
      obtain ⟨B0,b0,rfl⟩:=Kd.R_slice p0
      obtain ⟨B1,b1,rfl⟩:=Kd.R_slice p1
      obtain ⟨B2,b2,rfl⟩:=Kd.R_slice p2
      obtain ⟨B3,b3,rfl⟩:=Kd.R_slice p3
      clear hD hb hbs p0 p1 p2 p3
      refine hK.out _ _ (zc BD) (fun hHeld=>?_)
      clear hK K
      refine norm_ (a':=?_) ?_ ?_
      rotate_left
      · show Act.put _ (some 65) _=_
        simp only [Act.put,yA,yB,yC,i64_w,i32_w]
        rfl
      refine pure_ (i:=6) (N:=some 59) (v:=?_) (a':=?_) (marks 10 127) rfl rfl (by kernel_rfl) (fun _ _ _ h=>h) (Or.inl ⟨by rfl,?_⟩) ?_ ?_
      rotate_left
      · intro w'
        go_simp
        with_reducible rfl
      rotate_left
      · simp only [Act.put,yA,yB,yC,i64_w,i32_w]
        rfl
      refine pure_ (i:=7) (N:=some 66) (v:=?_) (a':=?_) (marks 10 255) rfl rfl (by kernel_rfl) (fun _ _ _ h=>h) (Or.inl ⟨by rfl,?_⟩) ?_ ?_
      rotate_left
      · intro w'
        go_simp
        with_reducible rfl
      rotate_left
      · simp only [Act.put,yA,yB,yC,i64_w,i32_w]
        rfl
      refine pure_ (i:=8) (N:=some 67) (v:=?_) (a':=?_) (marks 10 511) rfl rfl (by kernel_rfl) (fun _ _ _ h=>h) (Or.inl ⟨by rfl,?_⟩) ?_ ?_
      rotate_left
      · intro w'
        go_simp
        with_reducible rfl
      rotate_left
      · simp only [Act.put,yA,yB,yC,i64_w,i32_w]
        rfl
      refine last_ (i:=9) (N:=none) (marks 10 1023) rfl rfl (by kernel_rfl) (by decide) (fun K hK=>?_)
      replace iD:=blk6 BD.out;replace zD:=z6of BD.out
      refine skip_ (w1:=?_) (by rfl) rfl ?_ ?_
      rotate_left
      · go_simp
        rfl
      refine hK.out _ _ ?_
      clear hK K
      (try clear iD zD)
      refine done_ (by kernel_rfl) ?_
      have hs:∀ j,j≠gD→((((((w1.setCell ⟨gD,0,none⟩ (.slice B0 o1.length b0)).setCell ⟨gD,1,none⟩ (.slice B1 o2.length b1)).setCell ⟨gD,2,none⟩ (.slice B2 o3.length b2)).setCell ⟨gD,3,none⟩ (.slice B3 o4.length b3)).setCell ⟨gD,4,none⟩ (.int .i64 o5)).setCell ⟨gD,5,none⟩ (.int .i64 o6)).heap[j]? = w1.heap[j]?:=fun j hj=>fill6_far hj
      have hG:((((((w1.setCell ⟨gD,0,none⟩ (.slice B0 o1.length b0)).setCell ⟨gD,1,none⟩ (.slice B1 o2.length b1)).setCell ⟨gD,2,none⟩ (.slice B2 o3.length b2)).setCell ⟨gD,3,none⟩ (.slice B3 o4.length b3)).setCell ⟨gD,4,none⟩ (.int .i64 o5)).setCell ⟨gD,5,none⟩ (.int .i64 o6)).heap[gD]? = some (.cells #[.slice B0 o1.length b0,.slice B1 o2.length b1,.slice B2 o3.length b2,.slice B3 o4.length b3,.int .i64 o5,.int .i64 o6] 28 (0,0)):=fill6_at BD.out
      have hI:=cur6 HI.out (Ne.symm GD2.out) (.slice B0 o1.length b0) (.slice B1 o2.length b1) (.slice B2 o3.length b2) (.slice B3 o4.length b3) (.int .i64 o5) (.int .i64 o6)
      have hB1:Below w0.heap.size w0 ((((((w1.setCell ⟨gD,0,none⟩ (.slice B0 o1.length b0)).setCell ⟨gD,1,none⟩ (.slice B1 o2.length b1)).setCell ⟨gD,2,none⟩ (.slice B2 o3.length b2)).setCell ⟨gD,3,none⟩ (.slice B3 o4.length b3)).setCell ⟨gD,4,none⟩ (.int .i64 o5)).setCell ⟨gD,5,none⟩ (.int .i64 o6)):=fill6_below HB.out GD0.out
      have hK1:=keep6 HK.out GDW.out (.slice B0 o1.length b0) (.slice B1 o2.length b1) (.slice B2 o3.length b2) (.slice B3 o4.length b3) (.int .i64 o5) (.int .i64 o6)
      have Dm:=HasD.fill Dn.out BD.out hs
      have Rm:=(hs gR RD.out).trans BR.out
      clear Do Dn BD HI HB HK BR
      (try clear RL)
      clear hHeld
      generalize ((((((w1.setCell ⟨gD,0,none⟩ (.slice B0 o1.length b0)).setCell ⟨gD,1,none⟩ (.slice B1 o2.length b1)).setCell ⟨gD,2,none⟩ (.slice B2 o3.length b2)).setCell ⟨gD,3,none⟩ (.slice B3 o4.length b3)).setCell ⟨gD,4,none⟩ (.int .i64 o5)).setCell ⟨gD,5,none⟩ (.int .i64 o6))=wz at hs hG hI hB1 hK1 Dm Rm ⊢
      have Do:=zA Dm
      have BD:=zA hG
      have HI:=zA hI
      have HB:=zA hB1
      have HK:=zA hK1
      have BR:=zA Rm
      clear Dm hs hG hI hB1 hK1 Rm
      obtain ⟨w1,hw1⟩:∃ x,x=wz:=⟨_,rfl⟩
      subst hw1
      replace iD:=blk6 BD.out;replace zD:=z6of BD.out
      go_wp2_with fail
      go_roundg (10-(j+1))
      case measure=>omega
      case rel=>with_reducible exact ⟨j+1,o1,o2,o3,o4,o5,o6,q2,q3,B0,b0,B1,b1,B2,b2,B3,b3,Nat.le_refl _,nxt_ j,PC2,HI,HB,HK,BD,BR,Do⟩
      go_roundg (10-(j+1))
      case measure=>omega
      case rel=>with_reducible exact ⟨j+1,o1,o2,o3,o4,o5,o6,z2,z3,B0,b0,B1,b1,B2,b2,B3,b3,Nat.le_refl _,nxt_ j,PC2,HI,HB,HK,BD,BR,Do⟩
      go_roundg (10-(j+1))
      case measure=>omega
      case rel=>with_reducible exact ⟨j+1,o1,o2,o3,o4,o5,o6,z2,z3,B0,b0,B1,b1,B2,b2,B3,b3,Nat.le_refl _,nxt_ j,PC2,HI,HB,HK,BD,BR,Do⟩
      (try clear iD zD)
      have hb:=below_drew (Below.refl w1.heap.size w1)
      replace HI:=zA (HI.out.below hb);replace HK:=zA (KeepBut.trans HK.out (KeepBut.of_below hb g none) (.inl rfl));replace HB:=zs HB hb;(try replace BD:=zb BD hb);(try replace BR:=zb BR hb);(try replace Do:=zA (Do.out.on hb))
      clear hb
      refine start_ (n:=11) (S:=fun w'=>w'.cell? ⟨gD,0,none⟩=some (.slice B0 o1.length b0)∧w'.cell? ⟨gD,1,none⟩=some (.slice B1 o2.length b1)∧w'.cell? ⟨gD,2,none⟩=some (.slice B2 o3.length b2)∧w'.cell? ⟨gD,3,none⟩=some (.slice B3 o4.length b3)∧w'.cell? ⟨gD,4,none⟩=some (.int .i64 o5)∧w'.cell? ⟨gD,5,none⟩=some (.int .i64 o6)) (ds:=[10]) (marks 11 0) (by kernel_rfl) rfl rfl (zc BD) (fun hHeld=>?_)
      generalize w1.drew=w2 at HI HB HK BD BR Do hHeld ⊢
      refine pure_ (i:=1) (N:=some 29) (v:=?_) (a':=?_) (marks 11 2) rfl rfl (by kernel_rfl) (fun _ _ _ h=>h) (Or.inl ⟨by rfl,?_⟩) ?_ ?_
      rotate_left
      · intro w'
        go_simp
        with_reducible rfl
      rotate_left
      · simp only [Act.put,yA,yB,yC,i64_w,i32_w]
        rfl
      refine pure_ (i:=2) (N:=some 30) (v:=?_) (a':=?_) (marks 11 6) rfl rfl (by kernel_rfl) (fun _ _ _ h=>h) (Or.inl ⟨by rfl,?_⟩) ?_ ?_
      rotate_left
      · intro w'
        go_simp
        with_reducible rfl
      rotate_left
      · simp only [Act.put,yA,yB,yC,i64_w,i32_w]
        rfl
      refine pure_ (i:=3) (N:=some 31) (v:=?_) (a':=?_) (marks 11 14) rfl rfl (by kernel_rfl) (fun _ _ _ h=>h) (Or.inl ⟨by rfl,?_⟩) ?_ ?_
      rotate_left
      · intro w'
        go_simp
        with_reducible rfl
      rotate_left
      · simp only [Act.put,yA,yB,yC,i64_w,i32_w]
        rfl
      refine take_ (i:=0) (N:=some 28) (v:=?_) (a':=?_) (marks 11 15) rfl rfl (by kernel_rfl) (fun _ _ _ h=>h) (Or.inl ⟨by rfl,?_⟩) hHeld ?_ ?_
      rotate_left
      · rintro w' ⟨s0,s1,s2,s3,s4,s5⟩
        go_simp
        with_reducible rfl
      rotate_left
      · simp only [Act.put,yA,yB,yC,i64_w,i32_w]
        rfl
      refine one_ (i:=4) (N:=some 32) (marks 11 31) rfl rfl (by kernel_rfl) (by decide) (fun K hK=>?_)
      refine goes_ Tryz.func37 (by kernel_rfl) rfl #[.pointer (some ⟨g,0,none⟩),.int .i64 12] (by rfl) rfl rfl (by (try simp only [List.map_toArray,List.map_cons,List.map_nil]);rfl) ?_
      with_reducible refine (CM.out _ HI.out HB.out).mono ?_
      rintro e w1 ⟨rfl,hi,hb,hk⟩
      refine ⟨_,rfl,?_⟩
      replace HI:=zA hi;replace HB:=zA hb;replace HK:=zA (KeepBut.trans HK.out hk (.inl rfl));(try replace BD:=zA (KeepBut.blk hk BD.out GD2.out (by simp)));(try replace BR:=zA (KeepBut.blk hk BR.out GR2.out (by simp)));(try replace Do:=zA (Do.out.step fun k ho hl=>hk.2 k hl (fun e=>Nat.not_le_of_lt GLT.out (e▸Do.out.ge k ho)) (by simp)))
      clear hi hb hk
      refine hK.out _ _ (zc BD) (fun hHeld=>?_)
      clear hK K
      refine norm_ (a':=?_) ?_ ?_
      rotate_left
      · show Act.put _ (some 32) _=_
        simp only [Act.put,yA,yB,yC,i64_w,i32_w]
        rfl
      refine one_ (i:=5) (N:=some 33) (marks 11 63) rfl rfl (by kernel_rfl) (by decide) (fun K hK=>?_)
      refine goes_ Tryz.func38 (by kernel_rfl) rfl #[.pointer (some ⟨g,0,none⟩),.int .i64 m] (by rfl) rfl rfl (by (try simp only [List.map_toArray,List.map_cons,List.map_nil]);rfl) ?_
      with_reducible refine (CT.out _ HI.out HB.out).mono ?_
      rintro e w1 ⟨rfl,hi,hb,hk⟩
      refine ⟨_,rfl,?_⟩
      replace HI:=zA hi;replace HB:=zA hb;replace HK:=zA (KeepBut.trans HK.out hk (.inl rfl));(try replace BD:=zA (KeepBut.blk hk BD.out GD2.out (by simp)));(try replace BR:=zA (KeepBut.blk hk BR.out GR2.out (by simp)));(try replace Do:=zA (Do.out.step fun k ho hl=>hk.2 k hl (fun e=>Nat.not_le_of_lt GLT.out (e▸Do.out.ge k ho)) (by simp)))
      clear hi hb hk
      refine hK.out _ _ (zc BD) (fun hHeld=>?_)
      clear hK K
      refine norm_ (a':=?_) ?_ ?_
      rotate_left
      · show Act.put _ (some 33) _=_
        simp only [Act.put,yA,yB,yC,i64_w,i32_w]
        rfl
      refine one_ (i:=6) (N:=some 34) (marks 11 127) rfl rfl (by kernel_rfl) (by decide) (fun K hK=>?_)
      refine goes_ Tryz.func9 (by kernel_rfl) rfl #[.agg #[.slice B0 o1.length b0,.slice B1 o2.length b1,.slice B2 o3.length b2,.slice B3 o4.length b3,.int .i64 o5,.int .i64 o6],.string p,.string tx] (by rfl) rfl rfl (by (try simp only [List.map_toArray,List.map_cons,List.map_nil]);rfl) ?_
      with_reducible refine (CA.out _ _ _ _ _ _ _ _ _ Do.out).mono ?_
      have hbs:=Nat.le_trans HK.out.1 (Nat.le_refl _)
      rintro e w1 ⟨u0,u1,u2,u3,rfl,p0,p1,p2,p3,hb⟩
      refine ⟨_,rfl,?_⟩
      have hD:=HasD.of p0 p1 p2 p3
      replace HI:=zA (HI.out.below hb);replace HK:=zA (KeepBut.trans HK.out (KeepBut.of_below hb g none) (.inl rfl));replace HB:=zs HB hb;(try replace BD:=zb BD hb);(try replace BR:=zb BR hb);(try replace Do:=zA (Do.out.on hb))
      have Dn:=zA (hD.lower hbs)
      obtain ⟨C0,c0,rfl⟩:=Kd.R_slice p0
      obtain ⟨C1,c1,rfl⟩:=Kd.R_slice p1
      obtain ⟨C2,c2,rfl⟩:=Kd.R_slice p2
      obtain ⟨C3,c3,rfl⟩:=Kd.R_slice p3
      clear hD hb hbs p0 p1 p2 p3
      refine hK.out _ _ (zc BD) (fun hHeld=>?_)
      clear hK K
      refine norm_ (a':=?_) ?_ ?_
      rotate_left
      · show Act.put _ (some 34) _=_
        simp only [Act.put,yA,yB,yC,i64_w,i32_w]
        rfl
      refine pure_ (i:=7) (N:=some 27) (v:=?_) (a':=?_) (marks 11 255) rfl rfl (by kernel_rfl) (fun _ _ _ h=>h) (Or.inl ⟨by rfl,?_⟩) ?_ ?_
      rotate_left
      · intro w'
        go_simp
        with_reducible rfl
      rotate_left
      · simp only [Act.put,yA,yB,yC,i64_w,i32_w]
        rfl
      refine pure_ (i:=8) (N:=some 35) (v:=?_) (a':=?_) (marks 11 511) rfl rfl (by kernel_rfl) (fun _ _ _ h=>h) (Or.inl ⟨by rfl,?_⟩) ?_ ?_
      rotate_left
      · intro w'
        go_simp
        with_reducible rfl
      rotate_left
      · simp only [Act.put,yA,yB,yC,i64_w,i32_w]
        rfl
      refine pure_ (i:=9) (N:=some 36) (v:=?_) (a':=?_) (marks 11 1023) rfl rfl (by kernel_rfl) (fun _ _ _ h=>h) (Or.inl ⟨by rfl,?_⟩) ?_ ?_
      rotate_left
      · intro w'
        go_simp
        with_reducible rfl
      rotate_left
      · simp only [Act.put,yA,yB,yC,i64_w,i32_w]
        rfl
      refine last_ (i:=10) (N:=none) (marks 11 2047) rfl rfl (by kernel_rfl) (by decide) (fun K hK=>?_)
      replace iD:=blk6 BD.out;replace zD:=z6of BD.out
      refine skip_ (w1:=?_) (by rfl) rfl ?_ ?_
      rotate_left
      · go_simp
        rfl
      refine hK.out _ _ ?_
      clear hK K
      (try clear iD zD)
      refine done_ (by kernel_rfl) ?_
      have hs:∀ j,j≠gD→((((((w1.setCell ⟨gD,0,none⟩ (.slice C0 q1.length c0)).setCell ⟨gD,1,none⟩ (.slice C1 q2.length c1)).setCell ⟨gD,2,none⟩ (.slice C2 q3.length c2)).setCell ⟨gD,3,none⟩ (.slice C3 q4.length c3)).setCell ⟨gD,4,none⟩ (.int .i64 q5)).setCell ⟨gD,5,none⟩ (.int .i64 q6)).heap[j]? = w1.heap[j]?:=fun j hj=>fill6_far hj
      have hG:((((((w1.setCell ⟨gD,0,none⟩ (.slice C0 q1.length c0)).setCell ⟨gD,1,none⟩ (.slice C1 q2.length c1)).setCell ⟨gD,2,none⟩ (.slice C2 q3.length c2)).setCell ⟨gD,3,none⟩ (.slice C3 q4.length c3)).setCell ⟨gD,4,none⟩ (.int .i64 q5)).setCell ⟨gD,5,none⟩ (.int .i64 q6)).heap[gD]? = some (.cells #[.slice C0 q1.length c0,.slice C1 q2.length c1,.slice C2 q3.length c2,.slice C3 q4.length c3,.int .i64 q5,.int .i64 q6] 28 (0,0)):=fill6_at BD.out
      have hI:=cur6 HI.out (Ne.symm GD2.out) (.slice C0 q1.length c0) (.slice C1 q2.length c1) (.slice C2 q3.length c2) (.slice C3 q4.length c3) (.int .i64 q5) (.int .i64 q6)
      have hB1:Below w0.heap.size w0 ((((((w1.setCell ⟨gD,0,none⟩ (.slice C0 q1.length c0)).setCell ⟨gD,1,none⟩ (.slice C1 q2.length c1)).setCell ⟨gD,2,none⟩ (.slice C2 q3.length c2)).setCell ⟨gD,3,none⟩ (.slice C3 q4.length c3)).setCell ⟨gD,4,none⟩ (.int .i64 q5)).setCell ⟨gD,5,none⟩ (.int .i64 q6)):=fill6_below HB.out GD0.out
      have hK1:=keep6 HK.out GDW.out (.slice C0 q1.length c0) (.slice C1 q2.length c1) (.slice C2 q3.length c2) (.slice C3 q4.length c3) (.int .i64 q5) (.int .i64 q6)
      have Dm:=HasD.fill Dn.out BD.out hs
      have Rm:=(hs gR RD.out).trans BR.out
      clear Do Dn BD HI HB HK BR
      (try clear RL)
      clear hHeld
      generalize ((((((w1.setCell ⟨gD,0,none⟩ (.slice C0 q1.length c0)).setCell ⟨gD,1,none⟩ (.slice C1 q2.length c1)).setCell ⟨gD,2,none⟩ (.slice C2 q3.length c2)).setCell ⟨gD,3,none⟩ (.slice C3 q4.length c3)).setCell ⟨gD,4,none⟩ (.int .i64 q5)).setCell ⟨gD,5,none⟩ (.int .i64 q6))=wz at hs hG hI hB1 hK1 Dm Rm ⊢
      have Do:=zA Dm
      have BD:=zA hG
      have HI:=zA hI
      have HB:=zA hB1
      have HK:=zA hK1
      have BR:=zA Rm
      clear Dm hs hG hI hB1 hK1 Rm
      obtain ⟨w1,hw1⟩:∃ x,x=wz:=⟨_,rfl⟩
      subst hw1
      replace iD:=blk6 BD.out;replace zD:=z6of BD.out
      go_wp2_with fail
      go_roundg (10-(j+1))
      case measure=>omega
      case rel=>with_reducible exact ⟨j+1,q1,q2,q3,q4,q5,q6,t2,t3,C0,c0,C1,c1,C2,c2,C3,c3,Nat.le_refl _,nxt_ j,PC2,HI,HB,HK,BD,BR,Do⟩
    · rw [if_neg t] at H
      have t1:decide ((j:Int)<y1)=false:=zf t
      simp only [Option.some.injEq,Prod.mk.injEq] at H
      obtain ⟨⟨rfl,rfl,rfl,rfl,rfl,rfl⟩,rfl,rfl⟩:=H
      replace iD:=blk6 BD.out;replace zD:=z6of BD.out
      go_wp2_with ((go_at_call 37;(with_reducible refine (C9.out _ HI.out HB.out).mono ?_);rintro e w1 ⟨rfl,hi,hb,hk⟩;replace HI:=zA hi;replace HB:=zA hb;replace HK:=zA (KeepBut.trans HK.out hk (.inl rfl));(try replace BD:=zA (KeepBut.blk hk BD.out GD2.out (by simp)));(try replace BR:=zA (KeepBut.blk hk BR.out GR2.out (by simp)));(try replace Do:=zA (Do.out.step fun k ho hl=>hk.2 k hl (fun e=>Nat.not_le_of_lt GLT.out (e▸Do.out.ge k ho)) (by simp)));clear hi hb hk;(try (replace iD:=blk6 BD.out;replace zD:=z6of BD.out));(replace iR:=blk6 BR.out;obtain ⟨zR0,zR1,zR2,zR3,zR4,zR5⟩:=z6of BR.out)))
      refine bodyPost_ret (results_cell_row rfl _ _ gR 28 #[.slice A0 d1.length a0,.slice A1 d2.length a1,.slice A2 d3.length a2,.slice A3 d4.length a3,.int .i64 d5,.int .i64 d6] (0,0) _ rfl (fill6_at BR.out) Tryz.underlying28 rfl (by kernel_rfl)) rfl ?_
      have hT:=filled_told (.int .i64 d5) (.int .i64 d6) Do.out BR.out
      exact ⟨_,_,_,_,rfl,hT.1,hT.2.1,hT.2.2.1,hT.2.2.2,cur6 HI.out (Ne.symm GR2.out) _ _ _ _ _ _,fill6_below HB.out (Nat.le_trans GWW.out GRW.out),keep6 HK.out GRW.out _ _ _ _ _ _⟩
end Go.Proofs.YtokcccejijmkmaaGreatDoor.MFnDeeds
