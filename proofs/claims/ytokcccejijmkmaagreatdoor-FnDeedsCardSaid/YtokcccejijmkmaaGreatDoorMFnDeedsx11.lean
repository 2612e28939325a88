/- Each theorem here says that a call of one Go function answers what the Lean function beside it answers; its conditions stand in it. Written by a program of this session. -/
import Derived.Test.YtokcccejijmkmaaGreatDoorMFnDeedsx0
import Derived.Test.YtokcccejijmkmaaGreatDoorMFnDeedsx3
import Derived.Test.YtokcccejijmkmaaGreatDoorMFnDeedsx4
import Derived.Test.YtokcccejijmkmaaGreatDoorMFnDeedsx5
import Derived.Test.YtokcccejijmkmaaGreatDoorMFnDeedsx6
import Derived.Test.YtokcccejijmkmaaGreatDoorMFnDeedsx7
import Derived.Test.YtokcccejijmkmaaGreatDoorMFnDeedsx8
import Derived.Test.YtokcccejijmkmaaGreatDoorMFnDeedsx9
import Derived.Test.YtokcccejijmkmaaGreatDoorMFnDeedsx10
namespace Go.Proofs.YtokcccejijmkmaaGreatDoor.MFnDeeds
set_option maxHeartbeats 8000000
set_option maxRecDepth 100000
open Go.RowKit Go.Proofs.YtokcccejijmkmaaGreatDoorW.PrintWords Go.Proofs.YtokcccejijmkmaaGreatDoorW.PrintLast Go.Proofs.YtokcccejijmkmaaGreatDoorW.PrintMore
attribute [local go_sem] max2_int min2_int max_two min_two max_three min_three max_four min_four
set_option linter.unusedVariables false
set_option linter.unusedSimpArgs false
def spec_CreateFile.f (k:Nat) (aa:List S45) (ab:List S47) (ad:List S47) (ae:List ByteArray) (af:Int) (ag:Int) (a1:ByteArray):Option (List (S45)×List (S47)×List (S47)×List ByteArray×Int×Int×Int):=(spec_l05Copy.f aa ab ad ae af ag).bind fun o=>(spec_DiskOk.f k o.1 o.2.1 o.2.2.1 o.2.2.2.1 o.2.2.2.2.1 o.2.2.2.2.2).bind fun b=>if b=true then (spec_NameOk.f k a1).bind fun n=>if n=true then (spec_l06Has.f k o.2.1 a1).bind fun hh=>if hh=true then some (o.1,o.2.1,o.2.2.1,o.2.2.2.1,o.2.2.2.2.1,o.2.2.2.2.2,2) else if 16≤o.2.1.length then some (o.1,o.2.1,o.2.2.1,o.2.2.2.1,o.2.2.2.2.1,o.2.2.2.2.2,4) else if 64≤o.1.length then some (o.1,o.2.1,o.2.2.1,o.2.2.2.1,o.2.2.2.2.1,o.2.2.2.2.2,4) else if 1000000000≤o.2.2.2.2.2 then some (o.1,o.2.1,o.2.2.1,o.2.2.2.1,o.2.2.2.2.1,o.2.2.2.2.2,4) else (spec_l06Put.f k o.2.1 a1 o.2.2.2.2.2).bind fun u=>(spec_Decimal.f k o.2.2.2.2.2).bind fun t=>if (a1.size≤70368744177664∧t.size≤70368744177664)∧(o.2.2.2.1.length+1)*16≤140737488355328∧(o.1.length+1)*32≤140737488355328 then (spec_l06Clean.f k (o.1++[⟨o.2.2.2.2.2,⟨#[]⟩,0⟩]) u o.2.2.1 (o.2.2.2.1++[(((⟨#[43]⟩:ByteArray)++a1++⟨#[58]⟩)++t)]) o.2.2.2.2.1 (wrap64 (o.2.2.2.2.2+1))).bind fun z=>some (z.1,z.2.1,z.2.2.1,z.2.2.2.1,z.2.2.2.2.1,z.2.2.2.2.2,0) else none else some (o.1,o.2.1,o.2.2.1,o.2.2.2.1,o.2.2.2.2.1,o.2.2.2.2.2,1) else some (o.1,o.2.1,o.2.2.1,o.2.2.2.1,o.2.2.2.2.1,o.2.2.2.2.2,3)
theorem spec_CreateFile.mono:∀ aa ab ad ae af ag a1 k,LeO (spec_CreateFile.f k aa ab ad ae af ag a1) (spec_CreateFile.f (k+1) aa ab ad ae af ag a1):=by
  intro aa ab ad ae af ag a1 k
  unfold spec_CreateFile.f
  repeat' first | (with_reducible exact LeO.refl _) | (with_reducible exact spec_NameOk.mono _ _) | (with_reducible exact spec_l06Has.mono _ _ _) | (with_reducible exact spec_l06Put.mono _ _ _ _) | (with_reducible exact spec_Decimal.mono _ _) | (with_reducible exact spec_l06Clean.mono _ _ _ _ _ _ _) | (with_reducible exact spec_DiskOk.mono _ _ _ _ _ _ _) | (with_reducible refine LeO.ite ?_ ?_) | (with_reducible refine LeO.bind ?_ (fun _=>?_))
theorem spec_CreateFile.calls (k:Nat) (ao:Option Addr) (aq:Nat) (aj:List (S45)) (ar:Option Addr) (au:Nat) (ak:List (S47)) (av:Option Addr) (aw:Nat) (al:List (S47)) (ax:Option Addr) (ay:Nat) (an:List ByteArray) (az:Int) (aA:Int) (a1:ByteArray) (r1:List S45) (r2:List S47) (r3:List S47) (r4:List ByteArray) (r5:Int) (r6:Int) (r7:Int) (w:World) (aa:Kd.C k45 w ao aj.length aj) (ab:aj.length≤aq) (ad:Kd.C k47 w ar ak.length ak) (ae:ak.length≤au) (af:Kd.C k47 w av al.length al) (ag:al.length≤aw) (ah:Kd.C Kd.string w ax an.length an) (ai:an.length≤ay) (h:spec_CreateFile.f k aj ak al an az aA a1=some (r1,r2,r3,r4,r5,r6,r7)) :
    Calls Tryz.prog 67 #[.agg #[.slice ao aj.length aq,.slice ar ak.length au,.slice av al.length aw,.slice ax an.length ay,.int .i64 az,.int .i64 aA],.string a1] w fun e w'=>∃ v0_ v1_ v2_ v3_:Value,e=.returned (.tuple #[.agg #[v0_,v1_,v2_,v3_,.int .i64 r5,.int .i64 r6],.int .i64 r7])∧Kd.R k45 45 w' w.heap.size (fun _=>True) v0_ r1∧Kd.R k47 47 w' w.heap.size (fun k_=>some k_≠(v2_:Value).ownBlock) v1_ r2∧Kd.R k47 47 w' w.heap.size (fun k_=>some k_≠(v1_:Value).ownBlock) v2_ r3∧Kd.R Kd.string 9 w' w.heap.size (fun _=>True) v3_ r4∧Below w.heap.size w w':=by
  unfold spec_CreateFile.f at h
  replace h:=zo h
  obtain ⟨⟨o1,o2,o3,o4,o5,o6⟩,ho,h⟩:=h
  replace h:=zo h
  obtain ⟨b,hbk,h⟩:=h
  dsimp only at h
  have CC:=zA (fun (w1:World) (hb:Below w.heap.size w w1)=>spec_l05Copy.calls ao aq aj ar au ak av aw al ax ay an az aA o1 o2 o3 o4 o5 o6 w1 (Kd.C_below aa hb) ab (Kd.C_below ad hb) ae (Kd.C_below af hb) ag (Kd.C_below ah hb) ai ho)
  have CD:=zA (fun (w1:World) (A0:Option Addr) (c0:Nat) (A1:Option Addr) (c1:Nat) (A2:Option Addr) (c2:Nat) (A3:Option Addr) (c3:Nat) (h:HasD w1 w.heap.size (.slice A0 o1.length c0) (.slice A1 o2.length c1) (.slice A2 o3.length c2) (.slice A3 o4.length c3) o1 o2 o3 o4)=>spec_DiskOk.calls k A0 c0 o1 A1 c1 o2 A2 c2 o3 A3 c3 o4 o5 o6 b w1 (Kd.R_reads' h.r0).2.2 (Kd.R_reads' h.r0).2.1 (Kd.R_reads' h.r1).2.2 (Kd.R_reads' h.r1).2.1 (Kd.R_reads' h.r2).2.2 (Kd.R_reads' h.r2).2.1 (Kd.R_reads' h.r3).2.2 (Kd.R_reads' h.r3).2.1 hbk)
  cases b
  (rw [if_neg (by decide)] at h;simp only [Option.some.injEq,Prod.mk.injEq] at h;obtain ⟨rfl,rfl,rfl,rfl,rfl,rfl,rfl⟩:=h;clear ho hbk aa ab ad ae af ag ah ai)
  (rotate_left 1;(rw [if_pos rfl] at h;replace h:=zo h;obtain ⟨n,hn,h⟩:=h;have CN:=zA (fun (w1:World)=>spec_NameOk.calls k a1 n w1 hn);cases n);rotate_right 1)
  (rotate_left 1;(rw [if_neg (by decide)] at h;simp only [Option.some.injEq,Prod.mk.injEq] at h;obtain ⟨rfl,rfl,rfl,rfl,rfl,rfl,rfl⟩:=h;clear ho hbk hn aa ab ad ae af ag ah ai);rotate_right 1)
  (rotate_left 2;(rw [if_pos rfl] at h;replace h:=zo h;obtain ⟨hh,hhh,h⟩:=h;have CH:=zA (fun (w1:World) (A0:Option Addr) (c0:Nat) (A1:Option Addr) (c1:Nat) (A2:Option Addr) (c2:Nat) (A3:Option Addr) (c3:Nat) (h:HasD w1 w.heap.size (.slice A0 o1.length c0) (.slice A1 o2.length c1) (.slice A2 o3.length c2) (.slice A3 o4.length c3) o1 o2 o3 o4)=>spec_l06Has.calls k A1 c1 o2 a1 hh w1 (Kd.R_reads' h.r1).2.2 (Kd.R_reads' h.r1).2.1 hhh);cases hh);rotate_right 2)
  (rotate_left 3;(rw [if_pos rfl] at h;simp only [Option.some.injEq,Prod.mk.injEq] at h;obtain ⟨rfl,rfl,rfl,rfl,rfl,rfl,rfl⟩:=h;clear ho hbk hn hhh aa ab ad ae af ag ah ai);rotate_right 3)
  (rotate_left 2;(rw [if_neg (by decide)] at h;by_cases ta:16≤o2.length);rotate_right 2)
  (rotate_left 2;(rw [if_pos ta] at h;have ta2:decide ((16:Int)≤(o2.length:Int))=true:=zt (by omega);simp only [Option.some.injEq,Prod.mk.injEq] at h;obtain ⟨rfl,rfl,rfl,rfl,rfl,rfl,rfl⟩:=h;clear ho hbk hn hhh aa ab ad ae af ag ah ai);rotate_right 2)
  (rotate_left 3;(rw [if_neg ta] at h;have ta2:decide ((16:Int)≤(o2.length:Int))=false:=zf (by omega);by_cases tb:64≤o1.length);rotate_right 3)
  (rotate_left 3;(rw [if_pos tb] at h;have tb2:decide ((64:Int)≤(o1.length:Int))=true:=zt (by omega);simp only [Option.some.injEq,Prod.mk.injEq] at h;obtain ⟨rfl,rfl,rfl,rfl,rfl,rfl,rfl⟩:=h;clear ho hbk hn hhh aa ab ad ae af ag ah ai);rotate_right 3)
  (rotate_left 4;(rw [if_neg tb] at h;have tb2:decide ((64:Int)≤(o1.length:Int))=false:=zf (by omega);by_cases tc:1000000000≤o6);rotate_right 4)
  (rotate_left 4;(rw [if_pos tc] at h;have tc1:decide (1000000000≤o6)=true:=zt tc;simp only [Option.some.injEq,Prod.mk.injEq] at h;obtain ⟨rfl,rfl,rfl,rfl,rfl,rfl,rfl⟩:=h;clear ho hbk hn hhh aa ab ad ae af ag ah ai);rotate_right 4)
  (rotate_left 5;(rw [if_neg tc] at h;have tc1:decide (1000000000≤o6)=false:=zf tc;replace h:=zo h;obtain ⟨u,hu,h⟩:=h;replace h:=zo h;obtain ⟨t,ht,h⟩:=h;have CU:=zA (fun (w1:World) (B:Nat) (p:Nat→Prop) (A4:Option Addr) (c4:Nat) (h:Kd.R k47 47 w1 B p (.slice A4 o2.length c4) o2)=>spec_l06Put.calls k A4 c4 o2 a1 o6 u w1 (Kd.R_reads' h).2.2 (Kd.R_reads' h).2.1 hu);have CDec:=zA (fun (w1:World)=>spec_Decimal.calls k o6 t w1 ht);by_cases hl:(a1.size≤70368744177664∧t.size≤70368744177664)∧(o4.length+1)*16≤140737488355328∧(o1.length+1)*32≤140737488355328);rotate_right 5)
  (rotate_left 6;(rw [if_neg hl] at h;cases h);rotate_right 6)
  (rotate_left 5;(rw [if_pos hl] at h;obtain ⟨⟨hz1,hz2⟩,hl,hnz⟩:=hl;have HL:=zA hl;have HNZ:=zA hnz;generalize hnl:(o1++[(⟨o6,⟨#[]⟩,0⟩:S45)])=nl at h;have HNL:=zA hnl;obtain ⟨f6,hf6⟩:∃ x,wrap64 (o6+1)=x:=⟨_,rfl⟩;rw [hf6] at h;have hw6:IntKind.i64.wrap (o6+1)=f6:=((i64_w _).trans hf6);clear ho hbk hn hhh hu ht hl hnz hnl aa ab ad ae af ag ah ai;generalize hdl:(o4++[(((⟨#[43]⟩:ByteArray)++a1++⟨#[58]⟩)++t)])=dl at h;have HDK:=zA hdl;clear hdl;have hcat1:(9223372036854775807<1+a1.size)=False:=eq_false (by omega);have hcat2:(9223372036854775807<1+a1.size+1)=False:=eq_false (by omega);have hcat3:(9223372036854775807<1+a1.size+1+t.size)=False:=eq_false (by omega);replace h:=zo h;obtain ⟨⟨z1,z2,z3,z4,z5,z6⟩,hz,h⟩:=h;dsimp only at h;have HZ:=zA hz;clear hz;simp only [Option.some.injEq,Prod.mk.injEq] at h;obtain ⟨rfl,rfl,rfl,rfl,rfl,rfl,rfl⟩:=h);rotate_right 5)
  all_goals (go_enter Tryz.func67,Tryz.ntmps67;go_wp2_with (first | ((with_reducible refine gate_dst (N:=2) rfl ?_);refine box_event ?hg (N:=2) ?hd (cs:=#[.slice ao aj.length aq,.slice ar ak.length au,.slice av al.length aw,.slice ax an.length ay,.int .i64 az,.int .i64 aA]) (t:=28) ?hr ?_;(case hd=>rfl);(case hg=>rfl);(case hr=>(go_simp;done));intro gD hg w1 hbox hb;have GD:=zA (Nat.le_of_eq hg.symm);have BL:=zA hb;have BD:=zA hbox;clear hb;replace iD:=blk6 BD.out;replace zD:=z6of BD.out;clear hg hbox) | ((with_reducible refine gate_dst (N:=4) rfl ?_);refine box_event ?hg (N:=4) ?hd (cs:=#[.slice none 0 0,.slice none 0 0,.slice none 0 0,.slice none 0 0,.int .i64 0,.int .i64 0]) (t:=28) ?hr ?_;(case hd=>rfl);(case hg=>rfl);(case hr=>(go_simp;done));intro gR hg w1 hbox hb;have GR:=zA (show w.heap.size≤gR by rw [hg];exact BL.out.size);have RD:=zA (show gR≠gD by rw [hg];exact Nat.ne_of_gt (blk_lt BD.out));replace BL:=zs BL hb;(try replace BD:=zb BD hb);have BR:=zA hbox;clear hb;replace iD:=blk6 BD.out;replace iR:=blk6 BR.out;replace zD:=z6of BD.out;replace zR:=z6of BR.out;clear hg hbox) | (go_at_call 44;have hbs:=BL.out.size;(with_reducible refine (CC.out _ BL.out).mono ?_);rintro e w1 ⟨v0,v1,v2,v3,rfl,p0,p1,p2,p3,hb⟩;have hD:=HasD.of p0 p1 p2 p3;replace BL:=zs BL hb;(try replace BD:=zb BD hb);(try replace BR:=zb BR hb);have Do:=zA (hD.lower hbs);obtain ⟨A0,c0,rfl⟩:=Kd.R_slice p0;obtain ⟨A1,c1,rfl⟩:=Kd.R_slice p1;obtain ⟨A2,c2,rfl⟩:=Kd.R_slice p2;obtain ⟨A3,c3,rfl⟩:=Kd.R_slice p3;clear hD hb hbs p0 p1 p2 p3;replace iD:=blk6 BD.out;replace iR:=blk6 BR.out;replace zD:=z6of BD.out;replace zR:=z6of BR.out) | (go_at_call 11;refine fill6_calls BD.out (fun W hO hk hs=>?_);replace Do:=zA (HasD.fill Do.out BD.out hs);replace BR:=zA ((hs gR RD.out).trans BR.out);replace BL:=zA (hk BL.out GD.out);replace BD:=zA hO;clear hO hk hs;(with_reducible refine (CD.out _ _ _ _ _ _ _ _ _ Do.out).mono ?_);rintro e w1 ⟨rfl,hb⟩;replace BL:=zs BL hb;(try replace BD:=zb BD hb);(try replace BR:=zb BR hb);(try replace Do:=zA (Do.out.on hb));clear hb;replace iD:=blk6 BD.out;replace iR:=blk6 BR.out;replace zD:=z6of BD.out;replace zR:=z6of BR.out) | (go_at_call 91;(with_reducible refine (CN.out _).mono ?_);rintro e wq ⟨rfl,hq⟩;have hb:Below w1.heap.size w1 wq:=(by obtain ⟨nd,hnd⟩:=hq;rw [hnd];exact pw_below_drewN (Below.refl _ _) nd);clear hq;replace BL:=zs BL hb;(try replace BD:=zb BD hb);(try replace BR:=zb BR hb);(try replace Do:=zA (Do.out.on hb));clear hb;obtain ⟨w1,hw1⟩:∃ x,x=wq:=⟨_,rfl⟩;subst hw1;replace iD:=blk6 BD.out;replace iR:=blk6 BR.out;replace zD:=z6of BD.out;replace zR:=z6of BR.out) | (go_at_call 45;(with_reducible refine (CH.out _ _ _ _ _ _ _ _ _ Do.out).mono ?_);rintro e wq ⟨rfl,hq⟩;have hb:Below w1.heap.size w1 wq:=(by obtain ⟨nd,hnd⟩:=hq;rw [hnd];exact pw_below_drewN (Below.refl _ _) nd);clear hq;replace BL:=zs BL hb;(try replace BD:=zb BD hb);(try replace BR:=zb BR hb);(try replace Do:=zA (Do.out.on hb));clear hb;obtain ⟨w1,hw1⟩:∃ x,x=wq:=⟨_,rfl⟩;subst hw1;replace iD:=blk6 BD.out;replace iR:=blk6 BR.out;replace zD:=z6of BD.out;replace zR:=z6of BR.out) | (at_builtin;refine Kd.R_append k45 (w0:=w) w.heap.size rfl (.tmp 38) (.tmp 42) 24 45 (.agg #[.int .i64 0,.string ⟨#[]⟩,.int .i64 0]) 32 rfl Tryz.underlying24 info45 rfl (by decide) (by decide) (.slice A0 o1.length c0) o1 ⟨o6,⟨#[]⟩,0⟩ [.int .i64 o6,.string ⟨#[]⟩,.int .i64 0] _ (fun _=>False) rfl rfl (k45_mkM _ _ _ _) (fun _ h=>h.elim) (fun k hk=>.inr hk) (Kd.R_mono (ok':=fun k=>some k=(Value.slice A0 o1.length c0).ownBlock∨_≤k) Do.out.r0 fun k hk=>.inl hk) BL.out BL.out.size HNZ.out ?_;intro v1 w1 hO1 hb1 hg1 aB;rw [HNL.out] at hO1;obtain ⟨A7,c7,rfl⟩:=Kd.R_slice hO1;have hT:Turned _ w1 _:=⟨hg1.os,hg1.tape,hg1.output,hg1.size,fun k hk hn=>hg1.block k hk hn⟩;have hD:=has_r0 Do.out hT hO1;replace BD:=zA ((hT.block gD (blk_lt BD.out) (fun e=>Do.out.nobox BD.out (by decide) (by decide) (by decide) (.inl e))).trans BD.out);replace BR:=zA ((hT.block gR (blk_lt BR.out) (fun e=>Do.out.nobox BR.out (by decide) (by decide) (by decide) (.inl e))).trans BR.out);clear BL Do;have BL:=zA hb1;have Do:=zA hD;clear hD hO1 hb1 hg1 aB hT;replace iD:=blk6 BD.out;replace iR:=blk6 BR.out;replace zD:=z6of BD.out;replace zR:=z6of BR.out) | ((with_reducible refine gate_store (t:=24) (p:=44) rfl ?_);refine store_event (t:=24) (p:=44) (v:=?vo44) (w1:=w1.setCell ⟨gD,0,none⟩ (.slice A7 nl.length c7)) ?hg ?ho ?hn ?hr ?_;(case ho=>rfl);(case hg=>rfl);(case hn=>rfl);(case hr=>(go_simp;done));intro wz hw;have hs:∀ j,j≠gD→wz.heap[j]? = w1.heap[j]?:=(by rw [hw];exact fun j hj=>Below.heap_setCell w1 ⟨gD,0,none⟩ _ j hj);have hbl:Below w.heap.size w wz:=(by rw [hw];exact below_set BL.out GD.out);have hG:wz.heap[gD]? = some (.cells #[.slice A7 nl.length c7,.slice A1 o2.length c1,.slice A2 o3.length c2,.slice A3 o4.length c3,.int .i64 o5,.int .i64 o6] 28 (0,0)):=(by rw [hw];exact blk_put (cs:=#[.slice A0 o1.length c0,.slice A1 o2.length c1,.slice A2 o3.length c2,.slice A3 o4.length c3,.int .i64 o5,.int .i64 o6]) BD.out 0 _ rfl);clear hw;replace Do:=zA (HasD.fill Do.out BD.out hs);replace BR:=zA ((hs gR RD.out).trans BR.out);clear BL BD;have BL:=zA hbl;have BD:=zA hG;clear hs hbl hG;obtain ⟨w1,hw1⟩:∃ x,x=wz:=⟨_,rfl⟩;subst hw1;replace iD:=blk6 BD.out;replace iR:=blk6 BR.out;replace zD:=z6of BD.out;replace zR:=z6of BR.out) | (go_at_call 93;have LW:=BL.out.size;(with_reducible refine (CU.out _ _ _ _ _ Do.out.r1).mono ?_);rintro e w1 ⟨v4,rfl,hR4,hb⟩;obtain ⟨A6,c6,rfl⟩:=Kd.R_slice hR4;replace Do:=zA (has_r1 Do.out hb LW hR4);replace BL:=zs BL hb;(try replace BD:=zb BD hb);(try replace BR:=zb BR hb);clear hR4 hb LW;replace iD:=blk6 BD.out;replace iR:=blk6 BR.out;replace zD:=z6of BD.out;replace zR:=z6of BR.out) | ((with_reducible refine gate_store (t:=25) (p:=52) rfl ?_);refine store_event (t:=25) (p:=52) (v:=?vo52) (w1:=w1.setCell ⟨gD,1,none⟩ (.slice A6 u.length c6)) ?hg ?ho ?hn ?hr ?_;(case ho=>rfl);(case hg=>rfl);(case hn=>rfl);(case hr=>(go_simp;done));intro wz hw;have hs:∀ j,j≠gD→wz.heap[j]? = w1.heap[j]?:=(by rw [hw];exact fun j hj=>Below.heap_setCell w1 ⟨gD,1,none⟩ _ j hj);have hbl:Below w.heap.size w wz:=(by rw [hw];exact below_set BL.out GD.out);have hG:wz.heap[gD]? = some (.cells #[.slice A7 nl.length c7,.slice A6 u.length c6,.slice A2 o3.length c2,.slice A3 o4.length c3,.int .i64 o5,.int .i64 o6] 28 (0,0)):=(by rw [hw];exact blk_put (cs:=#[.slice A7 nl.length c7,.slice A1 o2.length c1,.slice A2 o3.length c2,.slice A3 o4.length c3,.int .i64 o5,.int .i64 o6]) BD.out 1 _ rfl);clear hw;replace Do:=zA (HasD.fill Do.out BD.out hs);replace BR:=zA ((hs gR RD.out).trans BR.out);clear BL BD;have BL:=zA hbl;have BD:=zA hG;clear hs hbl hG;obtain ⟨w1,hw1⟩:∃ x,x=wz:=⟨_,rfl⟩;subst hw1;replace iD:=blk6 BD.out;replace iR:=blk6 BR.out;replace zD:=z6of BD.out;replace zR:=z6of BR.out)))
  iterate 5 (refine bodyPost_ret (results_ct rfl _ _ gR 28 #[.slice A0 o1.length c0,.slice A1 o2.length c1,.slice A2 o3.length c2,.slice A3 o4.length c3,.int .i64 o5,.int .i64 o6] (0,0) _ rfl (fill6_at BR.out) Tryz.underlying28 rfl (by kernel_rfl)) rfl ?_;have hT:=filled_told (.int .i64 o5) (.int .i64 o6) Do.out BR.out;exact ⟨_,_,_,_,rfl,hT.1,hT.2.1,hT.2.2.1,hT.2.2.2,fill6_below BL.out GR.out⟩)
  (try clear iD iR zD zR)
  have hb:=below_drew (Below.refl w1.heap.size w1)
  replace BL:=zs BL hb;(try replace BD:=zb BD hb);(try replace BR:=zb BR hb);(try replace Do:=zA (Do.out.on hb))
  clear hb
  refine start_ (n:=13) (S:=fun w'=>w'.cell? ⟨gD,0,none⟩=some (.slice A7 nl.length c7)∧w'.cell? ⟨gD,1,none⟩=some (.slice A6 u.length c6)∧w'.cell? ⟨gD,2,none⟩=some (.slice A2 o3.length c2)∧w'.cell? ⟨gD,3,none⟩=some (.slice A3 o4.length c3)∧w'.cell? ⟨gD,4,none⟩=some (.int .i64 o5)∧w'.cell? ⟨gD,5,none⟩=some (.int .i64 o6)) (ds:=[12]) (marks 13 0) (by kernel_rfl) rfl rfl (zc BD) (fun hHeld=>?_)
  generalize w1.drew=w2 at BL BD BR Do hHeld ⊢
  refine pure_ (i:=0) (N:=some 53) (v:=?_) (a':=?_) (marks 13 1) rfl rfl (by kernel_rfl) (fun _ _ _ h=>h) (Or.inl ⟨by rfl,?_⟩) ?_ ?_
  rotate_left
  · intro w'
    go_simp
    with_reducible rfl
  rotate_left
  · simp only [Act.put,yA,yB,yC,i64_w,i32_w]
    rfl
  refine pure_ (i:=2) (N:=some 55) (v:=?_) (a':=?_) (marks 13 5) rfl rfl (by kernel_rfl) (fun _ _ _ h=>h) (Or.inl ⟨by rfl,?_⟩) ?_ ?_
  rotate_left
  · intro w'
    go_simp
    with_reducible rfl
  rotate_left
  · simp only [Act.put,yA,yB,yC,i64_w,i32_w]
    rfl
  refine pure_ (i:=3) (N:=some 56) (v:=?_) (a':=?_) (marks 13 13) rfl rfl (by kernel_rfl) (fun _ _ _ h=>h) (Or.inl ⟨by rfl,?_⟩) ?_ ?_
  rotate_left
  · intro w'
    go_simp
    with_reducible rfl
  rotate_left
  · simp only [Act.put,yA,yB,yC,i64_w,i32_w]
    rfl
  refine pure_ (i:=4) (N:=some 57) (v:=?_) (a':=?_) (marks 13 29) rfl rfl (by kernel_rfl) (fun _ _ _ h=>h) (Or.inl ⟨by rfl,?_⟩) ?_ ?_
  rotate_left
  · intro w'
    go_simp
    with_reducible rfl
  rotate_left
  · simp only [Act.put,yA,yB,yC,i64_w,i32_w]
    rfl
  refine pure_ (i:=5) (N:=some 58) (v:=?_) (a':=?_) (marks 13 61) rfl rfl (by kernel_rfl) (fun _ _ _ h=>h) (Or.inl ⟨by rfl,?_⟩) ?_ ?_
  rotate_left
  · intro w'
    go_simp
    with_reducible rfl
  rotate_left
  · simp only [Act.put,yA,yB,yC,i64_w,i32_w]
    rfl
  refine take_ (i:=1) (N:=some 54) (v:=?_) (a':=?_) (marks 13 63) rfl rfl (by kernel_rfl) (fun _ _ _ h=>h) (Or.inl ⟨by rfl,?_⟩) hHeld ?_ ?_
  rotate_left
  · rintro w' ⟨s0,s1,s2,s3,s4,s5⟩
    go_simp
    with_reducible rfl
  rotate_left
  · simp only [Act.put,yA,yB,yC,i64_w,i32_w]
    rfl
  refine take_ (i:=6) (N:=some 59) (v:=?_) (a':=?_) (marks 13 127) rfl rfl (by kernel_rfl) (fun _ _ _ h=>h) (Or.inl ⟨by rfl,?_⟩) hHeld ?_ ?_
  rotate_left
  · rintro w' ⟨s0,s1,s2,s3,s4,s5⟩
    go_simp
    with_reducible rfl
  rotate_left
  · simp only [Act.put,yA,yB,yC,i64_w,i32_w]
    rfl
  refine one_ (i:=7) (N:=some 60) (marks 13 255) rfl rfl (by kernel_rfl) (by decide) (fun K hK=>?_)
  refine goes_ Tryz.func100 (by kernel_rfl) rfl #[.int .i64 o6] (by rfl) rfl rfl (by (try simp only [List.map_toArray,List.map_cons,List.map_nil]);rfl) ?_
  with_reducible refine (CDec.out _).mono ?_
  rintro e w1 ⟨rfl,hb⟩
  refine ⟨_,rfl,?_⟩
  replace BL:=zs BL hb;(try replace BD:=zb BD hb);(try replace BR:=zb BR hb);(try replace Do:=zA (Do.out.on hb))
  clear hb
  refine hK.out _ _ (zc BD) (fun hHeld=>?_)
  clear hK K
  refine norm_ (a':=?_) ?_ ?_
  rotate_left
  · show Act.put _ (some 60) _=_
    simp only [Act.put,yA,yB,yC,i64_w,i32_w]
    rfl
  refine pure_ (i:=8) (N:=some 61) (v:=?_) (a':=?_) (marks 13 511) rfl rfl (by kernel_rfl) (fun _ _ _ h=>h) (Or.inl ⟨by rfl,?_⟩) ?_ ?_
  rotate_left
  · intro w'
    go_simp
    with_reducible rfl
  rotate_left
  · simp only [Act.put,yA,yB,yC,i64_w,i32_w]
    rfl
  refine one_ (i:=9) (N:=some 62) (marks 13 1023) rfl rfl (by kernel_rfl) (by decide) (fun K hK=>?_)
  refine value_ (w1:=?_) (v:=?_) (by rfl) rfl ?_ ?_
  rotate_left 2
  · go_simp
    constructor
    · rfl
    · rfl
  refine hK.out _ _ ⟨(blk_cell (blk_alloc BD.out _) 0).trans rfl,(blk_cell (blk_alloc BD.out _) 1).trans rfl,(blk_cell (blk_alloc BD.out _) 2).trans rfl,(blk_cell (blk_alloc BD.out _) 3).trans rfl,(blk_cell (blk_alloc BD.out _) 4).trans rfl,(blk_cell (blk_alloc BD.out _) 5).trans rfl⟩ (fun hHeld=>?_)
  clear hK K
  refine norm_ (a':=?_) ?_ ?_
  rotate_left
  · show Act.put _ (some 62) _=_
    simp only [Act.put,yA,yB,yC,i64_w,i32_w]
    rfl
  refine one_ (i:=10) (N:=some 63) (marks 13 2047) rfl rfl (by kernel_rfl) (by decide) (fun K hK=>?_)
  refine Kd.R_append_step Kd.string (w0:=w) w.heap.size (by rfl) (.tmp 54) (.tmp 62) 26 9 (.string ⟨#[]⟩) 16 rfl Tryz.underlying26 info9 rfl (by decide) (by decide) (.slice A3 o4.length c3) o4 ((((⟨#[43]⟩:ByteArray)++a1++(⟨#[58]⟩:ByteArray))++t)) [.string ((((⟨#[43]⟩:ByteArray)++a1++(⟨#[58]⟩:ByteArray))++t))] _ (fun _=>False) rfl rfl rfl (fun _ h=>h.elim) (fun k hk=>.inr hk) (Kd.R_mono (ok':=fun k=>some k=(Value.slice A3 o4.length c3).ownBlock∨_≤k) Do.out.r3 fun k hk=>.inl hk) BL.out BL.out.size HL.out ?_
  intro v1 w1 hO1 hb1 hg1 aB
  rw [HDK.out] at hO1
  obtain ⟨A5,c5,rfl⟩:=Kd.R_slice hO1
  have hT:Turned _ w1 _:=⟨hg1.os,hg1.tape,hg1.output,hg1.size,fun k hk hn=>hg1.block k hk hn⟩
  have hD:=has_r3 Do.out hT hO1
  replace BD:=zA ((hT.block gD (blk_lt BD.out) (fun e=>Do.out.nobox BD.out (by decide) (by decide) (by decide) (.inr (.inr (.inr e))))).trans BD.out)
  replace BR:=zA ((hT.block gR (blk_lt BR.out) (fun e=>Do.out.nobox BR.out (by decide) (by decide) (by decide) (.inr (.inr (.inr e))))).trans BR.out)
  clear BL Do
  have BL:=zA hb1
  have Do:=zA hD
  clear hD hO1 hb1 hg1 aB hT
  refine hK.out _ _ (zc BD) (fun hHeld=>?_)
  clear hK K
  refine norm_ (a':=?_) ?_ ?_
  rotate_left
  · show Act.put _ (some 63) _=_
    simp only [Act.put,yA,yB,yC,i64_w,i32_w]
    rfl
  refine pure_ (i:=11) (N:=some 64) (v:=?_) (a':=?_) (marks 13 4095) rfl rfl (by kernel_rfl) (fun _ _ _ h=>h) (Or.inl ⟨by rfl,?_⟩) ?_ ?_
  rotate_left
  · intro w'
    go_simp
    with_reducible rfl
  rotate_left
  · simp only [Act.put,yA,yB,yC,i64_w,i32_w]
    rfl
  refine last_ (i:=12) (N:=none) (marks 13 8191) rfl rfl (by kernel_rfl) (by decide) (fun K hK=>?_)
  have hz3:=blk_frozen BD.out 3
  refine skip_ (w1:=?_) (by rfl) rfl ?_ ?_
  rotate_left
  · go_simp
    rfl
  refine hK.out _ _ ?_
  clear hK K hz3
  refine done_ (by kernel_rfl) ?_
  have b1:Below w.heap.size w (w1.setCell ⟨gD,3,none⟩ (.slice A5 dl.length c5)):=below_set BL.out GD.out
  have b2:(w1.setCell ⟨gD,3,none⟩ (.slice A5 dl.length c5)).heap[gD]? = some (.cells #[.slice A7 nl.length c7,.slice A6 u.length c6,.slice A2 o3.length c2,.slice A5 dl.length c5,.int .i64 o5,.int .i64 o6] 28 (0,0)):=blk_put (cs:=#[.slice A7 nl.length c7,.slice A6 u.length c6,.slice A2 o3.length c2,.slice A3 o4.length c3,.int .i64 o5,.int .i64 o6]) BD.out 3 _ rfl
  have b3:(w1.setCell ⟨gD,3,none⟩ (.slice A5 dl.length c5)).heap[gR]? = some (.cells #[.slice none 0 0,.slice none 0 0,.slice none 0 0,.slice none 0 0,.int .i64 0,.int .i64 0] 28 (0,0)):=blk_far BR.out RD.out _
  have b4:HasD (w1.setCell ⟨gD,3,none⟩ (.slice A5 dl.length c5)) w.heap.size (.slice A7 nl.length c7) (.slice A6 u.length c6) (.slice A2 o3.length c2) (.slice A5 dl.length c5) nl u o3 dl:=HasD.fill Do.out BD.out (fun j hj=>Below.heap_setCell w1 ⟨gD,3,none⟩ _ j hj)
  clear BL BD BR Do
  generalize w1.setCell ⟨gD,3,none⟩ (.slice A5 dl.length c5)=w2 at b1 b2 b3 b4 ⊢
  have BL:=zA b1
  have BD:=zA b2
  have BR:=zA b3
  have Do:=zA b4
  clear b1 b2 b3 b4
  replace iD:=blk6 BD.out;replace iR:=blk6 BR.out;replace zD:=z6of BD.out;replace zR:=z6of BR.out
  go_wp2_with ((go_at_call 66;refine set1_calls BD.out (fun W hG hT hs hz=>?_);have BLW:=(hT (Turned.refl _ (fun k=>k=gD)) (.inl rfl)).below BL.out (fun k hk=>by rw [hk];exact GD.out) BL.out.size;replace Do:=zA (HasD.fill Do.out BD.out hs);replace BR:=zA ((hs gR RD.out).trans BR.out);clear hG hT hs hz;refine (cleanS_calls k w _ BLW Do.out HZ.out).mono ?_;clear BLW;rintro e w2 ⟨u0,u1,u2,u3,rfl,hD,hb,hk⟩;have BR2:=zA ((hk.2 gR (blk_lt BR.out) (Do.out.nobox BR.out (by decide) (by decide) (by decide))).trans BR.out);obtain ⟨B0,b0,B1,b1,B2,b2,B3,b3,rfl,rfl,rfl,rfl⟩:=has_slices hD;clear BR BL BD Do;have BR:=BR2;have BL:=zA hb;have Do:=zA hD;clear BR2 hD hb hk;clear iD zD;replace iR:=blk6 BR.out;replace zR:=z6of BR.out))
  refine bodyPost_ret (results_ct rfl _ _ gR 28 #[.slice B0 z1.length b0,.slice B1 z2.length b1,.slice B2 z3.length b2,.slice B3 z4.length b3,.int .i64 z5,.int .i64 z6] (0,0) _ rfl (fill6_at BR.out) Tryz.underlying28 rfl (by kernel_rfl)) rfl ?_
  have hT:=filled_told (.int .i64 z5) (.int .i64 z6) Do.out BR.out
  exact ⟨_,_,_,_,rfl,hT.1,hT.2.1,hT.2.2.1,hT.2.2.2,fill6_below BL.out GR.out⟩
  refine bodyPost_ret (results_ct rfl _ _ gR 28 #[.slice A0 o1.length c0,.slice A1 o2.length c1,.slice A2 o3.length c2,.slice A3 o4.length c3,.int .i64 o5,.int .i64 o6] (0,0) _ rfl (fill6_at BR.out) Tryz.underlying28 rfl (by kernel_rfl)) rfl ?_
  have hT:=filled_told (.int .i64 o5) (.int .i64 o6) Do.out BR.out
  exact ⟨_,_,_,_,rfl,hT.1,hT.2.1,hT.2.2.1,hT.2.2.2,fill6_below BL.out GR.out⟩
def spec_l01Pick.f (ab:List Int) (ad:Int) (ae:Int) (l1:List ByteArray):Option (ByteArray×Int×Int):=(spec_l01Below.f ab ad ae (l1.length:Int)).bind fun aa=>(if 0≤aa.1 then (if aa.1<(l1.length:Int) then (some (rdOf ByteArray.empty l1 aa.1,aa.2.1,aa.2.2)) else (none)) else (none))
theorem spec_l01Pick.calls (g:Nat) (af:List Int) (ag:Int) (ah:Int) (A1:Option Addr) (c1:Nat) (l1:List ByteArray) (r1:ByteArray) (r2:Int) (r3:Int) (w0 w:World) (hI:IsS87 w0 w g af ag ah) (hB:Below w0.heap.size w0 w) (hr1:Kd.C Kd.string w A1 l1.length l1) (hc1:l1.length≤c1) (hf1:∀ ad,A1=some ad→0<l1.length→ad.block≠g) (h:spec_l01Pick.f af ag ah l1=some (r1,r2,r3)) :
  Calls Tryz.prog 80 #[.pointer (some ⟨g,0,none⟩),.slice A1 l1.length c1] w fun e w'=>e=.returned (.string r1)∧IsS87 w0 w' g af r2 r3∧Below w0.heap.size w0 w'∧KeepBut w w' g none:=by
 have HR1:=zA hr1
 clear hr1 hc1
 have HI0:=zA hI
 have HK:=zA (KeepBut.refl w g none)
 clear hI
 have HB:=zA hB
 clear hB
 have H:((spec_l01Below.f af ag ah (l1.length:Int)).bind fun ab=>(if 0≤ab.1 then (if ab.1<(l1.length:Int) then (some (rdOf ByteArray.empty l1 ab.1,ab.2.1,ab.2.2)) else (none)) else (none)))=some (r1,r2,r3):=h
 clear h
 obtain ⟨⟨aa,ak,al⟩,A3,H⟩:=bA H
 replace H:(if 0≤aa then (if aa<(l1.length:Int) then (some (rdOf ByteArray.empty l1 aa,ak,al)) else (none)) else (none))=some (r1,r2,r3):=H
 by_cases c4:0≤aa
 ·rw [if_pos c4] at H
  have c4b0:decide (0≤aa)=true:=zt c4
  clear c4
  by_cases c5:aa<(l1.length:Int)
  ·rw [if_pos c5] at H
   have c5b0:decide (aa<(l1.length:Int))=true:=zt c5
   clear c5
   simp only [Option.some.injEq,Prod.mk.injEq] at H
   obtain ⟨rfl,rfl,rfl⟩:=H
   go_enter Tryz.func80,Tryz.ntmps80
   go_wp2_with (((with_reducible refine gate_callee (f:=37) rfl ?_);refine goesL_ (some 9) rfl rfl Tryz.func37 (by kernel_rfl) rfl #[.pointer (some ⟨g,0,none⟩),.int .i64 (l1.length:Int)] rfl (by (try simp only [List.map_toArray,List.map_cons,List.map_nil]);rfl) ?_;(with_reducible refine (spec_l01Below.calls g af ag ah (l1.length:Int) aa ak al w0 _ ?side1 ?side2 A3.out).mono ?_);(case side1=>repeat (with_reducible exact HI0.out));(case side2=>repeat (with_reducible exact HB.out));rintro e w6 ⟨rfl,hi,hb,hk⟩;refine ⟨_,rfl,?_⟩;replace HK:=zA (KeepBut.trans HK.out hk (.inl rfl));replace HB:=zA (hb);replace HI0:=zA (hi);(try clear hb);(try clear hk);(try clear hi);have ai:0≤(aa:Int):=ze;have aj:aa<(l1.length:Int):=ze;obtain ⟨ad264,an,ae⟩:=Kd.at_string HR1.out aa ai aj;cases an;replace ae:=keep_cell HK.out ae (by (rw [add_block];exact hf1 _ rfl (by omega)));replace ai:=eq_true ai;replace aj:=eq_true aj))
   all_goals (go_ret)
   all_goals exact ⟨by rfl,by repeat (with_reducible exact HI0.out),by repeat (with_reducible exact HB.out),by repeat (with_reducible exact HK.out)⟩
  ·rw [if_neg c5] at H
   exact absurd H (by simp)
 ·rw [if_neg c4] at H
  exact absurd H (by simp)
def spec_SyncNames.f (k:Nat) (aa:List S45) (ab:List S47) (ad:List S47) (ae:List ByteArray) (af:Int) (ag:Int)  : Option (List (S45)×List (S47)×List (S47)×List ByteArray×Int×Int):=(spec_l05Copy.f aa ab ad ae af ag).bind fun o=>(spec_DiskOk.f k o.1 o.2.1 o.2.2.1 o.2.2.2.1 o.2.2.2.2.1 o.2.2.2.2.2).bind fun b=>if b=true then (if o.2.1.length*24≤140737488355328 then spec_l06Clean.f k o.1 o.2.1 o.2.1 [] o.2.2.2.2.1 o.2.2.2.2.2 else none) else some (o.1,o.2.1,o.2.2.1,o.2.2.2.1,o.2.2.2.2.1,o.2.2.2.2.2)
theorem spec_SyncNames.mono:∀ aa ab ad ae af ag  k,LeO (spec_SyncNames.f k aa ab ad ae af ag) (spec_SyncNames.f (k+1) aa ab ad ae af ag):=by
  intro aa ab ad ae af ag  k
  unfold spec_SyncNames.f
  repeat' first | (with_reducible exact LeO.refl _) | (with_reducible exact spec_l06Clean.mono _ _ _ _ _ _ _) | (with_reducible exact spec_DiskOk.mono _ _ _ _ _ _ _) | (with_reducible refine LeO.ite ?_ ?_) | (with_reducible refine LeO.bind ?_ (fun _=>?_))
theorem spec_SyncNames.calls (k:Nat) (af:Option Addr) (ag:Nat) (aa:List (S45)) (ah:Option Addr) (ai:Nat) (ab:List (S47)) (aj:Option Addr) (ak:Nat) (ad:List (S47)) (al:Option Addr) (an:Nat) (ae:List ByteArray) (ao:Int) (aq:Int)  (r1:List S45) (r2:List S47) (r3:List S47) (r4:List ByteArray) (r5:Int) (r6:Int) (w:World) (ar:Kd.C k45 w af aa.length aa) (au:aa.length≤ag) (av:Kd.C k47 w ah ab.length ab) (aw:ab.length≤ai) (ax:Kd.C k47 w aj ad.length ad) (ay:ad.length≤ak) (az:Kd.C Kd.string w al ae.length ae) (aA:ae.length≤an) (h:spec_SyncNames.f k aa ab ad ae ao aq  = some (r1,r2,r3,r4,r5,r6)) :
    Calls Tryz.prog 101 #[.agg #[.slice af aa.length ag,.slice ah ab.length ai,.slice aj ad.length ak,.slice al ae.length an,.int .i64 ao,.int .i64 aq]] w fun e w'=>∃ v0_ v1_ v2_ v3_:Value,e=.returned (.agg #[v0_,v1_,v2_,v3_,.int .i64 r5,.int .i64 r6])∧Kd.R k45 45 w' w.heap.size (fun _=>True) v0_ r1∧Kd.R k47 47 w' w.heap.size (fun k_=>some k_≠(v2_:Value).ownBlock) v1_ r2∧Kd.R k47 47 w' w.heap.size (fun k_=>some k_≠(v1_:Value).ownBlock) v2_ r3∧Kd.R Kd.string 9 w' w.heap.size (fun _=>True) v3_ r4∧Below w.heap.size w w':=by
  unfold spec_SyncNames.f at h
  replace h:=zo h
  obtain ⟨⟨o1,o2,o3,o4,o5,o6⟩,ho,h⟩:=h
  replace h:=zo h
  obtain ⟨b,hbk,h⟩:=h
  dsimp only at h
  have CC:=zA (fun (w1:World) (hb:Below w.heap.size w w1)=>spec_l05Copy.calls af ag aa ah ai ab aj ak ad al an ae ao aq o1 o2 o3 o4 o5 o6 w1 (Kd.C_below ar hb) au (Kd.C_below av hb) aw (Kd.C_below ax hb) ay (Kd.C_below az hb) aA ho)
  have CD:=zA (fun (w1:World) (A0:Option Addr) (c0:Nat) (A1:Option Addr) (c1:Nat) (A2:Option Addr) (c2:Nat) (A3:Option Addr) (c3:Nat) (h:HasD w1 w.heap.size (.slice A0 o1.length c0) (.slice A1 o2.length c1) (.slice A2 o3.length c2) (.slice A3 o4.length c3) o1 o2 o3 o4)=>spec_DiskOk.calls k A0 c0 o1 A1 c1 o2 A2 c2 o3 A3 c3 o4 o5 o6 b w1 (Kd.R_reads' h.r0).2.2 (Kd.R_reads' h.r0).2.1 (Kd.R_reads' h.r1).2.2 (Kd.R_reads' h.r1).2.1 (Kd.R_reads' h.r2).2.2 (Kd.R_reads' h.r2).2.1 (Kd.R_reads' h.r3).2.2 (Kd.R_reads' h.r3).2.1 hbk)
  cases b with
  | false=>
    rw [if_neg (by decide)] at h
    simp only [Option.some.injEq,Prod.mk.injEq] at h
    obtain ⟨rfl,rfl,rfl,rfl,rfl,rfl⟩:=h
    clear ho hbk ar au av aw ax ay az aA
    go_enter Tryz.func101,Tryz.ntmps101
    go_wp2_with (first | ((with_reducible refine gate_dst (N:=1) rfl ?_);refine box_event ?hg (N:=1) ?hd (cs:=#[.slice af aa.length ag,.slice ah ab.length ai,.slice aj ad.length ak,.slice al ae.length an,.int .i64 ao,.int .i64 aq]) (t:=28) ?hr ?_;(case hd=>rfl);(case hg=>rfl);(case hr=>(go_simp;done));intro gD hg w1 hbox hb;have GD:=zA (Nat.le_of_eq hg.symm);have BL:=zA hb;have BD:=zA hbox;clear hb;replace iD:=blk6 BD.out;replace zD:=z6of BD.out;clear hg hbox) | ((with_reducible refine gate_dst (N:=2) rfl ?_);refine box_event ?hg (N:=2) ?hd (cs:=#[.slice none 0 0,.slice none 0 0,.slice none 0 0,.slice none 0 0,.int .i64 0,.int .i64 0]) (t:=28) ?hr ?_;(case hd=>rfl);(case hg=>rfl);(case hr=>(go_simp;done));intro gR hg w1 hbox hb;have GR:=zA (show w.heap.size≤gR by rw [hg];exact BL.out.size);have RD:=zA (show gR≠gD by rw [hg];exact Nat.ne_of_gt (blk_lt BD.out));replace BL:=zs BL hb;(try replace BD:=zb BD hb);have BR:=zA hbox;clear hb;replace iD:=blk6 BD.out;replace iR:=blk6 BR.out;replace zD:=z6of BD.out;replace zR:=z6of BR.out;clear hg hbox) | (go_at_call 44;have hbs:=BL.out.size;(with_reducible refine (CC.out _ BL.out).mono ?_);rintro e w1 ⟨v0,v1,v2,v3,rfl,p0,p1,p2,p3,hb⟩;have hD:=HasD.of p0 p1 p2 p3;replace BL:=zs BL hb;(try replace BD:=zb BD hb);(try replace BR:=zb BR hb);have Do:=zA (hD.lower hbs);obtain ⟨A0,c0,rfl⟩:=Kd.R_slice p0;obtain ⟨A1,c1,rfl⟩:=Kd.R_slice p1;obtain ⟨A2,c2,rfl⟩:=Kd.R_slice p2;obtain ⟨A3,c3,rfl⟩:=Kd.R_slice p3;clear hD hb hbs p0 p1 p2 p3;replace iD:=blk6 BD.out;replace iR:=blk6 BR.out;replace zD:=z6of BD.out;replace zR:=z6of BR.out) | (go_at_call 11;refine fill6_calls BD.out (fun W hO hk hs=>?_);replace Do:=zA (HasD.fill Do.out BD.out hs);replace BR:=zA ((hs gR RD.out).trans BR.out);replace BL:=zA (hk BL.out GD.out);replace BD:=zA hO;clear hO hk hs;(with_reducible refine (CD.out _ _ _ _ _ _ _ _ _ Do.out).mono ?_);rintro e w1 ⟨rfl,hb⟩;replace BL:=zs BL hb;(try replace BD:=zb BD hb);(try replace BR:=zb BR hb);(try replace Do:=zA (Do.out.on hb));clear hb;replace iD:=blk6 BD.out;replace iR:=blk6 BR.out;replace zD:=z6of BD.out;replace zR:=z6of BR.out))
    refine bodyPost_ret (results_cell_row rfl _ _ gR 28 #[.slice A0 o1.length c0,.slice A1 o2.length c1,.slice A2 o3.length c2,.slice A3 o4.length c3,.int .i64 o5,.int .i64 o6] (0,0) _ rfl (fill6_at BR.out) Tryz.underlying28 rfl (by kernel_rfl)) rfl ?_
    have hT:=filled_told (.int .i64 o5) (.int .i64 o6) Do.out BR.out
    exact ⟨_,_,_,_,rfl,hT.1,hT.2.1,hT.2.2.1,hT.2.2.2,fill6_below BL.out GR.out⟩
  | true=>
    rw [if_pos rfl] at h
    by_cases hql:o2.length*24≤140737488355328
    case neg=>rw [if_neg hql] at h;cases h
    rw [if_pos hql] at h
    obtain ⟨dl,hdl⟩:∃ x,x=([]:List ByteArray):=⟨_,rfl⟩
    rw [← hdl] at h
    have HZ:=zA h
    have HDL:=zA hdl
    have HQL:=zA hql
    clear h hdl hql ho hbk ar au av aw ax ay az aA
    go_enter Tryz.func101,Tryz.ntmps101
    go_wp2_with (first | ((with_reducible refine gate_dst (N:=1) rfl ?_);refine box_event ?hg (N:=1) ?hd (cs:=#[.slice af aa.length ag,.slice ah ab.length ai,.slice aj ad.length ak,.slice al ae.length an,.int .i64 ao,.int .i64 aq]) (t:=28) ?hr ?_;(case hd=>rfl);(case hg=>rfl);(case hr=>(go_simp;done));intro gD hg w1 hbox hb;have GD:=zA (Nat.le_of_eq hg.symm);have BL:=zA hb;have BD:=zA hbox;clear hb;replace iD:=blk6 BD.out;replace zD:=z6of BD.out;clear hg hbox) | ((with_reducible refine gate_dst (N:=2) rfl ?_);refine box_event ?hg (N:=2) ?hd (cs:=#[.slice none 0 0,.slice none 0 0,.slice none 0 0,.slice none 0 0,.int .i64 0,.int .i64 0]) (t:=28) ?hr ?_;(case hd=>rfl);(case hg=>rfl);(case hr=>(go_simp;done));intro gR hg w1 hbox hb;have GR:=zA (show w.heap.size≤gR by rw [hg];exact BL.out.size);have RD:=zA (show gR≠gD by rw [hg];exact Nat.ne_of_gt (blk_lt BD.out));replace BL:=zs BL hb;(try replace BD:=zb BD hb);have BR:=zA hbox;clear hb;replace iD:=blk6 BD.out;replace iR:=blk6 BR.out;replace zD:=z6of BD.out;replace zR:=z6of BR.out;clear hg hbox) | (go_at_call 44;have hbs:=BL.out.size;(with_reducible refine (CC.out _ BL.out).mono ?_);rintro e w1 ⟨v0,v1,v2,v3,rfl,p0,p1,p2,p3,hb⟩;have hD:=HasD.of p0 p1 p2 p3;replace BL:=zs BL hb;(try replace BD:=zb BD hb);(try replace BR:=zb BR hb);have Do:=zA (hD.lower hbs);obtain ⟨A0,c0,rfl⟩:=Kd.R_slice p0;obtain ⟨A1,c1,rfl⟩:=Kd.R_slice p1;obtain ⟨A2,c2,rfl⟩:=Kd.R_slice p2;obtain ⟨A3,c3,rfl⟩:=Kd.R_slice p3;clear hD hb hbs p0 p1 p2 p3;replace iD:=blk6 BD.out;replace iR:=blk6 BR.out;replace zD:=z6of BD.out;replace zR:=z6of BR.out) | (go_at_call 11;refine fill6_calls BD.out (fun W hO hk hs=>?_);replace Do:=zA (HasD.fill Do.out BD.out hs);replace BR:=zA ((hs gR RD.out).trans BR.out);replace BL:=zA (hk BL.out GD.out);replace BD:=zA hO;clear hO hk hs;(with_reducible refine (CD.out _ _ _ _ _ _ _ _ _ Do.out).mono ?_);rintro e w1 ⟨rfl,hb⟩;replace BL:=zs BL hb;(try replace BD:=zb BD hb);(try replace BR:=zb BR hb);(try replace Do:=zA (Do.out.on hb));clear hb;replace iD:=blk6 BD.out;replace iR:=blk6 BR.out;replace zD:=z6of BD.out;replace zR:=z6of BR.out) | ((with_reducible refine gate_dst (N:=9) rfl ?_);refine Kd.R_lit k47 _ 47 ?hg (N:=9) ?hd (xs:=[]) (inner:=[]) (ok:=fun _=>True) (okp:=fun _=>True) ?hr ?hp (fun _ hk=>hk) trivial (Below.refl _ _) (Nat.le_refl _) (by simp) ?_;(case hd=>rfl);(case hg=>rfl);(case hr=>(go_simp;done));(case hp=>exact (Reps.none _ _));intro v4 w1 ho hb hg_ hnew_;clear hg_ hnew_;have LW:=BL.out.size;have LD:=zA Do.out.lt;have NEV:=zA (fun k hd (hv:some k=v4.ownBlock)=>Nat.not_le_of_lt (LD.out k hd) (Kd.R_base ho k hv.symm));have RE:=zA (Kd.R_lower ho LW);replace BL:=zs BL hb;(try replace BD:=zb BD hb);(try replace BR:=zb BR hb);(try replace Do:=zA (Do.out.on hb));clear hb ho LW LD;replace iD:=blk6 BD.out;replace iR:=blk6 BR.out;replace zD:=z6of BD.out;replace zR:=z6of BR.out) | ((with_reducible refine gate_builtin (b:=.append) (xs:=#[.tmp 9,.tmp 11]) rfl ?_);at_builtin;refine Kd.R_append_rows k47 (w0:=w) w.heap.size rfl (.tmp 9) (.tmp 11) 25 47 (.agg #[(.string ⟨#[]⟩),(.int .i64 0)]) 24 rfl Tryz.underlying25 info47 rfl (by decide) (by omega) v4 [] o2 _ _ _ (fun k_=>some k_≠(Value.slice A1 o2.length c1).ownBlock) (fun _=>False) rfl rfl ?aO ?aR (fun _ _ h=>h) (fun _ h=>h.elim) ?aF ?aB ?aS ?aL ?_;(case aR=>exact (Kd.R_reads' Do.out.r1).2.2);(case aB=>exact BL.out);(case aF=>exact fun k_ hk e=>Nat.not_le_of_lt (Kd.R_lt Do.out.r1 k_ e.symm) hk);(case aO=>exact Kd.R_mono (Kd.R_tight rfl RE.out) (fun k hk e=>NEV.out k (.inr (.inl e)) hk));(case aS=>exact BL.out.size);(case aL=>have:=HQL.out;rw [List.length_nil];omega);intro v5 w1 ho hb hg1 aC;rw [List.nil_append] at ho;have hT:Turned _ w1 _:=⟨hg1.os,hg1.tape,hg1.output,hg1.size,fun k hk hn=>hg1.block k hk hn⟩;have hD:=has_r2n Do.out hT (fun k ho hs=>NEV.out k ho hs) ho;obtain ⟨A6,c6,rfl⟩:=Kd.R_slice ho;replace BD:=zA ((hT.block gD (blk_lt BD.out) (fun e=>Kd.R_ne RE.out BD.out (by decide) e)).trans BD.out);replace BR:=zA ((hT.block gR (blk_lt BR.out) (fun e=>Kd.R_ne RE.out BR.out (by decide) e)).trans BR.out);clear BL Do RE NEV;have BL:=zA hb;have Do:=zA hD;clear hD ho hb hg1 aC hT;replace iD:=blk6 BD.out;replace iR:=blk6 BR.out;replace zD:=z6of BD.out;replace zR:=z6of BR.out) | ((with_reducible refine gate_store (t:=25) (p:=13) rfl ?_);refine store_event (t:=25) (p:=13) (v:=?vo13) (w1:=w1.setCell ⟨gD,2,none⟩ (.slice A6 o2.length c6)) ?hg ?ho ?hn ?hr ?_;(case ho=>rfl);(case hg=>rfl);(case hn=>rfl);(case hr=>(go_simp;done));intro wz hw;have hs:∀ j,j≠gD→wz.heap[j]? = w1.heap[j]?:=(by rw [hw];exact fun j hj=>Below.heap_setCell w1 ⟨gD,2,none⟩ _ j hj);have hbl:Below w.heap.size w wz:=(by rw [hw];exact below_set BL.out GD.out);have hG:wz.heap[gD]? = some (.cells #[.slice A0 o1.length c0,.slice A1 o2.length c1,.slice A6 o2.length c6,.slice A3 o4.length c3,.int .i64 o5,.int .i64 o6] 28 (0,0)):=(by rw [hw];exact blk_put (cs:=#[.slice A0 o1.length c0,.slice A1 o2.length c1,.slice A2 o3.length c2,.slice A3 o4.length c3,.int .i64 o5,.int .i64 o6]) BD.out 2 _ rfl);clear hw;replace Do:=zA (HasD.fill Do.out BD.out hs);replace BR:=zA ((hs gR RD.out).trans BR.out);clear BL BD;have BL:=zA hbl;have BD:=zA hG;clear hs hbl hG;obtain ⟨w1,hw1⟩:∃ x,x=wz:=⟨_,rfl⟩;subst hw1;replace iD:=blk6 BD.out;replace iR:=blk6 BR.out;replace zD:=z6of BD.out;replace zR:=z6of BR.out) | ((with_reducible refine gate_dst (N:=14) rfl ?_);refine Kd.R_lit Kd.string _ 9 ?hg (N:=14) ?hd (xs:=[]) (inner:=[]) (ok:=fun _=>True) (okp:=fun _=>True) ?hr ?hp (fun _ hk=>hk) trivial (Below.refl _ _) (Nat.le_refl _) (by simp) ?_;(case hd=>rfl);(case hg=>rfl);(case hr=>(go_simp;done));(case hp=>exact (Reps.none _ _));intro v4 w1 ho hb hg_ hnew_;clear hg_ hnew_;have LW:=BL.out.size;rw [← HDL.out] at ho;replace Do:=zA (has_r3 Do.out (Turned.of hb _) (Kd.R_lower ho LW));obtain ⟨A7,c7,rfl⟩:=Kd.R_slice ho;replace BL:=zs BL hb;(try replace BD:=zb BD hb);(try replace BR:=zb BR hb);clear hb ho LW;replace iD:=blk6 BD.out;replace iR:=blk6 BR.out;replace zD:=z6of BD.out;replace zR:=z6of BR.out) | ((with_reducible refine gate_store (t:=26) (p:=15) rfl ?_);refine store_event (t:=26) (p:=15) (v:=?vo15) (w1:=w1.setCell ⟨gD,3,none⟩ (.slice A7 dl.length c7)) ?hg ?ho ?hn ?hr ?_;(case ho=>rfl);(case hg=>rfl);(case hn=>rfl);(case hr=>(go_simp;done));intro wz hw;have hs:∀ j,j≠gD→wz.heap[j]? = w1.heap[j]?:=(by rw [hw];exact fun j hj=>Below.heap_setCell w1 ⟨gD,3,none⟩ _ j hj);have hbl:Below w.heap.size w wz:=(by rw [hw];exact below_set BL.out GD.out);have hG:wz.heap[gD]? = some (.cells #[.slice A0 o1.length c0,.slice A1 o2.length c1,.slice A6 o2.length c6,.slice A7 dl.length c7,.int .i64 o5,.int .i64 o6] 28 (0,0)):=(by rw [hw];exact blk_put (cs:=#[.slice A0 o1.length c0,.slice A1 o2.length c1,.slice A6 o2.length c6,.slice A3 o4.length c3,.int .i64 o5,.int .i64 o6]) BD.out 3 _ rfl);clear hw;replace Do:=zA (HasD.fill Do.out BD.out hs);replace BR:=zA ((hs gR RD.out).trans BR.out);clear BL BD;have BL:=zA hbl;have BD:=zA hG;clear hs hbl hG;obtain ⟨w1,hw1⟩:∃ x,x=wz:=⟨_,rfl⟩;subst hw1;replace iD:=blk6 BD.out;replace iR:=blk6 BR.out;replace zD:=z6of BD.out;replace zR:=z6of BR.out) | (go_at_call 66;refine (cleanS_calls k w _ BL.out Do.out HZ.out).mono ?_;rintro e w2 ⟨u0,u1,u2,u3,rfl,hD,hb,hk⟩;have BR2:=zA ((hk.2 gR (blk_lt BR.out) (Do.out.nobox BR.out (by decide) (by decide) (by decide))).trans BR.out);obtain ⟨B0,b0,B1,b1,B2,b2,B3,b3,rfl,rfl,rfl,rfl⟩:=has_slices hD;clear BR BL BD Do;have BR:=BR2;have BL:=zA hb;have Do:=zA hD;clear BR2 hD hb hk;clear iD zD;replace iR:=blk6 BR.out;replace zR:=z6of BR.out))
    refine bodyPost_ret (results_cell_row rfl _ _ gR 28 #[.slice B0 r1.length b0,.slice B1 r2.length b1,.slice B2 r3.length b2,.slice B3 r4.length b3,.int .i64 r5,.int .i64 r6] (0,0) _ rfl (fill6_at BR.out) Tryz.underlying28 rfl (by kernel_rfl)) rfl ?_
    have hT:=filled_told (.int .i64 r5) (.int .i64 r6) Do.out BR.out
    exact ⟨_,_,_,_,rfl,hT.1,hT.2.1,hT.2.2.1,hT.2.2.2,fill6_below BL.out GR.out⟩
def spec_RemoveFile.f (k:Nat) (aa:List S45) (ab:List S47) (ad:List S47) (ae:List ByteArray) (af:Int) (ag:Int) (a1:ByteArray):Option (List (S45)×List (S47)×List (S47)×List ByteArray×Int×Int×Int):=(spec_l05Copy.f aa ab ad ae af ag).bind fun o=>(spec_DiskOk.f k o.1 o.2.1 o.2.2.1 o.2.2.2.1 o.2.2.2.2.1 o.2.2.2.2.2).bind fun b=>if b=true then (spec_l06Has.f k o.2.1 a1).bind fun hh=>if hh=true then (spec_l06Drop.f k o.2.1 a1).bind fun q=>if a1.size≤140737488355328∧(o.2.2.2.1.length+1)*16≤140737488355328 then (spec_l06Clean.f k o.1 q o.2.2.1 (o.2.2.2.1++[((⟨#[45]⟩:ByteArray)++a1)]) o.2.2.2.2.1 o.2.2.2.2.2).bind fun z=>some (z.1,z.2.1,z.2.2.1,z.2.2.2.1,z.2.2.2.2.1,z.2.2.2.2.2,0) else none else some (o.1,o.2.1,o.2.2.1,o.2.2.2.1,o.2.2.2.2.1,o.2.2.2.2.2,3) else some (o.1,o.2.1,o.2.2.1,o.2.2.2.1,o.2.2.2.2.1,o.2.2.2.2.2,3)
theorem spec_RemoveFile.mono:∀ aa ab ad ae af ag a1 k,LeO (spec_RemoveFile.f k aa ab ad ae af ag a1) (spec_RemoveFile.f (k+1) aa ab ad ae af ag a1):=by
  intro aa ab ad ae af ag a1 k
  unfold spec_RemoveFile.f
  repeat' first | (with_reducible exact LeO.refl _) | (with_reducible exact spec_l06Has.mono _ _ _) | (with_reducible exact spec_l06Drop.mono _ _ _) | (with_reducible exact spec_l06Clean.mono _ _ _ _ _ _ _) | (with_reducible exact spec_DiskOk.mono _ _ _ _ _ _ _) | (with_reducible refine LeO.ite ?_ ?_) | (with_reducible refine LeO.bind ?_ (fun _=>?_))
theorem spec_RemoveFile.calls (k:Nat) (ao:Option Addr) (aq:Nat) (aa:List (S45)) (ar:Option Addr) (au:Nat) (ab:List (S47)) (av:Option Addr) (aw:Nat) (ad:List (S47)) (ax:Option Addr) (ay:Nat) (ae:List ByteArray) (az:Int) (aA:Int) (a1:ByteArray) (r1:List S45) (r2:List S47) (r3:List S47) (r4:List ByteArray) (r5:Int) (r6:Int) (r7:Int) (w:World) (af:Kd.C k45 w ao aa.length aa) (ag:aa.length≤aq) (ah:Kd.C k47 w ar ab.length ab) (ai:ab.length≤au) (aj:Kd.C k47 w av ad.length ad) (ak:ad.length≤aw) (al:Kd.C Kd.string w ax ae.length ae) (an:ae.length≤ay) (h:spec_RemoveFile.f k aa ab ad ae az aA a1=some (r1,r2,r3,r4,r5,r6,r7)) :
    Calls Tryz.prog 104 #[.agg #[.slice ao aa.length aq,.slice ar ab.length au,.slice av ad.length aw,.slice ax ae.length ay,.int .i64 az,.int .i64 aA],.string a1] w fun e w'=>∃ v0_ v1_ v2_ v3_:Value,e=.returned (.tuple #[.agg #[v0_,v1_,v2_,v3_,.int .i64 r5,.int .i64 r6],.int .i64 r7])∧Kd.R k45 45 w' w.heap.size (fun _=>True) v0_ r1∧Kd.R k47 47 w' w.heap.size (fun k_=>some k_≠(v2_:Value).ownBlock) v1_ r2∧Kd.R k47 47 w' w.heap.size (fun k_=>some k_≠(v1_:Value).ownBlock) v2_ r3∧Kd.R Kd.string 9 w' w.heap.size (fun _=>True) v3_ r4∧Below w.heap.size w w':=by
  unfold spec_RemoveFile.f at h
  replace h:=zo h
  obtain ⟨⟨o1,o2,o3,o4,o5,o6⟩,ho,h⟩:=h
  replace h:=zo h
  obtain ⟨b,hbk,h⟩:=h
  dsimp only at h
  have CC:=zA (fun (w1:World) (hb:Below w.heap.size w w1)=>spec_l05Copy.calls ao aq aa ar au ab av aw ad ax ay ae az aA o1 o2 o3 o4 o5 o6 w1 (Kd.C_below af hb) ag (Kd.C_below ah hb) ai (Kd.C_below aj hb) ak (Kd.C_below al hb) an ho)
  have CD:=zA (fun (w1:World) (A0:Option Addr) (c0:Nat) (A1:Option Addr) (c1:Nat) (A2:Option Addr) (c2:Nat) (A3:Option Addr) (c3:Nat) (h:HasD w1 w.heap.size (.slice A0 o1.length c0) (.slice A1 o2.length c1) (.slice A2 o3.length c2) (.slice A3 o4.length c3) o1 o2 o3 o4)=>spec_DiskOk.calls k A0 c0 o1 A1 c1 o2 A2 c2 o3 A3 c3 o4 o5 o6 b w1 (Kd.R_reads' h.r0).2.2 (Kd.R_reads' h.r0).2.1 (Kd.R_reads' h.r1).2.2 (Kd.R_reads' h.r1).2.1 (Kd.R_reads' h.r2).2.2 (Kd.R_reads' h.r2).2.1 (Kd.R_reads' h.r3).2.2 (Kd.R_reads' h.r3).2.1 hbk)
  cases b
  (rw [if_neg (by decide)] at h;simp only [Option.some.injEq,Prod.mk.injEq] at h;obtain ⟨rfl,rfl,rfl,rfl,rfl,rfl,rfl⟩:=h;clear ho hbk af ag ah ai aj ak al an)
  (rotate_left 1;(rw [if_pos rfl] at h;replace h:=zo h;obtain ⟨hh,hhh,h⟩:=h;have CH:=zA (fun (w1:World) (A0:Option Addr) (c0:Nat) (A1:Option Addr) (c1:Nat) (A2:Option Addr) (c2:Nat) (A3:Option Addr) (c3:Nat) (h:HasD w1 w.heap.size (.slice A0 o1.length c0) (.slice A1 o2.length c1) (.slice A2 o3.length c2) (.slice A3 o4.length c3) o1 o2 o3 o4)=>spec_l06Has.calls k A1 c1 o2 a1 hh w1 (Kd.R_reads' h.r1).2.2 (Kd.R_reads' h.r1).2.1 hhh);cases hh);rotate_right 1)
  (rotate_left 1;(rw [if_neg (by decide)] at h;simp only [Option.some.injEq,Prod.mk.injEq] at h;obtain ⟨rfl,rfl,rfl,rfl,rfl,rfl,rfl⟩:=h;clear ho hbk hhh af ag ah ai aj ak al an);rotate_right 1)
  (rotate_left 2;(rw [if_pos rfl] at h;replace h:=zo h;obtain ⟨q,hq,h⟩:=h;have CQ:=zA (fun (w1:World) (A0:Option Addr) (c0:Nat) (A1:Option Addr) (c1:Nat) (A2:Option Addr) (c2:Nat) (A3:Option Addr) (c3:Nat) (h:HasD w1 w.heap.size (.slice A0 o1.length c0) (.slice A1 o2.length c1) (.slice A2 o3.length c2) (.slice A3 o4.length c3) o1 o2 o3 o4)=>spec_l06Drop.calls k A1 c1 o2 a1 q w1 (Kd.R_reads' h.r1).2.2 (Kd.R_reads' h.r1).2.1 hq);by_cases hl:a1.size≤140737488355328∧(o4.length+1)*16≤140737488355328);rotate_right 2)
  (rotate_left 3;(rw [if_neg hl] at h;cases h);rotate_right 3)
  (rotate_left 2;(rw [if_pos hl] at h;obtain ⟨hsz,hl⟩:=hl;have HL:=zA hl;clear ho hbk hhh hq hl af ag ah ai aj ak al an;generalize hdl:(o4++[((⟨#[45]⟩:ByteArray)++a1)])=dl at h;have HDL:=zA hdl;clear hdl;have hcat:¬ 9223372036854775807<(⟨#[45]⟩:ByteArray).size+a1.size:=(by show ¬ 9223372036854775807<1+a1.size;omega);replace h:=zo h;obtain ⟨⟨z1,z2,z3,z4,z5,z6⟩,hz,h⟩:=h;dsimp only at h;have HZ:=zA hz;clear hz;generalize hs:((⟨#[45]⟩:ByteArray)++a1)=s at HDL;simp only [Option.some.injEq,Prod.mk.injEq] at h;obtain ⟨rfl,rfl,rfl,rfl,rfl,rfl,rfl⟩:=h);rotate_right 2)
  all_goals (go_enter Tryz.func104,Tryz.ntmps104;go_wp2_with (first | ((with_reducible refine gate_dst (N:=2) rfl ?_);refine box_event ?hg (N:=2) ?hd (cs:=#[.slice ao aa.length aq,.slice ar ab.length au,.slice av ad.length aw,.slice ax ae.length ay,.int .i64 az,.int .i64 aA]) (t:=28) ?hr ?_;(case hd=>rfl);(case hg=>rfl);(case hr=>(go_simp;done));intro gD hg w1 hbox hb;have GD:=zA (Nat.le_of_eq hg.symm);have BL:=zA hb;have BD:=zA hbox;clear hb;replace iD:=blk6 BD.out;replace zD:=z6of BD.out;clear hg hbox) | ((with_reducible refine gate_dst (N:=4) rfl ?_);refine box_event ?hg (N:=4) ?hd (cs:=#[.slice none 0 0,.slice none 0 0,.slice none 0 0,.slice none 0 0,.int .i64 0,.int .i64 0]) (t:=28) ?hr ?_;(case hd=>rfl);(case hg=>rfl);(case hr=>(go_simp;done));intro gR hg w1 hbox hb;have GR:=zA (show w.heap.size≤gR by rw [hg];exact BL.out.size);have RD:=zA (show gR≠gD by rw [hg];exact Nat.ne_of_gt (blk_lt BD.out));replace BL:=zs BL hb;(try replace BD:=zb BD hb);have BR:=zA hbox;clear hb;replace iD:=blk6 BD.out;replace iR:=blk6 BR.out;replace zD:=z6of BD.out;replace zR:=z6of BR.out;clear hg hbox) | (go_at_call 44;have hbs:=BL.out.size;(with_reducible refine (CC.out _ BL.out).mono ?_);rintro e w1 ⟨v0,v1,v2,v3,rfl,p0,p1,p2,p3,hb⟩;have hD:=HasD.of p0 p1 p2 p3;replace BL:=zs BL hb;(try replace BD:=zb BD hb);(try replace BR:=zb BR hb);have Do:=zA (hD.lower hbs);obtain ⟨A0,c0,rfl⟩:=Kd.R_slice p0;obtain ⟨A1,c1,rfl⟩:=Kd.R_slice p1;obtain ⟨A2,c2,rfl⟩:=Kd.R_slice p2;obtain ⟨A3,c3,rfl⟩:=Kd.R_slice p3;clear hD hb hbs p0 p1 p2 p3;replace iD:=blk6 BD.out;replace iR:=blk6 BR.out;replace zD:=z6of BD.out;replace zR:=z6of BR.out) | (go_at_call 11;refine fill6_calls BD.out (fun W hO hk hs=>?_);replace Do:=zA (HasD.fill Do.out BD.out hs);replace BR:=zA ((hs gR RD.out).trans BR.out);replace BL:=zA (hk BL.out GD.out);replace BD:=zA hO;clear hO hk hs;(with_reducible refine (CD.out _ _ _ _ _ _ _ _ _ Do.out).mono ?_);rintro e w1 ⟨rfl,hb⟩;replace BL:=zs BL hb;(try replace BD:=zb BD hb);(try replace BR:=zb BR hb);(try replace Do:=zA (Do.out.on hb));clear hb;replace iD:=blk6 BD.out;replace iR:=blk6 BR.out;replace zD:=z6of BD.out;replace zR:=z6of BR.out) | (go_at_call 45;(with_reducible refine (CH.out _ _ _ _ _ _ _ _ _ Do.out).mono ?_);rintro e wq ⟨rfl,hq⟩;have hb:Below w1.heap.size w1 wq:=(by obtain ⟨nd,hnd⟩:=hq;rw [hnd];exact pw_below_drewN (Below.refl _ _) nd);clear hq;replace BL:=zs BL hb;(try replace BD:=zb BD hb);(try replace BR:=zb BR hb);(try replace Do:=zA (Do.out.on hb));clear hb;obtain ⟨w1,hw1⟩:∃ x,x=wq:=⟨_,rfl⟩;subst hw1;replace iD:=blk6 BD.out;replace iR:=blk6 BR.out;replace zD:=z6of BD.out;replace zR:=z6of BR.out) | (go_at_call 92;have LW:=BL.out.size;(with_reducible refine (CQ.out _ _ _ _ _ _ _ _ _ Do.out).mono ?_);rintro e w1 ⟨v4,rfl,hR4,hb⟩;obtain ⟨A4,c4,rfl⟩:=Kd.R_slice hR4;replace Do:=zA (has_r1 Do.out hb LW hR4);replace BL:=zs BL hb;(try replace BD:=zb BD hb);(try replace BR:=zb BR hb);clear hR4 hb LW;replace iD:=blk6 BD.out;replace iR:=blk6 BR.out;replace zD:=z6of BD.out;replace zR:=z6of BR.out) | ((with_reducible refine gate_store (t:=25) (p:=23) rfl ?_);refine store_event (t:=25) (p:=23) (v:=?vo23) (w1:=w1.setCell ⟨gD,1,none⟩ (.slice A4 q.length c4)) ?hg ?ho ?hn ?hr ?_;(case ho=>rfl);(case hg=>rfl);(case hn=>rfl);(case hr=>(go_simp;done));intro wz hw;have hs:∀ j,j≠gD→wz.heap[j]? = w1.heap[j]?:=(by rw [hw];exact fun j hj=>Below.heap_setCell w1 ⟨gD,1,none⟩ _ j hj);have hbl:Below w.heap.size w wz:=(by rw [hw];exact below_set BL.out GD.out);have hG:wz.heap[gD]? = some (.cells #[.slice A0 o1.length c0,.slice A4 q.length c4,.slice A2 o3.length c2,.slice A3 o4.length c3,.int .i64 o5,.int .i64 o6] 28 (0,0)):=(by rw [hw];exact blk_put (cs:=#[.slice A0 o1.length c0,.slice A1 o2.length c1,.slice A2 o3.length c2,.slice A3 o4.length c3,.int .i64 o5,.int .i64 o6]) BD.out 1 _ rfl);clear hw;replace Do:=zA (HasD.fill Do.out BD.out hs);replace BR:=zA ((hs gR RD.out).trans BR.out);clear BL BD;have BL:=zA hbl;have BD:=zA hG;clear hs hbl hG;obtain ⟨w1,hw1⟩:∃ x,x=wz:=⟨_,rfl⟩;subst hw1;replace iD:=blk6 BD.out;replace iR:=blk6 BR.out;replace zD:=z6of BD.out;replace zR:=z6of BR.out) | (at_builtin;refine Kd.R_append Kd.string (w0:=w) w.heap.size rfl (.tmp 25) (.tmp 28) 26 9 (.string ⟨#[]⟩) 16 rfl Tryz.underlying26 info9 rfl (by decide) (by decide) (.slice A3 o4.length c3) o4 s [.string s] _ (fun _=>False) rfl rfl rfl (fun _ h=>h.elim) (fun k hk=>.inr hk) (Kd.R_mono (ok':=fun k=>some k=(Value.slice A3 o4.length c3).ownBlock∨_≤k) Do.out.r3 fun k hk=>.inl hk) BL.out BL.out.size HL.out ?_;intro v1 w1 hO1 hb1 hg1 aB;rw [HDL.out] at hO1;obtain ⟨A5,c5,rfl⟩:=Kd.R_slice hO1;have hT:Turned _ w1 _:=⟨hg1.os,hg1.tape,hg1.output,hg1.size,fun k hk hn=>hg1.block k hk hn⟩;have hD:=has_r3 Do.out hT hO1;replace BD:=zA ((hT.block gD (blk_lt BD.out) (fun e=>Do.out.nobox BD.out (by decide) (by decide) (by decide) (.inr (.inr (.inr e))))).trans BD.out);replace BR:=zA ((hT.block gR (blk_lt BR.out) (fun e=>Do.out.nobox BR.out (by decide) (by decide) (by decide) (.inr (.inr (.inr e))))).trans BR.out);clear BL Do;have BL:=zA hb1;have Do:=zA hD;clear hD hO1 hb1 hg1 aB hT;replace iD:=blk6 BD.out;replace iR:=blk6 BR.out;replace zD:=z6of BD.out;replace zR:=z6of BR.out) | ((with_reducible refine gate_store (t:=26) (p:=30) rfl ?_);refine store_event (t:=26) (p:=30) (v:=?vo30) (w1:=w1.setCell ⟨gD,3,none⟩ (.slice A5 dl.length c5)) ?hg ?ho ?hn ?hr ?_;(case ho=>rfl);(case hg=>rfl);(case hn=>rfl);(case hr=>(go_simp;done));intro wz hw;have hs:∀ j,j≠gD→wz.heap[j]? = w1.heap[j]?:=(by rw [hw];exact fun j hj=>Below.heap_setCell w1 ⟨gD,3,none⟩ _ j hj);have hbl:Below w.heap.size w wz:=(by rw [hw];exact below_set BL.out GD.out);have hG:wz.heap[gD]? = some (.cells #[.slice A0 o1.length c0,.slice A4 q.length c4,.slice A2 o3.length c2,.slice A5 dl.length c5,.int .i64 o5,.int .i64 o6] 28 (0,0)):=(by rw [hw];exact blk_put (cs:=#[.slice A0 o1.length c0,.slice A4 q.length c4,.slice A2 o3.length c2,.slice A3 o4.length c3,.int .i64 o5,.int .i64 o6]) BD.out 3 _ rfl);clear hw;replace Do:=zA (HasD.fill Do.out BD.out hs);replace BR:=zA ((hs gR RD.out).trans BR.out);clear BL BD;have BL:=zA hbl;have BD:=zA hG;clear hs hbl hG;obtain ⟨w1,hw1⟩:∃ x,x=wz:=⟨_,rfl⟩;subst hw1;replace iD:=blk6 BD.out;replace iR:=blk6 BR.out;replace zD:=z6of BD.out;replace zR:=z6of BR.out) | (go_at_call 66;refine (cleanS_calls k w _ BL.out Do.out HZ.out).mono ?_;rintro e w2 ⟨u0,u1,u2,u3,rfl,hD,hb,hk⟩;have BR2:=zA ((hk.2 gR (blk_lt BR.out) (Do.out.nobox BR.out (by decide) (by decide) (by decide))).trans BR.out);obtain ⟨B0,b0,B1,b1,B2,b2,B3,b3,rfl,rfl,rfl,rfl⟩:=has_slices hD;clear BR BL BD Do;have BR:=BR2;have BL:=zA hb;have Do:=zA hD;clear BR2 hD hb hk;clear iD zD;replace iR:=blk6 BR.out;replace zR:=z6of BR.out)))
  iterate 2 (refine bodyPost_ret (results_ct rfl _ _ gR 28 #[.slice A0 o1.length c0,.slice A1 o2.length c1,.slice A2 o3.length c2,.slice A3 o4.length c3,.int .i64 o5,.int .i64 o6] (0,0) _ rfl (fill6_at BR.out) Tryz.underlying28 rfl (by kernel_rfl)) rfl ?_;have hT:=filled_told (.int .i64 o5) (.int .i64 o6) Do.out BR.out;exact ⟨_,_,_,_,rfl,hT.1,hT.2.1,hT.2.2.1,hT.2.2.2,fill6_below BL.out GR.out⟩)
  refine bodyPost_ret (results_ct rfl _ _ gR 28 #[.slice B0 z1.length b0,.slice B1 z2.length b1,.slice B2 z3.length b2,.slice B3 z4.length b3,.int .i64 z5,.int .i64 z6] (0,0) _ rfl (fill6_at BR.out) Tryz.underlying28 rfl (by kernel_rfl)) rfl ?_
  have hT:=filled_told (.int .i64 z5) (.int .i64 z6) Do.out BR.out
  exact ⟨_,_,_,_,rfl,hT.1,hT.2.1,hT.2.2.1,hT.2.2.2,fill6_below BL.out GR.out⟩
def spec_SyncFile.f (k:Nat) (aa:List S45) (ab:List S47) (ad:List S47) (ae:List ByteArray) (af:Int) (ag:Int) (a1:ByteArray):Option (List (S45)×List (S47)×List (S47)×List ByteArray×Int×Int×Int):=(spec_l05Copy.f aa ab ad ae af ag).bind fun o=>(spec_DiskOk.f k o.1 o.2.1 o.2.2.1 o.2.2.2.1 o.2.2.2.2.1 o.2.2.2.2.2).bind fun b=>if b=true then (spec_l06Has.f k o.2.1 a1).bind fun hh=>if hh=true then (spec_EntryAt.f k o.2.1 a1).bind fun id=>(spec_l05Node.f k o.1 o.2.1 o.2.2.1 o.2.2.2.1 o.2.2.2.2.1 o.2.2.2.2.2 id).bind fun n=>if 0≤n∧n<(o.1.length:Int) then some (o.1.set n.toNat ⟨(rd_T45 o.1 n).f0,(rd_T45 o.1 n).f1,((rd_T45 o.1 n).f1.size:Int)⟩,o.2.1,o.2.2.1,o.2.2.2.1,o.2.2.2.2.1,o.2.2.2.2.2,0) else none else some (o.1,o.2.1,o.2.2.1,o.2.2.2.1,o.2.2.2.2.1,o.2.2.2.2.2,3) else some (o.1,o.2.1,o.2.2.1,o.2.2.2.1,o.2.2.2.2.1,o.2.2.2.2.2,3)
theorem spec_SyncFile.mono:∀ aa ab ad ae af ag a1 k,LeO (spec_SyncFile.f k aa ab ad ae af ag a1) (spec_SyncFile.f (k+1) aa ab ad ae af ag a1):=by
  intro aa ab ad ae af ag a1 k
  unfold spec_SyncFile.f
  repeat' first | (with_reducible exact LeO.refl _) | (with_reducible exact spec_l06Has.mono _ _ _) | (with_reducible exact spec_EntryAt.mono _ _ _) | (with_reducible exact spec_l05Node.mono _ _ _ _ _ _ _ _) | (with_reducible exact spec_DiskOk.mono _ _ _ _ _ _ _) | (with_reducible refine LeO.ite ?_ ?_) | (with_reducible refine LeO.bind ?_ (fun _=>?_))
theorem spec_SyncFile.calls (k:Nat) (ao:Option Addr) (aq:Nat) (aa:List (S45)) (ar:Option Addr) (au:Nat) (ab:List (S47)) (av:Option Addr) (aw:Nat) (ad:List (S47)) (ax:Option Addr) (ay:Nat) (ae:List ByteArray) (az:Int) (aA:Int) (a1:ByteArray) (r1:List S45) (r2:List S47) (r3:List S47) (r4:List ByteArray) (r5:Int) (r6:Int) (r7:Int) (w:World) (af:Kd.C k45 w ao aa.length aa) (ag:aa.length≤aq) (ah:Kd.C k47 w ar ab.length ab) (ai:ab.length≤au) (aj:Kd.C k47 w av ad.length ad) (ak:ad.length≤aw) (al:Kd.C Kd.string w ax ae.length ae) (an:ae.length≤ay) (h:spec_SyncFile.f k aa ab ad ae az aA a1=some (r1,r2,r3,r4,r5,r6,r7)) :
    Calls Tryz.prog 105 #[.agg #[.slice ao aa.length aq,.slice ar ab.length au,.slice av ad.length aw,.slice ax ae.length ay,.int .i64 az,.int .i64 aA],.string a1] w fun e w'=>∃ v0_ v1_ v2_ v3_:Value,e=.returned (.tuple #[.agg #[v0_,v1_,v2_,v3_,.int .i64 r5,.int .i64 r6],.int .i64 r7])∧Kd.R k45 45 w' w.heap.size (fun _=>True) v0_ r1∧Kd.R k47 47 w' w.heap.size (fun k_=>some k_≠(v2_:Value).ownBlock) v1_ r2∧Kd.R k47 47 w' w.heap.size (fun k_=>some k_≠(v1_:Value).ownBlock) v2_ r3∧Kd.R Kd.string 9 w' w.heap.size (fun _=>True) v3_ r4∧Below w.heap.size w w':=by
  unfold spec_SyncFile.f at h
  replace h:=zo h
  obtain ⟨⟨o1,o2,o3,o4,o5,o6⟩,ho,h⟩:=h
  replace h:=zo h
  obtain ⟨b,hbk,h⟩:=h
  dsimp only at h
  have CC:=zA (fun (w1:World) (hb:Below w.heap.size w w1)=>spec_l05Copy.calls ao aq aa ar au ab av aw ad ax ay ae az aA o1 o2 o3 o4 o5 o6 w1 (Kd.C_below af hb) ag (Kd.C_below ah hb) ai (Kd.C_below aj hb) ak (Kd.C_below al hb) an ho)
  have CD:=zA (fun (w1:World) (A0:Option Addr) (c0:Nat) (A1:Option Addr) (c1:Nat) (A2:Option Addr) (c2:Nat) (A3:Option Addr) (c3:Nat) (h:HasD w1 w.heap.size (.slice A0 o1.length c0) (.slice A1 o2.length c1) (.slice A2 o3.length c2) (.slice A3 o4.length c3) o1 o2 o3 o4)=>spec_DiskOk.calls k A0 c0 o1 A1 c1 o2 A2 c2 o3 A3 c3 o4 o5 o6 b w1 (Kd.R_reads' h.r0).2.2 (Kd.R_reads' h.r0).2.1 (Kd.R_reads' h.r1).2.2 (Kd.R_reads' h.r1).2.1 (Kd.R_reads' h.r2).2.2 (Kd.R_reads' h.r2).2.1 (Kd.R_reads' h.r3).2.2 (Kd.R_reads' h.r3).2.1 hbk)
  cases b
  (rw [if_neg (by decide)] at h;simp only [Option.some.injEq,Prod.mk.injEq] at h;obtain ⟨rfl,rfl,rfl,rfl,rfl,rfl,rfl⟩:=h;clear ho hbk af ag ah ai aj ak al an)
  (rotate_left 1;(rw [if_pos rfl] at h;replace h:=zo h;obtain ⟨hh,hhh,h⟩:=h;have CH:=zA (fun (w1:World) (A0:Option Addr) (c0:Nat) (A1:Option Addr) (c1:Nat) (A2:Option Addr) (c2:Nat) (A3:Option Addr) (c3:Nat) (h:HasD w1 w.heap.size (.slice A0 o1.length c0) (.slice A1 o2.length c1) (.slice A2 o3.length c2) (.slice A3 o4.length c3) o1 o2 o3 o4)=>spec_l06Has.calls k A1 c1 o2 a1 hh w1 (Kd.R_reads' h.r1).2.2 (Kd.R_reads' h.r1).2.1 hhh);cases hh);rotate_right 1)
  (rotate_left 1;(rw [if_neg (by decide)] at h;simp only [Option.some.injEq,Prod.mk.injEq] at h;obtain ⟨rfl,rfl,rfl,rfl,rfl,rfl,rfl⟩:=h;clear ho hbk hhh af ag ah ai aj ak al an);rotate_right 1)
  (rotate_left 2;(rw [if_pos rfl] at h;replace h:=zo h;obtain ⟨id,hid,h⟩:=h;replace h:=zo h;obtain ⟨n,hn,h⟩:=h;by_cases hl:0≤n∧n<(o1.length:Int));rotate_right 2)
  (rotate_left 3;(rw [if_neg hl] at h;cases h);rotate_right 3)
  (rotate_left 2;(rw [if_pos hl] at h;obtain ⟨hl0,hl1⟩:=hl;have HID:=zA hid;have HN:=zA hn;clear hid hn;obtain ⟨kk,rfl⟩:∃ kk:Nat,n=(kk:Int):=⟨n.toNat,(by omega)⟩;have hkl:kk<o1.length:=(by omega);rw [Int.toNat_natCast] at h;obtain ⟨x,hx⟩:∃ x,o1[kk]? = some x:=⟨_,List.getElem?_eq_getElem hkl⟩;rw [show rd_T45 o1 (kk:Int)=x by unfold rd_T45;rw [Int.toNat_natCast,List.getD_eq_getElem?_getD,hx];rfl] at h;have HX:=zA hx;clear hx hkl;simp only [Option.some.injEq,Prod.mk.injEq] at h;obtain ⟨rfl,rfl,rfl,rfl,rfl,rfl,rfl⟩:=h;clear ho hbk hhh af ag ah ai aj ak al an);rotate_right 2)
  all_goals (go_enter Tryz.func105,Tryz.ntmps105;go_wp2_with (first | ((with_reducible refine gate_dst (N:=2) rfl ?_);refine box_event ?hg (N:=2) ?hd (cs:=#[.slice ao aa.length aq,.slice ar ab.length au,.slice av ad.length aw,.slice ax ae.length ay,.int .i64 az,.int .i64 aA]) (t:=28) ?hr ?_;(case hd=>rfl);(case hg=>rfl);(case hr=>(go_simp;done));intro gD hg w1 hbox hb;have GD:=zA (Nat.le_of_eq hg.symm);have BL:=zA hb;have BD:=zA hbox;clear hb;replace iD:=blk6 BD.out;replace zD:=z6of BD.out;clear hg hbox) | ((with_reducible refine gate_dst (N:=4) rfl ?_);refine box_event ?hg (N:=4) ?hd (cs:=#[.slice none 0 0,.slice none 0 0,.slice none 0 0,.slice none 0 0,.int .i64 0,.int .i64 0]) (t:=28) ?hr ?_;(case hd=>rfl);(case hg=>rfl);(case hr=>(go_simp;done));intro gR hg w1 hbox hb;have GR:=zA (show w.heap.size≤gR by rw [hg];exact BL.out.size);have RD:=zA (show gR≠gD by rw [hg];exact Nat.ne_of_gt (blk_lt BD.out));replace BL:=zs BL hb;(try replace BD:=zb BD hb);have BR:=zA hbox;clear hb;replace iD:=blk6 BD.out;replace iR:=blk6 BR.out;replace zD:=z6of BD.out;replace zR:=z6of BR.out;clear hg hbox) | (go_at_call 44;have hbs:=BL.out.size;(with_reducible refine (CC.out _ BL.out).mono ?_);rintro e w1 ⟨v0,v1,v2,v3,rfl,p0,p1,p2,p3,hb⟩;have hD:=HasD.of p0 p1 p2 p3;replace BL:=zs BL hb;(try replace BD:=zb BD hb);(try replace BR:=zb BR hb);have Do:=zA (hD.lower hbs);obtain ⟨A0,c0,rfl⟩:=Kd.R_slice p0;obtain ⟨A1,c1,rfl⟩:=Kd.R_slice p1;obtain ⟨A2,c2,rfl⟩:=Kd.R_slice p2;obtain ⟨A3,c3,rfl⟩:=Kd.R_slice p3;clear hD hb hbs p0 p1 p2 p3;replace iD:=blk6 BD.out;replace iR:=blk6 BR.out;replace zD:=z6of BD.out;replace zR:=z6of BR.out) | (go_at_call 11;refine fill6_calls BD.out (fun W hO hk hs=>?_);replace Do:=zA (HasD.fill Do.out BD.out hs);replace BR:=zA ((hs gR RD.out).trans BR.out);replace BL:=zA (hk BL.out GD.out);replace BD:=zA hO;clear hO hk hs;(with_reducible refine (CD.out _ _ _ _ _ _ _ _ _ Do.out).mono ?_);rintro e w1 ⟨rfl,hb⟩;replace BL:=zs BL hb;(try replace BD:=zb BD hb);(try replace BR:=zb BR hb);(try replace Do:=zA (Do.out.on hb));clear hb;replace iD:=blk6 BD.out;replace iR:=blk6 BR.out;replace zD:=z6of BD.out;replace zR:=z6of BR.out) | (go_at_call 45;(with_reducible refine (CH.out _ _ _ _ _ _ _ _ _ Do.out).mono ?_);rintro e wq ⟨rfl,hq⟩;have hb:Below w1.heap.size w1 wq:=(by obtain ⟨nd,hnd⟩:=hq;rw [hnd];exact pw_below_drewN (Below.refl _ _) nd);clear hq;replace BL:=zs BL hb;(try replace BD:=zb BD hb);(try replace BR:=zb BR hb);(try replace Do:=zA (Do.out.on hb));clear hb;obtain ⟨w1,hw1⟩:∃ x,x=wq:=⟨_,rfl⟩;subst hw1;replace iD:=blk6 BD.out;replace iR:=blk6 BR.out;replace zD:=z6of BD.out;replace zR:=z6of BR.out)))
  iterate 2 (refine bodyPost_ret (results_ct rfl _ _ gR 28 #[.slice A0 o1.length c0,.slice A1 o2.length c1,.slice A2 o3.length c2,.slice A3 o4.length c3,.int .i64 o5,.int .i64 o6] (0,0) _ rfl (fill6_at BR.out) Tryz.underlying28 rfl (by kernel_rfl)) rfl ?_;have hT:=filled_told (.int .i64 o5) (.int .i64 o6) Do.out BR.out;exact ⟨_,_,_,_,rfl,hT.1,hT.2.1,hT.2.2.1,hT.2.2.2,fill6_below BL.out GR.out⟩)
  have BN:=zA (Below.refl w1.heap.size w1)
  have CI:=zA (fun (W:World) (hb:Below w1.heap.size w1 W)=>((spec_EntryAt.calls k A1 c1 o2 a1 id W (Kd.R_reads' (Do.out.on hb).r1).2.2 (Kd.R_reads' (Do.out.on hb).r1).2.1 HID.out).mono (fun e w' q=>⟨q.1,by obtain ⟨nd,hnd⟩:=q.2;rw [hnd];exact pw_below_drewN (Below.refl _ _) nd⟩):Calls Tryz.prog 47 _ W fun e w'=>e=.returned (.int .i64 id)∧Below W.heap.size W w'))
  have CN:=zA (fun (W:World) (hb:Below w1.heap.size w1 W)=>spec_l05Node.calls k A0 c0 o1 A1 c1 o2 A2 c2 o3 A3 c3 o4 o5 o6 id (kk:Int) W (Kd.R_reads' (Do.out.on hb).r0).2.2 (Kd.R_reads' (Do.out.on hb).r0).2.1 (Kd.R_reads' (Do.out.on hb).r1).2.2 (Kd.R_reads' (Do.out.on hb).r1).2.1 (Kd.R_reads' (Do.out.on hb).r2).2.2 (Kd.R_reads' (Do.out.on hb).r2).2.1 (Kd.R_reads' (Do.out.on hb).r3).2.2 (Kd.R_reads' (Do.out.on hb).r3).2.1 HN.out)
  have aB:∀ p_:LaidBy w1,p_.W.cell? ⟨gD,0,none⟩=some (.slice A0 o1.length c0):=fun p_=>p_.cell (iD.1)
  have aC:∀ p_:LaidBy w1,p_.W.cell? ⟨gD,1,none⟩=some (.slice A1 o2.length c1):=fun p_=>p_.cell (iD.2.1)
  have aD:∀ p_:LaidBy w1,p_.W.cell? ⟨gD,2,none⟩=some (.slice A2 o3.length c2):=fun p_=>p_.cell (iD.2.2.1)
  have aE:∀ p_:LaidBy w1,p_.W.cell? ⟨gD,3,none⟩=some (.slice A3 o4.length c3):=fun p_=>p_.cell (iD.2.2.2.1)
  have aF:∀ p_:LaidBy w1,p_.W.cell? ⟨gD,4,none⟩=some (.int .i64 o5):=fun p_=>p_.cell (iD.2.2.2.2.1)
  have aG:∀ p_:LaidBy w1,p_.W.cell? ⟨gD,5,none⟩=some (.int .i64 o6):=fun p_=>p_.cell (iD.2.2.2.2.2)
  refine wp_region_laid (by kernel_rfl) (by kernel_rfl) ?_
  repeat (go_big_quiet_step (first | (go_at_call 47;with_reducible exact laid_of _ (CI.out _ (LaidBy.below _ BN.out))) | (go_at_call 46;with_reducible exact laid_of _ (CN.out _ (LaidBy.below _ BN.out)))))
  refine wpQuiet_nil ?_
  rintro w9 ⟨p_,hp_⟩
  have hq_:Below w1.heap.size w1 w9:=hp_▸p_.ok
  clear hp_ p_ aB aC aD aE aF aG
  have hb:=hq_
  clear BN CI CN
  replace BL:=zs BL hb;(try replace BD:=zb BD hb);(try replace BR:=zb BR hb);(try replace Do:=zA (Do.out.on hb))
  clear hb hq_
  go_wp2_with fail
  (try clear iD iR zD zR)
  have hb:=below_drew (Below.refl w9.heap.size w9)
  replace BL:=zs BL hb;(try replace BD:=zb BD hb);(try replace BR:=zb BR hb);(try replace Do:=zA (Do.out.on hb))
  clear hb
  obtain ⟨gN,row,rfl,hbg,hg,_,c1',c2',hfr,hs1,hs2⟩:=cutRow Do.out kk x HX.out
  have hf1:=hfr (kk*3+1)
  have hf2:=hfr (kk*3+2)
  have hneD:gD≠gN:=fun e=>Do.out.nobox BD.out (by decide) (by decide) (by decide) (.inl (by rw [e];rfl))
  have hneR:gR≠gN:=fun e=>Do.out.nobox BR.out (by decide) (by decide) (by decide) (.inl (by rw [e];rfl))
  have HS1:=zA hs1
  have HS2:=zA hs2
  have HBG:=zA hbg
  have HND:=zA hneD
  have HNR:=zA hneR
  clear hs1 hs2 hg hneD hneR hbg hfr
  refine start_ (n:=13) (S:=fun w'=>w'.cell? ⟨gD,0,none⟩=some (.slice (some ⟨gN,0,none⟩) o1.length c0)∧w'.cell? ⟨gN,kk*3+1,none⟩=some (.string x.f1)) (ds:=[12]) (marks 13 0) (by kernel_rfl) rfl rfl ⟨(blk_cell BD.out 0).trans rfl,c1'⟩ (fun hHeld=>?_)
  generalize w9.drew=w10 at BL BD BR Do HS1 HS2 hf1 hf2 c1' c2' hHeld ⊢
  refine pure_ (i:=0) (N:=some 26) (v:=?_) (a':=?_) (marks 13 1) rfl rfl (by kernel_rfl) (fun _ _ _ h=>h) (Or.inl ⟨by rfl,?_⟩) ?_ ?_
  rotate_left
  · intro w'
    go_simp
    with_reducible rfl
  rotate_left
  · simp only [Act.put,yA,yB,yC,i64_w,i32_w]
    rfl
  refine pure_ (i:=2) (N:=some 28) (v:=?_) (a':=?_) (marks 13 5) rfl rfl (by kernel_rfl) (fun _ _ _ h=>h) (Or.inl ⟨by rfl,?_⟩) ?_ ?_
  rotate_left
  · intro w'
    go_simp
    with_reducible rfl
  rotate_left
  · simp only [Act.put,yA,yB,yC,i64_w,i32_w]
    rfl
  refine pure_ (i:=3) (N:=some 29) (v:=?_) (a':=?_) (marks 13 13) rfl rfl (by kernel_rfl) (fun _ _ _ h=>h) (Or.inl ⟨by rfl,?_⟩) ?_ ?_
  rotate_left
  · intro w'
    go_simp
    with_reducible rfl
  rotate_left
  · simp only [Act.put,yA,yB,yC,i64_w,i32_w]
    rfl
  refine pure_ (i:=5) (N:=some 31) (v:=?_) (a':=?_) (marks 13 45) rfl rfl (by kernel_rfl) (fun _ _ _ h=>h) (Or.inl ⟨by rfl,?_⟩) ?_ ?_
  rotate_left
  · intro w'
    go_simp
    with_reducible rfl
  rotate_left
  · simp only [Act.put,yA,yB,yC,i64_w,i32_w]
    rfl
  refine take_ (i:=1) (N:=some 27) (v:=?_) (a':=?_) (marks 13 47) rfl rfl (by kernel_rfl) (fun _ _ _ h=>h) (Or.inl ⟨by rfl,?_⟩) hHeld ?_ ?_
  rotate_left
  · rintro w' ⟨s0,s1⟩
    go_simp
    with_reducible rfl
  rotate_left
  · simp only [Act.put,yA,yB,yC,i64_w,i32_w]
    rfl
  refine take_ (i:=4) (N:=some 30) (v:=?_) (a':=?_) (marks 13 63) rfl rfl (by kernel_rfl) (fun _ _ _ h=>h) (Or.inl ⟨by rfl,?_⟩) hHeld ?_ ?_
  rotate_left
  · rintro w' ⟨s0,s1⟩
    go_simp
    with_reducible rfl
  rotate_left
  · simp only [Act.put,yA,yB,yC,i64_w,i32_w]
    rfl
  refine pure_ (i:=6) (N:=some 32) (v:=?_) (a':=?_) (marks 13 127) rfl rfl (by kernel_rfl) (fun _ _ _ h=>h) (Or.inl ⟨by rfl,?_⟩) ?_ ?_
  rotate_left
  · intro w'
    go_simp
    with_reducible rfl
  rotate_left
  · simp only [Act.put,yA,yB,yC,i64_w,i32_w]
    rfl
  refine pure_ (i:=7) (N:=some 33) (v:=?_) (a':=?_) (marks 13 255) rfl rfl (by kernel_rfl) (fun _ _ _ h=>h) (Or.inl ⟨by rfl,?_⟩) ?_ ?_
  rotate_left
  · intro w'
    go_simp
    with_reducible rfl
  rotate_left
  · simp only [Act.put,yA,yB,yC,i64_w,i32_w]
    rfl
  refine take_ (i:=8) (N:=some 34) (v:=?_) (a':=?_) (marks 13 511) rfl rfl (by kernel_rfl) (fun _ _ _ h=>h) (Or.inl ⟨by rfl,?_⟩) hHeld ?_ ?_
  rotate_left
  · rintro w' ⟨s0,s1⟩
    go_simp
    with_reducible rfl
  rotate_left
  · simp only [Act.put,yA,yB,yC,i64_w,i32_w]
    rfl
  refine pure_ (i:=9) (N:=some 35) (v:=?_) (a':=?_) (marks 13 1023) rfl rfl (by kernel_rfl) (fun _ _ _ h=>h) (Or.inl ⟨by rfl,?_⟩) ?_ ?_
  rotate_left
  · intro w'
    go_simp
    with_reducible rfl
  rotate_left
  · simp only [Act.put,yA,yB,yC,i64_w,i32_w]
    rfl
  refine pure_ (i:=10) (N:=some 36) (v:=?_) (a':=?_) (marks 13 2047) rfl rfl (by kernel_rfl) (fun _ _ _ h=>h) (Or.inl ⟨by rfl,?_⟩) ?_ ?_
  rotate_left
  · intro w'
    go_simp
    with_reducible rfl
  rotate_left
  · simp only [Act.put,yA,yB,yC,i64_w,i32_w]
    rfl
  refine pure_ (i:=11) (N:=some 37) (v:=?_) (a':=?_) (marks 13 4095) rfl rfl (by kernel_rfl) (fun _ _ _ h=>h) (Or.inl ⟨by rfl,?_⟩) ?_ ?_
  rotate_left
  · intro w'
    go_simp
    with_reducible rfl
  rotate_left
  · simp only [Act.put,yA,yB,yC,i64_w,i32_w]
    rfl
  refine last_ (i:=12) (N:=none) (marks 13 8191) rfl rfl (by kernel_rfl) (by decide) (fun K hK=>?_)
  refine skip_ (w1:=?_) (by rfl) rfl ?_ ?_
  rotate_left
  · go_simp
    rfl
  refine hK.out _ _ ?_
  clear hK K hHeld
  refine done_ (by kernel_rfl) ?_
  have b1:Below w.heap.size w (w10.setCell ⟨gN,kk*3+2,none⟩ (.int .i64 (x.f1.size:Int))):=below_set BL.out HBG.out
  have b2:(w10.setCell ⟨gN,kk*3+2,none⟩ (.int .i64 (x.f1.size:Int))).heap[gD]? = some (.cells #[.slice (some ⟨gN,0,none⟩) o1.length c0,.slice A1 o2.length c1,.slice A2 o3.length c2,.slice A3 o4.length c3,.int .i64 o5,.int .i64 o6] 28 (0,0)):=blk_far BD.out HND.out _
  have b3:(w10.setCell ⟨gN,kk*3+2,none⟩ (.int .i64 (x.f1.size:Int))).heap[gR]? = some (.cells #[.slice none 0 0,.slice none 0 0,.slice none 0 0,.slice none 0 0,.int .i64 0,.int .i64 0] 28 (0,0)):=blk_far BR.out HNR.out _
  have b4:=HS2.out (x.f1.size:Int)
  clear BL BD BR Do HS1 HS2 hf1 hf2 c1' c2'
  generalize (w10.setCell ⟨gN,kk*3+2,none⟩ (.int .i64 (x.f1.size:Int)))=w11 at b1 b2 b3 b4 ⊢
  have BL:=zA b1
  have BD:=zA b2
  have BR:=zA b3
  have Do:=zA b4
  clear b1 b2 b3 b4
  replace iD:=blk6 BD.out;replace iR:=blk6 BR.out;replace zD:=z6of BD.out;replace zR:=z6of BR.out
  go_wp2_with fail
  refine bodyPost_ret (results_ct rfl _ _ gR 28 #[.slice (some ⟨gN,0,none⟩) o1.length c0,.slice A1 o2.length c1,.slice A2 o3.length c2,.slice A3 o4.length c3,.int .i64 o5,.int .i64 o6] (0,0) _ rfl (fill6_at BR.out) Tryz.underlying28 rfl (by kernel_rfl)) rfl ?_
  have hT:=filled_told (.int .i64 o5) (.int .i64 o6) Do.out BR.out
  exact ⟨_,_,_,_,rfl,hT.1,hT.2.1,hT.2.2.1,hT.2.2.2,fill6_below BL.out GR.out⟩
def spec_RenameFile.f (k:Nat) (aa:List S45) (ab:List S47) (ad:List S47) (ae:List ByteArray) (af:Int) (ag:Int) (a1 a2:ByteArray):Option (List (S45)×List (S47)×List (S47)×List ByteArray×Int×Int×Int):=(spec_l05Copy.f aa ab ad ae af ag).bind fun o=>(spec_DiskOk.f k o.1 o.2.1 o.2.2.1 o.2.2.2.1 o.2.2.2.2.1 o.2.2.2.2.2).bind fun b=>if b=true then (spec_l06Has.f k o.2.1 a1).bind fun hh=>if hh=true then (spec_NameOk.f k a2).bind fun n=>if n=true then (if (a1.toList == a2.toList)=true then some (o.1,o.2.1,o.2.2.1,o.2.2.2.1,o.2.2.2.2.1,o.2.2.2.2.2,1) else (spec_EntryAt.f k o.2.1 a1).bind fun id=>(spec_l06Drop.f k o.2.1 a1).bind fun q=>(spec_l06Put.f k q a2 id).bind fun u=>if (a1.size≤70368744177664∧a2.size≤70368744177664)∧(o.2.2.2.1.length+1)*16≤140737488355328 then (spec_l06Clean.f k o.1 u o.2.2.1 (o.2.2.2.1++[(((⟨#[62]⟩:ByteArray)++a1++⟨#[58]⟩)++a2)]) o.2.2.2.2.1 o.2.2.2.2.2).bind fun z=>some (z.1,z.2.1,z.2.2.1,z.2.2.2.1,z.2.2.2.2.1,z.2.2.2.2.2,0) else none) else some (o.1,o.2.1,o.2.2.1,o.2.2.2.1,o.2.2.2.2.1,o.2.2.2.2.2,1) else some (o.1,o.2.1,o.2.2.1,o.2.2.2.1,o.2.2.2.2.1,o.2.2.2.2.2,3) else some (o.1,o.2.1,o.2.2.1,o.2.2.2.1,o.2.2.2.2.1,o.2.2.2.2.2,3)
theorem spec_RenameFile.mono:∀ aa ab ad ae af ag a1 a2 k,LeO (spec_RenameFile.f k aa ab ad ae af ag a1 a2) (spec_RenameFile.f (k+1) aa ab ad ae af ag a1 a2):=by
  intro aa ab ad ae af ag a1 a2 k
  unfold spec_RenameFile.f
  repeat' first | (with_reducible exact LeO.refl _) | (with_reducible exact spec_l06Has.mono _ _ _) | (with_reducible exact spec_NameOk.mono _ _) | (with_reducible exact spec_EntryAt.mono _ _ _) | (with_reducible exact spec_l06Drop.mono _ _ _) | (with_reducible exact spec_l06Put.mono _ _ _ _) | (with_reducible exact spec_l06Clean.mono _ _ _ _ _ _ _) | (with_reducible exact spec_DiskOk.mono _ _ _ _ _ _ _) | (with_reducible refine LeO.ite ?_ ?_) | (with_reducible refine LeO.bind ?_ (fun _=>?_))
theorem spec_RenameFile.calls (k:Nat) (ao:Option Addr) (aq:Nat) (aj:List (S45)) (ar:Option Addr) (au:Nat) (ak:List (S47)) (av:Option Addr) (aw:Nat) (al:List (S47)) (ax:Option Addr) (ay:Nat) (an:List ByteArray) (az:Int) (aA:Int) (a1 a2:ByteArray) (r1:List S45) (r2:List S47) (r3:List S47) (r4:List ByteArray) (r5:Int) (r6:Int) (r7:Int) (w:World) (aa:Kd.C k45 w ao aj.length aj) (ab:aj.length≤aq) (ad:Kd.C k47 w ar ak.length ak) (ae:ak.length≤au) (af:Kd.C k47 w av al.length al) (ag:al.length≤aw) (ah:Kd.C Kd.string w ax an.length an) (ai:an.length≤ay) (h:spec_RenameFile.f k aj ak al an az aA a1 a2=some (r1,r2,r3,r4,r5,r6,r7)) :
    Calls Tryz.prog 106 #[.agg #[.slice ao aj.length aq,.slice ar ak.length au,.slice av al.length aw,.slice ax an.length ay,.int .i64 az,.int .i64 aA],.string a1,.string a2] w fun e w'=>∃ v0_ v1_ v2_ v3_:Value,e=.returned (.tuple #[.agg #[v0_,v1_,v2_,v3_,.int .i64 r5,.int .i64 r6],.int .i64 r7])∧Kd.R k45 45 w' w.heap.size (fun _=>True) v0_ r1∧Kd.R k47 47 w' w.heap.size (fun k_=>some k_≠(v2_:Value).ownBlock) v1_ r2∧Kd.R k47 47 w' w.heap.size (fun k_=>some k_≠(v1_:Value).ownBlock) v2_ r3∧Kd.R Kd.string 9 w' w.heap.size (fun _=>True) v3_ r4∧Below w.heap.size w w':=by
  unfold spec_RenameFile.f at h
  replace h:=zo h
  obtain ⟨⟨o1,o2,o3,o4,o5,o6⟩,ho,h⟩:=h
  replace h:=zo h
  obtain ⟨b,hbk,h⟩:=h
  dsimp only at h
  have CC:=zA (fun (w1:World) (hb:Below w.heap.size w w1)=>spec_l05Copy.calls ao aq aj ar au ak av aw al ax ay an az aA o1 o2 o3 o4 o5 o6 w1 (Kd.C_below aa hb) ab (Kd.C_below ad hb) ae (Kd.C_below af hb) ag (Kd.C_below ah hb) ai ho)
  have CD:=zA (fun (w1:World) (A0:Option Addr) (c0:Nat) (A1:Option Addr) (c1:Nat) (A2:Option Addr) (c2:Nat) (A3:Option Addr) (c3:Nat) (h:HasD w1 w.heap.size (.slice A0 o1.length c0) (.slice A1 o2.length c1) (.slice A2 o3.length c2) (.slice A3 o4.length c3) o1 o2 o3 o4)=>spec_DiskOk.calls k A0 c0 o1 A1 c1 o2 A2 c2 o3 A3 c3 o4 o5 o6 b w1 (Kd.R_reads' h.r0).2.2 (Kd.R_reads' h.r0).2.1 (Kd.R_reads' h.r1).2.2 (Kd.R_reads' h.r1).2.1 (Kd.R_reads' h.r2).2.2 (Kd.R_reads' h.r2).2.1 (Kd.R_reads' h.r3).2.2 (Kd.R_reads' h.r3).2.1 hbk)
  cases b
  (rw [if_neg (by decide)] at h;simp only [Option.some.injEq,Prod.mk.injEq] at h;obtain ⟨rfl,rfl,rfl,rfl,rfl,rfl,rfl⟩:=h;clear ho hbk aa ab ad ae af ag ah ai)
  (rotate_left 1;(rw [if_pos rfl] at h;replace h:=zo h;obtain ⟨hh,hhh,h⟩:=h;have CH:=zA (fun (w1:World) (A0:Option Addr) (c0:Nat) (A1:Option Addr) (c1:Nat) (A2:Option Addr) (c2:Nat) (A3:Option Addr) (c3:Nat) (h:HasD w1 w.heap.size (.slice A0 o1.length c0) (.slice A1 o2.length c1) (.slice A2 o3.length c2) (.slice A3 o4.length c3) o1 o2 o3 o4)=>spec_l06Has.calls k A1 c1 o2 a1 hh w1 (Kd.R_reads' h.r1).2.2 (Kd.R_reads' h.r1).2.1 hhh);cases hh);rotate_right 1)
  (rotate_left 1;(rw [if_neg (by decide)] at h;simp only [Option.some.injEq,Prod.mk.injEq] at h;obtain ⟨rfl,rfl,rfl,rfl,rfl,rfl,rfl⟩:=h;clear ho hbk hhh aa ab ad ae af ag ah ai);rotate_right 1)
  (rotate_left 2;(rw [if_pos rfl] at h;replace h:=zo h;obtain ⟨n,hn,h⟩:=h;have CN:=zA (fun (w1:World)=>spec_NameOk.calls k a2 n w1 hn);cases n);rotate_right 2)
  (rotate_left 2;(rw [if_neg (by decide)] at h;simp only [Option.some.injEq,Prod.mk.injEq] at h;obtain ⟨rfl,rfl,rfl,rfl,rfl,rfl,rfl⟩:=h;clear ho hbk hhh hn aa ab ad ae af ag ah ai);rotate_right 2)
  (rotate_left 3;(rw [if_pos rfl] at h;cases hqq:(a1.toList == a2.toList));rotate_right 3)
  (rotate_left 4;(rw [hqq,if_pos rfl] at h;have hq2:a1.toList=a2.toList:=(by simpa using hqq);simp only [Option.some.injEq,Prod.mk.injEq] at h;obtain ⟨rfl,rfl,rfl,rfl,rfl,rfl,rfl⟩:=h;clear ho hbk hhh hn aa ab ad ae af ag ah ai);rotate_right 4)
  (rotate_left 3;(rw [hqq,if_neg (by decide)] at h;have hq2:¬ a1.toList=a2.toList:=(by simpa using hqq);replace h:=zo h;obtain ⟨id,hid,h⟩:=h;replace h:=zo h;obtain ⟨q,hq,h⟩:=h;replace h:=zo h;obtain ⟨u,hu,h⟩:=h;have CI:=zA (fun (w1:World) (A0:Option Addr) (c0:Nat) (A1:Option Addr) (c1:Nat) (A2:Option Addr) (c2:Nat) (A3:Option Addr) (c3:Nat) (h:HasD w1 w.heap.size (.slice A0 o1.length c0) (.slice A1 o2.length c1) (.slice A2 o3.length c2) (.slice A3 o4.length c3) o1 o2 o3 o4)=>spec_EntryAt.calls k A1 c1 o2 a1 id w1 (Kd.R_reads' h.r1).2.2 (Kd.R_reads' h.r1).2.1 hid);have CQ:=zA (fun (w1:World) (A0:Option Addr) (c0:Nat) (A1:Option Addr) (c1:Nat) (A2:Option Addr) (c2:Nat) (A3:Option Addr) (c3:Nat) (h:HasD w1 w.heap.size (.slice A0 o1.length c0) (.slice A1 o2.length c1) (.slice A2 o3.length c2) (.slice A3 o4.length c3) o1 o2 o3 o4)=>spec_l06Drop.calls k A1 c1 o2 a1 q w1 (Kd.R_reads' h.r1).2.2 (Kd.R_reads' h.r1).2.1 hq);have CU:=zA (fun (w1:World) (B:Nat) (p:Nat→Prop) (A4:Option Addr) (c4:Nat) (h:Kd.R k47 47 w1 B p (.slice A4 q.length c4) q)=>spec_l06Put.calls k A4 c4 q a2 id u w1 (Kd.R_reads' h).2.2 (Kd.R_reads' h).2.1 hu);by_cases hl:(a1.size≤70368744177664∧a2.size≤70368744177664)∧(o4.length+1)*16≤140737488355328);rotate_right 3)
  (rotate_left 4;(rw [if_neg hl] at h;cases h);rotate_right 4)
  (rotate_left 3;(rw [if_pos hl] at h;obtain ⟨⟨hz1,hz2⟩,hl⟩:=hl;have HL:=zA hl;clear ho hbk hhh hn hid hq hu hl aa ab ad ae af ag ah ai;generalize hdl:(o4++[(((⟨#[62]⟩:ByteArray)++a1++⟨#[58]⟩)++a2)])=dl at h;have HDL:=zA hdl;clear hdl;have hcat1:¬ 9223372036854775807<(⟨#[62]⟩:ByteArray).size+a1.size:=(by show ¬ 9223372036854775807<1+a1.size;omega);have hcat2:¬ 9223372036854775807<((⟨#[62]⟩:ByteArray)++a1).size+(⟨#[58]⟩:ByteArray).size:=(by rw [ByteArray.size_append];show ¬ 9223372036854775807<1+a1.size+1;omega);have hcat3:¬ 9223372036854775807<((⟨#[62]⟩:ByteArray)++a1++⟨#[58]⟩).size+a2.size:=(by rw [ByteArray.size_append,ByteArray.size_append];show ¬ 9223372036854775807<1+a1.size+1+a2.size;omega);replace h:=zo h;obtain ⟨⟨z1,z2,z3,z4,z5,z6⟩,hz,h⟩:=h;dsimp only at h;have HZ:=zA hz;clear hz;generalize hs:(((⟨#[62]⟩:ByteArray)++a1++⟨#[58]⟩)++a2)=s at HDL;simp only [Option.some.injEq,Prod.mk.injEq] at h;obtain ⟨rfl,rfl,rfl,rfl,rfl,rfl,rfl⟩:=h);rotate_right 3)
  all_goals (go_enter Tryz.func106,Tryz.ntmps106;go_wp2_with (first | ((with_reducible refine gate_dst (N:=3) rfl ?_);refine box_event ?hg (N:=3) ?hd (cs:=#[.slice ao aj.length aq,.slice ar ak.length au,.slice av al.length aw,.slice ax an.length ay,.int .i64 az,.int .i64 aA]) (t:=28) ?hr ?_;(case hd=>rfl);(case hg=>rfl);(case hr=>(go_simp;done));intro gD hg w1 hbox hb;have GD:=zA (Nat.le_of_eq hg.symm);have BL:=zA hb;have BD:=zA hbox;clear hb;replace iD:=blk6 BD.out;replace zD:=z6of BD.out;clear hg hbox) | ((with_reducible refine gate_dst (N:=6) rfl ?_);refine box_event ?hg (N:=6) ?hd (cs:=#[.slice none 0 0,.slice none 0 0,.slice none 0 0,.slice none 0 0,.int .i64 0,.int .i64 0]) (t:=28) ?hr ?_;(case hd=>rfl);(case hg=>rfl);(case hr=>(go_simp;done));intro gR hg w1 hbox hb;have GR:=zA (show w.heap.size≤gR by rw [hg];exact BL.out.size);have RD:=zA (show gR≠gD by rw [hg];exact Nat.ne_of_gt (blk_lt BD.out));replace BL:=zs BL hb;(try replace BD:=zb BD hb);have BR:=zA hbox;clear hb;replace iD:=blk6 BD.out;replace iR:=blk6 BR.out;replace zD:=z6of BD.out;replace zR:=z6of BR.out;clear hg hbox) | (go_at_call 44;have hbs:=BL.out.size;(with_reducible refine (CC.out _ BL.out).mono ?_);rintro e w1 ⟨v0,v1,v2,v3,rfl,p0,p1,p2,p3,hb⟩;have hD:=HasD.of p0 p1 p2 p3;replace BL:=zs BL hb;(try replace BD:=zb BD hb);(try replace BR:=zb BR hb);have Do:=zA (hD.lower hbs);obtain ⟨A0,c0,rfl⟩:=Kd.R_slice p0;obtain ⟨A1,c1,rfl⟩:=Kd.R_slice p1;obtain ⟨A2,c2,rfl⟩:=Kd.R_slice p2;obtain ⟨A3,c3,rfl⟩:=Kd.R_slice p3;clear hD hb hbs p0 p1 p2 p3;replace iD:=blk6 BD.out;replace iR:=blk6 BR.out;replace zD:=z6of BD.out;replace zR:=z6of BR.out) | (go_at_call 11;refine fill6_calls BD.out (fun W hO hk hs=>?_);replace Do:=zA (HasD.fill Do.out BD.out hs);replace BR:=zA ((hs gR RD.out).trans BR.out);replace BL:=zA (hk BL.out GD.out);replace BD:=zA hO;clear hO hk hs;(with_reducible refine (CD.out _ _ _ _ _ _ _ _ _ Do.out).mono ?_);rintro e w1 ⟨rfl,hb⟩;replace BL:=zs BL hb;(try replace BD:=zb BD hb);(try replace BR:=zb BR hb);(try replace Do:=zA (Do.out.on hb));clear hb;replace iD:=blk6 BD.out;replace iR:=blk6 BR.out;replace zD:=z6of BD.out;replace zR:=z6of BR.out) | (go_at_call 45;(with_reducible refine (CH.out _ _ _ _ _ _ _ _ _ Do.out).mono ?_);rintro e wq ⟨rfl,hq⟩;have hb:Below w1.heap.size w1 wq:=(by obtain ⟨nd,hnd⟩:=hq;rw [hnd];exact pw_below_drewN (Below.refl _ _) nd);clear hq;replace BL:=zs BL hb;(try replace BD:=zb BD hb);(try replace BR:=zb BR hb);(try replace Do:=zA (Do.out.on hb));clear hb;obtain ⟨w1,hw1⟩:∃ x,x=wq:=⟨_,rfl⟩;subst hw1;replace iD:=blk6 BD.out;replace iR:=blk6 BR.out;replace zD:=z6of BD.out;replace zR:=z6of BR.out) | (go_at_call 91;(with_reducible refine (CN.out _).mono ?_);rintro e wq ⟨rfl,hq⟩;have hb:Below w1.heap.size w1 wq:=(by obtain ⟨nd,hnd⟩:=hq;rw [hnd];exact pw_below_drewN (Below.refl _ _) nd);clear hq;replace BL:=zs BL hb;(try replace BD:=zb BD hb);(try replace BR:=zb BR hb);(try replace Do:=zA (Do.out.on hb));clear hb;obtain ⟨w1,hw1⟩:∃ x,x=wq:=⟨_,rfl⟩;subst hw1;replace iD:=blk6 BD.out;replace iR:=blk6 BR.out;replace zD:=z6of BD.out;replace zR:=z6of BR.out) | (go_at_call 47;(with_reducible refine (CI.out _ _ _ _ _ _ _ _ _ Do.out).mono ?_);rintro e wq ⟨rfl,hq⟩;have hb:Below w1.heap.size w1 wq:=(by obtain ⟨nd,hnd⟩:=hq;rw [hnd];exact pw_below_drewN (Below.refl _ _) nd);clear hq;replace BL:=zs BL hb;(try replace BD:=zb BD hb);(try replace BR:=zb BR hb);(try replace Do:=zA (Do.out.on hb));clear hb;obtain ⟨w1,hw1⟩:∃ x,x=wq:=⟨_,rfl⟩;subst hw1;replace iD:=blk6 BD.out;replace iR:=blk6 BR.out;replace zD:=z6of BD.out;replace zR:=z6of BR.out) | (go_at_call 92;have LW:=BL.out.size;(with_reducible refine (CQ.out _ _ _ _ _ _ _ _ _ Do.out).mono ?_);rintro e w1 ⟨v4,rfl,hR4,hb⟩;obtain ⟨A4,c4,rfl⟩:=Kd.R_slice hR4;have R4:=zA hR4;replace BL:=zs BL hb;(try replace BD:=zb BD hb);(try replace BR:=zb BR hb);(try replace Do:=zA (Do.out.on hb));clear hR4 hb LW;replace iD:=blk6 BD.out;replace iR:=blk6 BR.out;replace zD:=z6of BD.out;replace zR:=z6of BR.out) | (go_at_call 93;have LW:=BL.out.size;(with_reducible refine (CU.out _ _ _ _ _ R4.out).mono ?_);rintro e w1 ⟨v4,rfl,hR4,hb⟩;obtain ⟨A6,c6,rfl⟩:=Kd.R_slice hR4;replace Do:=zA (has_r1 Do.out hb LW hR4);replace BL:=zs BL hb;(try replace BD:=zb BD hb);(try replace BR:=zb BR hb);clear hR4 hb LW;replace iD:=blk6 BD.out;replace iR:=blk6 BR.out;replace zD:=z6of BD.out;replace zR:=z6of BR.out) | ((with_reducible refine gate_store (t:=25) (p:=43) rfl ?_);refine store_event (t:=25) (p:=43) (v:=?vo43) (w1:=w1.setCell ⟨gD,1,none⟩ (.slice A6 u.length c6)) ?hg ?ho ?hn ?hr ?_;(case ho=>rfl);(case hg=>rfl);(case hn=>rfl);(case hr=>(go_simp;done));intro wz hw;have hs:∀ j,j≠gD→wz.heap[j]? = w1.heap[j]?:=(by rw [hw];exact fun j hj=>Below.heap_setCell w1 ⟨gD,1,none⟩ _ j hj);have hbl:Below w.heap.size w wz:=(by rw [hw];exact below_set BL.out GD.out);have hG:wz.heap[gD]? = some (.cells #[.slice A0 o1.length c0,.slice A6 u.length c6,.slice A2 o3.length c2,.slice A3 o4.length c3,.int .i64 o5,.int .i64 o6] 28 (0,0)):=(by rw [hw];exact blk_put (cs:=#[.slice A0 o1.length c0,.slice A1 o2.length c1,.slice A2 o3.length c2,.slice A3 o4.length c3,.int .i64 o5,.int .i64 o6]) BD.out 1 _ rfl);clear hw;replace Do:=zA (HasD.fill Do.out BD.out hs);replace BR:=zA ((hs gR RD.out).trans BR.out);clear BL BD;have BL:=zA hbl;have BD:=zA hG;clear hs hbl hG;obtain ⟨w1,hw1⟩:∃ x,x=wz:=⟨_,rfl⟩;subst hw1;replace iD:=blk6 BD.out;replace iR:=blk6 BR.out;replace zD:=z6of BD.out;replace zR:=z6of BR.out) | (at_builtin;refine Kd.R_append Kd.string (w0:=w) w.heap.size rfl (.tmp 45) (.tmp 51) 26 9 (.string ⟨#[]⟩) 16 rfl Tryz.underlying26 info9 rfl (by decide) (by decide) (.slice A3 o4.length c3) o4 s [.string s] _ (fun _=>False) rfl rfl rfl (fun _ h=>h.elim) (fun k hk=>.inr hk) (Kd.R_mono (ok':=fun k=>some k=(Value.slice A3 o4.length c3).ownBlock∨_≤k) Do.out.r3 fun k hk=>.inl hk) BL.out BL.out.size HL.out ?_;intro v1 w1 hO1 hb1 hg1 aB;rw [HDL.out] at hO1;obtain ⟨A5,c5,rfl⟩:=Kd.R_slice hO1;have hT:Turned _ w1 _:=⟨hg1.os,hg1.tape,hg1.output,hg1.size,fun k hk hn=>hg1.block k hk hn⟩;have hD:=has_r3 Do.out hT hO1;replace BD:=zA ((hT.block gD (blk_lt BD.out) (fun e=>Do.out.nobox BD.out (by decide) (by decide) (by decide) (.inr (.inr (.inr e))))).trans BD.out);replace BR:=zA ((hT.block gR (blk_lt BR.out) (fun e=>Do.out.nobox BR.out (by decide) (by decide) (by decide) (.inr (.inr (.inr e))))).trans BR.out);clear BL Do;have BL:=zA hb1;have Do:=zA hD;clear hD hO1 hb1 hg1 aB hT;replace iD:=blk6 BD.out;replace iR:=blk6 BR.out;replace zD:=z6of BD.out;replace zR:=z6of BR.out) | ((with_reducible refine gate_store (t:=26) (p:=53) rfl ?_);refine store_event (t:=26) (p:=53) (v:=?vo53) (w1:=w1.setCell ⟨gD,3,none⟩ (.slice A5 dl.length c5)) ?hg ?ho ?hn ?hr ?_;(case ho=>rfl);(case hg=>rfl);(case hn=>rfl);(case hr=>(go_simp;done));intro wz hw;have hs:∀ j,j≠gD→wz.heap[j]? = w1.heap[j]?:=(by rw [hw];exact fun j hj=>Below.heap_setCell w1 ⟨gD,3,none⟩ _ j hj);have hbl:Below w.heap.size w wz:=(by rw [hw];exact below_set BL.out GD.out);have hG:wz.heap[gD]? = some (.cells #[.slice A0 o1.length c0,.slice A6 u.length c6,.slice A2 o3.length c2,.slice A5 dl.length c5,.int .i64 o5,.int .i64 o6] 28 (0,0)):=(by rw [hw];exact blk_put (cs:=#[.slice A0 o1.length c0,.slice A6 u.length c6,.slice A2 o3.length c2,.slice A3 o4.length c3,.int .i64 o5,.int .i64 o6]) BD.out 3 _ rfl);clear hw;replace Do:=zA (HasD.fill Do.out BD.out hs);replace BR:=zA ((hs gR RD.out).trans BR.out);clear BL BD;have BL:=zA hbl;have BD:=zA hG;clear hs hbl hG;obtain ⟨w1,hw1⟩:∃ x,x=wz:=⟨_,rfl⟩;subst hw1;replace iD:=blk6 BD.out;replace iR:=blk6 BR.out;replace zD:=z6of BD.out;replace zR:=z6of BR.out) | (go_at_call 66;refine (cleanS_calls k w _ BL.out Do.out HZ.out).mono ?_;rintro e w2 ⟨u0,u1,u2,u3,rfl,hD,hb,hk⟩;have BR2:=zA ((hk.2 gR (blk_lt BR.out) (Do.out.nobox BR.out (by decide) (by decide) (by decide))).trans BR.out);obtain ⟨B0,b0,B1,b1,B2,b2,B3,b3,rfl,rfl,rfl,rfl⟩:=has_slices hD;clear BR BL BD Do;have BR:=BR2;have BL:=zA hb;have Do:=zA hD;clear BR2 hD hb hk;clear iD zD;replace iR:=blk6 BR.out;replace zR:=z6of BR.out)))
  iterate 3 (refine bodyPost_ret (results_ct rfl _ _ gR 28 #[.slice A0 o1.length c0,.slice A1 o2.length c1,.slice A2 o3.length c2,.slice A3 o4.length c3,.int .i64 o5,.int .i64 o6] (0,0) _ rfl (fill6_at BR.out) Tryz.underlying28 rfl (by kernel_rfl)) rfl ?_;have hT:=filled_told (.int .i64 o5) (.int .i64 o6) Do.out BR.out;exact ⟨_,_,_,_,rfl,hT.1,hT.2.1,hT.2.2.1,hT.2.2.2,fill6_below BL.out GR.out⟩)
  refine bodyPost_ret (results_ct rfl _ _ gR 28 #[.slice B0 z1.length b0,.slice B1 z2.length b1,.slice B2 z3.length b2,.slice B3 z4.length b3,.int .i64 z5,.int .i64 z6] (0,0) _ rfl (fill6_at BR.out) Tryz.underlying28 rfl (by kernel_rfl)) rfl ?_
  have hT:=filled_told (.int .i64 z5) (.int .i64 z6) Do.out BR.out
  exact ⟨_,_,_,_,rfl,hT.1,hT.2.1,hT.2.2.1,hT.2.2.2,fill6_below BL.out GR.out⟩
  refine bodyPost_ret (results_ct rfl _ _ gR 28 #[.slice A0 o1.length c0,.slice A1 o2.length c1,.slice A2 o3.length c2,.slice A3 o4.length c3,.int .i64 o5,.int .i64 o6] (0,0) _ rfl (fill6_at BR.out) Tryz.underlying28 rfl (by kernel_rfl)) rfl ?_
  have hT:=filled_told (.int .i64 o5) (.int .i64 o6) Do.out BR.out
  exact ⟨_,_,_,_,rfl,hT.1,hT.2.1,hT.2.2.1,hT.2.2.2,fill6_below BL.out GR.out⟩
end Go.Proofs.YtokcccejijmkmaaGreatDoor.MFnDeeds
