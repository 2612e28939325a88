/- Each theorem here says that a call of one Go function answers what the Lean function beside it answers; its conditions stand in it. Written by a program of this session. -/
import Derived.Test.YtokcccejijmkmaaGreatDoorMFnDeedsx0
import Derived.Test.YtokcccejijmkmaaGreatDoorMFnDeedsx1
import Derived.Test.YtokcccejijmkmaaGreatDoorMFnDeedsx2
import Derived.Test.YtokcccejijmkmaaGreatDoorMFnDeedsx10
import Derived.Test.YtokcccejijmkmaaGreatDoorMFnDeedsx14
import Derived.Test.YtokcccejijmkmaaGreatDoorMFnDeedsx15
import Derived.Test.YtokcccejijmkmaaGreatDoorMFnDeedsx16
import Derived.Test.YtokcccejijmkmaaGreatDoorMFnDeedsx18
namespace Go.Proofs.YtokcccejijmkmaaGreatDoor.MFnDeeds
set_option maxHeartbeats 40000000
set_option maxRecDepth 100000
open Go.RowKit Go.Proofs.YtokcccejijmkmaaGreatDoorW.PrintWords Go.Proofs.YtokcccejijmkmaaGreatDoorW.PrintLast Go.Proofs.YtokcccejijmkmaaGreatDoorW.PrintMore
attribute [local go_sem] max2_int min2_int max_two min_two max_three min_three max_four min_four
set_option linter.unusedVariables false
set_option linter.unusedSimpArgs false
attribute [local go_sem high] eqA45 eqA47
def impl_AppendFile.f (k:Nat) (ab:List S45) (ad:List S47) (ae:List S47) (af:List ByteArray) (aa:Int) (ag:Int) (a1 a2:ByteArray):Option (List S45×List S47×List S47×List ByteArray×Int×Int×Int):=(impl_copyDisk.f ab ad ae af aa ag).bind fun o=>(impl_Disk_nodeAt.f ab ad ae af aa ag a1).bind fun t=>(impl_DiskOk.f k ab ad ae af aa ag).bind fun b=>if b=true then (if t<0 then some (o.1,o.2.1,o.2.2.1,o.2.2.2.1,o.2.2.2.2.1,o.2.2.2.2.2,3) else (impl_UsedOn.f k ab ad ae af aa ag).bind fun u=>if t<(o.1.length:Int)∧0≤(mn (a2.size:Int) (wrap64 (aa-u)))∧(mn (a2.size:Int) (wrap64 (aa-u)))≤(a2.size:Int)∧(rd_T45 o.1 t).f1.size+(a2.extract 0 ((mn (a2.size:Int) (wrap64 (aa-u)))).toNat).size≤9223372036854775807 then some (o.1.set t.toNat (⟨(rd_T45 o.1 t).f0,(rd_T45 o.1 t).f1++a2.extract 0 ((mn (a2.size:Int) (wrap64 (aa-u)))).toNat,(rd_T45 o.1 t).f2⟩:S45),o.2.1,o.2.2.1,o.2.2.2.1,o.2.2.2.2.1,o.2.2.2.2.2,if (mn (a2.size:Int) (wrap64 (aa-u)))<(a2.size:Int) then 5 else 0) else none) else some (o.1,o.2.1,o.2.2.1,o.2.2.2.1,o.2.2.2.2.1,o.2.2.2.2.2,3)
theorem impl_AppendFile.mono:∀ a0 a1 a2 a3 a4 a5 a6 a7 k,LeO (impl_AppendFile.f k a0 a1 a2 a3 a4 a5 a6 a7) (impl_AppendFile.f (k+1) a0 a1 a2 a3 a4 a5 a6 a7):=by
 intro a0 a1 a2 a3 a4 a5 a6 a7 k
 unfold impl_AppendFile.f
 repeat' first | (with_reducible exact impl_DiskOk.mono _ _ _ _ _ _ _) | (with_reducible exact impl_UsedOn.mono _ _ _ _ _ _ _) | (with_reducible exact LeO.refl _) | (with_reducible refine LeO.ite ?_ ?_) | (with_reducible refine LeO.bind ?_ (fun _=>?_))
theorem impl_AppendFile.calls (k:Nat) (ah:Option Addr) (ai:Nat) (ab:List (S45)) (aj:Option Addr) (ak:Nat) (ad:List (S47)) (al:Option Addr) (an:Nat) (ae:List (S47)) (ao:Option Addr) (aq:Nat) (af:List ByteArray) (aa:Int) (ag:Int) (a1 a2:ByteArray) (r1:List S45) (r2:List S47) (r3:List S47) (r4:List ByteArray) (r5:Int) (r6:Int) (r7:Int) (w:World) (ar:Kd.C k45 w ah ab.length ab) (au:ab.length≤ai) (av:Kd.C k47 w aj ad.length ad) (aw:ad.length≤ak) (ax:Kd.C k47 w al ae.length ae) (ay:ae.length≤an) (az:Kd.C Kd.string w ao af.length af) (aA:af.length≤aq) (hTE:TabsE w) (hTP:TabsP w) (h:impl_AppendFile.f k ab ad ae af aa ag a1 a2=some (r1,r2,r3,r4,r5,r6,r7)) :
    Calls Tryz.prog 8 #[.agg #[.slice ah ab.length ai,.slice aj ad.length ak,.slice al ae.length an,.slice ao af.length aq,.int .i64 aa,.int .i64 ag],.string a1,.string a2] w fun e w'=>∃ v0_ v1_ v2_ v3_:Value,e=.returned (.tuple #[.agg #[v0_,v1_,v2_,v3_,.int .i64 r5,.int .i64 r6],.int .i64 r7])∧Kd.R k45 45 w' w.heap.size (fun _=>True) v0_ r1∧Kd.R k47 47 w' w.heap.size (fun k_=>some k_≠(v2_:Value).ownBlock) v1_ r2∧Kd.R k47 47 w' w.heap.size (fun k_=>some k_≠(v1_:Value).ownBlock) v2_ r3∧Kd.R Kd.string 9 w' w.heap.size (fun _=>True) v3_ r4∧Below w.heap.size w w':=by
  unfold impl_AppendFile.f at h
  replace h:=zo h
  obtain ⟨⟨o1,o2,o3,o4,o5,o6⟩,ho,h⟩:=h
  replace h:=zo h
  obtain ⟨t,ht,h⟩:=h
  replace h:=zo h
  obtain ⟨b,hbk,h⟩:=h
  dsimp only at h
  have CC:=zA (fun (w1:World) (hb:Below w.heap.size w w1)=>impl_copyDisk.calls ah ai ab aj ak ad al an ae ao aq af aa ag o1 o2 o3 o4 o5 o6 w1 (Kd.C_below ar hb) au (Kd.C_below av hb) aw (Kd.C_below ax hb) ay (Kd.C_below az hb) aA ho)
  have CN:=zA (fun (w1:World) (hb:Below w.heap.size w w1)=>impl_Disk_nodeAt.calls ah ai ab aj ak ad al an ae ao aq af aa ag a1 t w1 (Kd.C_below ar hb) au (Kd.C_below av hb) aw (Kd.C_below ax hb) ay (Kd.C_below az hb) aA ht)
  have CD:=zA (fun (w1:World) (hb:Below w.heap.size w w1)=>impl_DiskOk.calls k ah ai ab aj ak ad al an ae ao aq af aa ag b w1 (Kd.C_below ar hb) au (Kd.C_below av hb) aw (Kd.C_below ax hb) ay (Kd.C_below az hb) aA (hTE.below hb) (hTP.below hb) hbk)
  have CV:=zA (fun (u:Int) (hu:impl_UsedOn.f k ab ad ae af aa ag=some u) (w1:World) (hb:Below w.heap.size w w1)=>impl_UsedOn.calls k ah ai ab aj ak ad al an ae ao aq af aa ag u w1 (Kd.C_below ar hb) au (Kd.C_below av hb) aw (Kd.C_below ax hb) ay (Kd.C_below az hb) aA hu)
  clear ho ht hbk ar au av aw ax ay az aA hTE hTP
  cases b
  (rw [if_neg (by decide)] at h;simp only [Option.some.injEq,Prod.mk.injEq] at h;obtain ⟨rfl,rfl,rfl,rfl,rfl,rfl,rfl⟩:=h)
  (rotate_left 1;(rw [if_pos rfl] at h;by_cases tn:t<0);rotate_right 1)
  (rotate_left 1;(rw [if_pos tn] at h;simp only [Option.some.injEq,Prod.mk.injEq] at h;obtain ⟨rfl,rfl,rfl,rfl,rfl,rfl,rfl⟩:=h;have dt:decide (t<0)=true:=zt tn;clear tn);rotate_right 1)
  (rotate_left 2;(rw [if_neg tn] at h;have dt:decide (t<0)=false:=zf tn;replace h:=zo h;obtain ⟨u,hu,h⟩:=h;have CU:=zA (CV.out u hu);clear hu CV;by_cases tl:t<(o1.length:Int)∧0≤mn (a2.size:Int) (wrap64 (aa-u))∧mn (a2.size:Int) (wrap64 (aa-u))≤(a2.size:Int)∧(rd_T45 o1 t).f1.size+(a2.extract 0 (mn (a2.size:Int) (wrap64 (aa-u))).toNat).size≤9223372036854775807);rotate_right 2)
  (rotate_left 3;(rw [if_neg tl] at h;cases h);rotate_right 3)
  (rotate_left 2;(rw [if_pos tl] at h;simp only [Option.some.injEq,Prod.mk.injEq] at h;obtain ⟨rfl,rfl,rfl,rfl,rfl,rfl,rfl⟩:=h;obtain ⟨tl,m0,m1,ms⟩:=tl;obtain ⟨m,hmn⟩:∃ m,(if wrap64 (aa-u)<(a2.size:Int) then wrap64 (aa-u) else (a2.size:Int))=m:=⟨_,rfl⟩;have e:mn (a2.size:Int) (wrap64 (aa-u))=m:=hmn;rw [e] at m0 m1 ms ⊢;clear e;have e_:rd_T45 o1 t=o1[t.toNat]'(by omega):=(by unfold rd_T45;rw [List.getD_eq_getElem?_getD,List.getElem?_eq_getElem (by omega)];exact rfl);rw [e_] at ms ⊢;clear e_);rotate_right 2)
  all_goals (go_enter Tryz.func8,Tryz.ntmps8;go_wp2_with (first | ((with_reducible refine gate_dst (N:=3) rfl ?_);refine box_event ?hg (N:=3) ?hd (cs:=#[.slice ah ab.length ai,.slice aj ad.length ak,.slice al ae.length an,.slice ao af.length aq,.int .i64 aa,.int .i64 ag]) (t:=28) ?hr ?_;(case hd=>rfl);(case hg=>rfl);(case hr=>(go_simp;done));intro gD hg w1 hbox hb;have BL:=zA hb;have BD:=zA hbox;clear hb;replace iD:=blk6 BD.out;clear hg hbox) | ((with_reducible refine gate_dst (N:=6) rfl ?_);refine box_event ?hg (N:=6) ?hd (cs:=#[.slice none 0 0,.slice none 0 0,.slice none 0 0,.slice none 0 0,.int .i64 0,.int .i64 0]) (t:=28) ?hr ?_;(case hd=>rfl);(case hg=>rfl);(case hr=>(go_simp;done));intro gR hg w1 hbox hb;have GR:=zA (show w.heap.size≤gR by rw [hg];exact BL.out.size);replace BL:=zs BL hb;(try replace BD:=zb BD hb);have BR:=zA hbox;clear hb;replace iD:=blk6 BD.out;clear hg hbox) | (go_at_call 40;have hbs:=BL.out.size;(with_reducible refine (CC.out _ BL.out).mono ?_);rintro e w1 ⟨v0,v1,v2,v3,rfl,p0,p1,p2,p3,hb⟩;have hD:=HasD.of p0 p1 p2 p3;replace BL:=zs BL hb;(try replace BD:=zb BD hb);(try replace BR:=zb BR hb);have Do:=zA (hD.lower hbs);obtain ⟨A0,c0,rfl⟩:=Kd.R_slice p0;obtain ⟨A1,c1,rfl⟩:=Kd.R_slice p1;obtain ⟨A2,c2,rfl⟩:=Kd.R_slice p2;obtain ⟨A3,c3,rfl⟩:=Kd.R_slice p3;clear hD hb hbs p0 p1 p2 p3;replace iD:=blk6 BD.out) | ((with_reducible refine gate_store (t:=28) (p:=8) rfl ?_);refine store_event (t:=28) (p:=8) (w1:=w1.alloc (.cells #[.slice A0 o1.length c0,.slice A1 o2.length c1,.slice A2 o3.length c2,.slice A3 o4.length c3,.int .i64 o5,.int .i64 o6] 28 (0,0))) rfl rfl rfl ?hr ?_;(case hr=>(go_simp;done));intro wz hw;have hb:Below w1.heap.size w1 wz:=(by rw [hw];exact below_alloc (Below.refl _ _) _);have hbox:=(by rw [hw];exact blk_new w1 _:wz.heap[w1.heap.size]? = some (.cells #[.slice A0 o1.length c0,.slice A1 o2.length c1,.slice A2 o3.length c2,.slice A3 o4.length c3,.int .i64 o5,.int .i64 o6] 28 (0,0)));clear hw;have hgO_:w.heap.size≤w1.heap.size:=BL.out.size;have dO_:=Nat.ne_of_lt (blk_lt BD.out);have rO_:=Nat.ne_of_lt (blk_lt BR.out);obtain ⟨gO,hg⟩:∃ g,g=w1.heap.size:=⟨_,rfl⟩;rw [← hg] at hbox hgO_ dO_ rO_;clear hgO_ dO_ rO_;(try rw [← hg]);clear hg;replace BL:=zs BL hb;(try replace BD:=zb BD hb);(try replace BR:=zb BR hb);(try replace Do:=zA (Do.out.on hb));have BO:=zA hbox;clear hb hbox;obtain ⟨w1,hw1⟩:∃ x,x=wz:=⟨_,rfl⟩;subst hw1;replace iD:=blk6 BD.out;replace iO:=blk6 BO.out) | (go_at_call 41;(with_reducible refine (CN.out _ BL.out).mono ?_);rintro e w1 ⟨rfl,hb⟩;replace BL:=zs BL hb;(try replace BD:=zb BD hb);(try replace BR:=zb BR hb);(try replace BO:=zb BO hb);(try replace Do:=zA (Do.out.on hb));clear hb;replace iD:=blk6 BD.out;replace iO:=blk6 BO.out) | (go_at_call 42;(with_reducible refine (CD.out _ BL.out).mono ?_);rintro e w1 ⟨rfl,hb⟩;replace BL:=zs BL hb;(try replace BD:=zb BD hb);(try replace BR:=zb BR hb);(try replace BO:=zb BO hb);(try replace Do:=zA (Do.out.on hb));clear hb;replace iD:=blk6 BD.out;replace iO:=blk6 BO.out;replace iR:=blk6 BR.out;obtain ⟨zR0,zR1,zR2,zR3,zR4,zR5⟩:=z6of BR.out)))
  iterate 2 (refine bodyPost_ret (results_ct rfl _ _ gR 28 #[.slice A0 o1.length c0,.slice A1 o2.length c1,.slice A2 o3.length c2,.slice A3 o4.length c3,.int .i64 o5,.int .i64 o6] (0,0) _ rfl (fill6_at BR.out) Tryz.underlying28 rfl (by kernel_rfl)) rfl ?_;have g:∀ {A B C D E:Prop},(A∧B∧C∧D)→E→A∧B∧C∧D∧E:=fun h e=>⟨h.1,h.2.1,h.2.2.1,h.2.2.2,e⟩;refine ⟨_,_,_,_,rfl,g (HasD.told (Do.out.fill BR.out (fun j hj=>fill6_far hj))) (fill6_below BL.out GR.out)⟩)
  have BN:=zA (Below.refl w1.heap.size w1)
  have CU2:=zA (fun (W:World) (hb:Below w1.heap.size w1 W)=>CU.out W (BL.out.trans (hb.mono BL.out.size)))
  have aB:∀ p_:LaidBy w1,p_.W.cell? ⟨gD,0,none⟩=some (.slice ah ab.length ai):=fun p_=>p_.cell ((blk_cell BD.out 0).trans rfl)
  have aC:∀ p_:LaidBy w1,p_.W.cell? ⟨gD,1,none⟩=some (.slice aj ad.length ak):=fun p_=>p_.cell ((blk_cell BD.out 1).trans rfl)
  have aD:∀ p_:LaidBy w1,p_.W.cell? ⟨gD,2,none⟩=some (.slice al ae.length an):=fun p_=>p_.cell ((blk_cell BD.out 2).trans rfl)
  have aE:∀ p_:LaidBy w1,p_.W.cell? ⟨gD,3,none⟩=some (.slice ao af.length aq):=fun p_=>p_.cell ((blk_cell BD.out 3).trans rfl)
  have aF:∀ p_:LaidBy w1,p_.W.cell? ⟨gD,4,none⟩=some (.int .i64 aa):=fun p_=>p_.cell ((blk_cell BD.out 4).trans rfl)
  have aG:∀ p_:LaidBy w1,p_.W.cell? ⟨gD,5,none⟩=some (.int .i64 ag):=fun p_=>p_.cell ((blk_cell BD.out 5).trans rfl)
  refine wp_region_laid (by kernel_rfl) (by kernel_rfl) ?_
  repeat (go_big_quiet_step ((go_at_call 43;with_reducible exact laid_of _ (CU2.out _ (LaidBy.below _ BN.out)))))
  refine wpQuiet_nil ?_
  rintro w5 ⟨p_,hp_⟩
  have hq_:Below w1.heap.size w1 w5:=hp_▸p_.ok
  clear hp_ p_ aB aC aD aE aF aG
  have hb:=hq_
  replace BL:=zs BL hb;(try replace BD:=zb BD hb);(try replace BR:=zb BR hb);(try replace BO:=zb BO hb);(try replace Do:=zA (Do.out.on hb))
  clear hb hq_ BN CU2
  go_wp2
  have hb:=below_drew (Below.refl w5.heap.size w5)
  replace BL:=zs BL hb;(try replace BD:=zb BD hb);(try replace BR:=zb BR hb);(try replace BO:=zb BO hb);(try replace Do:=zA (Do.out.on hb))
  clear hb
  obtain ⟨g,cur,hA,_,hgb,hgc,x0,x1,x2,hfz,hset⟩:=Do.out.row t.toNat (by omega)
  subst hA
  have t0:(0≤t)=True:=eq_true (by omega)
  have t4:(9223372036854775807<(o1[t.toNat]'(by omega)).f1.size+m.toNat)=False:=eq_false (by have hz:(a2.extract 0 m.toNat).size=m.toNat:=(by rw [ByteArray.size_extract];omega);omega)
  refine start_ (n:=13) (S:=fun w'=>w'.cell? ⟨gO,0,none⟩=some (.slice (some ⟨g,0,none⟩) o1.length c0)∧w'.cell? ⟨g,t.toNat*3+1,none⟩=some (.string (o1[t.toNat]'(by omega)).f1)) (ds:=[12]) (marks 13 0) (by kernel_rfl) rfl rfl ⟨blk_cell BO.out 0,x1⟩ (fun hHeld=>?_)
  generalize hW_:w5.drew=w2 at *
  clear hW_
  refine pure_ (i:=0) (N:=some 32) (v:=?_) (a':=?_) (marks 13 1) rfl rfl (by kernel_rfl) (fun _ _ _ h=>h) (Or.inl ⟨by rfl,?_⟩) ?_ ?_
  rotate_left
  · intro w';go_simp;with_reducible rfl
  rotate_left
  · simp only [Act.put,yA,yB,yC,i64_w,i32_w];rfl
  refine pure_ (i:=2) (N:=some 34) (v:=?_) (a':=?_) (marks 13 5) rfl rfl (by kernel_rfl) (fun _ _ _ h=>h) (Or.inl ⟨by rfl,?_⟩) ?_ ?_
  rotate_left
  · intro w';go_simp;with_reducible rfl
  rotate_left
  · simp only [Act.put,yA,yB,yC,i64_w,i32_w];rfl
  refine pure_ (i:=6) (N:=some 38) (v:=?_) (a':=?_) (marks 13 69) rfl rfl (by kernel_rfl) (fun _ _ _ h=>h) (Or.inl ⟨by rfl,?_⟩) ?_ ?_
  rotate_left
  · intro w';go_simp;with_reducible rfl
  rotate_left
  · simp only [Act.put,yA,yB,yC,i64_w,i32_w];rfl
  refine pure_ (i:=7) (N:=some 39) (v:=?_) (a':=?_) (marks 13 197) rfl rfl (by kernel_rfl) (fun _ _ _ h=>h) (Or.inl ⟨by rfl,?_⟩) ?_ ?_
  rotate_left
  · intro w';go_simp;with_reducible rfl
  rotate_left
  · simp only [Act.put,yA,yB,yC,i64_w,i32_w];rfl
  refine pure_ (i:=8) (N:=some 40) (v:=?_) (a':=?_) (marks 13 453) rfl rfl (by kernel_rfl) (fun _ _ _ h=>h) (Or.inl ⟨by rfl,?_⟩) ?_ ?_
  rotate_left
  · intro w';go_simp;with_reducible rfl
  rotate_left
  · simp only [Act.put,yA,yB,yC,i64_w,i32_w];rfl
  refine take_ (i:=1) (N:=some 33) (v:=?_) (a':=?_) (marks 13 455) rfl rfl (by kernel_rfl) (fun _ _ _ h=>h) (Or.inl ⟨by rfl,?_⟩) hHeld ?_ ?_
  rotate_left
  · rintro w' ⟨s0,s1⟩;go_simp;with_reducible rfl
  rotate_left
  · simp only [Act.put,yA,yB,yC,i64_w,i32_w];rfl
  refine pure_ (i:=3) (N:=some 35) (v:=?_) (a':=?_) (marks 13 463) rfl rfl (by kernel_rfl) (fun _ _ _ h=>h) (Or.inl ⟨by rfl,?_⟩) ?_ ?_
  rotate_left
  · intro w';go_simp;with_reducible rfl
  rotate_left
  · simp only [Act.put,yA,yB,yC,i64_w,i32_w];rfl
  refine pure_ (i:=4) (N:=some 36) (v:=?_) (a':=?_) (marks 13 479) rfl rfl (by kernel_rfl) (fun _ _ _ h=>h) (Or.inl ⟨by rfl,?_⟩) ?_ ?_
  rotate_left
  · intro w';go_simp;with_reducible rfl
  rotate_left
  · simp only [Act.put,yA,yB,yC,i64_w,i32_w];rfl
  refine take_ (i:=5) (N:=some 37) (v:=?_) (a':=?_) (marks 13 511) rfl rfl (by kernel_rfl) (fun _ _ _ h=>h) (Or.inl ⟨by rfl,?_⟩) hHeld ?_ ?_
  rotate_left
  · rintro w' ⟨s0,s1⟩;go_simp;with_reducible rfl
  rotate_left
  · simp only [Act.put,yA,yB,yC,i64_w,i32_w];rfl
  refine pure_ (i:=9) (N:=some 41) (v:=?_) (a':=?_) (marks 13 1023) rfl rfl (by kernel_rfl) (fun _ _ _ h=>h) (Or.inl ⟨by rfl,?_⟩) ?_ ?_
  rotate_left
  · intro w';go_simp;with_reducible rfl
  rotate_left
  · simp only [Act.put,yA,yB,yC,i64_w,i32_w];rfl
  refine pure_ (i:=10) (N:=some 42) (v:=?_) (a':=?_) (marks 13 2047) rfl rfl (by kernel_rfl) (fun _ _ _ h=>h) (Or.inl ⟨by rfl,?_⟩) ?_ ?_
  rotate_left
  · intro w';go_simp;with_reducible rfl
  rotate_left
  · simp only [Act.put,yA,yB,yC,i64_w,i32_w];rfl
  refine pure_ (i:=11) (N:=some 43) (v:=?_) (a':=?_) (marks 13 4095) rfl rfl (by kernel_rfl) (fun _ _ _ h=>h) (Or.inl ⟨by rfl,?_⟩) ?_ ?_
  rotate_left
  · intro w';go_simp;with_reducible rfl
  rotate_left
  · simp only [Act.put,yA,yB,yC,i64_w,i32_w];rfl
  refine last_ (i:=12) (N:=none) (marks 13 8191) rfl rfl (by kernel_rfl) (by decide) (fun K hK=>?_)
  refine skip_ (w1:=?_) (by rfl) rfl ?_ ?_
  rotate_left
  · go_simp;rfl
  refine hK.out _ _ ?_
  clear hK K
  refine done_ (by kernel_rfl) ?_
  replace Do:=zA (hset (t.toNat*3+1) (.string ((o1[t.toNat]'(by omega)).f1++a2.extract 0 m.toNat)) (o1.set t.toNat ⟨(o1[t.toNat]'(by omega)).f0,((o1[t.toNat]'(by omega)).f1++a2.extract 0 m.toNat),(o1[t.toNat]'(by omega)).f2⟩) (by omega) (List.length_set ..) (cellsN_set1 o1 t.toNat _ (by omega)))
  have ng:∀ {q:Nat} {cs:Array Value},w2.heap[q]? = some (.cells cs 28 (0,0))→q≠g:=fun h e=>by rw [e,hgc] at h;injection h with h;injection h with _ h;exact absurd h (by decide)
  replace BO:=zA ((Below.heap_setCell w2 ⟨g,t.toNat*3+1,none⟩ (.string ((o1[t.toNat]'(by omega)).f1++a2.extract 0 m.toNat)) gO (ng BO.out)).trans BO.out)
  replace BR:=zA ((Below.heap_setCell w2 ⟨g,t.toNat*3+1,none⟩ (.string ((o1[t.toNat]'(by omega)).f1++a2.extract 0 m.toNat)) gR (ng BR.out)).trans BR.out)
  replace BL:=zA (below_set (j:=t.toNat*3+1) (v:=(.string ((o1[t.toNat]'(by omega)).f1++a2.extract 0 m.toNat))) BL.out hgb)
  clear hset ng hgc x0 x1 x2 hfz
  generalize w2.setCell ⟨g,t.toNat*3+1,none⟩ (.string ((o1[t.toNat]'(by omega)).f1++a2.extract 0 m.toNat))=w3 at Do BO BR BL ⊢
  replace iO:=blk6 BO.out
  replace iR:=blk6 BR.out
  obtain ⟨zR0,zR1,zR2,zR3,zR4,zR5⟩:=z6of BR.out
  go_wp2
  all_goals (refine bodyPost_ret (results_ct rfl _ _ gR 28 #[.slice (some ⟨g,0,none⟩) o1.length c0,.slice A1 o2.length c1,.slice A2 o3.length c2,.slice A3 o4.length c3,.int .i64 o5,.int .i64 o6] (0,0) _ rfl (fill6_at BR.out) Tryz.underlying28 rfl (by kernel_rfl)) rfl ?_;have g:∀ {A B C D E:Prop},(A∧B∧C∧D)→E→A∧B∧C∧D∧E:=fun h e=>⟨h.1,h.2.1,h.2.2.1,h.2.2.2,e⟩;refine ⟨_,_,_,_,rfl,g (HasD.told (Do.out.fill BR.out (fun j hj=>fill6_far hj))) (fill6_below BL.out GR.out)⟩)
def laws_sameNodes.l0:Nat→List (S45)→List (S45)→Int→Option (Bool)
 | 0,_,_,_=>none
 | k+1,x0,x1,x5=>if x5<(x0.length:Int) then (if 0≤x5 then (if x5<(x1.length:Int) then (if (!(((rd_T45 x0 x5).f0) == ((rd_T45 x1 x5).f0)) || (!((((rd_T45 x0 x5).f1).toList) == (((rd_T45 x1 x5).f1).toList)) || (!(((rd_T45 x0 x5).f2) == ((rd_T45 x1 x5).f2)))))=true then (some false) else (laws_sameNodes.l0 k x0 x1 (wrap64 (x5+1)))) else (none)) else (none)) else (some true)
def laws_sameNodes.f (k:Nat) (l0:List (S45)) (l1:List (S45)):Option (Bool):=if (l0.length:Int)=(l1.length:Int) then (laws_sameNodes.l0 k l0 l1 0) else (some false)
theorem laws_sameNodes.mono_l:∀ k,(∀ y0 y1 y2,LeO (laws_sameNodes.l0 k y0 y1 y2) (laws_sameNodes.l0 (k+1) y0 y1 y2))
 | 0=>fun _ _ _ r h=>by simp [laws_sameNodes.l0] at h
 | k+1=>by
  have ih0:=laws_sameNodes.mono_l k
  ·intro y0 y1 y2
   unfold laws_sameNodes.l0
   repeat' first | (with_reducible exact ih0 _ _ _) | (with_reducible exact LeO.refl _) | (with_reducible refine LeO.ite ?_ ?_)
theorem laws_sameNodes.mono:∀ a0 a1 k,LeO (laws_sameNodes.f k a0 a1) (laws_sameNodes.f (k+1) a0 a1):=by
 intro a0 a1 k
 have ih0:=laws_sameNodes.mono_l k
 unfold laws_sameNodes.f
 repeat' first | (with_reducible exact ih0 _ _ _) | (with_reducible exact LeO.refl _) | (with_reducible refine LeO.ite ?_ ?_)
theorem laws_sameNodes.calls (k:Nat) (A0:Option Addr) (c0:Nat) (l0:List (S45)) (A1:Option Addr) (c1:Nat) (l1:List (S45)) (r:Bool) (w:World) (hr0:Kd.C k45 w A0 l0.length l0) (hc0:l0.length≤c0) (hr1:Kd.C k45 w A1 l1.length l1) (hc1:l1.length≤c1) (h:laws_sameNodes.f k l0 l1=some r) :
  Calls Tryz.prog 48 #[.slice A0 l0.length c0,.slice A1 l1.length c1] w fun e w'=>e=.returned (.bool r)∧Drawn0 w w':=by
 have HR0:=zA hr0
 clear hr0 hc0
 have HR1:=zA hr1
 clear hr1 hc1
 have H:(if (l0.length:Int)=(l1.length:Int) then (laws_sameNodes.l0 k l0 l1 0) else (some false))=some r:=h
 clear h
 by_cases c3:(l0.length:Int)=(l1.length:Int)
 ·rw [if_pos c3] at H
  have aq:((l0.length:Int) != (l1.length:Int))=false:=bne_eq_false_iff_eq.mpr c3
  clear c3
  have H':=zA H
  clear H
  go_enter Tryz.func48,Tryz.ntmps48
  go_wp2
  repeat (go_quiet (fail);try go_wp2)
  go_loopg [5] k (fun kq v5 w'=>∃ (aa:Int),v5=.int .i64 aa∧Aside0 (laws_sameNodes.l0 kq l0 l1 aa=some r)∧Aside0 (kq≤k)∧Drawn0 w w')
  case atStart=>exact ⟨(0),(by rfl),H',⟨Nat.le_refl _⟩,by repeat (exact Drawn0.refl _)⟩
  case round=>
   clear H'
   try clear c1
   try clear p2
   try clear c3
   try clear aq
   obtain ⟨aa,rfl,HA,HK1,⟨m1,rfl⟩⟩:=hrel
   cases gk with
   | zero=>exact absurd HA.out (by simp [laws_sameNodes.l0])
   | succ k1=>
    have H:=HA.out
    clear HA
    simp only [laws_sameNodes.l0] at H
    by_cases c4:aa<(l0.length:Int)
    ·rw [if_pos c4] at H
     have av:decide (aa<(l0.length:Int))=true:=zt c4
     clear c4
     by_cases c5:0≤aa
     ·rw [if_pos c5] at H
      have c5b0:decide (0≤aa)=true:=zt c5
      clear c5
      by_cases c6:aa<(l1.length:Int)
      ·rw [if_pos c6] at H
       have c6b0:decide (aa<(l1.length:Int))=true:=zt c6
       clear c6
       by_cases c7:(!(((rd_T45 l0 aa).f0) == ((rd_T45 l1 aa).f0)) || (!((((rd_T45 l0 aa).f1).toList) == (((rd_T45 l1 aa).f1).toList)) || (!(((rd_T45 l0 aa).f2) == ((rd_T45 l1 aa).f2)))))=true
       ·rw [if_pos c7] at H
        have aw:(!(((rd_T45 l0 aa).f0) == ((rd_T45 l1 aa).f0)) || (!((((rd_T45 l0 aa).f1).toList) == (((rd_T45 l1 aa).f1).toList)) || (!(((rd_T45 l0 aa).f2) == ((rd_T45 l1 aa).f2)))))=true:=c7
        clear c7
        obtain rfl:=Option.some.inj H
        have ab:0≤(aa:Int):=ze
        have ad:aa<(l0.length:Int):=ze
        obtain ⟨ar,an,ag,ah,ai⟩:=at_T45 HR0.out aa ab ad
        cases an
        replace ab:=eq_true ab
        replace ad:=eq_true ad
        have ae:0≤(aa:Int):=ze
        have af:aa<(l1.length:Int):=ze
        obtain ⟨au,ao,aj,ak,al⟩:=at_T45 HR1.out aa ae af
        cases ao
        replace ae:=eq_true ae
        replace af:=eq_true af
        go_wp2
        repeat (go_quiet (fail);try go_wp2)
        all_goals (go_ret)
        exact ⟨by first | rfl | (simp;done) | (simp [*];done),by repeat (first | exact Drawn0.refl _ | apply Drawn0.step)⟩
       ·rw [if_neg c7] at H
        have aw:(!(((rd_T45 l0 aa).f0) == ((rd_T45 l1 aa).f0)) || (!((((rd_T45 l0 aa).f1).toList) == (((rd_T45 l1 aa).f1).toList)) || (!(((rd_T45 l0 aa).f2) == ((rd_T45 l1 aa).f2)))))=false:=by simpa using c7
        clear c7
        have H':=zA H
        clear H
        have ab:0≤(aa:Int):=ze
        have ad:aa<(l0.length:Int):=ze
        obtain ⟨ar,an,ag,ah,ai⟩:=at_T45 HR0.out aa ab ad
        cases an
        replace ab:=eq_true ab
        replace ad:=eq_true ad
        have ae:0≤(aa:Int):=ze
        have af:aa<(l1.length:Int):=ze
        obtain ⟨au,ao,aj,ak,al⟩:=at_T45 HR1.out aa ae af
        cases ao
        replace ae:=eq_true ae
        replace af:=eq_true af
        go_wp2
        repeat (go_quiet (fail);try go_wp2)
        go_roundg k1
        case measure=>have:=HK1.out;omega
        case rel=>exact ⟨(wrap64 (aa+1)),(by rfl),H',⟨by have:=HK1.out;omega⟩,by repeat (first | exact Drawn0.refl _ | apply Drawn0.step)⟩
      ·rw [if_neg c6] at H
       exact absurd H (by simp)
     ·rw [if_neg c5] at H
      exact absurd H (by simp)
    ·rw [if_neg c4] at H
     have av:decide (aa<(l0.length:Int))=false:=zf c4
     clear c4
     obtain rfl:=Option.some.inj H
     go_wp2
     repeat (go_quiet (fail);try go_wp2)
     all_goals (go_ret)
     exact ⟨by first | rfl | (simp;done) | (simp [*];done),by repeat (first | exact Drawn0.refl _ | apply Drawn0.step)⟩
 ·rw [if_neg c3] at H
  have aq:((l0.length:Int) != (l1.length:Int))=true:=bne_iff_ne.mpr c3
  obtain rfl:=Option.some.inj H
  go_enter Tryz.func48,Tryz.ntmps48
  go_wp2
  repeat (go_quiet (fail);try go_wp2)
  all_goals (go_ret)
  exact ⟨by first | rfl | (simp;done) | (simp [*];done),by repeat (exact Drawn0.refl _)⟩
def laws_sameEntrys.l0:Nat→List (S47)→List (S47)→Int→Option (Bool)
 | 0,_,_,_=>none
 | k+1,x0,x1,x5=>if x5<(x0.length:Int) then (if 0≤x5 then (if x5<(x1.length:Int) then (if (!((((rd_T47 x0 x5).f0).toList) == (((rd_T47 x1 x5).f0).toList)) || (!(((rd_T47 x0 x5).f1) == ((rd_T47 x1 x5).f1))))=true then (some false) else (laws_sameEntrys.l0 k x0 x1 (wrap64 (x5+1)))) else (none)) else (none)) else (some true)
def laws_sameEntrys.f (k:Nat) (l0:List (S47)) (l1:List (S47)):Option (Bool):=if (l0.length:Int)=(l1.length:Int) then (laws_sameEntrys.l0 k l0 l1 0) else (some false)
theorem laws_sameEntrys.mono_l:∀ k,(∀ y0 y1 y2,LeO (laws_sameEntrys.l0 k y0 y1 y2) (laws_sameEntrys.l0 (k+1) y0 y1 y2))
 | 0=>fun _ _ _ r h=>by simp [laws_sameEntrys.l0] at h
 | k+1=>by
  have ih0:=laws_sameEntrys.mono_l k
  ·intro y0 y1 y2
   unfold laws_sameEntrys.l0
   repeat' first | (with_reducible exact ih0 _ _ _) | (with_reducible exact LeO.refl _) | (with_reducible refine LeO.ite ?_ ?_)
theorem laws_sameEntrys.mono:∀ a0 a1 k,LeO (laws_sameEntrys.f k a0 a1) (laws_sameEntrys.f (k+1) a0 a1):=by
 intro a0 a1 k
 have ih0:=laws_sameEntrys.mono_l k
 unfold laws_sameEntrys.f
 repeat' first | (with_reducible exact ih0 _ _ _) | (with_reducible exact LeO.refl _) | (with_reducible refine LeO.ite ?_ ?_)
theorem laws_sameEntrys.calls (k:Nat) (A0:Option Addr) (c0:Nat) (l0:List (S47)) (A1:Option Addr) (c1:Nat) (l1:List (S47)) (r:Bool) (w:World) (hr0:Kd.C k47 w A0 l0.length l0) (hc0:l0.length≤c0) (hr1:Kd.C k47 w A1 l1.length l1) (hc1:l1.length≤c1) (h:laws_sameEntrys.f k l0 l1=some r) :
  Calls Tryz.prog 49 #[.slice A0 l0.length c0,.slice A1 l1.length c1] w fun e w'=>e=.returned (.bool r)∧Drawn0 w w':=by
 have HR0:=zA hr0
 clear hr0 hc0
 have HR1:=zA hr1
 clear hr1 hc1
 have H:(if (l0.length:Int)=(l1.length:Int) then (laws_sameEntrys.l0 k l0 l1 0) else (some false))=some r:=h
 clear h
 by_cases c3:(l0.length:Int)=(l1.length:Int)
 ·rw [if_pos c3] at H
  have an:((l0.length:Int) != (l1.length:Int))=false:=bne_eq_false_iff_eq.mpr c3
  clear c3
  have H':=zA H
  clear H
  go_enter Tryz.func49,Tryz.ntmps49
  go_wp2
  repeat (go_quiet (fail);try go_wp2)
  go_loopg [5] k (fun kq v5 w'=>∃ (aa:Int),v5=.int .i64 aa∧Aside0 (laws_sameEntrys.l0 kq l0 l1 aa=some r)∧Aside0 (kq≤k)∧Drawn0 w w')
  case atStart=>exact ⟨(0),(by rfl),H',⟨Nat.le_refl _⟩,by repeat (exact Drawn0.refl _)⟩
  case round=>
   clear H'
   try clear c1
   try clear p2
   try clear c3
   try clear an
   obtain ⟨aa,rfl,HA,HK1,⟨m1,rfl⟩⟩:=hrel
   cases gk with
   | zero=>exact absurd HA.out (by simp [laws_sameEntrys.l0])
   | succ k1=>
    have H:=HA.out
    clear HA
    simp only [laws_sameEntrys.l0] at H
    by_cases c4:aa<(l0.length:Int)
    ·rw [if_pos c4] at H
     have ar:decide (aa<(l0.length:Int))=true:=zt c4
     clear c4
     by_cases c5:0≤aa
     ·rw [if_pos c5] at H
      have c5b0:decide (0≤aa)=true:=zt c5
      clear c5
      by_cases c6:aa<(l1.length:Int)
      ·rw [if_pos c6] at H
       have c6b0:decide (aa<(l1.length:Int))=true:=zt c6
       clear c6
       by_cases c7:(!((((rd_T47 l0 aa).f0).toList) == (((rd_T47 l1 aa).f0).toList)) || (!(((rd_T47 l0 aa).f1) == ((rd_T47 l1 aa).f1))))=true
       ·rw [if_pos c7] at H
        have au:(!((((rd_T47 l0 aa).f0).toList) == (((rd_T47 l1 aa).f0).toList)) || (!(((rd_T47 l0 aa).f1) == ((rd_T47 l1 aa).f1))))=true:=c7
        clear c7
        obtain rfl:=Option.some.inj H
        have ab:0≤(aa:Int):=ze
        have ad:aa<(l0.length:Int):=ze
        obtain ⟨ao,ak,ag,ah⟩:=at_T47 HR0.out aa ab ad
        cases ak
        replace ab:=eq_true ab
        replace ad:=eq_true ad
        have ae:0≤(aa:Int):=ze
        have af:aa<(l1.length:Int):=ze
        obtain ⟨aq,al,ai,aj⟩:=at_T47 HR1.out aa ae af
        cases al
        replace ae:=eq_true ae
        replace af:=eq_true af
        go_wp2
        repeat (go_quiet (fail);try go_wp2)
        all_goals (go_ret)
        exact ⟨by first | rfl | (simp;done) | (simp [*];done),by repeat (first | exact Drawn0.refl _ | apply Drawn0.step)⟩
       ·rw [if_neg c7] at H
        have au:(!((((rd_T47 l0 aa).f0).toList) == (((rd_T47 l1 aa).f0).toList)) || (!(((rd_T47 l0 aa).f1) == ((rd_T47 l1 aa).f1))))=false:=by simpa using c7
        clear c7
        have H':=zA H
        clear H
        have ab:0≤(aa:Int):=ze
        have ad:aa<(l0.length:Int):=ze
        obtain ⟨ao,ak,ag,ah⟩:=at_T47 HR0.out aa ab ad
        cases ak
        replace ab:=eq_true ab
        replace ad:=eq_true ad
        have ae:0≤(aa:Int):=ze
        have af:aa<(l1.length:Int):=ze
        obtain ⟨aq,al,ai,aj⟩:=at_T47 HR1.out aa ae af
        cases al
        replace ae:=eq_true ae
        replace af:=eq_true af
        go_wp2
        repeat (go_quiet (fail);try go_wp2)
        go_roundg k1
        case measure=>have:=HK1.out;omega
        case rel=>exact ⟨(wrap64 (aa+1)),(by rfl),H',⟨by have:=HK1.out;omega⟩,by repeat (first | exact Drawn0.refl _ | apply Drawn0.step)⟩
      ·rw [if_neg c6] at H
       exact absurd H (by simp)
     ·rw [if_neg c5] at H
      exact absurd H (by simp)
    ·rw [if_neg c4] at H
     have ar:decide (aa<(l0.length:Int))=false:=zf c4
     clear c4
     obtain rfl:=Option.some.inj H
     go_wp2
     repeat (go_quiet (fail);try go_wp2)
     all_goals (go_ret)
     exact ⟨by first | rfl | (simp;done) | (simp [*];done),by repeat (first | exact Drawn0.refl _ | apply Drawn0.step)⟩
 ·rw [if_neg c3] at H
  have an:((l0.length:Int) != (l1.length:Int))=true:=bne_iff_ne.mpr c3
  obtain rfl:=Option.some.inj H
  go_enter Tryz.func49,Tryz.ntmps49
  go_wp2
  repeat (go_quiet (fail);try go_wp2)
  all_goals (go_ret)
  exact ⟨by first | rfl | (simp;done) | (simp [*];done),by repeat (exact Drawn0.refl _)⟩
def laws_sameTexts.l0:Nat→List ByteArray→List ByteArray→Int→Option (Bool)
 | 0,_,_,_=>none
 | k+1,x0,x1,x5=>if x5<(x0.length:Int) then (if 0≤x5 then (if x5<(x1.length:Int) then (if (rdOf ByteArray.empty x0 x5).toList=(rdOf ByteArray.empty x1 x5).toList then (laws_sameTexts.l0 k x0 x1 (wrap64 (x5+1))) else (some false)) else (none)) else (none)) else (some true)
def laws_sameTexts.f (k:Nat) (l0:List ByteArray) (l1:List ByteArray):Option (Bool):=if (l0.length:Int)=(l1.length:Int) then (laws_sameTexts.l0 k l0 l1 0) else (some false)
theorem laws_sameTexts.mono_l:∀ k,(∀ y0 y1 y2,LeO (laws_sameTexts.l0 k y0 y1 y2) (laws_sameTexts.l0 (k+1) y0 y1 y2))
 | 0=>fun _ _ _ r h=>by simp [laws_sameTexts.l0] at h
 | k+1=>by
  have ih0:=laws_sameTexts.mono_l k
  ·intro y0 y1 y2
   unfold laws_sameTexts.l0
   repeat' first | (with_reducible exact ih0 _ _ _) | (with_reducible exact LeO.refl _) | (with_reducible refine LeO.ite ?_ ?_)
theorem laws_sameTexts.mono:∀ a0 a1 k,LeO (laws_sameTexts.f k a0 a1) (laws_sameTexts.f (k+1) a0 a1):=by
 intro a0 a1 k
 have ih0:=laws_sameTexts.mono_l k
 unfold laws_sameTexts.f
 repeat' first | (with_reducible exact ih0 _ _ _) | (with_reducible exact LeO.refl _) | (with_reducible refine LeO.ite ?_ ?_)
theorem laws_sameTexts.calls (k:Nat) (A0:Option Addr) (c0:Nat) (l0:List ByteArray) (A1:Option Addr) (c1:Nat) (l1:List ByteArray) (r:Bool) (w:World) (hr0:Kd.C Kd.string w A0 l0.length l0) (hc0:l0.length≤c0) (hr1:Kd.C Kd.string w A1 l1.length l1) (hc1:l1.length≤c1) (h:laws_sameTexts.f k l0 l1=some r) :
  Calls Tryz.prog 50 #[.slice A0 l0.length c0,.slice A1 l1.length c1] w fun e w'=>e=.returned (.bool r)∧Drawn0 w w':=by
 have HR0:=zA hr0
 clear hr0 hc0
 have HR1:=zA hr1
 clear hr1 hc1
 have H:(if (l0.length:Int)=(l1.length:Int) then (laws_sameTexts.l0 k l0 l1 0) else (some false))=some r:=h
 clear h
 by_cases c3:(l0.length:Int)=(l1.length:Int)
 ·rw [if_pos c3] at H
  have ak:((l0.length:Int) != (l1.length:Int))=false:=bne_eq_false_iff_eq.mpr c3
  clear c3
  have H':=zA H
  clear H
  go_enter Tryz.func50,Tryz.ntmps50
  go_wp2
  repeat (go_quiet (fail);try go_wp2)
  go_loopg [5] k (fun kq v5 w'=>∃ (aa:Int),v5=.int .i64 aa∧Aside0 (laws_sameTexts.l0 kq l0 l1 aa=some r)∧Aside0 (kq≤k)∧Drawn0 w w')
  case atStart=>exact ⟨(0),(by rfl),H',⟨Nat.le_refl _⟩,by repeat (exact Drawn0.refl _)⟩
  case round=>
   clear H'
   try clear c1
   try clear p2
   try clear c3
   try clear ak
   obtain ⟨aa,rfl,HA,HK1,⟨m1,rfl⟩⟩:=hrel
   cases gk with
   | zero=>exact absurd HA.out (by simp [laws_sameTexts.l0])
   | succ k1=>
    have H:=HA.out
    clear HA
    simp only [laws_sameTexts.l0] at H
    by_cases c4:aa<(l0.length:Int)
    ·rw [if_pos c4] at H
     have ao:decide (aa<(l0.length:Int))=true:=zt c4
     clear c4
     by_cases c5:0≤aa
     ·rw [if_pos c5] at H
      have c5b0:decide (0≤aa)=true:=zt c5
      clear c5
      by_cases c6:aa<(l1.length:Int)
      ·rw [if_pos c6] at H
       have c6b0:decide (aa<(l1.length:Int))=true:=zt c6
       clear c6
       by_cases c7:(rdOf ByteArray.empty l0 aa).toList=(rdOf ByteArray.empty l1 aa).toList
       ·rw [if_pos c7] at H
        have aq:((rdOf ByteArray.empty l0 aa).toList == (rdOf ByteArray.empty l1 aa).toList)=true:=beq_iff_eq.mpr c7
        clear c7
        have H':=zA H
        clear H
        have ab:0≤(aa:Int):=ze
        have ad:aa<(l0.length:Int):=ze
        obtain ⟨al,ai,ag⟩:=Kd.at_string HR0.out aa ab ad
        cases ai
        replace ab:=eq_true ab
        replace ad:=eq_true ad
        have ae:0≤(aa:Int):=ze
        have af:aa<(l1.length:Int):=ze
        obtain ⟨an,aj,ah⟩:=Kd.at_string HR1.out aa ae af
        cases aj
        replace ae:=eq_true ae
        replace af:=eq_true af
        go_wp2
        repeat (go_quiet (fail);try go_wp2)
        go_roundg k1
        case measure=>have:=HK1.out;omega
        case rel=>exact ⟨(wrap64 (aa+1)),(by rfl),H',⟨by have:=HK1.out;omega⟩,by repeat (first | exact Drawn0.refl _ | apply Drawn0.step)⟩
       ·rw [if_neg c7] at H
        have aq:((rdOf ByteArray.empty l0 aa).toList == (rdOf ByteArray.empty l1 aa).toList)=false:=beq_eq_false_iff_ne.mpr c7
        obtain rfl:=Option.some.inj H
        have ab:0≤(aa:Int):=ze
        have ad:aa<(l0.length:Int):=ze
        obtain ⟨al,ai,ag⟩:=Kd.at_string HR0.out aa ab ad
        cases ai
        replace ab:=eq_true ab
        replace ad:=eq_true ad
        have ae:0≤(aa:Int):=ze
        have af:aa<(l1.length:Int):=ze
        obtain ⟨an,aj,ah⟩:=Kd.at_string HR1.out aa ae af
        cases aj
        replace ae:=eq_true ae
        replace af:=eq_true af
        go_wp2
        repeat (go_quiet (fail);try go_wp2)
        all_goals (go_ret)
        exact ⟨by first | rfl | (simp;done) | (simp [*];done),by repeat (first | exact Drawn0.refl _ | apply Drawn0.step)⟩
      ·rw [if_neg c6] at H
       exact absurd H (by simp)
     ·rw [if_neg c5] at H
      exact absurd H (by simp)
    ·rw [if_neg c4] at H
     have ao:decide (aa<(l0.length:Int))=false:=zf c4
     clear c4
     obtain rfl:=Option.some.inj H
     go_wp2
     repeat (go_quiet (fail);try go_wp2)
     all_goals (go_ret)
     exact ⟨by first | rfl | (simp;done) | (simp [*];done),by repeat (first | exact Drawn0.refl _ | apply Drawn0.step)⟩
 ·rw [if_neg c3] at H
  have ak:((l0.length:Int) != (l1.length:Int))=true:=bne_iff_ne.mpr c3
  obtain rfl:=Option.some.inj H
  go_enter Tryz.func50,Tryz.ntmps50
  go_wp2
  repeat (go_quiet (fail);try go_wp2)
  all_goals (go_ret)
  exact ⟨by first | rfl | (simp;done) | (simp [*];done),by repeat (exact Drawn0.refl _)⟩
def laws_sameDisk.f (k:Nat) (aa:List S45) (ab:List S47) (ad:List S47) (ae:List ByteArray) (af:Int) (ag:Int) (ah:List S45) (ai:List S47) (aj:List S47) (ak:List ByteArray) (al:Int) (an:Int):Option Bool:=(laws_sameNodes.f k aa ah).bind fun p=>(laws_sameEntrys.f k ab ai).bind fun q=>(laws_sameEntrys.f k ad aj).bind fun s=>(laws_sameTexts.f k ae ak).bind fun t=>if (p=true∧q=true∧s=true∧t=true)∧af=al∧ag=an then some true else none
theorem laws_sameDisk.mono:∀ aa ab ad ae af ag ah ai aj ak al an k,LeO (laws_sameDisk.f k aa ab ad ae af ag ah ai aj ak al an) (laws_sameDisk.f (k+1) aa ab ad ae af ag ah ai aj ak al an):=by
  intro aa ab ad ae af ag ah ai aj ak al an k
  unfold laws_sameDisk.f
  repeat' first | (with_reducible exact LeO.refl _) | (with_reducible exact laws_sameNodes.mono _ _ _) | (with_reducible exact laws_sameEntrys.mono _ _ _) | (with_reducible exact laws_sameTexts.mono _ _ _) | (with_reducible refine LeO.bind ?_ (fun _=>?_))
theorem laws_sameDisk.calls (k:Nat) (aj:Option Addr) (ak:Nat) (aa:List (S45)) (al:Option Addr) (an:Nat) (ab:List (S47)) (ao:Option Addr) (aq:Nat) (ad:List (S47)) (ar:Option Addr) (au:Nat) (ae:List ByteArray) (av:Int) (aw:Int) (ax:Option Addr) (ay:Nat) (af:List (S45)) (az:Option Addr) (aA:Nat) (ag:List (S47)) (aB:Option Addr) (aC:Nat) (ah:List (S47)) (aD:Option Addr) (aE:Nat) (ai:List ByteArray) (aV:Int) (aW:Int) (r:Bool) (w:World) (aF:Kd.C k45 w aj aa.length aa) (aG:aa.length≤ak) (aH:Kd.C k47 w al ab.length ab) (aI:ab.length≤an) (aJ:Kd.C k47 w ao ad.length ad) (aK:ad.length≤aq) (aL:Kd.C Kd.string w ar ae.length ae) (aM:ae.length≤au) (aN:Kd.C k45 w ax af.length af) (aO:af.length≤ay) (aP:Kd.C k47 w az ag.length ag) (aQ:ag.length≤aA) (aR:Kd.C k47 w aB ah.length ah) (aS:ah.length≤aC) (aT:Kd.C Kd.string w aD ai.length ai) (aU:ai.length≤aE) (h:laws_sameDisk.f k aa ab ad ae av aw af ag ah ai aV aW=some r) :
    Calls Tryz.prog 10 #[.agg #[.slice aj aa.length ak,.slice al ab.length an,.slice ao ad.length aq,.slice ar ae.length au,.int .i64 av,.int .i64 aw],.agg #[.slice ax af.length ay,.slice az ag.length aA,.slice aB ah.length aC,.slice aD ai.length aE,.int .i64 aV,.int .i64 aW]] w fun e w'=>e=.returned (.bool r)∧Below w.heap.size w w':=by
  unfold laws_sameDisk.f at h
  replace h:=zo h
  obtain ⟨p,hp,h⟩:=h
  replace h:=zo h
  obtain ⟨q,hq,h⟩:=h
  replace h:=zo h
  obtain ⟨s,hs,h⟩:=h
  replace h:=zo h
  obtain ⟨t,ht,h⟩:=h
  split at h
  case isFalse=>cases h
  rename_i hc
  obtain ⟨⟨rfl,rfl,rfl,rfl⟩,c5,c6⟩:=hc
  subst c5 c6
  obtain rfl:=Option.some.inj h
  have C0:=zA (fun (w1:World) (hb:Below w.heap.size w w1)=>laws_sameNodes.calls k aj ak aa ax ay af true w1 (Kd.C_below aF hb) aG (Kd.C_below aN hb) aO hp)
  have C1:=zA (fun (w1:World) (hb:Below w.heap.size w w1)=>laws_sameEntrys.calls k al an ab az aA ag true w1 (Kd.C_below aH hb) aI (Kd.C_below aP hb) aQ hq)
  have C2:=zA (fun (w1:World) (hb:Below w.heap.size w w1)=>laws_sameEntrys.calls k ao aq ad aB aC ah true w1 (Kd.C_below aJ hb) aK (Kd.C_below aR hb) aS hs)
  have C3:=zA (fun (w1:World) (hb:Below w.heap.size w w1)=>laws_sameTexts.calls k ar au ae aD aE ai true w1 (Kd.C_below aL hb) aM (Kd.C_below aT hb) aU ht)
  have BL:=zA (Below.refl w.heap.size w)
  clear hp hq hs ht h aF aG aH aI aJ aK aL aM aN aO aP aQ aR aS aT aU
  go_enter Tryz.func10,Tryz.ntmps10
  go_wp2_with (first | ((with_reducible refine gate_dst (N:=2) rfl ?_);refine box_event ?hg (N:=2) ?hd (cs:=#[.slice aj aa.length ak,.slice al ab.length an,.slice ao ad.length aq,.slice ar ae.length au,.int .i64 av,.int .i64 aw]) (t:=28) ?hr ?_;(case hd=>rfl);(case hg=>rfl);(case hr=>(go_simp;done));intro gD hg w1 hbox hb;replace BL:=zs BL hb;have BD:=zA hbox;clear hg hbox hb;(try replace iD:=blk6 BD.out)) | ((with_reducible refine gate_dst (N:=3) rfl ?_);refine box_event ?hg (N:=3) ?hd (cs:=#[.slice ax af.length ay,.slice az ag.length aA,.slice aB ah.length aC,.slice aD ai.length aE,.int .i64 av,.int .i64 aw]) (t:=28) ?hr ?_;(case hd=>rfl);(case hg=>rfl);(case hr=>(go_simp;done));intro gE hg w1 hbox hb;replace BL:=zs BL hb;(try replace BD:=zb BD hb);have BE:=zA hbox;clear hg hbox hb;(try replace iD:=blk6 BD.out);(try replace iE:=blk6 BE.out)) | (go_at_call 48;(with_reducible refine (C0.out _ BL.out).mono ?_);rintro e wq ⟨rfl,hq⟩;have hb:Below w1.heap.size w1 wq:=(by obtain ⟨nd,hnd⟩:=hq;rw [hnd];exact pw_below_drewN (Below.refl _ _) nd);clear hq;replace BL:=zs BL hb;(try replace BD:=zb BD hb);(try replace BE:=zb BE hb);clear hb;obtain ⟨w1,hw1⟩:∃ x,x=wq:=⟨_,rfl⟩;subst hw1;(try replace iD:=blk6 BD.out);(try replace iE:=blk6 BE.out)) | (go_at_call 49;(with_reducible refine (C1.out _ BL.out).mono ?_);rintro e wq ⟨rfl,hq⟩;have hb:Below w1.heap.size w1 wq:=(by obtain ⟨nd,hnd⟩:=hq;rw [hnd];exact pw_below_drewN (Below.refl _ _) nd);clear hq;replace BL:=zs BL hb;(try replace BD:=zb BD hb);(try replace BE:=zb BE hb);clear hb;obtain ⟨w1,hw1⟩:∃ x,x=wq:=⟨_,rfl⟩;subst hw1;(try replace iD:=blk6 BD.out);(try replace iE:=blk6 BE.out)) | (go_at_call 49;(with_reducible refine (C2.out _ BL.out).mono ?_);rintro e wq ⟨rfl,hq⟩;have hb:Below w1.heap.size w1 wq:=(by obtain ⟨nd,hnd⟩:=hq;rw [hnd];exact pw_below_drewN (Below.refl _ _) nd);clear hq;replace BL:=zs BL hb;(try replace BD:=zb BD hb);(try replace BE:=zb BE hb);clear hb;obtain ⟨w1,hw1⟩:∃ x,x=wq:=⟨_,rfl⟩;subst hw1;(try replace iD:=blk6 BD.out);(try replace iE:=blk6 BE.out)) | (go_at_call 50;(with_reducible refine (C3.out _ BL.out).mono ?_);rintro e wq ⟨rfl,hq⟩;have hb:Below w1.heap.size w1 wq:=(by obtain ⟨nd,hnd⟩:=hq;rw [hnd];exact pw_below_drewN (Below.refl _ _) nd);clear hq;replace BL:=zs BL hb;(try replace BD:=zb BD hb);(try replace BE:=zb BE hb);clear hb;obtain ⟨w1,hw1⟩:∃ x,x=wq:=⟨_,rfl⟩;subst hw1;(try replace iD:=blk6 BD.out);(try replace iE:=blk6 BE.out)))
  go_ret
  exact ⟨rfl,BL.out⟩
def impl_NodeAt.f (ab:List (S45)) (ad:List (S47)) (ae:List (S47)) (af:List ByteArray) (ag:Int) (ah:Int) (a1:ByteArray):Option (Int×ByteArray×Int×Bool):=(impl_Disk_nodeAt.f ab ad ae af ag ah a1).bind fun aa=>(if aa<0 then (some (0,(⟨#[]⟩:ByteArray),0,false)) else (if 0≤aa then (if aa<(ab.length:Int) then (some ((rd_T45 ab aa).f0,(rd_T45 ab aa).f1,(rd_T45 ab aa).f2,true)) else (none)) else (none)))
theorem impl_NodeAt.calls (aq:Option Addr) (ar:Nat) (ab:List (S45)) (au:Option Addr) (av:Nat) (ag:List (S47)) (aw:Option Addr) (ax:Nat) (ah:List (S47)) (ay:Option Addr) (az:Nat) (ai:List ByteArray) (aj:Int) (ak:Int) (a1:ByteArray) (r1:Int) (r2:ByteArray) (r3:Int) (r4:Bool) (w:World) (aC:Kd.C k45 w aq ab.length ab) (aD:ab.length≤ar) (aE:Kd.C k47 w au ag.length ag) (aF:ag.length≤av) (aG:Kd.C k47 w aw ah.length ah) (aH:ah.length≤ax) (aI:Kd.C Kd.string w ay ai.length ai) (aJ:ai.length≤az) (h:impl_NodeAt.f ab ag ah ai aj ak a1=some (r1,r2,r3,r4)) :
  Calls Tryz.prog 55 #[.agg #[.slice aq ab.length ar,.slice au ag.length av,.slice aw ah.length ax,.slice ay ai.length az,.int .i64 aj,.int .i64 ak],.string a1] w fun e w'=>e=.returned (.tuple #[.agg #[.int .i64 r1,.string r2,.int .i64 r3],.bool r4])∧Below w.heap.size w w':=by
 have aA:=zA aC
 have aK:=zA aD
 clear aC aD
 have aL:=zA aE
 have aM:=zA aF
 clear aE aF
 have aN:=zA aG
 have aO:=zA aH
 clear aG aH
 have aP:=zA aI
 have aQ:=zA aJ
 clear aI aJ
 have HB:=zA (Below.refl w.heap.size w)
 have H:((impl_Disk_nodeAt.f ab ag ah ai aj ak a1).bind fun aa=>(if aa<0 then (some (0,(⟨#[]⟩:ByteArray),0,false)) else (if 0≤aa then (if aa<(ab.length:Int) then (some ((rd_T45 ab aa).f0,(rd_T45 ab aa).f1,(rd_T45 ab aa).f2,true)) else (none)) else (none))))=some (r1,r2,r3,r4):=h
 clear h
 obtain ⟨aa,A3,H⟩:=bA H
 replace H:(if aa<0 then (some (0,(⟨#[]⟩:ByteArray),0,false)) else (if 0≤aa then (if aa<(ab.length:Int) then (some ((rd_T45 ab aa).f0,(rd_T45 ab aa).f1,(rd_T45 ab aa).f2,true)) else (none)) else (none)))=some (r1,r2,r3,r4):=H
 by_cases c4:aa<0
 ·rw [if_pos c4] at H
  have aU:decide (aa<0)=true:=zt c4
  clear c4
  simp only [Option.some.injEq,Prod.mk.injEq] at H
  obtain ⟨rfl,rfl,rfl,rfl⟩:=H
  go_enter Tryz.func55,Tryz.ntmps55
  go_wp2_with (first | ((with_reducible refine gate_dst (N:=2) rfl ?_);refine box_event ?hg (N:=2) ?hd (cs:=#[.slice aq ab.length ar,.slice au ag.length av,.slice aw ah.length ax,.slice ay ai.length az,.int .i64 aj,.int .i64 ak]) (t:=28) ?hr ?_;(case hd=>rfl);(case hg=>rfl);(case hr=>(go_simp;done));intro aT hg w5 hbox hb;have ae:=zA (hbox);replace HB:=zs HB hb;clear hb hbox hg) | ((with_reducible refine gate_dst (N:=4) rfl ?_);refine box_event ?hg (N:=4) ?hd (cs:=#[.int .i64 0,.string (⟨#[]⟩:ByteArray),.int .i64 0]) (t:=45) ?hr ?_;(case hd=>rfl);(case hg=>rfl);(case hr=>(go_simp;done));intro af hg w6 hbox hb;have ad:=zA (hbox);have aB:=zA ((by rw [hg];exact (below_size HB.out):w.heap.size≤af));replace ae:=zA (bB hb ae.out);replace HB:=zs HB hb;clear hb hbox hg;obtain ⟨hcz8_0,hcz8_1,hcz8_2,hcz8_3,hcz8_4,hcz8_5⟩:=b6of ae.out;obtain ⟨hfz8_0,hfz8_1,hfz8_2,hfz8_3,hfz8_4,hfz8_5⟩:=z6of ae.out) | ((with_reducible refine gate_callee (f:=41) rfl ?_);refine goesL_ (some 9) rfl rfl Tryz.func41 (by kernel_rfl) rfl #[.agg #[.slice aq ab.length ar,.slice au ag.length av,.slice aw ah.length ax,.slice ay ai.length az,.int .i64 aj,.int .i64 ak],.string a1] rfl (by (try simp only [List.map_toArray,List.map_cons,List.map_nil]);rfl) ?_;(with_reducible refine (impl_Disk_nodeAt.calls _ _ ab _ _ ag _ _ ah _ _ ai aj ak a1 aa _ ?side1 ?side2 ?side3 ?side4 ?side5 ?side6 ?side7 ?side8 A3.out).mono ?_);(case side1=>repeat (exact (Kd.C_below aA.out HB.out)));(case side2=>exact aK.out);(case side3=>repeat (exact (Kd.C_below aL.out HB.out)));(case side4=>exact aM.out);(case side5=>repeat (exact (Kd.C_below aN.out HB.out)));(case side6=>exact aO.out);(case side7=>repeat (exact (Kd.C_below aP.out HB.out)));(case side8=>exact aQ.out);rintro e w9 ⟨rfl,hb⟩;refine ⟨_,rfl,?_⟩;replace ae:=zA (bB hb ae.out);replace ad:=zA (bB hb ad.out);replace HB:=zs HB hb;(try clear hb);have hcz10_0:w9.cell? ⟨af,0,none⟩=some (.int .i64 0):=(blk_cell ad.out 0).trans rfl;have hcz10_1:w9.cell? ⟨af,1,none⟩=some (.string (⟨#[]⟩:ByteArray)):=(blk_cell ad.out 1).trans rfl;have hcz10_2:w9.cell? ⟨af,2,none⟩=some (.int .i64 0):=(blk_cell ad.out 2).trans rfl;have hfz10_0:=blk_frozen ad.out 0;have hfz10_1:=blk_frozen ad.out 1;have hfz10_2:=blk_frozen ad.out 2))
  refine bodyPost_ret (results_ct rfl _ _ af 45 #[.int .i64 0,.string (⟨#[]⟩:ByteArray),.int .i64 0] (0,0) _ rfl (by refine blk_put (cs:=#[.int .i64 0,.string (⟨#[]⟩:ByteArray),.int .i64 0]) ?_ 2 _ rfl;refine blk_put (cs:=#[.int .i64 0,.string (⟨#[]⟩:ByteArray),.int .i64 0]) ?_ 1 _ rfl;refine blk_put (cs:=#[.int .i64 0,.string (⟨#[]⟩:ByteArray),.int .i64 0]) ?_ 0 _ rfl;exact ad.out) Tryz.underlying45 rfl (by kernel_rfl)) rfl ?_
  all_goals exact ⟨by rfl,by repeat (with_reducible first | exact HB.out | refine below_set ?_ aB.out)⟩
 ·rw [if_neg c4] at H
  have aU:decide (aa<0)=false:=zf c4
  clear c4
  by_cases c11:0≤aa
  ·rw [if_pos c11] at H
   have c11b0:decide (0≤aa)=true:=zt c11
   clear c11
   by_cases c12:aa<(ab.length:Int)
   ·rw [if_pos c12] at H
    have c12b0:decide (aa<(ab.length:Int))=true:=zt c12
    clear c12
    simp only [Option.some.injEq,Prod.mk.injEq] at H
    obtain ⟨rfl,rfl,rfl,rfl⟩:=H
    go_enter Tryz.func55,Tryz.ntmps55
    go_wp2_with (first | ((with_reducible refine gate_dst (N:=2) rfl ?_);refine box_event ?hg (N:=2) ?hd (cs:=#[.slice aq ab.length ar,.slice au ag.length av,.slice aw ah.length ax,.slice ay ai.length az,.int .i64 aj,.int .i64 ak]) (t:=28) ?hr ?_;(case hd=>rfl);(case hg=>rfl);(case hr=>(go_simp;done));intro aT hg w13 hbox hb;have ae:=zA (hbox);replace HB:=zs HB hb;clear hb hbox hg) | ((with_reducible refine gate_dst (N:=4) rfl ?_);refine box_event ?hg (N:=4) ?hd (cs:=#[.int .i64 0,.string (⟨#[]⟩:ByteArray),.int .i64 0]) (t:=45) ?hr ?_;(case hd=>rfl);(case hg=>rfl);(case hr=>(go_simp;done));intro af hg w14 hbox hb;have ad:=zA (hbox);have aB:=zA ((by rw [hg];exact (below_size HB.out):w.heap.size≤af));replace ae:=zA (bB hb ae.out);replace HB:=zs HB hb;clear hb hbox hg;obtain ⟨hcz16_0,hcz16_1,hcz16_2,hcz16_3,hcz16_4,hcz16_5⟩:=b6of ae.out;obtain ⟨hfz16_0,hfz16_1,hfz16_2,hfz16_3,hfz16_4,hfz16_5⟩:=z6of ae.out) | ((with_reducible refine gate_callee (f:=41) rfl ?_);refine goesL_ (some 9) rfl rfl Tryz.func41 (by kernel_rfl) rfl #[.agg #[.slice aq ab.length ar,.slice au ag.length av,.slice aw ah.length ax,.slice ay ai.length az,.int .i64 aj,.int .i64 ak],.string a1] rfl (by (try simp only [List.map_toArray,List.map_cons,List.map_nil]);rfl) ?_;(with_reducible refine (impl_Disk_nodeAt.calls _ _ ab _ _ ag _ _ ah _ _ ai aj ak a1 aa _ ?side1 ?side2 ?side3 ?side4 ?side5 ?side6 ?side7 ?side8 A3.out).mono ?_);(case side1=>repeat (exact (Kd.C_below aA.out HB.out)));(case side2=>exact aK.out);(case side3=>repeat (exact (Kd.C_below aL.out HB.out)));(case side4=>exact aM.out);(case side5=>repeat (exact (Kd.C_below aN.out HB.out)));(case side6=>exact aO.out);(case side7=>repeat (exact (Kd.C_below aP.out HB.out)));(case side8=>exact aQ.out);rintro e w17 ⟨rfl,hb⟩;refine ⟨_,rfl,?_⟩;replace ae:=zA (bB hb ae.out);replace ad:=zA (bB hb ad.out);replace HB:=zs HB hb;(try clear hb);obtain ⟨hcz18_0,hcz18_1,hcz18_2,hcz18_3,hcz18_4,hcz18_5⟩:=b6of ae.out;obtain ⟨hfz18_0,hfz18_1,hfz18_2,hfz18_3,hfz18_4,hfz18_5⟩:=z6of ae.out;have aR:0≤(aa:Int):=ze;have aS:aa<(ab.length:Int):=ze;obtain ⟨ad326,aV,al,an,ao⟩:=at_T45 aA.out aa aR aS;cases aV;replace al:=(HB.out.cell (World.block_lt_of_cell? w _ al)).trans al;replace an:=(HB.out.cell (World.block_lt_of_cell? w _ an)).trans an;replace ao:=(HB.out.cell (World.block_lt_of_cell? w _ ao)).trans ao;replace aR:=eq_true aR;replace aS:=eq_true aS;have hcz19_0:w17.cell? ⟨af,0,none⟩=some (.int .i64 0):=(blk_cell ad.out 0).trans rfl;have hcz19_1:w17.cell? ⟨af,1,none⟩=some (.string (⟨#[]⟩:ByteArray)):=(blk_cell ad.out 1).trans rfl;have hcz19_2:w17.cell? ⟨af,2,none⟩=some (.int .i64 0):=(blk_cell ad.out 2).trans rfl;have hfz19_0:=blk_frozen ad.out 0;have hfz19_1:=blk_frozen ad.out 1;have hfz19_2:=blk_frozen ad.out 2))
    refine bodyPost_ret (results_ct rfl _ _ af 45 #[.int .i64 ((rd_T45 ab aa).f0),.string ((rd_T45 ab aa).f1),.int .i64 ((rd_T45 ab aa).f2)] (0,0) _ rfl (by refine blk_put (cs:=#[.int .i64 ((rd_T45 ab aa).f0),.string ((rd_T45 ab aa).f1),.int .i64 0]) ?_ 2 _ rfl;refine blk_put (cs:=#[.int .i64 ((rd_T45 ab aa).f0),.string (⟨#[]⟩:ByteArray),.int .i64 0]) ?_ 1 _ rfl;refine blk_put (cs:=#[.int .i64 0,.string (⟨#[]⟩:ByteArray),.int .i64 0]) ?_ 0 _ rfl;exact ad.out) Tryz.underlying45 rfl (by kernel_rfl)) rfl ?_
    all_goals exact ⟨by rfl,by repeat (with_reducible first | exact HB.out | refine below_set ?_ aB.out)⟩
   ·rw [if_neg c12] at H
    exact absurd H (by simp)
  ·rw [if_neg c11] at H
   exact absurd H (by simp)
def impl_ReadFile.f (ab:List (S45)) (ad:List (S47)) (ae:List (S47)) (af:List ByteArray) (ag:Int) (ah:Int) (a1:ByteArray):Option (ByteArray×Bool):=(impl_NodeAt.f ab ad ae af ag ah a1).bind fun aa=>(some (aa.2.1,aa.2.2.2))
theorem impl_ReadFile.calls (ak:Option Addr) (al:Nat) (ad:List (S45)) (an:Option Addr) (ao:Nat) (ae:List (S47)) (aq:Option Addr) (ar:Nat) (af:List (S47)) (au:Option Addr) (av:Nat) (ag:List ByteArray) (ai:Int) (aj:Int) (a1:ByteArray) (r1:ByteArray) (r2:Bool) (w:World) (aw:Kd.C k45 w ak ad.length ad) (ax:ad.length≤al) (ay:Kd.C k47 w an ae.length ae) (az:ae.length≤ao) (aA:Kd.C k47 w aq af.length af) (aB:af.length≤ar) (aC:Kd.C Kd.string w au ag.length ag) (aD:ag.length≤av) (h:impl_ReadFile.f ad ae af ag ai aj a1=some (r1,r2)) :
  Calls Tryz.prog 12 #[.agg #[.slice ak ad.length al,.slice an ae.length ao,.slice aq af.length ar,.slice au ag.length av,.int .i64 ai,.int .i64 aj],.string a1] w fun e w'=>e=.returned (.tuple #[.string r1,.bool r2])∧Below w.heap.size w w':=by
 have aF:=zA aw
 have aG:=zA ax
 clear aw ax
 have aH:=zA ay
 have aI:=zA az
 clear ay az
 have aJ:=zA aA
 have aK:=zA aB
 clear aA aB
 have aL:=zA aC
 have aM:=zA aD
 clear aC aD
 have HB:=zA (Below.refl w.heap.size w)
 have H:((impl_NodeAt.f ad ae af ag ai aj a1).bind fun aE=>(some (aE.2.1,aE.2.2.2)))=some (r1,r2):=h
 clear h
 obtain ⟨⟨aQ,aN,aR,aO⟩,A3,H⟩:=bA H
 replace H:(some (aN,aO))=some (r1,r2):=H
 simp only [Option.some.injEq,Prod.mk.injEq] at H
 obtain ⟨rfl,rfl⟩:=H
 go_enter Tryz.func12,Tryz.ntmps12
 go_wp2_with (first | ((with_reducible refine gate_dst (N:=2) rfl ?_);refine box_event ?hg (N:=2) ?hd (cs:=#[.slice ak ad.length al,.slice an ae.length ao,.slice aq af.length ar,.slice au ag.length av,.int .i64 ai,.int .i64 aj]) (t:=28) ?hr ?_;(case hd=>rfl);(case hg=>rfl);(case hr=>(go_simp;done));intro gb327 hg w4 hbox hb;have aa:=zA (hbox);replace HB:=zs HB hb;clear hb hbox hg;obtain ⟨hcz5_0,hcz5_1,hcz5_2,hcz5_3,hcz5_4,hcz5_5⟩:=b6of aa.out;obtain ⟨hfz5_0,hfz5_1,hfz5_2,hfz5_3,hfz5_4,hfz5_5⟩:=z6of aa.out) | ((with_reducible refine gate_callee (f:=55) rfl ?_);refine goesL_ (some 11) rfl rfl Tryz.func55 (by kernel_rfl) rfl #[.agg #[.slice ak ad.length al,.slice an ae.length ao,.slice aq af.length ar,.slice au ag.length av,.int .i64 ai,.int .i64 aj],.string a1] rfl (by (try simp only [List.map_toArray,List.map_cons,List.map_nil]);rfl) ?_;(with_reducible refine (impl_NodeAt.calls _ _ ad _ _ ae _ _ af _ _ ag ai aj a1 aQ aN aR aO _ ?side1 ?side2 ?side3 ?side4 ?side5 ?side6 ?side7 ?side8 A3.out).mono ?_);(case side1=>repeat (exact (Kd.C_below aF.out HB.out)));(case side2=>exact aG.out);(case side3=>repeat (exact (Kd.C_below aH.out HB.out)));(case side4=>exact aI.out);(case side5=>repeat (exact (Kd.C_below aJ.out HB.out)));(case side6=>exact aK.out);(case side7=>repeat (exact (Kd.C_below aL.out HB.out)));(case side8=>exact aM.out);rintro e w6 ⟨rfl,hb⟩;refine ⟨_,rfl,?_⟩;replace aa:=zA (bB hb aa.out);replace HB:=zs HB hb;(try clear hb)) | ((with_reducible refine gate_dst (N:=6) rfl ?_);refine box_event ?hg (N:=6) ?hd (cs:=#[.int .i64 0,.string (⟨#[]⟩:ByteArray),.int .i64 0]) (t:=45) ?hr ?_;(case hd=>rfl);(case hg=>rfl);(case hr=>(go_simp;done));intro ah hg w7 hbox hb;have ab:=zA (hbox);have aP:=zA ((by rw [hg];exact (below_size HB.out):w.heap.size≤ah));replace aa:=zA (bB hb aa.out);replace HB:=zs HB hb;clear hb hbox hg;have hcz9_0:w7.cell? ⟨ah,0,none⟩=some (.int .i64 0):=(blk_cell ab.out 0).trans rfl;have hcz9_1:w7.cell? ⟨ah,1,none⟩=some (.string (⟨#[]⟩:ByteArray)):=(blk_cell ab.out 1).trans rfl;have hcz9_2:w7.cell? ⟨ah,2,none⟩=some (.int .i64 0):=(blk_cell ab.out 2).trans rfl;have hfz9_0:=blk_frozen ab.out 0;have hfz9_1:=blk_frozen ab.out 1;have hfz9_2:=blk_frozen ab.out 2))
 all_goals (go_ret2)
 all_goals exact ⟨by rfl,by repeat (with_reducible first | exact HB.out | refine below_set ?_ aP.out)⟩
def impl_SyncFile.f (k:Nat) (ad:List (S45)) (ae:List (S47)) (af:List (S47)) (ag:List ByteArray) (ah:Int) (ai:Int) (a1:ByteArray):Option ((List (S45))×(List (S47))×(List (S47))×List ByteArray×Int×Int×Int):=(impl_copyDisk.f ad ae af ag ah ai).bind fun aa=>((impl_Disk_nodeAt.f ad ae af ag ah ai a1).bind fun ab=>((impl_DiskOk.f k ad ae af ag ah ai).bind fun aj=>(if aj=true then (if ab<0 then (some (aa.1,aa.2.1,aa.2.2.1,aa.2.2.2.1,aa.2.2.2.2.1,aa.2.2.2.2.2,3)) else (if 0≤ab then (if ab<(aa.1.length:Int) then (some ((aa.1.set (ab:Int).toNat (⟨(rd_T45 aa.1 ab).f0,(rd_T45 aa.1 ab).f1,(((rd_T45 aa.1 ab).f1).size:Int)⟩:S45)),aa.2.1,aa.2.2.1,aa.2.2.2.1,aa.2.2.2.2.1,aa.2.2.2.2.2,0)) else (none)) else (none))) else (some (aa.1,aa.2.1,aa.2.2.1,aa.2.2.2.1,aa.2.2.2.2.1,aa.2.2.2.2.2,3)))))
theorem impl_SyncFile.mono:∀ a0 a1 a2 a3 a4 a5 a6 k,LeO (impl_SyncFile.f k a0 a1 a2 a3 a4 a5 a6) (impl_SyncFile.f (k+1) a0 a1 a2 a3 a4 a5 a6):=by
 intro a0 a1 a2 a3 a4 a5 a6 k
 unfold impl_SyncFile.f
 repeat' first | (with_reducible exact impl_DiskOk.mono _ _ _ _ _ _ _) | (with_reducible exact LeO.refl _) | (with_reducible refine LeO.bind ?_ (fun _=>?_))
theorem impl_SyncFile.calls (k:Nat) (ao:Option Addr) (aq:Nat) (aa:List (S45)) (ar:Option Addr) (au:Nat) (ab:List (S47)) (av:Option Addr) (aw:Nat) (ad:List (S47)) (ax:Option Addr) (ay:Nat) (ae:List ByteArray) (az:Int) (aA:Int) (a1:ByteArray) (r1:List S45) (r2:List S47) (r3:List S47) (r4:List ByteArray) (r5:Int) (r6:Int) (r7:Int) (w:World) (af:Kd.C k45 w ao aa.length aa) (ag:aa.length≤aq) (ah:Kd.C k47 w ar ab.length ab) (ai:ab.length≤au) (aj:Kd.C k47 w av ad.length ad) (ak:ad.length≤aw) (al:Kd.C Kd.string w ax ae.length ae) (an:ae.length≤ay) (hTE:TabsE w) (hTP:TabsP w) (h:impl_SyncFile.f k aa ab ad ae az aA a1=some (r1,r2,r3,r4,r5,r6,r7)) :
    Calls Tryz.prog 13 #[.agg #[.slice ao aa.length aq,.slice ar ab.length au,.slice av ad.length aw,.slice ax ae.length ay,.int .i64 az,.int .i64 aA],.string a1] w fun e w'=>∃ v0_ v1_ v2_ v3_:Value,e=.returned (.tuple #[.agg #[v0_,v1_,v2_,v3_,.int .i64 r5,.int .i64 r6],.int .i64 r7])∧Kd.R k45 45 w' w.heap.size (fun _=>True) v0_ r1∧Kd.R k47 47 w' w.heap.size (fun k_=>some k_≠(v2_:Value).ownBlock) v1_ r2∧Kd.R k47 47 w' w.heap.size (fun k_=>some k_≠(v1_:Value).ownBlock) v2_ r3∧Kd.R Kd.string 9 w' w.heap.size (fun _=>True) v3_ r4∧Below w.heap.size w w':=by
  unfold impl_SyncFile.f at h
  replace h:=zo h
  obtain ⟨⟨o1,o2,o3,o4,o5,o6⟩,ho,h⟩:=h
  replace h:=zo h
  obtain ⟨t,ht,h⟩:=h
  replace h:=zo h
  obtain ⟨b,hbk,h⟩:=h
  dsimp only at h
  have CC:=zA (fun (w1:World) (hb:Below w.heap.size w w1)=>impl_copyDisk.calls ao aq aa ar au ab av aw ad ax ay ae az aA o1 o2 o3 o4 o5 o6 w1 (Kd.C_below af hb) ag (Kd.C_below ah hb) ai (Kd.C_below aj hb) ak (Kd.C_below al hb) an ho)
  have CN:=zA (fun (w1:World) (hb:Below w.heap.size w w1)=>impl_Disk_nodeAt.calls ao aq aa ar au ab av aw ad ax ay ae az aA a1 t w1 (Kd.C_below af hb) ag (Kd.C_below ah hb) ai (Kd.C_below aj hb) ak (Kd.C_below al hb) an ht)
  have CD:=zA (fun (w1:World) (hb:Below w.heap.size w w1)=>impl_DiskOk.calls k ao aq aa ar au ab av aw ad ax ay ae az aA b w1 (Kd.C_below af hb) ag (Kd.C_below ah hb) ai (Kd.C_below aj hb) ak (Kd.C_below al hb) an (hTE.below hb) (hTP.below hb) hbk)
  clear ho ht hbk af ag ah ai aj ak al an hTE hTP
  cases b
  (rw [if_neg (by decide)] at h;simp only [Option.some.injEq,Prod.mk.injEq] at h;obtain ⟨rfl,rfl,rfl,rfl,rfl,rfl,rfl⟩:=h)
  (rotate_left 1;(rw [if_pos rfl] at h;by_cases tn:t<0);rotate_right 1)
  (rotate_left 1;(rw [if_pos tn] at h;simp only [Option.some.injEq,Prod.mk.injEq] at h;obtain ⟨rfl,rfl,rfl,rfl,rfl,rfl,rfl⟩:=h;have dt:decide (t<0)=true:=zt tn;clear tn);rotate_right 1)
  (rotate_left 2;(rw [if_neg tn] at h;have dt:decide (t<0)=false:=zf tn;rw [if_pos (by omega)] at h;by_cases tl:t<(o1.length:Int));rotate_right 2)
  (rotate_left 3;(rw [if_neg tl] at h;cases h);rotate_right 3)
  (rotate_left 2;(rw [if_pos tl] at h;simp only [Option.some.injEq,Prod.mk.injEq] at h;obtain ⟨rfl,rfl,rfl,rfl,rfl,rfl,rfl⟩:=h);rotate_right 2)
  all_goals (go_enter Tryz.func13,Tryz.ntmps13;go_wp2_with (first | ((with_reducible refine gate_dst (N:=2) rfl ?_);refine box_event ?hg (N:=2) ?hd (cs:=#[.slice ao aa.length aq,.slice ar ab.length au,.slice av ad.length aw,.slice ax ae.length ay,.int .i64 az,.int .i64 aA]) (t:=28) ?hr ?_;(case hd=>rfl);(case hg=>rfl);(case hr=>(go_simp;done));intro gD hg w1 hbox hb;have BL:=zA hb;have BD:=zA hbox;clear hb;replace iD:=blk6 BD.out;clear hg hbox) | ((with_reducible refine gate_dst (N:=4) rfl ?_);refine box_event ?hg (N:=4) ?hd (cs:=#[.slice none 0 0,.slice none 0 0,.slice none 0 0,.slice none 0 0,.int .i64 0,.int .i64 0]) (t:=28) ?hr ?_;(case hd=>rfl);(case hg=>rfl);(case hr=>(go_simp;done));intro gR hg w1 hbox hb;have GR:=zA (show w.heap.size≤gR by rw [hg];exact BL.out.size);replace BL:=zs BL hb;(try replace BD:=zb BD hb);have BR:=zA hbox;clear hb;replace iD:=blk6 BD.out;clear hg hbox) | (go_at_call 40;have hbs:=BL.out.size;(with_reducible refine (CC.out _ BL.out).mono ?_);rintro e w1 ⟨v0,v1,v2,v3,rfl,p0,p1,p2,p3,hb⟩;have hD:=HasD.of p0 p1 p2 p3;replace BL:=zs BL hb;(try replace BD:=zb BD hb);(try replace BR:=zb BR hb);have Do:=zA (hD.lower hbs);obtain ⟨A0,c0,rfl⟩:=Kd.R_slice p0;obtain ⟨A1,c1,rfl⟩:=Kd.R_slice p1;obtain ⟨A2,c2,rfl⟩:=Kd.R_slice p2;obtain ⟨A3,c3,rfl⟩:=Kd.R_slice p3;clear hD hb hbs p0 p1 p2 p3;replace iD:=blk6 BD.out) | ((with_reducible refine gate_store (t:=28) (p:=6) rfl ?_);refine store_event (t:=28) (p:=6) (w1:=w1.alloc (.cells #[.slice A0 o1.length c0,.slice A1 o2.length c1,.slice A2 o3.length c2,.slice A3 o4.length c3,.int .i64 o5,.int .i64 o6] 28 (0,0))) rfl rfl rfl ?hr ?_;(case hr=>(go_simp;done));intro wz hw;have hb:Below w1.heap.size w1 wz:=(by rw [hw];exact below_alloc (Below.refl _ _) _);have hbox:=(by rw [hw];exact blk_new w1 _:wz.heap[w1.heap.size]? = some (.cells #[.slice A0 o1.length c0,.slice A1 o2.length c1,.slice A2 o3.length c2,.slice A3 o4.length c3,.int .i64 o5,.int .i64 o6] 28 (0,0)));clear hw;have hgO_:w.heap.size≤w1.heap.size:=BL.out.size;have dO_:=Nat.ne_of_lt (blk_lt BD.out);have rO_:=Nat.ne_of_lt (blk_lt BR.out);obtain ⟨gO,hg⟩:∃ g,g=w1.heap.size:=⟨_,rfl⟩;rw [← hg] at hbox hgO_ dO_ rO_;clear hgO_ dO_ rO_;(try rw [← hg]);clear hg;replace BL:=zs BL hb;(try replace BD:=zb BD hb);(try replace BR:=zb BR hb);(try replace Do:=zA (Do.out.on hb));have BO:=zA hbox;clear hb hbox;obtain ⟨w1,hw1⟩:∃ x,x=wz:=⟨_,rfl⟩;subst hw1;replace iD:=blk6 BD.out;replace iO:=blk6 BO.out) | (go_at_call 41;(with_reducible refine (CN.out _ BL.out).mono ?_);rintro e w1 ⟨rfl,hb⟩;replace BL:=zs BL hb;(try replace BD:=zb BD hb);(try replace BR:=zb BR hb);(try replace BO:=zb BO hb);(try replace Do:=zA (Do.out.on hb));clear hb;replace iD:=blk6 BD.out;replace iO:=blk6 BO.out) | (go_at_call 42;(with_reducible refine (CD.out _ BL.out).mono ?_);rintro e w1 ⟨rfl,hb⟩;replace BL:=zs BL hb;(try replace BD:=zb BD hb);(try replace BR:=zb BR hb);(try replace BO:=zb BO hb);(try replace Do:=zA (Do.out.on hb));clear hb;replace iD:=blk6 BD.out;replace iO:=blk6 BO.out;replace iR:=blk6 BR.out;obtain ⟨zR0,zR1,zR2,zR3,zR4,zR5⟩:=z6of BR.out)))
  iterate 2 (refine bodyPost_ret (results_ct rfl _ _ gR 28 #[.slice A0 o1.length c0,.slice A1 o2.length c1,.slice A2 o3.length c2,.slice A3 o4.length c3,.int .i64 o5,.int .i64 o6] (0,0) _ rfl (fill6_at BR.out) Tryz.underlying28 rfl (by kernel_rfl)) rfl ?_;have g:∀ {A B C D E:Prop},(A∧B∧C∧D)→E→A∧B∧C∧D∧E:=fun h e=>⟨h.1,h.2.1,h.2.2.1,h.2.2.2,e⟩;refine ⟨_,_,_,_,rfl,g (HasD.told (Do.out.fill BR.out (fun j hj=>fill6_far hj))) (fill6_below BL.out GR.out)⟩)
  have hb:=below_drew (Below.refl w1.heap.size w1)
  replace BL:=zs BL hb;(try replace BD:=zb BD hb);(try replace BR:=zb BR hb);(try replace BO:=zb BO hb);(try replace Do:=zA (Do.out.on hb))
  clear hb
  obtain ⟨g,cur,hA,_,hgb,hgc,x0,x1,x2,hfz,hset⟩:=Do.out.row t.toNat (by omega)
  subst hA
  refine start_ (n:=13) (S:=fun w'=>w'.cell? ⟨gO,0,none⟩=some (.slice (some ⟨g,0,none⟩) o1.length c0)∧w'.cell? ⟨g,t.toNat*3+1,none⟩=some (.string (o1[t.toNat]'(by omega)).f1)) (ds:=[12]) (marks 13 0) (by kernel_rfl) rfl rfl ⟨blk_cell BO.out 0,x1⟩ (fun hHeld=>?_)
  generalize hW_:w1.drew=w2 at *
  clear hW_
  refine pure_ (i:=0) (N:=some 21) (v:=?_) (a':=?_) (marks 13 1) rfl rfl (by kernel_rfl) (fun _ _ _ h=>h) (Or.inl ⟨by rfl,?_⟩) ?_ ?_
  rotate_left
  · intro w';go_simp;with_reducible rfl
  rotate_left
  · simp only [Act.put,yA,yB,yC,i64_w,i32_w];rfl
  refine pure_ (i:=2) (N:=some 23) (v:=?_) (a':=?_) (marks 13 5) rfl rfl (by kernel_rfl) (fun _ _ _ h=>h) (Or.inl ⟨by rfl,?_⟩) ?_ ?_
  rotate_left
  · intro w';go_simp;with_reducible rfl
  rotate_left
  · simp only [Act.put,yA,yB,yC,i64_w,i32_w];rfl
  refine pure_ (i:=3) (N:=some 24) (v:=?_) (a':=?_) (marks 13 13) rfl rfl (by kernel_rfl) (fun _ _ _ h=>h) (Or.inl ⟨by rfl,?_⟩) ?_ ?_
  rotate_left
  · intro w';go_simp;with_reducible rfl
  rotate_left
  · simp only [Act.put,yA,yB,yC,i64_w,i32_w];rfl
  refine pure_ (i:=5) (N:=some 26) (v:=?_) (a':=?_) (marks 13 45) rfl rfl (by kernel_rfl) (fun _ _ _ h=>h) (Or.inl ⟨by rfl,?_⟩) ?_ ?_
  rotate_left
  · intro w';go_simp;with_reducible rfl
  rotate_left
  · simp only [Act.put,yA,yB,yC,i64_w,i32_w];rfl
  refine take_ (i:=1) (N:=some 22) (v:=?_) (a':=?_) (marks 13 47) rfl rfl (by kernel_rfl) (fun _ _ _ h=>h) (Or.inl ⟨by rfl,?_⟩) hHeld ?_ ?_
  rotate_left
  · rintro w' ⟨s0,s1⟩;go_simp;with_reducible rfl
  rotate_left
  · simp only [Act.put,yA,yB,yC,i64_w,i32_w];rfl
  refine take_ (i:=4) (N:=some 25) (v:=?_) (a':=?_) (marks 13 63) rfl rfl (by kernel_rfl) (fun _ _ _ h=>h) (Or.inl ⟨by rfl,?_⟩) hHeld ?_ ?_
  rotate_left
  · rintro w' ⟨s0,s1⟩;go_simp;with_reducible rfl
  rotate_left
  · simp only [Act.put,yA,yB,yC,i64_w,i32_w];rfl
  refine pure_ (i:=6) (N:=some 27) (v:=?_) (a':=?_) (marks 13 127) rfl rfl (by kernel_rfl) (fun _ _ _ h=>h) (Or.inl ⟨by rfl,?_⟩) ?_ ?_
  rotate_left
  · intro w';go_simp;with_reducible rfl
  rotate_left
  · simp only [Act.put,yA,yB,yC,i64_w,i32_w];rfl
  refine pure_ (i:=7) (N:=some 28) (v:=?_) (a':=?_) (marks 13 255) rfl rfl (by kernel_rfl) (fun _ _ _ h=>h) (Or.inl ⟨by rfl,?_⟩) ?_ ?_
  rotate_left
  · intro w';go_simp;with_reducible rfl
  rotate_left
  · simp only [Act.put,yA,yB,yC,i64_w,i32_w];rfl
  refine take_ (i:=8) (N:=some 29) (v:=?_) (a':=?_) (marks 13 511) rfl rfl (by kernel_rfl) (fun _ _ _ h=>h) (Or.inl ⟨by rfl,?_⟩) hHeld ?_ ?_
  rotate_left
  · rintro w' ⟨s0,s1⟩;go_simp;with_reducible rfl
  rotate_left
  · simp only [Act.put,yA,yB,yC,i64_w,i32_w];rfl
  refine pure_ (i:=9) (N:=some 30) (v:=?_) (a':=?_) (marks 13 1023) rfl rfl (by kernel_rfl) (fun _ _ _ h=>h) (Or.inl ⟨by rfl,?_⟩) ?_ ?_
  rotate_left
  · intro w';go_simp;with_reducible rfl
  rotate_left
  · simp only [Act.put,yA,yB,yC,i64_w,i32_w];rfl
  refine pure_ (i:=10) (N:=some 31) (v:=?_) (a':=?_) (marks 13 2047) rfl rfl (by kernel_rfl) (fun _ _ _ h=>h) (Or.inl ⟨by rfl,?_⟩) ?_ ?_
  rotate_left
  · intro w';go_simp;with_reducible rfl
  rotate_left
  · simp only [Act.put,yA,yB,yC,i64_w,i32_w];rfl
  refine pure_ (i:=11) (N:=some 32) (v:=?_) (a':=?_) (marks 13 4095) rfl rfl (by kernel_rfl) (fun _ _ _ h=>h) (Or.inl ⟨by rfl,?_⟩) ?_ ?_
  rotate_left
  · intro w';go_simp;with_reducible rfl
  rotate_left
  · simp only [Act.put,yA,yB,yC,i64_w,i32_w];rfl
  refine last_ (i:=12) (N:=none) (marks 13 8191) rfl rfl (by kernel_rfl) (by decide) (fun K hK=>?_)
  refine skip_ (w1:=?_) (by rfl) rfl ?_ ?_
  rotate_left
  · go_simp;rfl
  refine hK.out _ _ ?_
  clear hK K
  refine done_ (by kernel_rfl) ?_
  replace Do:=zA (hset (t.toNat*3+2) (.int .i64 ((o1[t.toNat]'(by omega)).f1.size:Int)) (o1.set t.toNat ⟨(o1[t.toNat]'(by omega)).f0,(o1[t.toNat]'(by omega)).f1,((o1[t.toNat]'(by omega)).f1.size:Int)⟩) (by omega) (List.length_set ..) (cellsN_set2 o1 t.toNat _ (by omega)))
  have ng:∀ {q:Nat} {cs:Array Value},w2.heap[q]? = some (.cells cs 28 (0,0))→q≠g:=fun h e=>by rw [e,hgc] at h;injection h with h;injection h with _ h;exact absurd h (by decide)
  replace BO:=zA ((Below.heap_setCell w2 ⟨g,t.toNat*3+2,none⟩ (.int .i64 ((o1[t.toNat]'(by omega)).f1.size:Int)) gO (ng BO.out)).trans BO.out)
  replace BR:=zA ((Below.heap_setCell w2 ⟨g,t.toNat*3+2,none⟩ (.int .i64 ((o1[t.toNat]'(by omega)).f1.size:Int)) gR (ng BR.out)).trans BR.out)
  replace BL:=zA (below_set (j:=t.toNat*3+2) (v:=(.int .i64 ((o1[t.toNat]'(by omega)).f1.size:Int))) BL.out hgb)
  clear hset ng hgc x0 x1 x2 hfz
  generalize w2.setCell ⟨g,t.toNat*3+2,none⟩ (.int .i64 ((o1[t.toNat]'(by omega)).f1.size:Int))=w3 at Do BO BR BL ⊢
  replace iO:=blk6 BO.out
  replace iR:=blk6 BR.out
  obtain ⟨zR0,zR1,zR2,zR3,zR4,zR5⟩:=z6of BR.out
  go_wp2
  have e_:rd_T45 o1 t=o1[t.toNat]'(by omega):=by unfold rd_T45;rw [List.getD_eq_getElem?_getD,List.getElem?_eq_getElem (by omega)];rfl
  rw [e_]
  refine bodyPost_ret (results_ct rfl _ _ gR 28 #[.slice (some ⟨g,0,none⟩) o1.length c0,.slice A1 o2.length c1,.slice A2 o3.length c2,.slice A3 o4.length c3,.int .i64 o5,.int .i64 o6] (0,0) _ rfl (fill6_at BR.out) Tryz.underlying28 rfl (by kernel_rfl)) rfl ?_
  have g:∀ {A B C D E:Prop},(A∧B∧C∧D)→E→A∧B∧C∧D∧E:=fun h e=>⟨h.1,h.2.1,h.2.2.1,h.2.2.2,e⟩
  refine ⟨_,_,_,_,rfl,g (HasD.told (Do.out.fill BR.out (fun j hj=>fill6_far hj))) (fill6_below BL.out GR.out)⟩
end Go.Proofs.YtokcccejijmkmaaGreatDoor.MFnDeeds
