/- Each theorem here says that a call of one Go function answers what the Lean function beside it answers; its conditions stand in it. Written by a program of this session. -/
import Derived.Test.YtokcccejijmkmaaGreatDoorMFnDeedsx0
import Derived.Test.YtokcccejijmkmaaGreatDoorMFnDeedsx14
import Derived.Test.YtokcccejijmkmaaGreatDoorMFnDeedsx15
import Derived.Test.YtokcccejijmkmaaGreatDoorMFnDeedsx16
import Derived.Test.YtokcccejijmkmaaGreatDoorMFnDeedsx17
namespace Go.Proofs.YtokcccejijmkmaaGreatDoor.MFnDeeds
set_option maxHeartbeats 8000000
set_option maxRecDepth 100000
open Go.RowKit Go.Proofs.YtokcccejijmkmaaGreatDoorW.PrintWords Go.Proofs.YtokcccejijmkmaaGreatDoorW.PrintLast Go.Proofs.YtokcccejijmkmaaGreatDoorW.PrintMore
attribute [local go_sem] max2_int min2_int max_two min_two max_three min_three max_four min_four
set_option linter.unusedVariables false
set_option linter.unusedSimpArgs false
mutual
def impl_DiskOk.j0:Nat→Bool→List (S45)→List (S47)→List (S47)→List ByteArray→Int→Int→Option (Bool)
 | 0,_,_,_,_,_,_,_=>none
 | k+1,x28,ae,ab,ad,aa,af,ag=>if x28=true then (some false) else ((impl_Entry_83.f ad).bind fun ai=>(impl_DiskOk.l0 k ai 0 ae ab ad aa af ag))
def impl_DiskOk.l0:Nat→List (S47)→Int→List (S45)→List (S47)→List (S47)→List ByteArray→Int→Int→Option (Bool)
 | 0,_,_,_,_,_,_,_,_=>none
 | k+1,x3,x4,ae,ab,ad,aa,af,ag=>(impl_Disk_areEntries.f ae ab ad aa af ag x3).bind fun aj=>(if aj=true then (if x4=(aa.length:Int) then ((impl_Entry_74.f k x3 ab).bind fun ak=>(some ak)) else (if 0≤x4 then (if x4<(aa.length:Int) then ((impl_stepDone.f x3 (rdOf ByteArray.empty aa x4)).bind fun ah=>(if ah.2=true then (impl_DiskOk.l0 k ah.1 (wrap64 (x4+1)) ae ab ad aa af ag) else (some false))) else (none)) else (none))) else (some false))
end
def impl_DiskOk.f (k:Nat) (ad:List (S45)) (ae:List (S47)) (af:List (S47)) (ag:List ByteArray) (aa:Int) (ab:Int):Option (Bool):=(impl_isNumber.f aa).bind fun ah=>(if ah=true then ((impl_within.f ab 1 1000000000).bind fun ai=>(if ai=true then ((impl_Disk_areNodes.f ad ae af ag aa ab).bind fun aj=>(if aj=true then ((impl_UsedOn.f k ad ae af ag aa ab).bind fun ak=>(impl_DiskOk.j0 k (decide (ak>aa)) ad ae af ag aa ab)) else (impl_DiskOk.j0 k true ad ae af ag aa ab))) else (impl_DiskOk.j0 k true ad ae af ag aa ab))) else (impl_DiskOk.j0 k true ad ae af ag aa ab))
theorem impl_DiskOk.mono_l:∀ k,(∀ y0 y1 y2 y3 y4 y5 y6,LeO (impl_DiskOk.j0 k y0 y1 y2 y3 y4 y5 y6) (impl_DiskOk.j0 (k+1) y0 y1 y2 y3 y4 y5 y6))∧(∀ y0 y1 y2 y3 y4 y5 y6 y7,LeO (impl_DiskOk.l0 k y0 y1 y2 y3 y4 y5 y6 y7) (impl_DiskOk.l0 (k+1) y0 y1 y2 y3 y4 y5 y6 y7))
 | 0=>⟨fun _ _ _ _ _ _ _ r h=>by simp [impl_DiskOk.j0] at h,fun _ _ _ _ _ _ _ _ r h=>by simp [impl_DiskOk.l0] at h⟩
 | k+1=>by
  obtain ⟨ih0,ih1⟩:=impl_DiskOk.mono_l k
  refine ⟨?_,?_⟩
  ·intro y0 y1 y2 y3 y4 y5 y6
   unfold impl_DiskOk.j0
   repeat' first | (with_reducible exact ih1 _ _ _ _ _ _ _ _) | (with_reducible exact LeO.refl _) | (with_reducible refine LeO.ite ?_ ?_) | (with_reducible refine LeO.bind ?_ (fun _=>?_))
  ·intro y0 y1 y2 y3 y4 y5 y6 y7
   unfold impl_DiskOk.l0
   repeat' first | (with_reducible exact ih1 _ _ _ _ _ _ _ _) | (with_reducible exact impl_Entry_74.mono _ _ _) | (with_reducible exact LeO.refl _) | (with_reducible refine LeO.ite ?_ ?_) | (with_reducible refine LeO.bind ?_ (fun _=>?_))
theorem impl_DiskOk.mono:∀ a0 a1 a2 a3 a4 a5 k,LeO (impl_DiskOk.f k a0 a1 a2 a3 a4 a5) (impl_DiskOk.f (k+1) a0 a1 a2 a3 a4 a5):=by
 intro a0 a1 a2 a3 a4 a5 k
 obtain ⟨ih0,ih1⟩:=impl_DiskOk.mono_l k
 unfold impl_DiskOk.f
 repeat' first | (with_reducible exact ih0 _ _ _ _ _ _ _) | (with_reducible exact impl_UsedOn.mono _ _ _ _ _ _ _) | (with_reducible exact LeO.refl _) | (with_reducible refine LeO.ite ?_ ?_) | (with_reducible refine LeO.bind ?_ (fun _=>?_))
def impl_DiskOk.T1:Bool×List (List Nat×List Nat):=(true,[([],[]),([0],[0]),([1],[1]),([2],[2]),([3,2],[3]),([4],[4]),([5,4],[4,5]),([6,4,4],[4,6]),([7,4],[4,7]),([4,8],[4,8]),([9,7],[9]),([10],[10]),([11,10,10],[10,11]),([12,10],[10,12]),([10,13],[10,13]),([14,12],[14]),([15],[15]),([16,15,15],[15,16]),([15],[15]),([18,15],[15,18]),([17,19,15],[15,17,19]),([15,20],[15,20])])
def impl_DiskOk.B1:List Nat:=[0,1,3,7,15,31,63,127,255,511,1023,2047,4095,8191,16383,32767,65535,131071,65535,327679,1048575,2097151]
theorem impl_DiskOk.tab1:rtab .any (opsOf Tryz.f42 1)=impl_DiskOk.T1:=by kernel_rfl
theorem impl_DiskOk.bits1:waitsOk impl_DiskOk.T1.2 impl_DiskOk.B1=true:=by kernel_rfl
theorem impl_DiskOk.calls (k:Nat) (aC:Option Addr) (aD:Nat) (ah:List (S45)) (ax:Option Addr) (ay:Nat) (ae:List (S47)) (az:Option Addr) (aA:Nat) (af:List (S47)) (aE:Option Addr) (aF:Nat) (ab:List ByteArray) (ad:Int) (ag:Int) (r:Bool) (w:World) (bm:Kd.C k45 w aC ah.length ah) (bn:ah.length≤aD) (bo:Kd.C k47 w ax ae.length ae) (bp:ae.length≤ay) (bq:Kd.C k47 w az af.length af) (br:af.length≤aA) (bs:Kd.C Kd.string w aE ab.length ab) (bu:ab.length≤aF) (hTE:TabsE w) (hTP:TabsP w) (h:impl_DiskOk.f k ah ae af ab ad ag=some r) :
  Calls Tryz.prog 42 #[.agg #[.slice aC ah.length aD,.slice ax ae.length ay,.slice az af.length aA,.slice aE ab.length aF,.int .i64 ad,.int .i64 ag]] w fun e w'=>e=.returned (.bool r)∧Below w.heap.size w w':=by
 have aG:=zA bm
 have aH:=zA bn
 clear bm bn
 have ar:=zA bo
 have au:=zA bp
 clear bo bp
 have av:=zA bq
 have aw:=zA br
 clear bq br
 have aq:=zA bs
 have aI:=zA bu
 clear bs bu
 have HTE:=zA hTE
 clear hTE
 have HTP:=zA hTP
 clear hTP
 have HB:=zA (Below.refl w.heap.size w)
 have H:((impl_isNumber.f ad).bind fun aX=>(if aX=true then ((impl_within.f ag 1 1000000000).bind fun aJ=>(if aJ=true then ((impl_Disk_areNodes.f ah ae af ab ad ag).bind fun aB=>(if aB=true then ((impl_UsedOn.f k ah ae af ab ad ag).bind fun ao=>(impl_DiskOk.j0 k (decide (ao>ad)) ah ae af ab ad ag)) else (impl_DiskOk.j0 k true ah ae af ab ad ag))) else (impl_DiskOk.j0 k true ah ae af ab ad ag))) else (impl_DiskOk.j0 k true ah ae af ab ad ag)))=some r:=h
 clear h
 have HC2:=zA H
 clear H
 go_enter Tryz.func42,Tryz.ntmps42
 go_upto_region 1 with (((with_reducible refine gate_dst (N:=1) rfl ?_);refine box_event ?hg (N:=1) ?hd (cs:=#[.slice aC ah.length aD,.slice ax ae.length ay,.slice az af.length aA,.slice aE ab.length aF,.int .i64 ad,.int .i64 ag]) (t:=28) ?hr ?_;(case hd=>rfl);(case hg=>rfl);(case hr=>(go_simp;done));intro ak hg w3 hbox hb;have aa:=zA (hbox);replace HB:=zs HB hb;clear hb hbox hg))
 (try simp only [Act.put,yA,yB,yC])
 go_cut [28] (fun v28 wc=>∃ (kq:Nat) (aN:Bool),v28=.bool aN∧Aside0 (impl_DiskOk.j0 kq aN ah ae af ab ad ag=some r)∧Aside0 (kq≤k)∧Aside0 (wc.heap[ak]? = some (.cells #[(.slice aC ah.length aD),(.slice ax ae.length ay),(.slice az af.length aA),(.slice aE ab.length aF),.int .i64 ad,.int .i64 ag] 28 (0,0)))∧Aside0 (Below w.heap.size w wc))
 case first=>
  have H:=HC2.out
  clear HC2
  obtain ⟨aX,A4,H⟩:=bA H
  replace H:(if aX=true then ((impl_within.f ag 1 1000000000).bind fun aJ=>(if aJ=true then ((impl_Disk_areNodes.f ah ae af ab ad ag).bind fun aB=>(if aB=true then ((impl_UsedOn.f k ah ae af ab ad ag).bind fun ao=>(impl_DiskOk.j0 k (decide (ao>ad)) ah ae af ab ad ag)) else (impl_DiskOk.j0 k true ah ae af ab ad ag))) else (impl_DiskOk.j0 k true ah ae af ab ad ag))) else (impl_DiskOk.j0 k true ah ae af ab ad ag))=some r:=H
  by_cases c5:aX=true
  ·subst c5
   have H1:((impl_within.f ag 1 1000000000).bind fun aJ=>(if aJ=true then ((impl_Disk_areNodes.f ah ae af ab ad ag).bind fun aB=>(if aB=true then ((impl_UsedOn.f k ah ae af ab ad ag).bind fun ao=>(impl_DiskOk.j0 k (decide (ao>ad)) ah ae af ab ad ag)) else (impl_DiskOk.j0 k true ah ae af ab ad ag))) else (impl_DiskOk.j0 k true ah ae af ab ad ag)))=some r:=by rw [if_pos rfl] at H;exact H
   clear H
   have H:=H1
   clear H1
   obtain ⟨aJ,A6,H⟩:=bA H
   replace H:(if aJ=true then ((impl_Disk_areNodes.f ah ae af ab ad ag).bind fun aB=>(if aB=true then ((impl_UsedOn.f k ah ae af ab ad ag).bind fun ao=>(impl_DiskOk.j0 k (decide (ao>ad)) ah ae af ab ad ag)) else (impl_DiskOk.j0 k true ah ae af ab ad ag))) else (impl_DiskOk.j0 k true ah ae af ab ad ag))=some r:=H
   by_cases c7:aJ=true
   ·subst c7
    have H1:((impl_Disk_areNodes.f ah ae af ab ad ag).bind fun aB=>(if aB=true then ((impl_UsedOn.f k ah ae af ab ad ag).bind fun ao=>(impl_DiskOk.j0 k (decide (ao>ad)) ah ae af ab ad ag)) else (impl_DiskOk.j0 k true ah ae af ab ad ag)))=some r:=by rw [if_pos rfl] at H;exact H
    clear H
    have H:=H1
    clear H1
    obtain ⟨aB,A8,H⟩:=bA H
    replace H:(if aB=true then ((impl_UsedOn.f k ah ae af ab ad ag).bind fun ao=>(impl_DiskOk.j0 k (decide (ao>ad)) ah ae af ab ad ag)) else (impl_DiskOk.j0 k true ah ae af ab ad ag))=some r:=H
    by_cases c9:aB=true
    ·subst c9
     have H1:((impl_UsedOn.f k ah ae af ab ad ag).bind fun ao=>(impl_DiskOk.j0 k (decide (ao>ad)) ah ae af ab ad ag))=some r:=by rw [if_pos rfl] at H;exact H
     clear H
     have H:=H1
     clear H1
     obtain ⟨ao,A10,H⟩:=bA H
     replace H:(impl_DiskOk.j0 k (decide (ao>ad)) ah ae af ab ad ag)=some r:=H
     have H':=zA H
     clear H
     try go_wp2
     have aP:∀ p_:LaidBy w3,p_.W.cell? ⟨ak,0,none⟩=some (.slice aC ah.length aD):=fun p_=>p_.cell ((blk_cell aa.out 0).trans rfl)
     have aQ:∀ p_:LaidBy w3,p_.W.cell? ⟨ak,1,none⟩=some (.slice ax ae.length ay):=fun p_=>p_.cell ((blk_cell aa.out 1).trans rfl)
     have aR:∀ p_:LaidBy w3,p_.W.cell? ⟨ak,2,none⟩=some (.slice az af.length aA):=fun p_=>p_.cell ((blk_cell aa.out 2).trans rfl)
     have aS:∀ p_:LaidBy w3,p_.W.cell? ⟨ak,3,none⟩=some (.slice aE ab.length aF):=fun p_=>p_.cell ((blk_cell aa.out 3).trans rfl)
     have aT:∀ p_:LaidBy w3,p_.W.cell? ⟨ak,4,none⟩=some (.int .i64 ad):=fun p_=>p_.cell ((blk_cell aa.out 4).trans rfl)
     have aU:∀ p_:LaidBy w3,p_.W.cell? ⟨ak,5,none⟩=some (.int .i64 ag):=fun p_=>p_.cell ((blk_cell aa.out 5).trans rfl)
     refine wp_region_laid (by kernel_rfl) (by kernel_rfl) ?_
     repeat (go_big_quiet_step (first | (go_at_call 85;with_reducible exact laid_drawn _ ((impl_isNumber.calls ad true _ A4.out).mono (by rintro e w' ⟨rfl,nd,rfl⟩;exact ⟨rfl,nd,rfl⟩))) | (go_at_call 86;with_reducible exact laid_drawn _ ((impl_within.calls ag 1 1000000000 true _ A6.out).mono (by rintro e w' ⟨rfl,nd,rfl⟩;exact ⟨rfl,nd,rfl⟩))) | (go_at_call 87;with_reducible exact laid_of _ (impl_Disk_areNodes.calls _ _ ah _ _ ae _ _ af _ _ ab ad ag true _ (Kd.C_below aG.out (LaidBy.below _ HB.out)) aH.out (Kd.C_below ar.out (LaidBy.below _ HB.out)) au.out (Kd.C_below av.out (LaidBy.below _ HB.out)) aw.out (Kd.C_below aq.out (LaidBy.below _ HB.out)) aI.out A8.out)) | (go_at_call 43;with_reducible exact laid_of _ (impl_UsedOn.calls k _ _ ah _ _ ae _ _ af _ _ ab ad ag ao _ (Kd.C_below aG.out (LaidBy.below _ HB.out)) aH.out (Kd.C_below ar.out (LaidBy.below _ HB.out)) au.out (Kd.C_below av.out (LaidBy.below _ HB.out)) aw.out (Kd.C_below aq.out (LaidBy.below _ HB.out)) aI.out A10.out))))
     refine wpQuiet_nil ?_
     rintro w13 ⟨p_,hp_⟩
     have hq_:Below w3.heap.size w3 w13:=hp_▸p_.ok
     clear hp_ p_ aP aQ aR aS aT aU
     have n0_:=zb aa hq_
     have n1_:=zs HB hq_
     clear aa HB
     have aa:=n0_
     have HB:=n1_
     clear hq_ n0_ n1_
     try go_wp2
     go_meet
     case rel=>exact ⟨_,(decide (ao>ad)),(by rfl),H',⟨by omega⟩,⟨by exact aa.out⟩,⟨by repeat (with_reducible exact HB.out)⟩⟩
    ·replace c9:=Bool.eq_false_iff.mpr c9
     subst c9
     have H1:(impl_DiskOk.j0 k true ah ae af ab ad ag)=some r:=by rw [if_neg (show ¬ (false=true) by decide)] at H;exact H
     clear H
     have H:=H1
     clear H1
     have H':=zA H
     clear H
     try go_wp2
     have aP:∀ p_:LaidBy w3,p_.W.cell? ⟨ak,0,none⟩=some (.slice aC ah.length aD):=fun p_=>p_.cell ((blk_cell aa.out 0).trans rfl)
     have aQ:∀ p_:LaidBy w3,p_.W.cell? ⟨ak,1,none⟩=some (.slice ax ae.length ay):=fun p_=>p_.cell ((blk_cell aa.out 1).trans rfl)
     have aR:∀ p_:LaidBy w3,p_.W.cell? ⟨ak,2,none⟩=some (.slice az af.length aA):=fun p_=>p_.cell ((blk_cell aa.out 2).trans rfl)
     have aS:∀ p_:LaidBy w3,p_.W.cell? ⟨ak,3,none⟩=some (.slice aE ab.length aF):=fun p_=>p_.cell ((blk_cell aa.out 3).trans rfl)
     have aT:∀ p_:LaidBy w3,p_.W.cell? ⟨ak,4,none⟩=some (.int .i64 ad):=fun p_=>p_.cell ((blk_cell aa.out 4).trans rfl)
     have aU:∀ p_:LaidBy w3,p_.W.cell? ⟨ak,5,none⟩=some (.int .i64 ag):=fun p_=>p_.cell ((blk_cell aa.out 5).trans rfl)
     refine wp_region_laid (by kernel_rfl) (by kernel_rfl) ?_
     repeat (go_big_quiet_step (first | (go_at_call 85;with_reducible exact laid_drawn _ ((impl_isNumber.calls ad true _ A4.out).mono (by rintro e w' ⟨rfl,nd,rfl⟩;exact ⟨rfl,nd,rfl⟩))) | (go_at_call 86;with_reducible exact laid_drawn _ ((impl_within.calls ag 1 1000000000 true _ A6.out).mono (by rintro e w' ⟨rfl,nd,rfl⟩;exact ⟨rfl,nd,rfl⟩))) | (go_at_call 87;with_reducible exact laid_of _ (impl_Disk_areNodes.calls _ _ ah _ _ ae _ _ af _ _ ab ad ag false _ (Kd.C_below aG.out (LaidBy.below _ HB.out)) aH.out (Kd.C_below ar.out (LaidBy.below _ HB.out)) au.out (Kd.C_below av.out (LaidBy.below _ HB.out)) aw.out (Kd.C_below aq.out (LaidBy.below _ HB.out)) aI.out A8.out))))
     refine wpQuiet_nil ?_
     rintro w15 ⟨p_,hp_⟩
     have hq_:Below w3.heap.size w3 w15:=hp_▸p_.ok
     clear hp_ p_ aP aQ aR aS aT aU
     have n0_:=zb aa hq_
     have n1_:=zs HB hq_
     clear aa HB
     have aa:=n0_
     have HB:=n1_
     clear hq_ n0_ n1_
     try go_wp2
     go_meet
     case rel=>exact ⟨_,(true),(by rfl),H',⟨by omega⟩,⟨by exact aa.out⟩,⟨by repeat (with_reducible exact HB.out)⟩⟩
   ·replace c7:=Bool.eq_false_iff.mpr c7
    subst c7
    have H1:(impl_DiskOk.j0 k true ah ae af ab ad ag)=some r:=by rw [if_neg (show ¬ (false=true) by decide)] at H;exact H
    clear H
    have H:=H1
    clear H1
    have H':=zA H
    clear H
    try go_wp2
    obtain ⟨aP,aQ,aR,aS,aT,aU⟩:=b6of aa.out
    go_quiet (first | (go_at_call 85;with_reducible exact Calls.quiet_of ((impl_isNumber.calls ad true _ A4.out).mono (by rintro e w' ⟨rfl,nd,rfl⟩;exact ⟨rfl,nd,rfl⟩))) | (go_at_call 86;with_reducible exact Calls.quiet_of ((impl_within.calls ag 1 1000000000 false _ A6.out).mono (by rintro e w' ⟨rfl,nd,rfl⟩;exact ⟨rfl,nd,rfl⟩))))
    try go_wp2
    go_meet
    case rel=>exact ⟨_,(true),(by rfl),H',⟨by omega⟩,⟨by (with_reducible repeat (refine blk_drewN ?_ _));exact aa.out⟩,⟨by repeat (with_reducible first | exact HB.out | apply pw_below_drewN)⟩⟩
  ·replace c5:=Bool.eq_false_iff.mpr c5
   subst c5
   have H1:(impl_DiskOk.j0 k true ah ae af ab ad ag)=some r:=by rw [if_neg (show ¬ (false=true) by decide)] at H;exact H
   clear H
   have H:=H1
   clear H1
   have H':=zA H
   clear H
   try go_wp2
   obtain ⟨aP,aQ,aR,aS,aT,aU⟩:=b6of aa.out
   go_quiet ((go_at_call 85;with_reducible exact Calls.quiet_of ((impl_isNumber.calls ad false _ A4.out).mono (by rintro e w' ⟨rfl,nd,rfl⟩;exact ⟨rfl,nd,rfl⟩))))
   try go_wp2
   go_meet
   case rel=>exact ⟨_,(true),(by rfl),H',⟨by omega⟩,⟨by (with_reducible repeat (refine blk_drewN ?_ _));exact aa.out⟩,⟨by repeat (with_reducible first | exact HB.out | apply pw_below_drewN)⟩⟩
 case rest=>
  clear HC2
  try clear p2
  try clear c4
  try clear c5
  try clear p6
  try clear c7
  try clear c8
  try clear c9
  obtain ⟨kq,aN,rfl,HA,HJ1,aa,HB⟩:=hcut
  cases kq with
  | zero=>exact absurd HA.out (by simp [impl_DiskOk.j0])
  | succ kj1=>
   have H:=HA.out
   clear HA
   simp only [impl_DiskOk.j0] at H
   by_cases c18:aN=true
   ·subst c18
    have H1:(some false)=some r:=by rw [if_pos rfl] at H;exact H
    clear H
    have H:=H1
    clear H1
    obtain rfl:=Option.some.inj H
    go_wp2
    all_goals (go_ret)
    all_goals exact ⟨by rfl,by repeat (with_reducible exact HB.out)⟩
   ·replace c18:=Bool.eq_false_iff.mpr c18
    subst c18
    have H1:((impl_Entry_83.f af).bind fun aV=>(impl_DiskOk.l0 kj1 aV 0 ah ae af ab ad ag))=some r:=by rw [if_neg (show ¬ (false=true) by decide)] at H;exact H
    clear H
    have H:=H1
    clear H1
    obtain ⟨aV,A19,H⟩:=bA H
    replace H:(impl_DiskOk.l0 kj1 aV 0 ah ae af ab ad ag)=some r:=H
    have H':=zA H
    clear H
    obtain ⟨aY,aZ,ba,bb,bc,bd⟩:=b6of aa.out
    obtain ⟨bf,bg,bh,bj,bk,bl⟩:=z6of aa.out
    go_wp2_with (((with_reducible refine gate_callee (f:=83) rfl ?_);refine goesL_ (some 31) rfl rfl Tryz.func83 (by kernel_rfl) rfl #[.slice az af.length aA] rfl (by (try simp only [List.map_toArray,List.map_cons,List.map_nil]);rfl) ?_;(with_reducible refine (impl_Entry_83.calls _ _ af aV _ ?side1 ?side2 A19.out).mono ?_);(case side1=>repeat (exact (Kd.C_below av.out HB.out)));(case side2=>exact aw.out);rintro e w21 ⟨v308,rfl,ho0,hb⟩;refine ⟨_,rfl,?_⟩;have bz:=zA (Kd.R_lower ho0 (below_size HB.out));replace aa:=zA (bB hb aa.out);replace HB:=zs HB hb;(try clear hb);(try clear ho0)))
    go_loopg [3,4] kj1 (fun kq v3 v4 w'=>∃ (al:List (S47)) (ai:Int),v4=.int .i64 ai∧Aside0 (impl_DiskOk.l0 kq al ai ah ae af ab ad ag=some r)∧Aside0 (kq≤kj1)∧Aside0 (Kd.R k47 47 w' w.heap.size (fun _=>True) v3 al)∧Aside0 (w'.heap[ak]? = some (.cells #[(.slice aC ah.length aD),(.slice ax ae.length ay),(.slice az af.length aA),(.slice aE ab.length aF),.int .i64 ad,.int .i64 ag] 28 (0,0)))∧Aside0 (Below w.heap.size w w'))
    case atStart=>exact ⟨(aV),(0),(by rfl),H',⟨Nat.le_refl _⟩,⟨by exact bz.out⟩,⟨by exact aa.out⟩,⟨by repeat (with_reducible exact HB.out)⟩⟩
    case round=>
     clear H'
     try clear c1
     try clear p2
     try clear c4
     try clear c5
     try clear p6
     try clear c7
     try clear c8
     try clear c9
     try clear c18
     try clear aY
     try clear aZ
     try clear ba
     try clear bb
     try clear bc
     try clear bd
     try clear bf
     try clear bg
     try clear bh
     try clear bj
     try clear bk
     try clear bl
     try clear p2
     try clear p6
     obtain ⟨al,ai,rfl,HA,HK2,aj,aa,HB⟩:=hrel
     cases gk with
     | zero=>exact absurd HA.out (by simp [impl_DiskOk.l0])
     | succ k2=>
      have H:=HA.out
      clear HA
      simp only [impl_DiskOk.l0] at H
      obtain ⟨bC,A22,H⟩:=bA H
      replace H:(if bC=true then (if ai=(ab.length:Int) then ((impl_Entry_74.f k2 al ae).bind fun aO=>(some aO)) else (if 0≤ai then (if ai<(ab.length:Int) then ((impl_stepDone.f al (rdOf ByteArray.empty ab ai)).bind fun aK=>(if aK.2=true then (impl_DiskOk.l0 k2 aK.1 (wrap64 (ai+1)) ah ae af ab ad ag) else (some false))) else (none)) else (none))) else (some false))=some r:=H
      by_cases c23:bC=true
      ·subst c23
       have H1:(if ai=(ab.length:Int) then ((impl_Entry_74.f k2 al ae).bind fun aO=>(some aO)) else (if 0≤ai then (if ai<(ab.length:Int) then ((impl_stepDone.f al (rdOf ByteArray.empty ab ai)).bind fun aK=>(if aK.2=true then (impl_DiskOk.l0 k2 aK.1 (wrap64 (ai+1)) ah ae af ab ad ag) else (some false))) else (none)) else (none)))=some r:=by rw [if_pos rfl] at H;exact H
       clear H
       have H:=H1
       clear H1
       by_cases c24:ai=(ab.length:Int)
       ·rw [if_pos c24] at H
        have bD:(ai == (ab.length:Int))=true:=beq_iff_eq.mpr c24
        clear c24
        obtain ⟨aO,A25,H⟩:=bA H
        replace H:(some aO)=some r:=H
        obtain rfl:=Option.some.inj H
        obtain ⟨hcz26_0,hcz26_1,hcz26_2,hcz26_3,hcz26_4,hcz26_5⟩:=b6of aa.out
        obtain ⟨hfz26_0,hfz26_1,hfz26_2,hfz26_3,hfz26_4,hfz26_5⟩:=z6of aa.out
        obtain ⟨bE,bF,bM⟩:=Kd.R_slice aj.out
        subst bM
        go_wp2_with (first | ((with_reducible refine gate_callee (f:=88) rfl ?_);refine goesL_ (some 36) rfl rfl Tryz.func88 (by kernel_rfl) rfl #[.agg #[.slice aC ah.length aD,.slice ax ae.length ay,.slice az af.length aA,.slice aE ab.length aF,.int .i64 ad,.int .i64 ag],.slice bE al.length bF] rfl (by (try simp only [List.map_toArray,List.map_cons,List.map_nil]);rfl) ?_;(with_reducible refine (impl_Disk_areEntries.calls _ _ ah _ _ ae _ _ af _ _ ab ad ag _ _ al true _ ?side1 ?side2 ?side3 ?side4 ?side5 ?side6 ?side7 ?side8 ?side9 ?side10 A22.out).mono ?_);(case side1=>repeat (exact (Kd.C_below aG.out HB.out)));(case side2=>exact aH.out);(case side3=>repeat (exact (Kd.C_below ar.out HB.out)));(case side4=>exact au.out);(case side5=>repeat (exact (Kd.C_below av.out HB.out)));(case side6=>exact aw.out);(case side7=>repeat (exact (Kd.C_below aq.out HB.out)));(case side8=>exact aI.out);(case side9=>repeat (exact (Kd.R_reads' aj.out).2.2));(case side10=>exact (Kd.R_reads' aj.out).2.1);rintro e w28 ⟨rfl,hb⟩;refine ⟨_,rfl,?_⟩;replace aj:=zA (Kd.R_below aj.out hb);replace aa:=zA (bB hb aa.out);replace HB:=zs HB hb;(try clear hb);obtain ⟨hcz29_0,hcz29_1,hcz29_2,hcz29_3,hcz29_4,hcz29_5⟩:=b6of aa.out;obtain ⟨hfz29_0,hfz29_1,hfz29_2,hfz29_3,hfz29_4,hfz29_5⟩:=z6of aa.out) | ((with_reducible refine gate_callee (f:=74) rfl ?_);refine goesL_ (some 46) rfl rfl Tryz.func74 (by kernel_rfl) rfl #[.slice bE al.length bF,.slice ax ae.length ay] rfl (by (try simp only [List.map_toArray,List.map_cons,List.map_nil]);rfl) ?_;(with_reducible refine (impl_Entry_74.calls k2 _ _ al _ _ ae aO _ ?side1 ?side2 ?side3 ?side4 A25.out).mono ?_);(case side1=>repeat (exact (Kd.R_reads' aj.out).2.2));(case side2=>exact (Kd.R_reads' aj.out).2.1);(case side3=>repeat (exact (Kd.C_below ar.out HB.out)));(case side4=>exact au.out);rintro e w' ⟨rfl,⟨nd,rfl⟩⟩;refine ⟨_,rfl,?_⟩))
        all_goals (go_ret)
        all_goals exact ⟨by rfl,by repeat (with_reducible first | exact HB.out | apply pw_below_drewN)⟩
       ·rw [if_neg c24] at H
        have bD:(ai == (ab.length:Int))=false:=beq_eq_false_iff_ne.mpr c24
        by_cases c30:0≤ai
        ·rw [if_pos c30] at H
         have c30b0:decide (0≤ai)=true:=zt c30
         clear c30
         by_cases c31:ai<(ab.length:Int)
         ·rw [if_pos c31] at H
          have c31b0:decide (ai<(ab.length:Int))=true:=zt c31
          clear c31
          obtain ⟨⟨aW,bG⟩,A32,H⟩:=bA H
          replace H:(if bG=true then (impl_DiskOk.l0 k2 aW (wrap64 (ai+1)) ah ae af ab ad ag) else (some false))=some r:=H
          by_cases c33:bG=true
          ·subst c33
           have H1:(impl_DiskOk.l0 k2 aW (wrap64 (ai+1)) ah ae af ab ad ag)=some r:=by rw [if_pos rfl] at H;exact H
           clear H
           have H:=H1
           clear H1
           have H':=zA H
           clear H
           obtain ⟨hcz34_0,hcz34_1,hcz34_2,hcz34_3,hcz34_4,hcz34_5⟩:=b6of aa.out
           obtain ⟨hfz34_0,hfz34_1,hfz34_2,hfz34_3,hfz34_4,hfz34_5⟩:=z6of aa.out
           obtain ⟨bH,bI,bN⟩:=Kd.R_slice aj.out
           subst bN
           go_wp2_with (first | ((with_reducible refine gate_callee (f:=88) rfl ?_);refine goesL_ (some 36) rfl rfl Tryz.func88 (by kernel_rfl) rfl #[.agg #[.slice aC ah.length aD,.slice ax ae.length ay,.slice az af.length aA,.slice aE ab.length aF,.int .i64 ad,.int .i64 ag],.slice bH al.length bI] rfl (by (try simp only [List.map_toArray,List.map_cons,List.map_nil]);rfl) ?_;(with_reducible refine (impl_Disk_areEntries.calls _ _ ah _ _ ae _ _ af _ _ ab ad ag _ _ al true _ ?side1 ?side2 ?side3 ?side4 ?side5 ?side6 ?side7 ?side8 ?side9 ?side10 A22.out).mono ?_);(case side1=>repeat (exact (Kd.C_below aG.out HB.out)));(case side2=>exact aH.out);(case side3=>repeat (exact (Kd.C_below ar.out HB.out)));(case side4=>exact au.out);(case side5=>repeat (exact (Kd.C_below av.out HB.out)));(case side6=>exact aw.out);(case side7=>repeat (exact (Kd.C_below aq.out HB.out)));(case side8=>exact aI.out);(case side9=>repeat (exact (Kd.R_reads' aj.out).2.2));(case side10=>exact (Kd.R_reads' aj.out).2.1);rintro e w36 ⟨rfl,hb⟩;refine ⟨_,rfl,?_⟩;replace aj:=zA (Kd.R_below aj.out hb);replace aa:=zA (bB hb aa.out);replace HB:=zs HB hb;(try clear hb);obtain ⟨hcz37_0,hcz37_1,hcz37_2,hcz37_3,hcz37_4,hcz37_5⟩:=b6of aa.out;obtain ⟨hfz37_0,hfz37_1,hfz37_2,hfz37_3,hfz37_4,hfz37_5⟩:=z6of aa.out;have aL:0≤(ai:Int):=ze;have aM:ai<(ab.length:Int):=ze;obtain ⟨bJ,bx,an⟩:=Kd.at_string aq.out ai aL aM;cases bx;replace an:=(HB.out.cell (World.block_lt_of_cell? w _ an)).trans an;replace aL:=eq_true aL;replace aM:=eq_true aM) | ((with_reducible refine gate_callee (f:=89) rfl ?_);refine goesL_ (some 54) rfl rfl Tryz.func89 (by kernel_rfl) rfl #[.slice bH al.length bI,.string (rdOf ByteArray.empty ab ai)] rfl (by (try simp only [List.map_toArray,List.map_cons,List.map_nil]);rfl) ?_;(with_reducible refine (impl_stepDone.calls _ _ al (rdOf ByteArray.empty ab ai) aW true _ ?side1 ?side2 ?side3 ?side4 A32.out).mono ?_);(case side1=>repeat (exact (Kd.R_reads' aj.out).2.2));(case side2=>exact (Kd.R_reads' aj.out).2.1);(case side3=>exact TabsE.below HTE.out HB.out);(case side4=>exact TabsP.below HTP.out HB.out);rintro e w38 ⟨bO,rfl,ho0,hb⟩;refine ⟨_,rfl,?_⟩;have bw:=zA (Kd.R_lower (Kd.R_new' ho0 (Kd.R_lt aj.out)) (below_size HB.out));replace aj:=zA (Kd.R_elder' aj.out (Kd.R_base ho0) hb);replace aa:=zA (bB hb aa.out);replace HB:=zs HB hb;(try clear hb);(try clear ho0)))
           go_roundg k2
           case measure=>have:=HJ1.out;have:=HK2.out;omega
           case rel=>exact ⟨(aW),(wrap64 (ai+1)),(by rfl),H',⟨by have:=HJ1.out;have:=HK2.out;omega⟩,⟨by exact Kd.R_mono bw.out (fun _ hk=>trivial)⟩,⟨by exact aa.out⟩,⟨by repeat (with_reducible exact HB.out)⟩⟩
          ·replace c33:=Bool.eq_false_iff.mpr c33
           subst c33
           have H1:(some false)=some r:=by rw [if_neg (show ¬ (false=true) by decide)] at H;exact H
           clear H
           have H:=H1
           clear H1
           obtain rfl:=Option.some.inj H
           obtain ⟨hcz39_0,hcz39_1,hcz39_2,hcz39_3,hcz39_4,hcz39_5⟩:=b6of aa.out
           obtain ⟨hfz39_0,hfz39_1,hfz39_2,hfz39_3,hfz39_4,hfz39_5⟩:=z6of aa.out
           obtain ⟨bK,bL,bP⟩:=Kd.R_slice aj.out
           subst bP
           go_wp2_with (first | ((with_reducible refine gate_callee (f:=88) rfl ?_);refine goesL_ (some 36) rfl rfl Tryz.func88 (by kernel_rfl) rfl #[.agg #[.slice aC ah.length aD,.slice ax ae.length ay,.slice az af.length aA,.slice aE ab.length aF,.int .i64 ad,.int .i64 ag],.slice bK al.length bL] rfl (by (try simp only [List.map_toArray,List.map_cons,List.map_nil]);rfl) ?_;(with_reducible refine (impl_Disk_areEntries.calls _ _ ah _ _ ae _ _ af _ _ ab ad ag _ _ al true _ ?side1 ?side2 ?side3 ?side4 ?side5 ?side6 ?side7 ?side8 ?side9 ?side10 A22.out).mono ?_);(case side1=>repeat (exact (Kd.C_below aG.out HB.out)));(case side2=>exact aH.out);(case side3=>repeat (exact (Kd.C_below ar.out HB.out)));(case side4=>exact au.out);(case side5=>repeat (exact (Kd.C_below av.out HB.out)));(case side6=>exact aw.out);(case side7=>repeat (exact (Kd.C_below aq.out HB.out)));(case side8=>exact aI.out);(case side9=>repeat (exact (Kd.R_reads' aj.out).2.2));(case side10=>exact (Kd.R_reads' aj.out).2.1);rintro e w41 ⟨rfl,hb⟩;refine ⟨_,rfl,?_⟩;replace aj:=zA (Kd.R_below aj.out hb);replace aa:=zA (bB hb aa.out);replace HB:=zs HB hb;(try clear hb);obtain ⟨hcz42_0,hcz42_1,hcz42_2,hcz42_3,hcz42_4,hcz42_5⟩:=b6of aa.out;obtain ⟨hfz42_0,hfz42_1,hfz42_2,hfz42_3,hfz42_4,hfz42_5⟩:=z6of aa.out;have aL:0≤(ai:Int):=ze;have aM:ai<(ab.length:Int):=ze;obtain ⟨bJ,bx,an⟩:=Kd.at_string aq.out ai aL aM;cases bx;replace an:=(HB.out.cell (World.block_lt_of_cell? w _ an)).trans an;replace aL:=eq_true aL;replace aM:=eq_true aM) | ((with_reducible refine gate_callee (f:=89) rfl ?_);refine goesL_ (some 54) rfl rfl Tryz.func89 (by kernel_rfl) rfl #[.slice bK al.length bL,.string (rdOf ByteArray.empty ab ai)] rfl (by (try simp only [List.map_toArray,List.map_cons,List.map_nil]);rfl) ?_;(with_reducible refine (impl_stepDone.calls _ _ al (rdOf ByteArray.empty ab ai) aW false _ ?side1 ?side2 ?side3 ?side4 A32.out).mono ?_);(case side1=>repeat (exact (Kd.R_reads' aj.out).2.2));(case side2=>exact (Kd.R_reads' aj.out).2.1);(case side3=>exact TabsE.below HTE.out HB.out);(case side4=>exact TabsP.below HTP.out HB.out);rintro e w43 ⟨bO,rfl,ho0,hb⟩;refine ⟨_,rfl,?_⟩;have bw:=zA (Kd.R_lower (Kd.R_new' ho0 (Kd.R_lt aj.out)) (below_size HB.out));replace aj:=zA (Kd.R_elder' aj.out (Kd.R_base ho0) hb);replace aa:=zA (bB hb aa.out);replace HB:=zs HB hb;(try clear hb);(try clear ho0)))
           all_goals (go_ret)
           all_goals exact ⟨by rfl,by repeat (with_reducible exact HB.out)⟩
         ·rw [if_neg c31] at H
          exact absurd H (by simp)
        ·rw [if_neg c30] at H
         exact absurd H (by simp)
      ·replace c23:=Bool.eq_false_iff.mpr c23
       subst c23
       have H1:(some false)=some r:=by rw [if_neg (show ¬ (false=true) by decide)] at H;exact H
       clear H
       have H:=H1
       clear H1
       obtain rfl:=Option.some.inj H
       obtain ⟨hcz44_0,hcz44_1,hcz44_2,hcz44_3,hcz44_4,hcz44_5⟩:=b6of aa.out
       obtain ⟨hfz44_0,hfz44_1,hfz44_2,hfz44_3,hfz44_4,hfz44_5⟩:=z6of aa.out
       obtain ⟨bQ,bR,bS⟩:=Kd.R_slice aj.out
       subst bS
       go_wp2_with (((with_reducible refine gate_callee (f:=88) rfl ?_);refine goesL_ (some 36) rfl rfl Tryz.func88 (by kernel_rfl) rfl #[.agg #[.slice aC ah.length aD,.slice ax ae.length ay,.slice az af.length aA,.slice aE ab.length aF,.int .i64 ad,.int .i64 ag],.slice bQ al.length bR] rfl (by (try simp only [List.map_toArray,List.map_cons,List.map_nil]);rfl) ?_;(with_reducible refine (impl_Disk_areEntries.calls _ _ ah _ _ ae _ _ af _ _ ab ad ag _ _ al false _ ?side1 ?side2 ?side3 ?side4 ?side5 ?side6 ?side7 ?side8 ?side9 ?side10 A22.out).mono ?_);(case side1=>repeat (exact (Kd.C_below aG.out HB.out)));(case side2=>exact aH.out);(case side3=>repeat (exact (Kd.C_below ar.out HB.out)));(case side4=>exact au.out);(case side5=>repeat (exact (Kd.C_below av.out HB.out)));(case side6=>exact aw.out);(case side7=>repeat (exact (Kd.C_below aq.out HB.out)));(case side8=>exact aI.out);(case side9=>repeat (exact (Kd.R_reads' aj.out).2.2));(case side10=>exact (Kd.R_reads' aj.out).2.1);rintro e w46 ⟨rfl,hb⟩;refine ⟨_,rfl,?_⟩;replace aj:=zA (Kd.R_below aj.out hb);replace aa:=zA (bB hb aa.out);replace HB:=zs HB hb;(try clear hb)))
       all_goals (go_ret)
       all_goals exact ⟨by rfl,by repeat (with_reducible exact HB.out)⟩
end Go.Proofs.YtokcccejijmkmaaGreatDoor.MFnDeeds
