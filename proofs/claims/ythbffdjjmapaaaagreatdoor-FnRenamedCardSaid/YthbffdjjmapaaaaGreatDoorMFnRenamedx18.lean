/- Each theorem here says that a call of one Go function answers what the Lean function beside it answers; its conditions stand in it. Written by a program of this session. -/
import Derived.Test.YthbffdjjmapaaaaGreatDoorMFnRenamedx0
import Derived.Test.YthbffdjjmapaaaaGreatDoorMFnRenamedx15
import Derived.Test.YthbffdjjmapaaaaGreatDoorMFnRenamedx16
import Derived.Test.YthbffdjjmapaaaaGreatDoorMFnRenamedx17
namespace Go.Proofs.YthbffdjjmapaaaaGreatDoor.MFnRenamed
open Go.RowKit Go.Proofs.YthbffdjjmapaaaaGreatDoorW.PrintWords Go.Proofs.YthbffdjjmapaaaaGreatDoorW.PrintLast Go.Proofs.YthbffdjjmapaaaaGreatDoorW.PrintMore
attribute [local go_sem] max2_int min2_int max_two min_two max_three min_three max_four min_four   -- for this text's walks alone
set_option linter.unusedVariables false
set_option linter.unusedSimpArgs false

/-! ### impl_DiskOk: function 8 -/
mutual
def impl_DiskOk.j0:Nat→Bool→List (S38)→List (S64)→List (S64)→List ByteArray→Int→Int→Option (Bool)
 | 0,_,_,_,_,_,_,_=>none
 | k+1,x28,x292000,x292001,x292002,x292003,x292004,x292005=>if x28=true then (some false) else ((impl_Entry_41.f x292002).bind fun t296=>(impl_DiskOk.l0 k t296 0 x292000 x292001 x292002 x292003 x292004 x292005))
def impl_DiskOk.l0:Nat→List (S64)→Int→List (S38)→List (S64)→List (S64)→List ByteArray→Int→Int→Option (Bool)
 | 0,_,_,_,_,_,_,_,_=>none
 | k+1,x3,x4,x292000,x292001,x292002,x292003,x292004,x292005=>(impl_Disk_areEntries.f x292000 x292001 x292002 x292003 x292004 x292005 x3).bind fun t299=>(if t299=true then (if x4=(x292003.length:Int) then ((impl_Entry_43.f k x3 x292001).bind fun t300=>(some t300)) else (if 0≤x4 then (if x4<(x292003.length:Int) then ((impl_stepDone.f x3 (rdOf ByteArray.empty x292003 x4)).bind fun bt302=>(if bt302.2=true then (impl_DiskOk.l0 k bt302.1 (wrap64 (x4+1)) x292000 x292001 x292002 x292003 x292004 x292005) else (some false))) else (none)) else (none))) else (some false))
end
def impl_DiskOk.f (k:Nat) (l0_0:List (S38)) (l0_1:List (S64)) (l0_2:List (S64)) (l0_3:List ByteArray) (a0_4:Int) (a0_5:Int):Option (Bool):=(impl_isNumber.f a0_4).bind fun t292=>(if t292=true then ((impl_within.f a0_5 1 1000000000).bind fun t293=>(if t293=true then ((impl_Disk_areNodes.f l0_0 l0_1 l0_2 l0_3 a0_4 a0_5).bind fun t294=>(if t294=true then ((impl_UsedOn.f k l0_0 l0_1 l0_2 l0_3 a0_4 a0_5).bind fun t295=>(impl_DiskOk.j0 k (decide (t295>a0_4)) l0_0 l0_1 l0_2 l0_3 a0_4 a0_5)) else (impl_DiskOk.j0 k true l0_0 l0_1 l0_2 l0_3 a0_4 a0_5))) else (impl_DiskOk.j0 k true l0_0 l0_1 l0_2 l0_3 a0_4 a0_5))) else (impl_DiskOk.j0 k true l0_0 l0_1 l0_2 l0_3 a0_4 a0_5))
theorem impl_DiskOk.mono_l:∀ k,(∀ y0 y1 y2 y3 y4 y5 y6,LeO (impl_DiskOk.j0 k y0 y1 y2 y3 y4 y5 y6) (impl_DiskOk.j0 (k+1) y0 y1 y2 y3 y4 y5 y6))∧(∀ y0 y1 y2 y3 y4 y5 y6 y7,LeO (impl_DiskOk.l0 k y0 y1 y2 y3 y4 y5 y6 y7) (impl_DiskOk.l0 (k+1) y0 y1 y2 y3 y4 y5 y6 y7))
 | 0=>⟨fun _ _ _ _ _ _ _ r h=>by simp [impl_DiskOk.j0] at h,fun _ _ _ _ _ _ _ _ r h=>by simp [impl_DiskOk.l0] at h⟩
 | k+1=>by
  obtain ⟨ih0,ih1⟩:=impl_DiskOk.mono_l k
  refine ⟨?_,?_⟩
  ·intro y0 y1 y2 y3 y4 y5 y6
   unfold impl_DiskOk.j0
   repeat' first | (with_reducible exact ih1 _ _ _ _ _ _ _ _) | (with_reducible exact LeO.refl _) | (with_reducible refine LeO.ite ?_ ?_) | (with_reducible refine LeO.bind ?_ (fun _=>?_))
  ·intro y0 y1 y2 y3 y4 y5 y6 y7
   unfold impl_DiskOk.l0
   repeat' first | (with_reducible exact ih1 _ _ _ _ _ _ _ _) | (with_reducible exact impl_Entry_43.mono _ _ _) | (with_reducible exact LeO.refl _) | (with_reducible refine LeO.ite ?_ ?_) | (with_reducible refine LeO.bind ?_ (fun _=>?_))
theorem impl_DiskOk.mono:∀ a0 a1 a2 a3 a4 a5 k,LeO (impl_DiskOk.f k a0 a1 a2 a3 a4 a5) (impl_DiskOk.f (k+1) a0 a1 a2 a3 a4 a5):=by
 intro a0 a1 a2 a3 a4 a5 k
 obtain ⟨ih0,ih1⟩:=impl_DiskOk.mono_l k
 unfold impl_DiskOk.f
 repeat' first | (with_reducible exact ih0 _ _ _ _ _ _ _) | (with_reducible exact impl_UsedOn.mono _ _ _ _ _ _ _) | (with_reducible exact LeO.refl _) | (with_reducible refine LeO.ite ?_ ?_) | (with_reducible refine LeO.bind ?_ (fun _=>?_))
def impl_DiskOk.T1:Bool×List (List Nat×List Nat):=(true,[([],[]),([0],[0]),([1],[1]),([2],[2]),([3,2],[3]),([4],[4]),([5,4],[4,5]),([6,4,4],[4,6]),([7,4],[4,7]),([4,8],[4,8]),([9,7],[9]),([10],[10]),([11,10,10],[10,11]),([12,10],[10,12]),([10,13],[10,13]),([14,12],[14]),([15],[15]),([16,15,15],[15,16]),([15],[15]),([18,15],[15,18]),([17,19,15],[15,17,19]),([15,20],[15,20])])
def impl_DiskOk.B1:List Nat:=[0,1,3,7,15,31,63,127,255,511,1023,2047,4095,8191,16383,32767,65535,131071,65535,327679,1048575,2097151]
theorem impl_DiskOk.tab1:rtab .any (opsOf Tryz.f8 1)=impl_DiskOk.T1:=by kernel_rfl
theorem impl_DiskOk.bits1:waitsOk impl_DiskOk.T1.2 impl_DiskOk.B1=true:=by kernel_rfl
set_option maxHeartbeats 8000000 in
set_option maxRecDepth 100000 in
theorem impl_DiskOk.calls (k:Nat) (A0_0:Option Addr) (c0_0:Nat) (l0_0:List (S38)) (A0_1:Option Addr) (c0_1:Nat) (l0_1:List (S64)) (A0_2:Option Addr) (c0_2:Nat) (l0_2:List (S64)) (A0_3:Option Addr) (c0_3:Nat) (l0_3:List ByteArray) (a0_4:Int) (a0_5:Int) (r:Bool) (w:World) (hr0_0:Kd.C k38 w A0_0 l0_0.length l0_0) (hc0_0:l0_0.length≤c0_0) (hr0_1:Kd.C k64 w A0_1 l0_1.length l0_1) (hc0_1:l0_1.length≤c0_1) (hr0_2:Kd.C k64 w A0_2 l0_2.length l0_2) (hc0_2:l0_2.length≤c0_2) (hr0_3:Kd.C Kd.string w A0_3 l0_3.length l0_3) (hc0_3:l0_3.length≤c0_3) (hTE:TabsE w) (hTP:TabsP w) (h:impl_DiskOk.f k l0_0 l0_1 l0_2 l0_3 a0_4 a0_5=some r) :
  Calls Tryz.prog 8 #[.agg #[.slice A0_0 l0_0.length c0_0,.slice A0_1 l0_1.length c0_1,.slice A0_2 l0_2.length c0_2,.slice A0_3 l0_3.length c0_3,.int .i64 a0_4,.int .i64 a0_5]] w fun e w'=>e=.returned (.bool r)∧Below w.heap.size w w':=by
 have HR0_0:=Aside0.mk hr0_0
 have HC0_0:=Aside0.mk hc0_0
 clear hr0_0 hc0_0
 have HR0_1:=Aside0.mk hr0_1
 have HC0_1:=Aside0.mk hc0_1
 clear hr0_1 hc0_1
 have HR0_2:=Aside0.mk hr0_2
 have HC0_2:=Aside0.mk hc0_2
 clear hr0_2 hc0_2
 have HR0_3:=Aside0.mk hr0_3
 have HC0_3:=Aside0.mk hc0_3
 clear hr0_3 hc0_3
 have HTE:=Aside0.mk hTE
 clear hTE
 have HTP:=Aside0.mk hTP
 clear hTP
 have HB:=Aside0.mk (Below.refl w.heap.size w)
 have H:((impl_isNumber.f a0_4).bind fun t292=>(if t292=true then ((impl_within.f a0_5 1 1000000000).bind fun t293=>(if t293=true then ((impl_Disk_areNodes.f l0_0 l0_1 l0_2 l0_3 a0_4 a0_5).bind fun t294=>(if t294=true then ((impl_UsedOn.f k l0_0 l0_1 l0_2 l0_3 a0_4 a0_5).bind fun t295=>(impl_DiskOk.j0 k (decide (t295>a0_4)) l0_0 l0_1 l0_2 l0_3 a0_4 a0_5)) else (impl_DiskOk.j0 k true l0_0 l0_1 l0_2 l0_3 a0_4 a0_5))) else (impl_DiskOk.j0 k true l0_0 l0_1 l0_2 l0_3 a0_4 a0_5))) else (impl_DiskOk.j0 k true l0_0 l0_1 l0_2 l0_3 a0_4 a0_5)))=some r:=h
 clear h
 have HC2:=Aside0.mk H
 clear H
 go_enter Tryz.func8,Tryz.ntmps8
 go_upto_region 1 with (((with_reducible refine gate_dst (N:=1) rfl ?_);refine box_event ?hg (N:=1) ?hd (cs:=#[.slice A0_0 l0_0.length c0_0,.slice A0_1 l0_1.length c0_1,.slice A0_2 l0_2.length c0_2,.slice A0_3 l0_3.length c0_3,.int .i64 a0_4,.int .i64 a0_5]) (t:=28) ?hr ?_;(case hd=>rfl);(case hg=>rfl);(case hr=>(go_simp;done));intro gb291 hg w3 hbox hb;have BK291:=Aside0.mk (hbox);replace HB:=Aside0.mk (below_step HB.out hb);clear hb hbox hg))
 (try simp only [Act.put,List.setIfInBounds_toArray,List.set_cons_zero,List.set_cons_succ])
 go_cut [28] (fun v28 wc=>∃ (kq:Nat) (x28_1:Bool),v28=.bool x28_1∧Aside0 (impl_DiskOk.j0 kq x28_1 l0_0 l0_1 l0_2 l0_3 a0_4 a0_5=some r)∧Aside0 (kq≤k)∧Aside0 (wc.heap[gb291]? = some (.cells #[(.slice A0_0 l0_0.length c0_0),(.slice A0_1 l0_1.length c0_1),(.slice A0_2 l0_2.length c0_2),(.slice A0_3 l0_3.length c0_3),.int .i64 a0_4,.int .i64 a0_5] 28 (0,0)))∧Aside0 (Below w.heap.size w wc))
 case first=>
  have H:=HC2.out
  clear HC2
  obtain ⟨t292,A4,H⟩:=bA H
  replace H:(if t292=true then ((impl_within.f a0_5 1 1000000000).bind fun t293=>(if t293=true then ((impl_Disk_areNodes.f l0_0 l0_1 l0_2 l0_3 a0_4 a0_5).bind fun t294=>(if t294=true then ((impl_UsedOn.f k l0_0 l0_1 l0_2 l0_3 a0_4 a0_5).bind fun t295=>(impl_DiskOk.j0 k (decide (t295>a0_4)) l0_0 l0_1 l0_2 l0_3 a0_4 a0_5)) else (impl_DiskOk.j0 k true l0_0 l0_1 l0_2 l0_3 a0_4 a0_5))) else (impl_DiskOk.j0 k true l0_0 l0_1 l0_2 l0_3 a0_4 a0_5))) else (impl_DiskOk.j0 k true l0_0 l0_1 l0_2 l0_3 a0_4 a0_5))=some r:=H
  by_cases c5:t292=true
  ·subst c5
   have H1:((impl_within.f a0_5 1 1000000000).bind fun t293=>(if t293=true then ((impl_Disk_areNodes.f l0_0 l0_1 l0_2 l0_3 a0_4 a0_5).bind fun t294=>(if t294=true then ((impl_UsedOn.f k l0_0 l0_1 l0_2 l0_3 a0_4 a0_5).bind fun t295=>(impl_DiskOk.j0 k (decide (t295>a0_4)) l0_0 l0_1 l0_2 l0_3 a0_4 a0_5)) else (impl_DiskOk.j0 k true l0_0 l0_1 l0_2 l0_3 a0_4 a0_5))) else (impl_DiskOk.j0 k true l0_0 l0_1 l0_2 l0_3 a0_4 a0_5)))=some r:=by rw [if_pos rfl] at H;exact H
   clear H
   have H:=H1
   clear H1
   obtain ⟨t293,A6,H⟩:=bA H
   replace H:(if t293=true then ((impl_Disk_areNodes.f l0_0 l0_1 l0_2 l0_3 a0_4 a0_5).bind fun t294=>(if t294=true then ((impl_UsedOn.f k l0_0 l0_1 l0_2 l0_3 a0_4 a0_5).bind fun t295=>(impl_DiskOk.j0 k (decide (t295>a0_4)) l0_0 l0_1 l0_2 l0_3 a0_4 a0_5)) else (impl_DiskOk.j0 k true l0_0 l0_1 l0_2 l0_3 a0_4 a0_5))) else (impl_DiskOk.j0 k true l0_0 l0_1 l0_2 l0_3 a0_4 a0_5))=some r:=H
   by_cases c7:t293=true
   ·subst c7
    have H1:((impl_Disk_areNodes.f l0_0 l0_1 l0_2 l0_3 a0_4 a0_5).bind fun t294=>(if t294=true then ((impl_UsedOn.f k l0_0 l0_1 l0_2 l0_3 a0_4 a0_5).bind fun t295=>(impl_DiskOk.j0 k (decide (t295>a0_4)) l0_0 l0_1 l0_2 l0_3 a0_4 a0_5)) else (impl_DiskOk.j0 k true l0_0 l0_1 l0_2 l0_3 a0_4 a0_5)))=some r:=by rw [if_pos rfl] at H;exact H
    clear H
    have H:=H1
    clear H1
    obtain ⟨t294,A8,H⟩:=bA H
    replace H:(if t294=true then ((impl_UsedOn.f k l0_0 l0_1 l0_2 l0_3 a0_4 a0_5).bind fun t295=>(impl_DiskOk.j0 k (decide (t295>a0_4)) l0_0 l0_1 l0_2 l0_3 a0_4 a0_5)) else (impl_DiskOk.j0 k true l0_0 l0_1 l0_2 l0_3 a0_4 a0_5))=some r:=H
    by_cases c9:t294=true
    ·subst c9
     have H1:((impl_UsedOn.f k l0_0 l0_1 l0_2 l0_3 a0_4 a0_5).bind fun t295=>(impl_DiskOk.j0 k (decide (t295>a0_4)) l0_0 l0_1 l0_2 l0_3 a0_4 a0_5))=some r:=by rw [if_pos rfl] at H;exact H
     clear H
     have H:=H1
     clear H1
     obtain ⟨t295,A10,H⟩:=bA H
     replace H:(impl_DiskOk.j0 k (decide (t295>a0_4)) l0_0 l0_1 l0_2 l0_3 a0_4 a0_5)=some r:=H
     have H':=Aside0.mk H
     clear H
     try go_wp2
     have sq0_:∀ p_:LaidBy w3,p_.W.cell? ⟨gb291,0,none⟩=some (.slice A0_0 l0_0.length c0_0):=fun p_=>p_.cell ((blk_cell BK291.out 0).trans rfl)
     have sq1_:∀ p_:LaidBy w3,p_.W.cell? ⟨gb291,1,none⟩=some (.slice A0_1 l0_1.length c0_1):=fun p_=>p_.cell ((blk_cell BK291.out 1).trans rfl)
     have sq2_:∀ p_:LaidBy w3,p_.W.cell? ⟨gb291,2,none⟩=some (.slice A0_2 l0_2.length c0_2):=fun p_=>p_.cell ((blk_cell BK291.out 2).trans rfl)
     have sq3_:∀ p_:LaidBy w3,p_.W.cell? ⟨gb291,3,none⟩=some (.slice A0_3 l0_3.length c0_3):=fun p_=>p_.cell ((blk_cell BK291.out 3).trans rfl)
     have sq4_:∀ p_:LaidBy w3,p_.W.cell? ⟨gb291,4,none⟩=some (.int .i64 a0_4):=fun p_=>p_.cell ((blk_cell BK291.out 4).trans rfl)
     have sq5_:∀ p_:LaidBy w3,p_.W.cell? ⟨gb291,5,none⟩=some (.int .i64 a0_5):=fun p_=>p_.cell ((blk_cell BK291.out 5).trans rfl)
     refine wp_region_laid (by kernel_rfl) (by kernel_rfl) ?_
     repeat (go_big_quiet_step (first | (go_at_call 38;with_reducible exact laid_drawn _ ((impl_isNumber.calls a0_4 true _ A4.out).mono (by rintro e w' ⟨rfl,nd,rfl⟩;exact ⟨rfl,nd,rfl⟩))) | (go_at_call 39;with_reducible exact laid_drawn _ ((impl_within.calls a0_5 1 1000000000 true _ A6.out).mono (by rintro e w' ⟨rfl,nd,rfl⟩;exact ⟨rfl,nd,rfl⟩))) | (go_at_call 40;with_reducible exact laid_of _ (impl_Disk_areNodes.calls _ _ l0_0 _ _ l0_1 _ _ l0_2 _ _ l0_3 a0_4 a0_5 true _ (Kd.C_below HR0_0.out (LaidBy.below _ HB.out)) HC0_0.out (Kd.C_below HR0_1.out (LaidBy.below _ HB.out)) HC0_1.out (Kd.C_below HR0_2.out (LaidBy.below _ HB.out)) HC0_2.out (Kd.C_below HR0_3.out (LaidBy.below _ HB.out)) HC0_3.out A8.out)) | (go_at_call 19;with_reducible exact laid_of _ (impl_UsedOn.calls k _ _ l0_0 _ _ l0_1 _ _ l0_2 _ _ l0_3 a0_4 a0_5 t295 _ (Kd.C_below HR0_0.out (LaidBy.below _ HB.out)) HC0_0.out (Kd.C_below HR0_1.out (LaidBy.below _ HB.out)) HC0_1.out (Kd.C_below HR0_2.out (LaidBy.below _ HB.out)) HC0_2.out (Kd.C_below HR0_3.out (LaidBy.below _ HB.out)) HC0_3.out A10.out))))
     refine wpQuiet_nil ?_
     rintro w13 ⟨p_,hp_⟩
     have hq_:Below w3.heap.size w3 w13:=hp_▸p_.ok
     clear hp_ p_ sq0_ sq1_ sq2_ sq3_ sq4_ sq5_
     have n0_:=Aside0.mk ((hq_.block gb291 (blk_lt BK291.out)).trans BK291.out)
     have n1_:=Aside0.mk (HB.out.trans (hq_.mono HB.out.size))
     clear BK291 HB
     have BK291:=n0_
     have HB:=n1_
     clear hq_ n0_ n1_
     try go_wp2
     go_meet
     case rel=>exact ⟨_,(decide (t295>a0_4)),(by rfl),H',⟨by omega⟩,⟨by exact BK291.out⟩,⟨by repeat (with_reducible exact HB.out)⟩⟩
    ·replace c9:=Bool.eq_false_iff.mpr c9
     subst c9
     have H1:(impl_DiskOk.j0 k true l0_0 l0_1 l0_2 l0_3 a0_4 a0_5)=some r:=by rw [if_neg (show ¬ (false=true) by decide)] at H;exact H
     clear H
     have H:=H1
     clear H1
     have H':=Aside0.mk H
     clear H
     try go_wp2
     have sq0_:∀ p_:LaidBy w3,p_.W.cell? ⟨gb291,0,none⟩=some (.slice A0_0 l0_0.length c0_0):=fun p_=>p_.cell ((blk_cell BK291.out 0).trans rfl)
     have sq1_:∀ p_:LaidBy w3,p_.W.cell? ⟨gb291,1,none⟩=some (.slice A0_1 l0_1.length c0_1):=fun p_=>p_.cell ((blk_cell BK291.out 1).trans rfl)
     have sq2_:∀ p_:LaidBy w3,p_.W.cell? ⟨gb291,2,none⟩=some (.slice A0_2 l0_2.length c0_2):=fun p_=>p_.cell ((blk_cell BK291.out 2).trans rfl)
     have sq3_:∀ p_:LaidBy w3,p_.W.cell? ⟨gb291,3,none⟩=some (.slice A0_3 l0_3.length c0_3):=fun p_=>p_.cell ((blk_cell BK291.out 3).trans rfl)
     have sq4_:∀ p_:LaidBy w3,p_.W.cell? ⟨gb291,4,none⟩=some (.int .i64 a0_4):=fun p_=>p_.cell ((blk_cell BK291.out 4).trans rfl)
     have sq5_:∀ p_:LaidBy w3,p_.W.cell? ⟨gb291,5,none⟩=some (.int .i64 a0_5):=fun p_=>p_.cell ((blk_cell BK291.out 5).trans rfl)
     refine wp_region_laid (by kernel_rfl) (by kernel_rfl) ?_
     repeat (go_big_quiet_step (first | (go_at_call 38;with_reducible exact laid_drawn _ ((impl_isNumber.calls a0_4 true _ A4.out).mono (by rintro e w' ⟨rfl,nd,rfl⟩;exact ⟨rfl,nd,rfl⟩))) | (go_at_call 39;with_reducible exact laid_drawn _ ((impl_within.calls a0_5 1 1000000000 true _ A6.out).mono (by rintro e w' ⟨rfl,nd,rfl⟩;exact ⟨rfl,nd,rfl⟩))) | (go_at_call 40;with_reducible exact laid_of _ (impl_Disk_areNodes.calls _ _ l0_0 _ _ l0_1 _ _ l0_2 _ _ l0_3 a0_4 a0_5 false _ (Kd.C_below HR0_0.out (LaidBy.below _ HB.out)) HC0_0.out (Kd.C_below HR0_1.out (LaidBy.below _ HB.out)) HC0_1.out (Kd.C_below HR0_2.out (LaidBy.below _ HB.out)) HC0_2.out (Kd.C_below HR0_3.out (LaidBy.below _ HB.out)) HC0_3.out A8.out))))
     refine wpQuiet_nil ?_
     rintro w15 ⟨p_,hp_⟩
     have hq_:Below w3.heap.size w3 w15:=hp_▸p_.ok
     clear hp_ p_ sq0_ sq1_ sq2_ sq3_ sq4_ sq5_
     have n0_:=Aside0.mk ((hq_.block gb291 (blk_lt BK291.out)).trans BK291.out)
     have n1_:=Aside0.mk (HB.out.trans (hq_.mono HB.out.size))
     clear BK291 HB
     have BK291:=n0_
     have HB:=n1_
     clear hq_ n0_ n1_
     try go_wp2
     go_meet
     case rel=>exact ⟨_,(true),(by rfl),H',⟨by omega⟩,⟨by exact BK291.out⟩,⟨by repeat (with_reducible exact HB.out)⟩⟩
   ·replace c7:=Bool.eq_false_iff.mpr c7
    subst c7
    have H1:(impl_DiskOk.j0 k true l0_0 l0_1 l0_2 l0_3 a0_4 a0_5)=some r:=by rw [if_neg (show ¬ (false=true) by decide)] at H;exact H
    clear H
    have H:=H1
    clear H1
    have H':=Aside0.mk H
    clear H
    try go_wp2
    obtain ⟨sq0_,sq1_,sq2_,sq3_,sq4_,sq5_⟩:=b6of BK291.out
    go_quiet (first | (go_at_call 38;with_reducible exact Calls.quiet_of ((impl_isNumber.calls a0_4 true _ A4.out).mono (by rintro e w' ⟨rfl,nd,rfl⟩;exact ⟨rfl,nd,rfl⟩))) | (go_at_call 39;with_reducible exact Calls.quiet_of ((impl_within.calls a0_5 1 1000000000 false _ A6.out).mono (by rintro e w' ⟨rfl,nd,rfl⟩;exact ⟨rfl,nd,rfl⟩))))
    try go_wp2
    go_meet
    case rel=>exact ⟨_,(true),(by rfl),H',⟨by omega⟩,⟨by (with_reducible repeat (refine blk_drewN ?_ _));exact BK291.out⟩,⟨by repeat (with_reducible first | exact HB.out | apply pw_below_drewN)⟩⟩
  ·replace c5:=Bool.eq_false_iff.mpr c5
   subst c5
   have H1:(impl_DiskOk.j0 k true l0_0 l0_1 l0_2 l0_3 a0_4 a0_5)=some r:=by rw [if_neg (show ¬ (false=true) by decide)] at H;exact H
   clear H
   have H:=H1
   clear H1
   have H':=Aside0.mk H
   clear H
   try go_wp2
   obtain ⟨sq0_,sq1_,sq2_,sq3_,sq4_,sq5_⟩:=b6of BK291.out
   go_quiet ((go_at_call 38;with_reducible exact Calls.quiet_of ((impl_isNumber.calls a0_4 false _ A4.out).mono (by rintro e w' ⟨rfl,nd,rfl⟩;exact ⟨rfl,nd,rfl⟩))))
   try go_wp2
   go_meet
   case rel=>exact ⟨_,(true),(by rfl),H',⟨by omega⟩,⟨by (with_reducible repeat (refine blk_drewN ?_ _));exact BK291.out⟩,⟨by repeat (with_reducible first | exact HB.out | apply pw_below_drewN)⟩⟩
 case rest=>
  clear HC2
  try clear c1
  try clear p2
  try clear c3
  try clear c4
  try clear c5
  try clear p6
  try clear c7
  try clear c9
  obtain ⟨kq,x28_1,rfl,HA,HJ1,BK291,HB⟩:=hcut
  cases kq with
  | zero=>exact absurd HA.out (by simp [impl_DiskOk.j0])
  | succ kj1=>
   have H:=HA.out
   clear HA
   simp only [impl_DiskOk.j0] at H
   by_cases c18:x28_1=true
   ·subst c18
    have H1:(some false)=some r:=by rw [if_pos rfl] at H;exact H
    clear H
    have H:=H1
    clear H1
    obtain rfl:=Option.some.inj H
    go_wp2
    all_goals (go_ret)
    all_goals exact ⟨by rfl,by repeat (with_reducible exact HB.out)⟩
   ·replace c18:=Bool.eq_false_iff.mpr c18
    subst c18
    have H1:((impl_Entry_41.f l0_2).bind fun t296=>(impl_DiskOk.l0 kj1 t296 0 l0_0 l0_1 l0_2 l0_3 a0_4 a0_5))=some r:=by rw [if_neg (show ¬ (false=true) by decide)] at H;exact H
    clear H
    have H:=H1
    clear H1
    obtain ⟨t296,A19,H⟩:=bA H
    replace H:(impl_DiskOk.l0 kj1 t296 0 l0_0 l0_1 l0_2 l0_3 a0_4 a0_5)=some r:=H
    have H':=Aside0.mk H
    clear H
    obtain ⟨hcz20_0,hcz20_1,hcz20_2,hcz20_3,hcz20_4,hcz20_5⟩:=b6of BK291.out
    obtain ⟨hfz20_0,hfz20_1,hfz20_2,hfz20_3,hfz20_4,hfz20_5⟩:=z6of BK291.out
    go_wp2_with (((with_reducible refine gate_callee (f:=41) rfl ?_);refine goesL_ (some 31) rfl rfl Tryz.func41 (by kernel_rfl) rfl #[.slice A0_2 l0_2.length c0_2] rfl (by (try simp only [List.map_toArray,List.map_cons,List.map_nil]);rfl) ?_;(with_reducible refine (impl_Entry_41.calls _ _ l0_2 t296 _ ?side1 ?side2 A19.out).mono ?_);(case side1=>repeat (exact (Kd.C_below HR0_2.out HB.out)));(case side2=>exact HC0_2.out);rintro e w21 ⟨v297,rfl,ho0,hb⟩;refine ⟨_,rfl,?_⟩;have HO298:=Aside0.mk (Kd.R_lower ho0 (below_size HB.out));replace BK291:=Aside0.mk (bB hb BK291.out);replace HB:=Aside0.mk (below_step HB.out hb);(try clear hb);(try clear ho0)))
    go_loopg [3,4] kj1 (fun kq v3 v4 w'=>∃ (x3_2:List (S64)) (x4_2:Int),v4=.int .i64 x4_2∧Aside0 (impl_DiskOk.l0 kq x3_2 x4_2 l0_0 l0_1 l0_2 l0_3 a0_4 a0_5=some r)∧Aside0 (kq≤kj1)∧Aside0 (Kd.R k64 64 w' w.heap.size (fun _=>True) v3 x3_2)∧Aside0 (w'.heap[gb291]? = some (.cells #[(.slice A0_0 l0_0.length c0_0),(.slice A0_1 l0_1.length c0_1),(.slice A0_2 l0_2.length c0_2),(.slice A0_3 l0_3.length c0_3),.int .i64 a0_4,.int .i64 a0_5] 28 (0,0)))∧Aside0 (Below w.heap.size w w'))
    case atStart=>exact ⟨(t296),(0),(by rfl),H',⟨Nat.le_refl _⟩,⟨by exact HO298.out⟩,⟨by exact BK291.out⟩,⟨by repeat (with_reducible exact HB.out)⟩⟩
    case round=>
     clear H'
     try clear c1
     try clear p2
     try clear c3
     try clear c4
     try clear c5
     try clear p6
     try clear c7
     try clear c9
     try clear c18
     try clear hcz20_0
     try clear hcz20_1
     try clear hcz20_2
     try clear hcz20_3
     try clear hcz20_4
     try clear hcz20_5
     try clear hfz20_0
     try clear hfz20_1
     try clear hfz20_2
     try clear hfz20_3
     try clear hfz20_4
     try clear hfz20_5
     try clear p2
     try clear p6
     obtain ⟨x3_2,x4_2,rfl,HA,HK2,HO_3,BK291,HB⟩:=hrel
     cases gk with
     | zero=>exact absurd HA.out (by simp [impl_DiskOk.l0])
     | succ k2=>
      have H:=HA.out
      clear HA
      simp only [impl_DiskOk.l0] at H
      obtain ⟨t299,A22,H⟩:=bA H
      replace H:(if t299=true then (if x4_2=(l0_3.length:Int) then ((impl_Entry_43.f k2 x3_2 l0_1).bind fun t300=>(some t300)) else (if 0≤x4_2 then (if x4_2<(l0_3.length:Int) then ((impl_stepDone.f x3_2 (rdOf ByteArray.empty l0_3 x4_2)).bind fun bt302=>(if bt302.2=true then (impl_DiskOk.l0 k2 bt302.1 (wrap64 (x4_2+1)) l0_0 l0_1 l0_2 l0_3 a0_4 a0_5) else (some false))) else (none)) else (none))) else (some false))=some r:=H
      by_cases c23:t299=true
      ·subst c23
       have H1:(if x4_2=(l0_3.length:Int) then ((impl_Entry_43.f k2 x3_2 l0_1).bind fun t300=>(some t300)) else (if 0≤x4_2 then (if x4_2<(l0_3.length:Int) then ((impl_stepDone.f x3_2 (rdOf ByteArray.empty l0_3 x4_2)).bind fun bt302=>(if bt302.2=true then (impl_DiskOk.l0 k2 bt302.1 (wrap64 (x4_2+1)) l0_0 l0_1 l0_2 l0_3 a0_4 a0_5) else (some false))) else (none)) else (none)))=some r:=by rw [if_pos rfl] at H;exact H
       clear H
       have H:=H1
       clear H1
       by_cases c24:x4_2=(l0_3.length:Int)
       ·rw [if_pos c24] at H
        have c24b0:(x4_2 == (l0_3.length:Int))=true:=beq_iff_eq.mpr c24
        clear c24
        obtain ⟨t300,A25,H⟩:=bA H
        replace H:(some t300)=some r:=H
        obtain rfl:=Option.some.inj H
        obtain ⟨hcz26_0,hcz26_1,hcz26_2,hcz26_3,hcz26_4,hcz26_5⟩:=b6of BK291.out
        obtain ⟨hfz26_0,hfz26_1,hfz26_2,hfz26_3,hfz26_4,hfz26_5⟩:=z6of BK291.out
        obtain ⟨Ao27,co27,eo27⟩:=Kd.R_slice HO_3.out
        subst eo27
        go_wp2_with (first | ((with_reducible refine gate_callee (f:=42) rfl ?_);refine goesL_ (some 36) rfl rfl Tryz.func42 (by kernel_rfl) rfl #[.agg #[.slice A0_0 l0_0.length c0_0,.slice A0_1 l0_1.length c0_1,.slice A0_2 l0_2.length c0_2,.slice A0_3 l0_3.length c0_3,.int .i64 a0_4,.int .i64 a0_5],.slice Ao27 x3_2.length co27] rfl (by (try simp only [List.map_toArray,List.map_cons,List.map_nil]);rfl) ?_;(with_reducible refine (impl_Disk_areEntries.calls _ _ l0_0 _ _ l0_1 _ _ l0_2 _ _ l0_3 a0_4 a0_5 _ _ x3_2 true _ ?side1 ?side2 ?side3 ?side4 ?side5 ?side6 ?side7 ?side8 ?side9 ?side10 A22.out).mono ?_);(case side1=>repeat (exact (Kd.C_below HR0_0.out HB.out)));(case side2=>exact HC0_0.out);(case side3=>repeat (exact (Kd.C_below HR0_1.out HB.out)));(case side4=>exact HC0_1.out);(case side5=>repeat (exact (Kd.C_below HR0_2.out HB.out)));(case side6=>exact HC0_2.out);(case side7=>repeat (exact (Kd.C_below HR0_3.out HB.out)));(case side8=>exact HC0_3.out);(case side9=>repeat (exact (Kd.R_reads' HO_3.out).2.2));(case side10=>exact (Kd.R_reads' HO_3.out).2.1);rintro e w28 ⟨rfl,hb⟩;refine ⟨_,rfl,?_⟩;replace HO_3:=Aside0.mk (Kd.R_below HO_3.out hb);replace BK291:=Aside0.mk (bB hb BK291.out);replace HB:=Aside0.mk (below_step HB.out hb);(try clear hb);obtain ⟨hcz29_0,hcz29_1,hcz29_2,hcz29_3,hcz29_4,hcz29_5⟩:=b6of BK291.out;obtain ⟨hfz29_0,hfz29_1,hfz29_2,hfz29_3,hfz29_4,hfz29_5⟩:=z6of BK291.out) | ((with_reducible refine gate_callee (f:=43) rfl ?_);refine goesL_ (some 46) rfl rfl Tryz.func43 (by kernel_rfl) rfl #[.slice Ao27 x3_2.length co27,.slice A0_1 l0_1.length c0_1] rfl (by (try simp only [List.map_toArray,List.map_cons,List.map_nil]);rfl) ?_;(with_reducible refine (impl_Entry_43.calls k2 _ _ x3_2 _ _ l0_1 t300 _ ?side1 ?side2 ?side3 ?side4 A25.out).mono ?_);(case side1=>repeat (exact (Kd.R_reads' HO_3.out).2.2));(case side2=>exact (Kd.R_reads' HO_3.out).2.1);(case side3=>repeat (exact (Kd.C_below HR0_1.out HB.out)));(case side4=>exact HC0_1.out);rintro e w' ⟨rfl,⟨nd,rfl⟩⟩;refine ⟨_,rfl,?_⟩))
        all_goals (go_ret)
        all_goals exact ⟨by rfl,by repeat (with_reducible first | exact HB.out | apply pw_below_drewN)⟩
       ·rw [if_neg c24] at H
        have c24b0:(x4_2 == (l0_3.length:Int))=false:=beq_eq_false_iff_ne.mpr c24
        by_cases c30:0≤x4_2
        ·rw [if_pos c30] at H
         have c30b0:decide (0≤x4_2)=true:=decide_eq_true c30
         clear c30
         by_cases c31:x4_2<(l0_3.length:Int)
         ·rw [if_pos c31] at H
          have c31b0:decide (x4_2<(l0_3.length:Int))=true:=decide_eq_true c31
          clear c31
          obtain ⟨⟨t302,t303⟩,A32,H⟩:=bA H
          replace H:(if t303=true then (impl_DiskOk.l0 k2 t302 (wrap64 (x4_2+1)) l0_0 l0_1 l0_2 l0_3 a0_4 a0_5) else (some false))=some r:=H
          by_cases c33:t303=true
          ·subst c33
           have H1:(impl_DiskOk.l0 k2 t302 (wrap64 (x4_2+1)) l0_0 l0_1 l0_2 l0_3 a0_4 a0_5)=some r:=by rw [if_pos rfl] at H;exact H
           clear H
           have H:=H1
           clear H1
           have H':=Aside0.mk H
           clear H
           obtain ⟨hcz34_0,hcz34_1,hcz34_2,hcz34_3,hcz34_4,hcz34_5⟩:=b6of BK291.out
           obtain ⟨hfz34_0,hfz34_1,hfz34_2,hfz34_3,hfz34_4,hfz34_5⟩:=z6of BK291.out
           obtain ⟨Ao35,co35,eo35⟩:=Kd.R_slice HO_3.out
           subst eo35
           go_wp2_with (first | ((with_reducible refine gate_callee (f:=42) rfl ?_);refine goesL_ (some 36) rfl rfl Tryz.func42 (by kernel_rfl) rfl #[.agg #[.slice A0_0 l0_0.length c0_0,.slice A0_1 l0_1.length c0_1,.slice A0_2 l0_2.length c0_2,.slice A0_3 l0_3.length c0_3,.int .i64 a0_4,.int .i64 a0_5],.slice Ao35 x3_2.length co35] rfl (by (try simp only [List.map_toArray,List.map_cons,List.map_nil]);rfl) ?_;(with_reducible refine (impl_Disk_areEntries.calls _ _ l0_0 _ _ l0_1 _ _ l0_2 _ _ l0_3 a0_4 a0_5 _ _ x3_2 true _ ?side1 ?side2 ?side3 ?side4 ?side5 ?side6 ?side7 ?side8 ?side9 ?side10 A22.out).mono ?_);(case side1=>repeat (exact (Kd.C_below HR0_0.out HB.out)));(case side2=>exact HC0_0.out);(case side3=>repeat (exact (Kd.C_below HR0_1.out HB.out)));(case side4=>exact HC0_1.out);(case side5=>repeat (exact (Kd.C_below HR0_2.out HB.out)));(case side6=>exact HC0_2.out);(case side7=>repeat (exact (Kd.C_below HR0_3.out HB.out)));(case side8=>exact HC0_3.out);(case side9=>repeat (exact (Kd.R_reads' HO_3.out).2.2));(case side10=>exact (Kd.R_reads' HO_3.out).2.1);rintro e w36 ⟨rfl,hb⟩;refine ⟨_,rfl,?_⟩;replace HO_3:=Aside0.mk (Kd.R_below HO_3.out hb);replace BK291:=Aside0.mk (bB hb BK291.out);replace HB:=Aside0.mk (below_step HB.out hb);(try clear hb);obtain ⟨hcz37_0,hcz37_1,hcz37_2,hcz37_3,hcz37_4,hcz37_5⟩:=b6of BK291.out;obtain ⟨hfz37_0,hfz37_1,hfz37_2,hfz37_3,hfz37_4,hfz37_5⟩:=z6of BK291.out;have p301:0≤(x4_2:Int):=of_decide_eq_true (by (with_reducible assumption));have q301:x4_2<(l0_3.length:Int):=of_decide_eq_true (by (with_reducible assumption));obtain ⟨ad301,e301,hx301_0⟩:=Kd.at_string HR0_3.out x4_2 p301 q301;cases e301;replace hx301_0:=(HB.out.cell (World.block_lt_of_cell? w _ hx301_0)).trans hx301_0;replace p301:=eq_true p301;replace q301:=eq_true q301) | ((with_reducible refine gate_callee (f:=44) rfl ?_);refine goesL_ (some 54) rfl rfl Tryz.func44 (by kernel_rfl) rfl #[.slice Ao35 x3_2.length co35,.string (rdOf ByteArray.empty l0_3 x4_2)] rfl (by (try simp only [List.map_toArray,List.map_cons,List.map_nil]);rfl) ?_;(with_reducible refine (impl_stepDone.calls _ _ x3_2 (rdOf ByteArray.empty l0_3 x4_2) t302 true _ ?side1 ?side2 ?side3 ?side4 A32.out).mono ?_);(case side1=>repeat (exact (Kd.R_reads' HO_3.out).2.2));(case side2=>exact (Kd.R_reads' HO_3.out).2.1);(case side3=>exact TabsE.below HTE.out HB.out);(case side4=>exact TabsP.below HTP.out HB.out);rintro e w38 ⟨v304,rfl,ho0,hb⟩;refine ⟨_,rfl,?_⟩;have HO305:=Aside0.mk (Kd.R_lower (Kd.R_new' ho0 (Kd.R_lt HO_3.out)) (below_size HB.out));replace HO_3:=Aside0.mk (Kd.R_elder' HO_3.out (Kd.R_base ho0) hb);replace BK291:=Aside0.mk (bB hb BK291.out);replace HB:=Aside0.mk (below_step HB.out hb);(try clear hb);(try clear ho0)))
           go_roundg k2
           case measure=>have:=HJ1.out;have:=HK2.out;omega
           case rel=>exact ⟨(t302),(wrap64 (x4_2+1)),(by rfl),H',⟨by have:=HJ1.out;have:=HK2.out;omega⟩,⟨by exact Kd.R_mono HO305.out (fun _ hk=>trivial)⟩,⟨by exact BK291.out⟩,⟨by repeat (with_reducible exact HB.out)⟩⟩
          ·replace c33:=Bool.eq_false_iff.mpr c33
           subst c33
           have H1:(some false)=some r:=by rw [if_neg (show ¬ (false=true) by decide)] at H;exact H
           clear H
           have H:=H1
           clear H1
           obtain rfl:=Option.some.inj H
           obtain ⟨hcz39_0,hcz39_1,hcz39_2,hcz39_3,hcz39_4,hcz39_5⟩:=b6of BK291.out
           obtain ⟨hfz39_0,hfz39_1,hfz39_2,hfz39_3,hfz39_4,hfz39_5⟩:=z6of BK291.out
           obtain ⟨Ao40,co40,eo40⟩:=Kd.R_slice HO_3.out
           subst eo40
           go_wp2_with (first | ((with_reducible refine gate_callee (f:=42) rfl ?_);refine goesL_ (some 36) rfl rfl Tryz.func42 (by kernel_rfl) rfl #[.agg #[.slice A0_0 l0_0.length c0_0,.slice A0_1 l0_1.length c0_1,.slice A0_2 l0_2.length c0_2,.slice A0_3 l0_3.length c0_3,.int .i64 a0_4,.int .i64 a0_5],.slice Ao40 x3_2.length co40] rfl (by (try simp only [List.map_toArray,List.map_cons,List.map_nil]);rfl) ?_;(with_reducible refine (impl_Disk_areEntries.calls _ _ l0_0 _ _ l0_1 _ _ l0_2 _ _ l0_3 a0_4 a0_5 _ _ x3_2 true _ ?side1 ?side2 ?side3 ?side4 ?side5 ?side6 ?side7 ?side8 ?side9 ?side10 A22.out).mono ?_);(case side1=>repeat (exact (Kd.C_below HR0_0.out HB.out)));(case side2=>exact HC0_0.out);(case side3=>repeat (exact (Kd.C_below HR0_1.out HB.out)));(case side4=>exact HC0_1.out);(case side5=>repeat (exact (Kd.C_below HR0_2.out HB.out)));(case side6=>exact HC0_2.out);(case side7=>repeat (exact (Kd.C_below HR0_3.out HB.out)));(case side8=>exact HC0_3.out);(case side9=>repeat (exact (Kd.R_reads' HO_3.out).2.2));(case side10=>exact (Kd.R_reads' HO_3.out).2.1);rintro e w41 ⟨rfl,hb⟩;refine ⟨_,rfl,?_⟩;replace HO_3:=Aside0.mk (Kd.R_below HO_3.out hb);replace BK291:=Aside0.mk (bB hb BK291.out);replace HB:=Aside0.mk (below_step HB.out hb);(try clear hb);obtain ⟨hcz42_0,hcz42_1,hcz42_2,hcz42_3,hcz42_4,hcz42_5⟩:=b6of BK291.out;obtain ⟨hfz42_0,hfz42_1,hfz42_2,hfz42_3,hfz42_4,hfz42_5⟩:=z6of BK291.out;have p301:0≤(x4_2:Int):=of_decide_eq_true (by (with_reducible assumption));have q301:x4_2<(l0_3.length:Int):=of_decide_eq_true (by (with_reducible assumption));obtain ⟨ad301,e301,hx301_0⟩:=Kd.at_string HR0_3.out x4_2 p301 q301;cases e301;replace hx301_0:=(HB.out.cell (World.block_lt_of_cell? w _ hx301_0)).trans hx301_0;replace p301:=eq_true p301;replace q301:=eq_true q301) | ((with_reducible refine gate_callee (f:=44) rfl ?_);refine goesL_ (some 54) rfl rfl Tryz.func44 (by kernel_rfl) rfl #[.slice Ao40 x3_2.length co40,.string (rdOf ByteArray.empty l0_3 x4_2)] rfl (by (try simp only [List.map_toArray,List.map_cons,List.map_nil]);rfl) ?_;(with_reducible refine (impl_stepDone.calls _ _ x3_2 (rdOf ByteArray.empty l0_3 x4_2) t302 false _ ?side1 ?side2 ?side3 ?side4 A32.out).mono ?_);(case side1=>repeat (exact (Kd.R_reads' HO_3.out).2.2));(case side2=>exact (Kd.R_reads' HO_3.out).2.1);(case side3=>exact TabsE.below HTE.out HB.out);(case side4=>exact TabsP.below HTP.out HB.out);rintro e w43 ⟨v304,rfl,ho0,hb⟩;refine ⟨_,rfl,?_⟩;have HO305:=Aside0.mk (Kd.R_lower (Kd.R_new' ho0 (Kd.R_lt HO_3.out)) (below_size HB.out));replace HO_3:=Aside0.mk (Kd.R_elder' HO_3.out (Kd.R_base ho0) hb);replace BK291:=Aside0.mk (bB hb BK291.out);replace HB:=Aside0.mk (below_step HB.out hb);(try clear hb);(try clear ho0)))
           all_goals (go_ret)
           all_goals exact ⟨by rfl,by repeat (with_reducible exact HB.out)⟩
         ·rw [if_neg c31] at H
          exact absurd H (by simp)
        ·rw [if_neg c30] at H
         exact absurd H (by simp)
      ·replace c23:=Bool.eq_false_iff.mpr c23
       subst c23
       have H1:(some false)=some r:=by rw [if_neg (show ¬ (false=true) by decide)] at H;exact H
       clear H
       have H:=H1
       clear H1
       obtain rfl:=Option.some.inj H
       obtain ⟨hcz44_0,hcz44_1,hcz44_2,hcz44_3,hcz44_4,hcz44_5⟩:=b6of BK291.out
       obtain ⟨hfz44_0,hfz44_1,hfz44_2,hfz44_3,hfz44_4,hfz44_5⟩:=z6of BK291.out
       obtain ⟨Ao45,co45,eo45⟩:=Kd.R_slice HO_3.out
       subst eo45
       go_wp2_with (((with_reducible refine gate_callee (f:=42) rfl ?_);refine goesL_ (some 36) rfl rfl Tryz.func42 (by kernel_rfl) rfl #[.agg #[.slice A0_0 l0_0.length c0_0,.slice A0_1 l0_1.length c0_1,.slice A0_2 l0_2.length c0_2,.slice A0_3 l0_3.length c0_3,.int .i64 a0_4,.int .i64 a0_5],.slice Ao45 x3_2.length co45] rfl (by (try simp only [List.map_toArray,List.map_cons,List.map_nil]);rfl) ?_;(with_reducible refine (impl_Disk_areEntries.calls _ _ l0_0 _ _ l0_1 _ _ l0_2 _ _ l0_3 a0_4 a0_5 _ _ x3_2 false _ ?side1 ?side2 ?side3 ?side4 ?side5 ?side6 ?side7 ?side8 ?side9 ?side10 A22.out).mono ?_);(case side1=>repeat (exact (Kd.C_below HR0_0.out HB.out)));(case side2=>exact HC0_0.out);(case side3=>repeat (exact (Kd.C_below HR0_1.out HB.out)));(case side4=>exact HC0_1.out);(case side5=>repeat (exact (Kd.C_below HR0_2.out HB.out)));(case side6=>exact HC0_2.out);(case side7=>repeat (exact (Kd.C_below HR0_3.out HB.out)));(case side8=>exact HC0_3.out);(case side9=>repeat (exact (Kd.R_reads' HO_3.out).2.2));(case side10=>exact (Kd.R_reads' HO_3.out).2.1);rintro e w46 ⟨rfl,hb⟩;refine ⟨_,rfl,?_⟩;replace HO_3:=Aside0.mk (Kd.R_below HO_3.out hb);replace BK291:=Aside0.mk (bB hb BK291.out);replace HB:=Aside0.mk (below_step HB.out hb);(try clear hb)))
       all_goals (go_ret)
       all_goals exact ⟨by rfl,by repeat (with_reducible exact HB.out)⟩

end Go.Proofs.YthbffdjjmapaaaaGreatDoor.MFnRenamed
