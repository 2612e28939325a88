/- Each theorem here says that a call of one Go function answers what the Lean function beside it answers; its conditions stand in it. Written by a program of this session. -/
import Derived.Test.YtokcccejijmkmaaGreatDoorMFnDeedsx0
namespace Go.Proofs.YtokcccejijmkmaaGreatDoor.MFnDeeds
set_option maxHeartbeats 8000000
set_option maxRecDepth 100000
open Go.RowKit Go.Proofs.YtokcccejijmkmaaGreatDoorW.PrintWords Go.Proofs.YtokcccejijmkmaaGreatDoorW.PrintLast Go.Proofs.YtokcccejijmkmaaGreatDoorW.PrintMore
attribute [local go_sem] max2_int min2_int max_two min_two max_three min_three max_four min_four
set_option linter.unusedVariables false
set_option linter.unusedSimpArgs false
mutual
def spec_l06Put.l0:Nat→List (S47)→List (S47)→Bool→Int→ByteArray→Int→Option ((List (S47)))
 | 0,_,_,_,_,_,_=>none
 | k+1,x0,x5,x6,x7,aa,ab=>if x7<(x0.length:Int) then (if x6=true then (spec_l06Put.j1 k x0 x5 x6 x7 false aa ab) else (if 0≤x7 then (spec_l06Put.j1 k x0 x5 x6 x7 (!(Op.bytesLess (((rd_T47 x0 x7).f0).toList) aa.toList)) aa ab) else (none))) else (if x6=true then (some x5) else (if x5.length<5864062014805 then (some (x5++[(⟨aa,ab⟩:S47)])) else (none)))
def spec_l06Put.j1:Nat→List (S47)→List (S47)→Bool→Int→Bool→ByteArray→Int→Option ((List (S47)))
 | 0,_,_,_,_,_,_,_=>none
 | k+1,x0,x5,x6,x7,x26,aa,ab=>if x26=true then (if x5.length<5864062014805 then ((some (x5++[(⟨aa,ab⟩:S47)]:List (S47))).bind fun ad=>(if 0≤x7 then (if x7<(x0.length:Int) then (if ((rd_T47 x0 x7).f0).toList=aa.toList then (spec_l06Put.l0 k x0 ad true (wrap64 (x7+1)) aa ab) else (if ad.length<5864062014805 then (spec_l06Put.l0 k x0 (ad++[(⟨(rd_T47 x0 x7).f0,(rd_T47 x0 x7).f1⟩:S47)]) true (wrap64 (x7+1)) aa ab) else (none))) else (none)) else (none))) else (none)) else (if 0≤x7 then (if x7<(x0.length:Int) then (if ((rd_T47 x0 x7).f0).toList=aa.toList then (spec_l06Put.l0 k x0 x5 x6 (wrap64 (x7+1)) aa ab) else (if x5.length<5864062014805 then (spec_l06Put.l0 k x0 (x5++[(⟨(rd_T47 x0 x7).f0,(rd_T47 x0 x7).f1⟩:S47)]) x6 (wrap64 (x7+1)) aa ab) else (none))) else (none)) else (none))
end
def spec_l06Put.f (k:Nat) (l0:List (S47)) (aa:ByteArray) (ab:Int):Option ((List (S47))):=spec_l06Put.l0 k l0 (([]:List (S47))) false 0 aa ab
theorem spec_l06Put.mono_l:∀ k,(∀ y0 y1 y2 y3 y4 y5,LeO (spec_l06Put.l0 k y0 y1 y2 y3 y4 y5) (spec_l06Put.l0 (k+1) y0 y1 y2 y3 y4 y5))∧(∀ y0 y1 y2 y3 y4 y5 y6,LeO (spec_l06Put.j1 k y0 y1 y2 y3 y4 y5 y6) (spec_l06Put.j1 (k+1) y0 y1 y2 y3 y4 y5 y6))
 | 0=>⟨fun _ _ _ _ _ _ r h=>by simp [spec_l06Put.l0] at h,fun _ _ _ _ _ _ _ r h=>by simp [spec_l06Put.j1] at h⟩
 | k+1=>by
  obtain ⟨ih0,ih1⟩:=spec_l06Put.mono_l k
  refine ⟨?_,?_⟩
  ·intro y0 y1 y2 y3 y4 y5
   unfold spec_l06Put.l0
   repeat' first | (with_reducible exact ih1 _ _ _ _ _ _ _) | (with_reducible exact LeO.refl _) | (with_reducible refine LeO.ite ?_ ?_)
  ·intro y0 y1 y2 y3 y4 y5 y6
   unfold spec_l06Put.j1
   repeat' first | (with_reducible exact ih0 _ _ _ _ _ _) | (with_reducible exact LeO.refl _) | (with_reducible refine LeO.ite ?_ ?_) | (with_reducible refine LeO.bind ?_ (fun _=>?_))
theorem spec_l06Put.mono:∀ a0 a1 a2 k,LeO (spec_l06Put.f k a0 a1 a2) (spec_l06Put.f (k+1) a0 a1 a2):=by
 intro a0 a1 a2 k
 obtain ⟨ih0,ih1⟩:=spec_l06Put.mono_l k
 unfold spec_l06Put.f
 repeat' (with_reducible exact ih0 _ _ _ _ _ _)
theorem spec_l06Put.calls (k:Nat) (A0:Option Addr) (c0:Nat) (l0:List (S47)) (ab:ByteArray) (af:Int) (r:List (S47)) (w:World) (hr0:Kd.C k47 w A0 l0.length l0) (hc0:l0.length≤c0) (h:spec_l06Put.f k l0 ab af=some r) :
  Calls Tryz.prog 93 #[.slice A0 l0.length c0,.agg #[.string ab,.int .i64 af]] w fun e w'=>∃ v0_:Value,e=.returned (v0_)∧Kd.R k47 47 w' w.heap.size (fun _=>True) v0_ r∧Below w.heap.size w w':=by
 have HR0:=zA hr0
 clear hr0 hc0
 have HB:=zA (Below.refl w.heap.size w)
 have H:(spec_l06Put.l0 k l0 (([]:List (S47))) false 0 ab af)=some r:=h
 clear h
 obtain ⟨bc,aG⟩:∃ y_:List (S47),y_=(([]:List (S47))):=⟨_,rfl⟩
 replace H:(spec_l06Put.l0 k l0 bc false 0 ab af)=some r:=by (rw [aG];with_reducible exact H)
 have bd:=zA aG
 clear aG
 have H':=zA H
 clear H
 go_enter Tryz.func93,Tryz.ntmps93
 go_wp2_with (first | ((with_reducible refine gate_dst (N:=3) rfl ?_);refine box_event ?hg (N:=3) ?hd (cs:=#[.string ab,.int .i64 af]) (t:=47) ?hr ?_;(case hd=>rfl);(case hg=>rfl);(case hr=>(go_simp;done));intro ae hg w3 hbox hb;have ad:=zA (hbox);replace HB:=zs HB hb;clear hb hbox hg) | ((with_reducible refine gate_dst (N:=8) rfl ?_);refine Kd.R_lit k47 _ 47 ?hg (N:=8) ?hd (xs:=([]:List (S47))) (inner:=[]) (ok:=fun _=>True) (okp:=fun _=>True) ?hr ?hp (fun _ hk=>hk) trivial (Below.refl _ _) (Nat.le_refl _) (by simp) ?_;(case hd=>rfl);(case hg=>rfl);(case hr=>(go_simp;done));(case hp=>exact (Reps.none _ _));intro v155 w4 ho5 hb hg_ hnew_;clear hg_ hnew_;(rw [← bd.out] at ho5);have bf:=zA (Kd.R_lower (Kd.R_newB ho5 (g:=ae) (o:=.cells #[.string ab,.int .i64 af] 47 (0,0)) ad.out) (below_size HB.out));replace ad:=zA (bB hb ad.out);replace HB:=zs HB hb;clear hb ho5))
 repeat (go_quiet (fail);try go_wp2_with fail)
 go_loopg [5,6,7] k (fun kq v5 v6 v7 w'=>∃ (ag:List (S47)) (aq:Bool) (aa:Int),v6=.bool aq∧v7=.int .i64 aa∧Aside0 (spec_l06Put.l0 kq l0 ag aq aa ab af=some r)∧Aside0 (kq≤k)∧Aside0 (Kd.R k47 47 w' w.heap.size (fun k_=>k_≠ae) v5 ag)∧Aside0 (w'.heap[ae]? = some (.cells #[.string ab,.int .i64 af] 47 (0,0)))∧Aside0 (Below w.heap.size w w'))
 case atStart=>exact ⟨(bc),(false),(0),(by rfl),(by rfl),H',⟨Nat.le_refl _⟩,⟨by exact Kd.R_mono bf.out (fun _ hk=>hk.2)⟩,⟨by exact ad.out⟩,⟨by repeat (with_reducible exact HB.out)⟩⟩
 case round=>
  clear H'
  try clear p2
  obtain ⟨ag,aq,aa,rfl,rfl,HA,HK1,al,ad,HB⟩:=hrel
  cases gk with
  | zero=>exact absurd HA.out (by simp [spec_l06Put.l0])
  | succ k1=>
   have H:=HA.out
   clear HA
   simp only [spec_l06Put.l0] at H
   by_cases c6:aa<(l0.length:Int)
   ·rw [if_pos c6] at H
    have bg:decide (aa<(l0.length:Int))=true:=zt c6
    clear c6
    have HC7:=zA H
    clear H
    go_upto_region 6 with (fail)
    repeat (go_quiet (fail);go_upto_region 6 with (fail))
    go_cut [26] (fun v26 wc=>∃ (kq:Nat) (aE:Bool),v26=.bool aE∧Aside0 (spec_l06Put.j1 kq l0 ag aq aa aE ab af=some r)∧Aside0 (kq≤k1)∧Aside0 (Kd.R k47 47 wc w.heap.size (fun k_=>k_≠ae) u5 ag)∧Aside0 (wc.heap[ae]? = some (.cells #[.string ab,.int .i64 af] 47 (0,0)))∧Aside0 (Below w.heap.size w wc))
    case first=>
     have H:=HC7.out
     clear HC7
     by_cases c8:aq=true
     ·subst c8
      have H1:(spec_l06Put.j1 k1 l0 ag true aa false ab af)=some r:=by rw [if_pos rfl] at H;exact H
      clear H
      have H:=H1
      clear H1
      have H':=zA H
      clear H
      go_wp2
      repeat (go_quiet (fail);try go_wp2)
      go_meet
      case rel=>exact ⟨_,(false),(by rfl),H',⟨by have:=HK1.out;omega⟩,⟨by (with_reducible repeat (apply Kd.R_drewN));exact al.out⟩,⟨by (with_reducible repeat (refine blk_drewN ?_ _));exact ad.out⟩,⟨by repeat (with_reducible first | exact HB.out | apply pw_below_drewN)⟩⟩
     ·replace c8:=Bool.eq_false_iff.mpr c8
      subst c8
      have H1:(if 0≤aa then (spec_l06Put.j1 k1 l0 ag false aa (!(Op.bytesLess (((rd_T47 l0 aa).f0).toList) ab.toList)) ab af) else (none))=some r:=by rw [if_neg (show ¬ (false=true) by decide)] at H;exact H
      clear H
      have H:=H1
      clear H1
      by_cases c9:0≤aa
      ·rw [if_pos c9] at H
       have bC:decide (0≤aa)=true:=zt c9
       clear c9
       (skip)
       have H':=zA H
       clear H
       have aM:0≤(aa:Int):=ze
       have aN:aa<(l0.length:Int):=ze
       obtain ⟨ad160,bD,an,ao⟩:=at_T47 HR0.out aa aM aN
       cases bD
       replace an:=(HB.out.cell (World.block_lt_of_cell? w _ an)).trans an
       replace ao:=(HB.out.cell (World.block_lt_of_cell? w _ ao)).trans ao
       replace aM:=eq_true aM
       replace aN:=eq_true aN
       have aQ:wr.cell? ⟨ae,0,none⟩=some (.string ab):=(blk_cell ad.out 0).trans rfl
       go_wp2
       repeat (go_quiet (fail);try go_wp2)
       go_meet
       case rel=>exact ⟨_,(!(Op.bytesLess (((rd_T47 l0 aa).f0).toList) ab.toList)),(by rfl),H',⟨by have:=HK1.out;omega⟩,⟨by (with_reducible repeat (apply Kd.R_drewN));exact al.out⟩,⟨by (with_reducible repeat (refine blk_drewN ?_ _));exact ad.out⟩,⟨by repeat (with_reducible first | exact HB.out | apply pw_below_drewN)⟩⟩
      ·rw [if_neg c9] at H
       exact absurd H (by simp)
    case rest=>
     clear HC7
     try clear p1
     try clear q1
     try clear hx1
     try clear p2
     try clear c6
     try clear bg
     try clear p6
     try clear c8
     try clear c9
     try clear bC
     try clear aQ
     try skip
     try skip
     try skip
     try clear an
     try clear ao
     try clear aM
     try clear p2
     try clear aN
     obtain ⟨kq,aE,rfl,HA,HJ6,al,ad,HB⟩:=hcut
     cases kq with
     | zero=>exact absurd HA.out (by simp [spec_l06Put.j1])
     | succ kj6=>
      have H:=HA.out
      clear HA
      simp only [spec_l06Put.j1] at H
      by_cases c11:aE=true
      ·subst c11
       have H1:(if ag.length<5864062014805 then ((some (ag++[(⟨ab,af⟩:S47)]:List (S47))).bind fun ar=>(if 0≤aa then (if aa<(l0.length:Int) then (if ((rd_T47 l0 aa).f0).toList=ab.toList then (spec_l06Put.l0 kj6 l0 ar true (wrap64 (aa+1)) ab af) else (if ar.length<5864062014805 then (spec_l06Put.l0 kj6 l0 (ar++[(⟨(rd_T47 l0 aa).f0,(rd_T47 l0 aa).f1⟩:S47)]) true (wrap64 (aa+1)) ab af) else (none))) else (none)) else (none))) else (none))=some r:=by rw [if_pos rfl] at H;exact H
       clear H
       have H:=H1
       clear H1
       by_cases c12:ag.length<5864062014805
       ·rw [if_pos c12] at H
        have aR:=zA c12
        clear c12
        obtain ⟨ar,aH⟩:∃ y_:List (S47),y_=(ag++[(⟨ab,af⟩:S47)]):=⟨_,rfl⟩
        replace H:(if 0≤aa then (if aa<(l0.length:Int) then (if ((rd_T47 l0 aa).f0).toList=ab.toList then (spec_l06Put.l0 kj6 l0 ar true (wrap64 (aa+1)) ab af) else (if ar.length<5864062014805 then (spec_l06Put.l0 kj6 l0 (ar++[(⟨(rd_T47 l0 aa).f0,(rd_T47 l0 aa).f1⟩:S47)]) true (wrap64 (aa+1)) ab af) else (none))) else (none)) else (none))=some r:=by (have H2_:=(Option.bind_some _ _).symm.trans H;rw [aH];with_reducible exact H2_)
        have aT:=zA aH
        clear aH
        by_cases c13:0≤aa
        ·rw [if_pos c13] at H
         have c13b0:decide (0≤aa)=true:=zt c13
         clear c13
         by_cases c14:aa<(l0.length:Int)
         ·rw [if_pos c14] at H
          have c14b0:decide (aa<(l0.length:Int))=true:=zt c14
          clear c14
          by_cases c15:((rd_T47 l0 aa).f0).toList=ab.toList
          ·rw [if_pos c15] at H
           have bh:(((rd_T47 l0 aa).f0).toList == ab.toList)=true:=beq_iff_eq.mpr c15
           clear c15
           have H':=zA H
           clear H
           have hcz16_0:wc.cell? ⟨ae,0,none⟩=some (.string ab):=(blk_cell ad.out 0).trans rfl
           have hcz16_1:wc.cell? ⟨ae,1,none⟩=some (.int .i64 af):=(blk_cell ad.out 1).trans rfl
           go_wp2_with (((with_reducible refine gate_builtin (b:=.append) (xs:=#[.tmp 27,.tmp 29]) rfl ?_);at_builtin;refine Kd.R_append k47 (w0:=w) w.heap.size rfl (.tmp 27) (.tmp 29) 25 47 (.agg #[(.string ⟨#[]⟩),(.int .i64 0)]) 24 rfl Tryz.underlying25 info47 rfl (by decide) (by omega) u5 ag (⟨ab,af⟩:S47) [.string ab,.int .i64 af] (fun k_=>k_≠ae) (fun _=>False) rfl rfl ?aP (fun _ hk=>hk.elim) ?aF ?aO ?aB ?aS ?aL ?_;(case aP=>exact k47_mkM _ _ _ (⟨ab,af⟩:S47));(case aB=>exact HB.out);(case aF=>exact (fun k_ hk=>Kd.freshB (g:=ae) (o:=.cells #[.string ab,.int .i64 af] 47 (0,0)) ad.out k_ hk));(case aO=>exact al.out);(case aS=>exact (below_size HB.out));(case aL=>have:=aR.out;omega);intro v162 w17 ho hb hg hat;rw [← aT.out] at ho;have ay:=zA (ho);replace ad:=zA (blk_grown (g:=ae) (o:=.cells #[.string ab,.int .i64 af] 47 (0,0)) ad.out hg (Kd.R_away al.out (fun _ hk=>hk)));replace HB:=zA (hb);clear al;clear ho hb hg hat;have az:0≤(aa:Int):=ze;have aA:aa<(l0.length:Int):=ze;obtain ⟨aU,aW,ah,ai⟩:=at_T47 HR0.out aa az aA;cases aW;replace ah:=(HB.out.cell (World.block_lt_of_cell? w _ ah)).trans ah;replace ai:=(HB.out.cell (World.block_lt_of_cell? w _ ai)).trans ai;replace az:=eq_true az;replace aA:=eq_true aA;have hcz18_0:w17.cell? ⟨ae,0,none⟩=some (.string ab):=(blk_cell ad.out 0).trans rfl;skip))
           repeat (go_quiet (fail);try go_wp2_with fail)
           go_roundg kj6
           case measure=>have:=HK1.out;have:=HJ6.out;omega
           case rel=>exact ⟨(ar),(true),(wrap64 (aa+1)),(by rfl),(by rfl),H',⟨by have:=HK1.out;have:=HJ6.out;omega⟩,⟨by (with_reducible repeat (apply Kd.R_drewN));exact ay.out⟩,⟨by (with_reducible repeat (refine blk_drewN ?_ _));exact ad.out⟩,⟨by repeat (with_reducible first | exact HB.out | apply pw_below_drewN)⟩⟩
          ·rw [if_neg c15] at H
           have bh:(((rd_T47 l0 aa).f0).toList == ab.toList)=false:=beq_eq_false_iff_ne.mpr c15
           by_cases c19:ar.length<5864062014805
           ·rw [if_pos c19] at H
            have bj:=zA c19
            clear c19
            obtain ⟨bk,aI⟩:∃ y_:List (S47),y_=(ar++[(⟨(rd_T47 l0 aa).f0,(rd_T47 l0 aa).f1⟩:S47)]):=⟨_,rfl⟩
            replace H:(spec_l06Put.l0 kj6 l0 bk true (wrap64 (aa+1)) ab af)=some r:=by (rw [aI];with_reducible exact H)
            have bl:=zA aI
            clear aI
            have H':=zA H
            clear H
            have hcz20_0:wc.cell? ⟨ae,0,none⟩=some (.string ab):=(blk_cell ad.out 0).trans rfl
            have hcz20_1:wc.cell? ⟨ae,1,none⟩=some (.int .i64 af):=(blk_cell ad.out 1).trans rfl
            go_wp2_with (((with_reducible refine gate_builtin (b:=.append) (xs:=#[.tmp 27,.tmp 29]) rfl ?_);at_builtin;refine Kd.R_append k47 (w0:=w) w.heap.size rfl (.tmp 27) (.tmp 29) 25 47 (.agg #[(.string ⟨#[]⟩),(.int .i64 0)]) 24 rfl Tryz.underlying25 info47 rfl (by decide) (by omega) u5 ag (⟨ab,af⟩:S47) [.string ab,.int .i64 af] (fun k_=>k_≠ae) (fun _=>False) rfl rfl ?aP (fun _ hk=>hk.elim) ?aF ?aO ?aB ?aS ?aL ?_;(case aP=>exact k47_mkM _ _ _ (⟨ab,af⟩:S47));(case aB=>exact HB.out);(case aF=>exact (fun k_ hk=>Kd.freshB (g:=ae) (o:=.cells #[.string ab,.int .i64 af] 47 (0,0)) ad.out k_ hk));(case aO=>exact al.out);(case aS=>exact (below_size HB.out));(case aL=>have:=aR.out;omega);intro v162 w21 ho hb hg hat;rw [← aT.out] at ho;have ay:=zA (ho);replace ad:=zA (blk_grown (g:=ae) (o:=.cells #[.string ab,.int .i64 af] 47 (0,0)) ad.out hg (Kd.R_away al.out (fun _ hk=>hk)));replace HB:=zA (hb);clear al;clear ho hb hg hat;have az:0≤(aa:Int):=ze;have aA:aa<(l0.length:Int):=ze;obtain ⟨aU,aW,ah,ai⟩:=at_T47 HR0.out aa az aA;cases aW;replace ah:=(HB.out.cell (World.block_lt_of_cell? w _ ah)).trans ah;replace ai:=(HB.out.cell (World.block_lt_of_cell? w _ ai)).trans ai;replace az:=eq_true az;replace aA:=eq_true aA;have hcz22_0:w21.cell? ⟨ae,0,none⟩=some (.string ab):=(blk_cell ad.out 0).trans rfl;have aX:0≤(aa:Int):=ze;have aY:aa<(l0.length:Int):=ze;obtain ⟨bm,bE,au,av⟩:=at_T47 HR0.out aa aX aY;obtain rfl:aU=bm:=(by injection bE);replace au:=(HB.out.cell (World.block_lt_of_cell? w _ au)).trans au;replace av:=(HB.out.cell (World.block_lt_of_cell? w _ av)).trans av;replace aX:=eq_true aX;replace aY:=eq_true aY))
            repeat (go_quiet (fail);try go_wp2_with (((with_reducible refine gate_builtin (b:=.append) (xs:=#[.tmp 39,.tmp 44]) rfl ?_);at_builtin;refine Kd.R_append k47 (w0:=w) w.heap.size rfl (.tmp 39) (.tmp 44) 25 47 (.agg #[(.string ⟨#[]⟩),(.int .i64 0)]) 24 rfl Tryz.underlying25 info47 rfl (by decide) (by omega) v162 ar (⟨(rd_T47 l0 aa).f0,(rd_T47 l0 aa).f1⟩:S47) [.string ((rd_T47 l0 aa).f0),.int .i64 ((rd_T47 l0 aa).f1)] (fun k_=>k_≠ae) (fun _=>False) rfl rfl ?aP (fun _ hk=>hk.elim) ?aF ?aO ?aB ?aS ?aL ?_;(case aP=>exact k47_mkM _ _ _ (⟨(rd_T47 l0 aa).f0,(rd_T47 l0 aa).f1⟩:S47));(case aB=>exact (by repeat (with_reducible first | exact HB.out | apply pw_below_drewN)));(case aF=>exact (fun k_ hk=>Kd.freshB (g:=ae) (o:=.cells #[.string ab,.int .i64 af] 47 (0,0)) (by (with_reducible repeat (refine blk_drewN ?_ _));exact ad.out) k_ hk));(case aO=>exact (by (with_reducible repeat (apply Kd.R_drewN));exact ay.out));(case aS=>exact (below_size (by repeat (with_reducible first | exact HB.out | apply pw_below_drewN))));(case aL=>have:=bj.out;omega);intro v167 w23 ho hb hg hat;rw [← bl.out] at ho;have bn:=zA (ho);replace ad:=zA (blk_grown (g:=ae) (o:=.cells #[.string ab,.int .i64 af] 47 (0,0)) (by (with_reducible repeat (refine blk_drewN ?_ _));exact ad.out) hg (Kd.R_away ay.out (fun _ hk=>hk)));replace HB:=zA (hb);clear ay;clear ho hb hg hat)))
            go_roundg kj6
            case measure=>have:=HK1.out;have:=HJ6.out;omega
            case rel=>exact ⟨(bk),(true),(wrap64 (aa+1)),(by rfl),(by rfl),H',⟨by have:=HK1.out;have:=HJ6.out;omega⟩,⟨by exact bn.out⟩,⟨by exact ad.out⟩,⟨by repeat (with_reducible exact HB.out)⟩⟩
           ·rw [if_neg c19] at H
            exact absurd H (by simp)
         ·rw [if_neg c14] at H
          exact absurd H (by simp)
        ·rw [if_neg c13] at H
         exact absurd H (by simp)
       ·rw [if_neg c12] at H
        exact absurd H (by simp)
      ·replace c11:=Bool.eq_false_iff.mpr c11
       subst c11
       have H1:(if 0≤aa then (if aa<(l0.length:Int) then (if ((rd_T47 l0 aa).f0).toList=ab.toList then (spec_l06Put.l0 kj6 l0 ag aq (wrap64 (aa+1)) ab af) else (if ag.length<5864062014805 then (spec_l06Put.l0 kj6 l0 (ag++[(⟨(rd_T47 l0 aa).f0,(rd_T47 l0 aa).f1⟩:S47)]) aq (wrap64 (aa+1)) ab af) else (none))) else (none)) else (none))=some r:=by rw [if_neg (show ¬ (false=true) by decide)] at H;exact H
       clear H
       have H:=H1
       clear H1
       by_cases c24:0≤aa
       ·rw [if_pos c24] at H
        have c24b0:decide (0≤aa)=true:=zt c24
        clear c24
        by_cases c25:aa<(l0.length:Int)
        ·rw [if_pos c25] at H
         have c25b0:decide (aa<(l0.length:Int))=true:=zt c25
         clear c25
         by_cases c26:((rd_T47 l0 aa).f0).toList=ab.toList
         ·rw [if_pos c26] at H
          have bo:(((rd_T47 l0 aa).f0).toList == ab.toList)=true:=beq_iff_eq.mpr c26
          clear c26
          have H':=zA H
          clear H
          have aC:0≤(aa:Int):=ze
          have aD:aa<(l0.length:Int):=ze
          obtain ⟨aV,aZ,aj,ak⟩:=at_T47 HR0.out aa aC aD
          cases aZ
          replace aj:=(HB.out.cell (World.block_lt_of_cell? w _ aj)).trans aj
          replace ak:=(HB.out.cell (World.block_lt_of_cell? w _ ak)).trans ak
          replace aC:=eq_true aC
          replace aD:=eq_true aD
          have hcz27_0:wc.cell? ⟨ae,0,none⟩=some (.string ab):=(blk_cell ad.out 0).trans rfl
          go_wp2
          repeat (go_quiet (fail);try go_wp2)
          go_roundg kj6
          case measure=>have:=HK1.out;have:=HJ6.out;omega
          case rel=>exact ⟨(ag),(aq),(wrap64 (aa+1)),(by rfl),(by rfl),H',⟨by have:=HK1.out;have:=HJ6.out;omega⟩,⟨by (with_reducible repeat (apply Kd.R_drewN));exact al.out⟩,⟨by (with_reducible repeat (refine blk_drewN ?_ _));exact ad.out⟩,⟨by repeat (with_reducible first | exact HB.out | apply pw_below_drewN)⟩⟩
         ·rw [if_neg c26] at H
          have bo:(((rd_T47 l0 aa).f0).toList == ab.toList)=false:=beq_eq_false_iff_ne.mpr c26
          by_cases c28:ag.length<5864062014805
          ·rw [if_pos c28] at H
           have bp:=zA c28
           clear c28
           obtain ⟨bq,aJ⟩:∃ y_:List (S47),y_=(ag++[(⟨(rd_T47 l0 aa).f0,(rd_T47 l0 aa).f1⟩:S47)]):=⟨_,rfl⟩
           replace H:(spec_l06Put.l0 kj6 l0 bq aq (wrap64 (aa+1)) ab af)=some r:=by (rw [aJ];with_reducible exact H)
           have br:=zA aJ
           clear aJ
           have H':=zA H
           clear H
           have aC:0≤(aa:Int):=ze
           have aD:aa<(l0.length:Int):=ze
           obtain ⟨aV,aZ,aj,ak⟩:=at_T47 HR0.out aa aC aD
           cases aZ
           replace aj:=(HB.out.cell (World.block_lt_of_cell? w _ aj)).trans aj
           replace ak:=(HB.out.cell (World.block_lt_of_cell? w _ ak)).trans ak
           replace aC:=eq_true aC
           replace aD:=eq_true aD
           have hcz29_0:wc.cell? ⟨ae,0,none⟩=some (.string ab):=(blk_cell ad.out 0).trans rfl
           have ba:0≤(aa:Int):=ze
           have bb:aa<(l0.length:Int):=ze
           obtain ⟨bs,bF,aw,ax⟩:=at_T47 HR0.out aa ba bb
           obtain rfl:aV=bs:=(by injection bF)
           replace aw:=(HB.out.cell (World.block_lt_of_cell? w _ aw)).trans aw
           replace ax:=(HB.out.cell (World.block_lt_of_cell? w _ ax)).trans ax
           replace ba:=eq_true ba
           replace bb:=eq_true bb
           go_wp2_with fail
           repeat (go_quiet (fail);try go_wp2_with (((with_reducible refine gate_builtin (b:=.append) (xs:=#[.tmp 39,.tmp 44]) rfl ?_);at_builtin;refine Kd.R_append k47 (w0:=w) w.heap.size rfl (.tmp 39) (.tmp 44) 25 47 (.agg #[(.string ⟨#[]⟩),(.int .i64 0)]) 24 rfl Tryz.underlying25 info47 rfl (by decide) (by omega) u5 ag (⟨(rd_T47 l0 aa).f0,(rd_T47 l0 aa).f1⟩:S47) [.string ((rd_T47 l0 aa).f0),.int .i64 ((rd_T47 l0 aa).f1)] (fun k_=>k_≠ae) (fun _=>False) rfl rfl ?aP (fun _ hk=>hk.elim) ?aF ?aO ?aB ?aS ?aL ?_;(case aP=>exact k47_mkM _ _ _ (⟨(rd_T47 l0 aa).f0,(rd_T47 l0 aa).f1⟩:S47));(case aB=>exact (by repeat (with_reducible first | exact HB.out | apply pw_below_drewN)));(case aF=>exact (fun k_ hk=>Kd.freshB (g:=ae) (o:=.cells #[.string ab,.int .i64 af] 47 (0,0)) (by (with_reducible repeat (refine blk_drewN ?_ _));exact ad.out) k_ hk));(case aO=>exact (by (with_reducible repeat (apply Kd.R_drewN));exact al.out));(case aS=>exact (below_size (by repeat (with_reducible first | exact HB.out | apply pw_below_drewN))));(case aL=>have:=bp.out;omega);intro v172 w30 ho hb hg hat;rw [← br.out] at ho;have bu:=zA (ho);replace ad:=zA (blk_grown (g:=ae) (o:=.cells #[.string ab,.int .i64 af] 47 (0,0)) (by (with_reducible repeat (refine blk_drewN ?_ _));exact ad.out) hg (Kd.R_away al.out (fun _ hk=>hk)));replace HB:=zA (hb);clear al;clear ho hb hg hat)))
           go_roundg kj6
           case measure=>have:=HK1.out;have:=HJ6.out;omega
           case rel=>exact ⟨(bq),(aq),(wrap64 (aa+1)),(by rfl),(by rfl),H',⟨by have:=HK1.out;have:=HJ6.out;omega⟩,⟨by exact bu.out⟩,⟨by exact ad.out⟩,⟨by repeat (with_reducible exact HB.out)⟩⟩
          ·rw [if_neg c28] at H
           exact absurd H (by simp)
        ·rw [if_neg c25] at H
         exact absurd H (by simp)
       ·rw [if_neg c24] at H
        exact absurd H (by simp)
   ·rw [if_neg c6] at H
    have bg:decide (aa<(l0.length:Int))=false:=zf c6
    clear c6
    by_cases c31:aq=true
    ·subst c31
     have H1:(some ag)=some r:=by rw [if_pos rfl] at H;exact H
     clear H
     have H:=H1
     clear H1
     obtain rfl:=Option.some.inj H
     go_wp2
     repeat (go_quiet (fail);try go_wp2)
     all_goals (go_ret)
     all_goals exact ⟨_,by rfl,by exact Kd.R_mono al.out (fun _ hk=>trivial),by repeat (with_reducible exact HB.out)⟩
    ·replace c31:=Bool.eq_false_iff.mpr c31
     subst c31
     have H1:(if ag.length<5864062014805 then (some (ag++[(⟨ab,af⟩:S47)])) else (none))=some r:=by rw [if_neg (show ¬ (false=true) by decide)] at H;exact H
     clear H
     have H:=H1
     clear H1
     by_cases c32:ag.length<5864062014805
     ·rw [if_pos c32] at H
      have bw:=zA c32
      clear c32
      obtain ⟨bG,aK⟩:∃ y_:List (S47),y_=(ag++[(⟨ab,af⟩:S47)]):=⟨_,rfl⟩
      replace H:(some bG)=some r:=by (rw [aK];with_reducible exact H)
      have bx:=zA aK
      clear aK
      obtain rfl:=Option.some.inj H
      have hcz33_0:wr.cell? ⟨ae,0,none⟩=some (.string ab):=(blk_cell ad.out 0).trans rfl
      have hcz33_1:wr.cell? ⟨ae,1,none⟩=some (.int .i64 af):=(blk_cell ad.out 1).trans rfl
      go_wp2_with (((with_reducible refine gate_builtin (b:=.append) (xs:=#[.tmp 48,.tmp 50]) rfl ?_);at_builtin;refine Kd.R_append k47 (w0:=w) w.heap.size rfl (.tmp 48) (.tmp 50) 25 47 (.agg #[(.string ⟨#[]⟩),(.int .i64 0)]) 24 rfl Tryz.underlying25 info47 rfl (by decide) (by omega) u5 ag (⟨ab,af⟩:S47) [.string ab,.int .i64 af] (fun k_=>k_≠ae) (fun _=>False) rfl rfl ?aP (fun _ hk=>hk.elim) ?aF ?aO ?aB ?aS ?aL ?_;(case aP=>exact k47_mkM _ _ _ (⟨ab,af⟩:S47));(case aB=>exact HB.out);(case aF=>exact (fun k_ hk=>Kd.freshB (g:=ae) (o:=.cells #[.string ab,.int .i64 af] 47 (0,0)) ad.out k_ hk));(case aO=>exact al.out);(case aS=>exact (below_size HB.out));(case aL=>have:=bw.out;omega);intro v158 w34 ho hb hg hat;rw [← bx.out] at ho;have bz:=zA (ho);replace ad:=zA (blk_grown (g:=ae) (o:=.cells #[.string ab,.int .i64 af] 47 (0,0)) ad.out hg (Kd.R_away al.out (fun _ hk=>hk)));replace HB:=zA (hb);clear al;clear ho hb hg hat))
      repeat (go_quiet (fail);try go_wp2_with fail)
      all_goals (go_ret)
      all_goals exact ⟨_,by rfl,by exact Kd.R_mono bz.out (fun _ hk=>trivial),by repeat (with_reducible exact HB.out)⟩
     ·rw [if_neg c32] at H
      exact absurd H (by simp)
end Go.Proofs.YtokcccejijmkmaaGreatDoor.MFnDeeds
