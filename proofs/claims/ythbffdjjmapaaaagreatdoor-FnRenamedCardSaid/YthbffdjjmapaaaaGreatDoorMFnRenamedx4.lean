/- Each theorem here says that a call of one Go function answers what the Lean function beside it answers; its conditions stand in it. Written by a program of this session. -/
import Derived.Test.YthbffdjjmapaaaaGreatDoorMFnRenamedx0
namespace Go.Proofs.YthbffdjjmapaaaaGreatDoor.MFnRenamed
open Go.RowKit Go.Proofs.YthbffdjjmapaaaaGreatDoorW.PrintWords Go.Proofs.YthbffdjjmapaaaaGreatDoorW.PrintLast Go.Proofs.YthbffdjjmapaaaaGreatDoorW.PrintMore
attribute [local go_sem] max2_int min2_int max_two min_two max_three min_three max_four min_four   -- for this text's walks alone
set_option linter.unusedVariables false
set_option linter.unusedSimpArgs false

/-! ### spec_l06Put: function 60 -/
mutual
def spec_l06Put.l0:Nat→List (S64)→List (S64)→Bool→Int→ByteArray→Int→Option ((List (S64)))
 | 0,_,_,_,_,_,_=>none
 | k+1,x0,x5,x6,x7,x110000,x110001=>if x7<(x0.length:Int) then (if x6=true then (spec_l06Put.j1 k x0 x5 x6 x7 false x110000 x110001) else (if 0≤x7 then (spec_l06Put.j1 k x0 x5 x6 x7 (!(Op.bytesLess (((rd_T64 x0 x7).f0).toList) x110000.toList)) x110000 x110001) else (none))) else (if x6=true then (some x5) else (if x5.length<5864062014805 then (some (x5++[(⟨x110000,x110001⟩:S64)])) else (none)))
def spec_l06Put.j1:Nat→List (S64)→List (S64)→Bool→Int→Bool→ByteArray→Int→Option ((List (S64)))
 | 0,_,_,_,_,_,_,_=>none
 | k+1,x0,x5,x6,x7,x26,x110000,x110001=>if x26=true then (if x5.length<5864062014805 then ((some (x5++[(⟨x110000,x110001⟩:S64)]:List (S64))).bind fun y117=>(if 0≤x7 then (if x7<(x0.length:Int) then (if ((rd_T64 x0 x7).f0).toList=x110000.toList then (spec_l06Put.l0 k x0 y117 true (wrap64 (x7+1)) x110000 x110001) else (if y117.length<5864062014805 then (spec_l06Put.l0 k x0 (y117++[(⟨(rd_T64 x0 x7).f0,(rd_T64 x0 x7).f1⟩:S64)]) true (wrap64 (x7+1)) x110000 x110001) else (none))) else (none)) else (none))) else (none)) else (if 0≤x7 then (if x7<(x0.length:Int) then (if ((rd_T64 x0 x7).f0).toList=x110000.toList then (spec_l06Put.l0 k x0 x5 x6 (wrap64 (x7+1)) x110000 x110001) else (if x5.length<5864062014805 then (spec_l06Put.l0 k x0 (x5++[(⟨(rd_T64 x0 x7).f0,(rd_T64 x0 x7).f1⟩:S64)]) x6 (wrap64 (x7+1)) x110000 x110001) else (none))) else (none)) else (none))
end
def spec_l06Put.f (k:Nat) (l0:List (S64)) (a1_0:ByteArray) (a1_1:Int):Option ((List (S64))):=spec_l06Put.l0 k l0 (([]:List (S64))) false 0 a1_0 a1_1
theorem spec_l06Put.mono_l:∀ k,(∀ y0 y1 y2 y3 y4 y5,LeO (spec_l06Put.l0 k y0 y1 y2 y3 y4 y5) (spec_l06Put.l0 (k+1) y0 y1 y2 y3 y4 y5))∧(∀ y0 y1 y2 y3 y4 y5 y6,LeO (spec_l06Put.j1 k y0 y1 y2 y3 y4 y5 y6) (spec_l06Put.j1 (k+1) y0 y1 y2 y3 y4 y5 y6))
 | 0=>⟨fun _ _ _ _ _ _ r h=>by simp [spec_l06Put.l0] at h,fun _ _ _ _ _ _ _ r h=>by simp [spec_l06Put.j1] at h⟩
 | k+1=>by
  obtain ⟨ih0,ih1⟩:=spec_l06Put.mono_l k
  refine ⟨?_,?_⟩
  ·intro y0 y1 y2 y3 y4 y5
   unfold spec_l06Put.l0
   repeat' first | (with_reducible exact ih1 _ _ _ _ _ _ _) | (with_reducible exact LeO.refl _) | (with_reducible refine LeO.ite ?_ ?_)
  ·intro y0 y1 y2 y3 y4 y5 y6
   unfold spec_l06Put.j1
   repeat' first | (with_reducible exact ih0 _ _ _ _ _ _) | (with_reducible exact LeO.refl _) | (with_reducible refine LeO.ite ?_ ?_) | (with_reducible refine LeO.bind ?_ (fun _=>?_))
theorem spec_l06Put.mono:∀ a0 a1 a2 k,LeO (spec_l06Put.f k a0 a1 a2) (spec_l06Put.f (k+1) a0 a1 a2):=by
 intro a0 a1 a2 k
 obtain ⟨ih0,ih1⟩:=spec_l06Put.mono_l k
 unfold spec_l06Put.f
 repeat' (with_reducible exact ih0 _ _ _ _ _ _)
set_option maxHeartbeats 8000000 in
set_option maxRecDepth 100000 in
theorem spec_l06Put.calls (k:Nat) (A0:Option Addr) (c0:Nat) (l0:List (S64)) (a1_0:ByteArray) (a1_1:Int) (r:List (S64)) (w:World) (hr0:Kd.C k64 w A0 l0.length l0) (hc0:l0.length≤c0) (h:spec_l06Put.f k l0 a1_0 a1_1=some r) :
  Calls Tryz.prog 60 #[.slice A0 l0.length c0,.agg #[.string a1_0,.int .i64 a1_1]] w fun e w'=>∃ v0_:Value,e=.returned (v0_)∧Kd.R k64 64 w' w.heap.size (fun _=>True) v0_ r∧Below w.heap.size w w':=by
 have HR0:=Aside0.mk hr0
 clear hr0 hc0
 have HB:=Aside0.mk (Below.refl w.heap.size w)
 have H:(spec_l06Put.l0 k l0 (([]:List (S64))) false 0 a1_0 a1_1)=some r:=h
 clear h
 obtain ⟨y110,hy110⟩:∃ y_:List (S64),y_=(([]:List (S64))):=⟨_,rfl⟩
 replace H:(spec_l06Put.l0 k l0 y110 false 0 a1_0 a1_1)=some r:=by (rw [hy110];with_reducible exact H)
 have Ny110:=Aside0.mk hy110
 clear hy110
 have H':=Aside0.mk H
 clear H
 go_enter Tryz.func60,Tryz.ntmps60
 go_wp2_with (first | ((with_reducible refine gate_dst (N:=3) rfl ?_);refine box_event ?hg (N:=3) ?hd (cs:=#[.string a1_0,.int .i64 a1_1]) (t:=64) ?hr ?_;(case hd=>rfl);(case hg=>rfl);(case hr=>(go_simp;done));intro gb109 hg w3 hbox hb;have BK109:=Aside0.mk (hbox);replace HB:=Aside0.mk (below_step HB.out hb);clear hb hbox hg) | ((with_reducible refine gate_dst (N:=8) rfl ?_);refine Kd.R_lit k64 _ 64 ?hg (N:=8) ?hd (xs:=([]:List (S64))) (inner:=[]) (ok:=fun _=>True) (okp:=fun _=>True) ?hr ?hp (fun _ hk=>hk) trivial (Below.refl _ _) (Nat.le_refl _) (by simp) ?_;(case hd=>rfl);(case hg=>rfl);(case hr=>(go_simp;done));(case hp=>exact (Reps.none _ _));intro v111 w4 ho5 hb hg_ hnew_;clear hg_ hnew_;(rw [← Ny110.out] at ho5);have HO112:=Aside0.mk (Kd.R_lower (Kd.R_newB ho5 (g:=gb109) (o:=.cells #[.string a1_0,.int .i64 a1_1] 64 (0,0)) BK109.out) (below_size HB.out));replace BK109:=Aside0.mk (bB hb BK109.out);replace HB:=Aside0.mk (below_step HB.out hb);clear hb ho5))
 repeat (go_quiet (fail);try go_wp2_with fail)
 go_loopg [5,6,7] k (fun kq v5 v6 v7 w'=>∃ (x5_1:List (S64)) (x6_1:Bool) (x7_1:Int),v6=.bool x6_1∧v7=.int .i64 x7_1∧Aside0 (spec_l06Put.l0 kq l0 x5_1 x6_1 x7_1 a1_0 a1_1=some r)∧Aside0 (kq≤k)∧Aside0 (Kd.R k64 64 w' w.heap.size (fun k_=>k_≠gb109) v5 x5_1)∧Aside0 (w'.heap[gb109]? = some (.cells #[.string a1_0,.int .i64 a1_1] 64 (0,0)))∧Aside0 (Below w.heap.size w w'))
 case atStart=>exact ⟨(y110),(false),(0),(by rfl),(by rfl),H',⟨Nat.le_refl _⟩,⟨by exact Kd.R_mono HO112.out (fun _ hk=>hk.2)⟩,⟨by exact BK109.out⟩,⟨by repeat (with_reducible exact HB.out)⟩⟩
 case round=>
  clear H'
  try clear p2
  obtain ⟨x5_1,x6_1,x7_1,rfl,rfl,HA,HK1,HO_5,BK109,HB⟩:=hrel
  cases gk with
  | zero=>exact absurd HA.out (by simp [spec_l06Put.l0])
  | succ k1=>
   have H:=HA.out
   clear HA
   simp only [spec_l06Put.l0] at H
   by_cases c6:x7_1<(l0.length:Int)
   ·rw [if_pos c6] at H
    have c6b0:decide (x7_1<(l0.length:Int))=true:=decide_eq_true c6
    clear c6
    have HC7:=Aside0.mk H
    clear H
    go_upto_region 6 with (fail)
    repeat (go_quiet (fail);go_upto_region 6 with (fail))
    go_cut [26] (fun v26 wc=>∃ (kq:Nat) (x26_6:Bool),v26=.bool x26_6∧Aside0 (spec_l06Put.j1 kq l0 x5_1 x6_1 x7_1 x26_6 a1_0 a1_1=some r)∧Aside0 (kq≤k1)∧Aside0 (Kd.R k64 64 wc w.heap.size (fun k_=>k_≠gb109) u5 x5_1)∧Aside0 (wc.heap[gb109]? = some (.cells #[.string a1_0,.int .i64 a1_1] 64 (0,0)))∧Aside0 (Below w.heap.size w wc))
    case first=>
     have H:=HC7.out
     clear HC7
     by_cases c8:x6_1=true
     ·subst c8
      have H1:(spec_l06Put.j1 k1 l0 x5_1 true x7_1 false a1_0 a1_1)=some r:=by rw [if_pos rfl] at H;exact H
      clear H
      have H:=H1
      clear H1
      have H':=Aside0.mk H
      clear H
      go_wp2
      repeat (go_quiet (fail);try go_wp2)
      go_meet
      case rel=>exact ⟨_,(false),(by rfl),H',⟨by have:=HK1.out;omega⟩,⟨by (with_reducible repeat (apply Kd.R_drewN));exact HO_5.out⟩,⟨by (with_reducible repeat (refine blk_drewN ?_ _));exact BK109.out⟩,⟨by repeat (with_reducible first | exact HB.out | apply pw_below_drewN)⟩⟩
     ·replace c8:=Bool.eq_false_iff.mpr c8
      subst c8
      have H1:(if 0≤x7_1 then (spec_l06Put.j1 k1 l0 x5_1 false x7_1 (!(Op.bytesLess (((rd_T64 l0 x7_1).f0).toList) a1_0.toList)) a1_0 a1_1) else (none))=some r:=by rw [if_neg (show ¬ (false=true) by decide)] at H;exact H
      clear H
      have H:=H1
      clear H1
      by_cases c9:0≤x7_1
      ·rw [if_pos c9] at H
       have c9b0:decide (0≤x7_1)=true:=decide_eq_true c9
       clear c9
       (skip)
       have H':=Aside0.mk H
       clear H
       have p116:0≤(x7_1:Int):=of_decide_eq_true (by (with_reducible assumption))
       have q116:x7_1<(l0.length:Int):=of_decide_eq_true (by (with_reducible assumption))
       obtain ⟨ad116,e116,hx116_0,hx116_1⟩:=at_T64 HR0.out x7_1 p116 q116
       cases e116
       replace hx116_0:=(HB.out.cell (World.block_lt_of_cell? w _ hx116_0)).trans hx116_0
       replace hx116_1:=(HB.out.cell (World.block_lt_of_cell? w _ hx116_1)).trans hx116_1
       replace p116:=eq_true p116
       replace q116:=eq_true q116
       have hcz10_0:wr.cell? ⟨gb109,0,none⟩=some (.string a1_0):=(blk_cell BK109.out 0).trans rfl
       go_wp2
       repeat (go_quiet (fail);try go_wp2)
       go_meet
       case rel=>exact ⟨_,(!(Op.bytesLess (((rd_T64 l0 x7_1).f0).toList) a1_0.toList)),(by rfl),H',⟨by have:=HK1.out;omega⟩,⟨by (with_reducible repeat (apply Kd.R_drewN));exact HO_5.out⟩,⟨by (with_reducible repeat (refine blk_drewN ?_ _));exact BK109.out⟩,⟨by repeat (with_reducible first | exact HB.out | apply pw_below_drewN)⟩⟩
      ·rw [if_neg c9] at H
       exact absurd H (by simp)
    case rest=>
     clear HC7
     try clear p1
     try clear q1
     try clear hx1
     try clear p2
     try clear c6
     try clear c6b0
     try clear p6
     try clear c8
     try clear c9
     try clear c9b0
     try clear hcz10_0
     try skip
     try skip
     try skip
     try clear hx116_0
     try clear hx116_1
     try clear p116
     try clear p2
     try clear q116
     obtain ⟨kq,x26_6,rfl,HA,HJ6,HO_5,BK109,HB⟩:=hcut
     cases kq with
     | zero=>exact absurd HA.out (by simp [spec_l06Put.j1])
     | succ kj6=>
      have H:=HA.out
      clear HA
      simp only [spec_l06Put.j1] at H
      by_cases c11:x26_6=true
      ·subst c11
       have H1:(if x5_1.length<5864062014805 then ((some (x5_1++[(⟨a1_0,a1_1⟩:S64)]:List (S64))).bind fun y117=>(if 0≤x7_1 then (if x7_1<(l0.length:Int) then (if ((rd_T64 l0 x7_1).f0).toList=a1_0.toList then (spec_l06Put.l0 kj6 l0 y117 true (wrap64 (x7_1+1)) a1_0 a1_1) else (if y117.length<5864062014805 then (spec_l06Put.l0 kj6 l0 (y117++[(⟨(rd_T64 l0 x7_1).f0,(rd_T64 l0 x7_1).f1⟩:S64)]) true (wrap64 (x7_1+1)) a1_0 a1_1) else (none))) else (none)) else (none))) else (none))=some r:=by rw [if_pos rfl] at H;exact H
       clear H
       have H:=H1
       clear H1
       by_cases c12:x5_1.length<5864062014805
       ·rw [if_pos c12] at H
        have LMc12:=Aside0.mk c12
        clear c12
        obtain ⟨y117,hy117⟩:∃ y_:List (S64),y_=(x5_1++[(⟨a1_0,a1_1⟩:S64)]):=⟨_,rfl⟩
        replace H:(if 0≤x7_1 then (if x7_1<(l0.length:Int) then (if ((rd_T64 l0 x7_1).f0).toList=a1_0.toList then (spec_l06Put.l0 kj6 l0 y117 true (wrap64 (x7_1+1)) a1_0 a1_1) else (if y117.length<5864062014805 then (spec_l06Put.l0 kj6 l0 (y117++[(⟨(rd_T64 l0 x7_1).f0,(rd_T64 l0 x7_1).f1⟩:S64)]) true (wrap64 (x7_1+1)) a1_0 a1_1) else (none))) else (none)) else (none))=some r:=by (have H2_:=(Option.bind_some _ _).symm.trans H;rw [hy117];with_reducible exact H2_)
        have Ny117:=Aside0.mk hy117
        clear hy117
        by_cases c13:0≤x7_1
        ·rw [if_pos c13] at H
         have c13b0:decide (0≤x7_1)=true:=decide_eq_true c13
         clear c13
         by_cases c14:x7_1<(l0.length:Int)
         ·rw [if_pos c14] at H
          have c14b0:decide (x7_1<(l0.length:Int))=true:=decide_eq_true c14
          clear c14
          by_cases c15:((rd_T64 l0 x7_1).f0).toList=a1_0.toList
          ·rw [if_pos c15] at H
           have c15b0:(((rd_T64 l0 x7_1).f0).toList == a1_0.toList)=true:=beq_iff_eq.mpr c15
           clear c15
           have H':=Aside0.mk H
           clear H
           have hcz16_0:wc.cell? ⟨gb109,0,none⟩=some (.string a1_0):=(blk_cell BK109.out 0).trans rfl
           have hcz16_1:wc.cell? ⟨gb109,1,none⟩=some (.int .i64 a1_1):=(blk_cell BK109.out 1).trans rfl
           go_wp2_with (((with_reducible refine gate_builtin (b:=.append) (xs:=#[.tmp 27,.tmp 29]) rfl ?_);at_builtin;refine Kd.R_append k64 (w0:=w) w.heap.size rfl (.tmp 27) (.tmp 29) 25 64 (.agg #[(.string ⟨#[]⟩),(.int .i64 0)]) 24 rfl Tryz.underlying25 info64 rfl (by decide) (by omega) u5 x5_1 (⟨a1_0,a1_1⟩:S64) [.string a1_0,.int .i64 a1_1] (fun k_=>k_≠gb109) (fun _=>False) rfl rfl ?aP (fun _ hk=>hk.elim) ?aF ?aO ?aB ?aS ?aL ?_;(case aP=>exact k64_mkM _ _ _ (⟨a1_0,a1_1⟩:S64));(case aB=>exact HB.out);(case aF=>exact (fun k_ hk=>Kd.freshB (g:=gb109) (o:=.cells #[.string a1_0,.int .i64 a1_1] 64 (0,0)) BK109.out k_ hk));(case aO=>exact HO_5.out);(case aS=>exact (below_size HB.out));(case aL=>have:=LMc12.out;omega);intro v118 w17 ho hb hg hat;rw [← Ny117.out] at ho;have HO119:=Aside0.mk (ho);replace BK109:=Aside0.mk (blk_grown (g:=gb109) (o:=.cells #[.string a1_0,.int .i64 a1_1] 64 (0,0)) BK109.out hg (Kd.R_away HO_5.out (fun _ hk=>hk)));replace HB:=Aside0.mk (hb);clear HO_5;clear ho hb hg hat;have p120:0≤(x7_1:Int):=of_decide_eq_true (by (with_reducible assumption));have q120:x7_1<(l0.length:Int):=of_decide_eq_true (by (with_reducible assumption));obtain ⟨ad120,e120,hx120_0,hx120_1⟩:=at_T64 HR0.out x7_1 p120 q120;cases e120;replace hx120_0:=(HB.out.cell (World.block_lt_of_cell? w _ hx120_0)).trans hx120_0;replace hx120_1:=(HB.out.cell (World.block_lt_of_cell? w _ hx120_1)).trans hx120_1;replace p120:=eq_true p120;replace q120:=eq_true q120;have hcz18_0:w17.cell? ⟨gb109,0,none⟩=some (.string a1_0):=(blk_cell BK109.out 0).trans rfl;skip))
           repeat (go_quiet (fail);try go_wp2_with fail)
           go_roundg kj6
           case measure=>have:=HK1.out;have:=HJ6.out;omega
           case rel=>exact ⟨(y117),(true),(wrap64 (x7_1+1)),(by rfl),(by rfl),H',⟨by have:=HK1.out;have:=HJ6.out;omega⟩,⟨by (with_reducible repeat (apply Kd.R_drewN));exact HO119.out⟩,⟨by (with_reducible repeat (refine blk_drewN ?_ _));exact BK109.out⟩,⟨by repeat (with_reducible first | exact HB.out | apply pw_below_drewN)⟩⟩
          ·rw [if_neg c15] at H
           have c15b0:(((rd_T64 l0 x7_1).f0).toList == a1_0.toList)=false:=beq_eq_false_iff_ne.mpr c15
           by_cases c19:y117.length<5864062014805
           ·rw [if_pos c19] at H
            have LMc19:=Aside0.mk c19
            clear c19
            obtain ⟨y122,hy122⟩:∃ y_:List (S64),y_=(y117++[(⟨(rd_T64 l0 x7_1).f0,(rd_T64 l0 x7_1).f1⟩:S64)]):=⟨_,rfl⟩
            replace H:(spec_l06Put.l0 kj6 l0 y122 true (wrap64 (x7_1+1)) a1_0 a1_1)=some r:=by (rw [hy122];with_reducible exact H)
            have Ny122:=Aside0.mk hy122
            clear hy122
            have H':=Aside0.mk H
            clear H
            have hcz20_0:wc.cell? ⟨gb109,0,none⟩=some (.string a1_0):=(blk_cell BK109.out 0).trans rfl
            have hcz20_1:wc.cell? ⟨gb109,1,none⟩=some (.int .i64 a1_1):=(blk_cell BK109.out 1).trans rfl
            go_wp2_with (((with_reducible refine gate_builtin (b:=.append) (xs:=#[.tmp 27,.tmp 29]) rfl ?_);at_builtin;refine Kd.R_append k64 (w0:=w) w.heap.size rfl (.tmp 27) (.tmp 29) 25 64 (.agg #[(.string ⟨#[]⟩),(.int .i64 0)]) 24 rfl Tryz.underlying25 info64 rfl (by decide) (by omega) u5 x5_1 (⟨a1_0,a1_1⟩:S64) [.string a1_0,.int .i64 a1_1] (fun k_=>k_≠gb109) (fun _=>False) rfl rfl ?aP (fun _ hk=>hk.elim) ?aF ?aO ?aB ?aS ?aL ?_;(case aP=>exact k64_mkM _ _ _ (⟨a1_0,a1_1⟩:S64));(case aB=>exact HB.out);(case aF=>exact (fun k_ hk=>Kd.freshB (g:=gb109) (o:=.cells #[.string a1_0,.int .i64 a1_1] 64 (0,0)) BK109.out k_ hk));(case aO=>exact HO_5.out);(case aS=>exact (below_size HB.out));(case aL=>have:=LMc12.out;omega);intro v118 w21 ho hb hg hat;rw [← Ny117.out] at ho;have HO119:=Aside0.mk (ho);replace BK109:=Aside0.mk (blk_grown (g:=gb109) (o:=.cells #[.string a1_0,.int .i64 a1_1] 64 (0,0)) BK109.out hg (Kd.R_away HO_5.out (fun _ hk=>hk)));replace HB:=Aside0.mk (hb);clear HO_5;clear ho hb hg hat;have p120:0≤(x7_1:Int):=of_decide_eq_true (by (with_reducible assumption));have q120:x7_1<(l0.length:Int):=of_decide_eq_true (by (with_reducible assumption));obtain ⟨ad120,e120,hx120_0,hx120_1⟩:=at_T64 HR0.out x7_1 p120 q120;cases e120;replace hx120_0:=(HB.out.cell (World.block_lt_of_cell? w _ hx120_0)).trans hx120_0;replace hx120_1:=(HB.out.cell (World.block_lt_of_cell? w _ hx120_1)).trans hx120_1;replace p120:=eq_true p120;replace q120:=eq_true q120;have hcz22_0:w21.cell? ⟨gb109,0,none⟩=some (.string a1_0):=(blk_cell BK109.out 0).trans rfl;have p121:0≤(x7_1:Int):=of_decide_eq_true (by (with_reducible assumption));have q121:x7_1<(l0.length:Int):=of_decide_eq_true (by (with_reducible assumption));obtain ⟨ad121,e121,hx121_0,hx121_1⟩:=at_T64 HR0.out x7_1 p121 q121;obtain rfl:ad120=ad121:=(by injection e121);replace hx121_0:=(HB.out.cell (World.block_lt_of_cell? w _ hx121_0)).trans hx121_0;replace hx121_1:=(HB.out.cell (World.block_lt_of_cell? w _ hx121_1)).trans hx121_1;replace p121:=eq_true p121;replace q121:=eq_true q121))
            repeat (go_quiet (fail);try go_wp2_with (((with_reducible refine gate_builtin (b:=.append) (xs:=#[.tmp 39,.tmp 44]) rfl ?_);at_builtin;refine Kd.R_append k64 (w0:=w) w.heap.size rfl (.tmp 39) (.tmp 44) 25 64 (.agg #[(.string ⟨#[]⟩),(.int .i64 0)]) 24 rfl Tryz.underlying25 info64 rfl (by decide) (by omega) v118 y117 (⟨(rd_T64 l0 x7_1).f0,(rd_T64 l0 x7_1).f1⟩:S64) [.string ((rd_T64 l0 x7_1).f0),.int .i64 ((rd_T64 l0 x7_1).f1)] (fun k_=>k_≠gb109) (fun _=>False) rfl rfl ?aP (fun _ hk=>hk.elim) ?aF ?aO ?aB ?aS ?aL ?_;(case aP=>exact k64_mkM _ _ _ (⟨(rd_T64 l0 x7_1).f0,(rd_T64 l0 x7_1).f1⟩:S64));(case aB=>exact (by repeat (with_reducible first | exact HB.out | apply pw_below_drewN)));(case aF=>exact (fun k_ hk=>Kd.freshB (g:=gb109) (o:=.cells #[.string a1_0,.int .i64 a1_1] 64 (0,0)) (by (with_reducible repeat (refine blk_drewN ?_ _));exact BK109.out) k_ hk));(case aO=>exact (by (with_reducible repeat (apply Kd.R_drewN));exact HO119.out));(case aS=>exact (below_size (by repeat (with_reducible first | exact HB.out | apply pw_below_drewN))));(case aL=>have:=LMc19.out;omega);intro v123 w23 ho hb hg hat;rw [← Ny122.out] at ho;have HO124:=Aside0.mk (ho);replace BK109:=Aside0.mk (blk_grown (g:=gb109) (o:=.cells #[.string a1_0,.int .i64 a1_1] 64 (0,0)) (by (with_reducible repeat (refine blk_drewN ?_ _));exact BK109.out) hg (Kd.R_away HO119.out (fun _ hk=>hk)));replace HB:=Aside0.mk (hb);clear HO119;clear ho hb hg hat)))
            go_roundg kj6
            case measure=>have:=HK1.out;have:=HJ6.out;omega
            case rel=>exact ⟨(y122),(true),(wrap64 (x7_1+1)),(by rfl),(by rfl),H',⟨by have:=HK1.out;have:=HJ6.out;omega⟩,⟨by exact HO124.out⟩,⟨by exact BK109.out⟩,⟨by repeat (with_reducible exact HB.out)⟩⟩
           ·rw [if_neg c19] at H
            exact absurd H (by simp)
         ·rw [if_neg c14] at H
          exact absurd H (by simp)
        ·rw [if_neg c13] at H
         exact absurd H (by simp)
       ·rw [if_neg c12] at H
        exact absurd H (by simp)
      ·replace c11:=Bool.eq_false_iff.mpr c11
       subst c11
       have H1:(if 0≤x7_1 then (if x7_1<(l0.length:Int) then (if ((rd_T64 l0 x7_1).f0).toList=a1_0.toList then (spec_l06Put.l0 kj6 l0 x5_1 x6_1 (wrap64 (x7_1+1)) a1_0 a1_1) else (if x5_1.length<5864062014805 then (spec_l06Put.l0 kj6 l0 (x5_1++[(⟨(rd_T64 l0 x7_1).f0,(rd_T64 l0 x7_1).f1⟩:S64)]) x6_1 (wrap64 (x7_1+1)) a1_0 a1_1) else (none))) else (none)) else (none))=some r:=by rw [if_neg (show ¬ (false=true) by decide)] at H;exact H
       clear H
       have H:=H1
       clear H1
       by_cases c24:0≤x7_1
       ·rw [if_pos c24] at H
        have c24b0:decide (0≤x7_1)=true:=decide_eq_true c24
        clear c24
        by_cases c25:x7_1<(l0.length:Int)
        ·rw [if_pos c25] at H
         have c25b0:decide (x7_1<(l0.length:Int))=true:=decide_eq_true c25
         clear c25
         by_cases c26:((rd_T64 l0 x7_1).f0).toList=a1_0.toList
         ·rw [if_pos c26] at H
          have c26b0:(((rd_T64 l0 x7_1).f0).toList == a1_0.toList)=true:=beq_iff_eq.mpr c26
          clear c26
          have H':=Aside0.mk H
          clear H
          have p125:0≤(x7_1:Int):=of_decide_eq_true (by (with_reducible assumption))
          have q125:x7_1<(l0.length:Int):=of_decide_eq_true (by (with_reducible assumption))
          obtain ⟨ad125,e125,hx125_0,hx125_1⟩:=at_T64 HR0.out x7_1 p125 q125
          cases e125
          replace hx125_0:=(HB.out.cell (World.block_lt_of_cell? w _ hx125_0)).trans hx125_0
          replace hx125_1:=(HB.out.cell (World.block_lt_of_cell? w _ hx125_1)).trans hx125_1
          replace p125:=eq_true p125
          replace q125:=eq_true q125
          have hcz27_0:wc.cell? ⟨gb109,0,none⟩=some (.string a1_0):=(blk_cell BK109.out 0).trans rfl
          go_wp2
          repeat (go_quiet (fail);try go_wp2)
          go_roundg kj6
          case measure=>have:=HK1.out;have:=HJ6.out;omega
          case rel=>exact ⟨(x5_1),(x6_1),(wrap64 (x7_1+1)),(by rfl),(by rfl),H',⟨by have:=HK1.out;have:=HJ6.out;omega⟩,⟨by (with_reducible repeat (apply Kd.R_drewN));exact HO_5.out⟩,⟨by (with_reducible repeat (refine blk_drewN ?_ _));exact BK109.out⟩,⟨by repeat (with_reducible first | exact HB.out | apply pw_below_drewN)⟩⟩
         ·rw [if_neg c26] at H
          have c26b0:(((rd_T64 l0 x7_1).f0).toList == a1_0.toList)=false:=beq_eq_false_iff_ne.mpr c26
          by_cases c28:x5_1.length<5864062014805
          ·rw [if_pos c28] at H
           have LMc28:=Aside0.mk c28
           clear c28
           obtain ⟨y127,hy127⟩:∃ y_:List (S64),y_=(x5_1++[(⟨(rd_T64 l0 x7_1).f0,(rd_T64 l0 x7_1).f1⟩:S64)]):=⟨_,rfl⟩
           replace H:(spec_l06Put.l0 kj6 l0 y127 x6_1 (wrap64 (x7_1+1)) a1_0 a1_1)=some r:=by (rw [hy127];with_reducible exact H)
           have Ny127:=Aside0.mk hy127
           clear hy127
           have H':=Aside0.mk H
           clear H
           have p125:0≤(x7_1:Int):=of_decide_eq_true (by (with_reducible assumption))
           have q125:x7_1<(l0.length:Int):=of_decide_eq_true (by (with_reducible assumption))
           obtain ⟨ad125,e125,hx125_0,hx125_1⟩:=at_T64 HR0.out x7_1 p125 q125
           cases e125
           replace hx125_0:=(HB.out.cell (World.block_lt_of_cell? w _ hx125_0)).trans hx125_0
           replace hx125_1:=(HB.out.cell (World.block_lt_of_cell? w _ hx125_1)).trans hx125_1
           replace p125:=eq_true p125
           replace q125:=eq_true q125
           have hcz29_0:wc.cell? ⟨gb109,0,none⟩=some (.string a1_0):=(blk_cell BK109.out 0).trans rfl
           have p126:0≤(x7_1:Int):=of_decide_eq_true (by (with_reducible assumption))
           have q126:x7_1<(l0.length:Int):=of_decide_eq_true (by (with_reducible assumption))
           obtain ⟨ad126,e126,hx126_0,hx126_1⟩:=at_T64 HR0.out x7_1 p126 q126
           obtain rfl:ad125=ad126:=(by injection e126)
           replace hx126_0:=(HB.out.cell (World.block_lt_of_cell? w _ hx126_0)).trans hx126_0
           replace hx126_1:=(HB.out.cell (World.block_lt_of_cell? w _ hx126_1)).trans hx126_1
           replace p126:=eq_true p126
           replace q126:=eq_true q126
           go_wp2_with fail
           repeat (go_quiet (fail);try go_wp2_with (((with_reducible refine gate_builtin (b:=.append) (xs:=#[.tmp 39,.tmp 44]) rfl ?_);at_builtin;refine Kd.R_append k64 (w0:=w) w.heap.size rfl (.tmp 39) (.tmp 44) 25 64 (.agg #[(.string ⟨#[]⟩),(.int .i64 0)]) 24 rfl Tryz.underlying25 info64 rfl (by decide) (by omega) u5 x5_1 (⟨(rd_T64 l0 x7_1).f0,(rd_T64 l0 x7_1).f1⟩:S64) [.string ((rd_T64 l0 x7_1).f0),.int .i64 ((rd_T64 l0 x7_1).f1)] (fun k_=>k_≠gb109) (fun _=>False) rfl rfl ?aP (fun _ hk=>hk.elim) ?aF ?aO ?aB ?aS ?aL ?_;(case aP=>exact k64_mkM _ _ _ (⟨(rd_T64 l0 x7_1).f0,(rd_T64 l0 x7_1).f1⟩:S64));(case aB=>exact (by repeat (with_reducible first | exact HB.out | apply pw_below_drewN)));(case aF=>exact (fun k_ hk=>Kd.freshB (g:=gb109) (o:=.cells #[.string a1_0,.int .i64 a1_1] 64 (0,0)) (by (with_reducible repeat (refine blk_drewN ?_ _));exact BK109.out) k_ hk));(case aO=>exact (by (with_reducible repeat (apply Kd.R_drewN));exact HO_5.out));(case aS=>exact (below_size (by repeat (with_reducible first | exact HB.out | apply pw_below_drewN))));(case aL=>have:=LMc28.out;omega);intro v128 w30 ho hb hg hat;rw [← Ny127.out] at ho;have HO129:=Aside0.mk (ho);replace BK109:=Aside0.mk (blk_grown (g:=gb109) (o:=.cells #[.string a1_0,.int .i64 a1_1] 64 (0,0)) (by (with_reducible repeat (refine blk_drewN ?_ _));exact BK109.out) hg (Kd.R_away HO_5.out (fun _ hk=>hk)));replace HB:=Aside0.mk (hb);clear HO_5;clear ho hb hg hat)))
           go_roundg kj6
           case measure=>have:=HK1.out;have:=HJ6.out;omega
           case rel=>exact ⟨(y127),(x6_1),(wrap64 (x7_1+1)),(by rfl),(by rfl),H',⟨by have:=HK1.out;have:=HJ6.out;omega⟩,⟨by exact HO129.out⟩,⟨by exact BK109.out⟩,⟨by repeat (with_reducible exact HB.out)⟩⟩
          ·rw [if_neg c28] at H
           exact absurd H (by simp)
        ·rw [if_neg c25] at H
         exact absurd H (by simp)
       ·rw [if_neg c24] at H
        exact absurd H (by simp)
   ·rw [if_neg c6] at H
    have c6b0:decide (x7_1<(l0.length:Int))=false:=decide_eq_false c6
    clear c6
    by_cases c31:x6_1=true
    ·subst c31
     have H1:(some x5_1)=some r:=by rw [if_pos rfl] at H;exact H
     clear H
     have H:=H1
     clear H1
     obtain rfl:=Option.some.inj H
     go_wp2
     repeat (go_quiet (fail);try go_wp2)
     all_goals (go_ret)
     all_goals exact ⟨_,by rfl,by exact Kd.R_mono HO_5.out (fun _ hk=>trivial),by repeat (with_reducible exact HB.out)⟩
    ·replace c31:=Bool.eq_false_iff.mpr c31
     subst c31
     have H1:(if x5_1.length<5864062014805 then (some (x5_1++[(⟨a1_0,a1_1⟩:S64)])) else (none))=some r:=by rw [if_neg (show ¬ (false=true) by decide)] at H;exact H
     clear H
     have H:=H1
     clear H1
     by_cases c32:x5_1.length<5864062014805
     ·rw [if_pos c32] at H
      have LMc32:=Aside0.mk c32
      clear c32
      obtain ⟨y113,hy113⟩:∃ y_:List (S64),y_=(x5_1++[(⟨a1_0,a1_1⟩:S64)]):=⟨_,rfl⟩
      replace H:(some y113)=some r:=by (rw [hy113];with_reducible exact H)
      have Ny113:=Aside0.mk hy113
      clear hy113
      obtain rfl:=Option.some.inj H
      have hcz33_0:wr.cell? ⟨gb109,0,none⟩=some (.string a1_0):=(blk_cell BK109.out 0).trans rfl
      have hcz33_1:wr.cell? ⟨gb109,1,none⟩=some (.int .i64 a1_1):=(blk_cell BK109.out 1).trans rfl
      go_wp2_with (((with_reducible refine gate_builtin (b:=.append) (xs:=#[.tmp 48,.tmp 50]) rfl ?_);at_builtin;refine Kd.R_append k64 (w0:=w) w.heap.size rfl (.tmp 48) (.tmp 50) 25 64 (.agg #[(.string ⟨#[]⟩),(.int .i64 0)]) 24 rfl Tryz.underlying25 info64 rfl (by decide) (by omega) u5 x5_1 (⟨a1_0,a1_1⟩:S64) [.string a1_0,.int .i64 a1_1] (fun k_=>k_≠gb109) (fun _=>False) rfl rfl ?aP (fun _ hk=>hk.elim) ?aF ?aO ?aB ?aS ?aL ?_;(case aP=>exact k64_mkM _ _ _ (⟨a1_0,a1_1⟩:S64));(case aB=>exact HB.out);(case aF=>exact (fun k_ hk=>Kd.freshB (g:=gb109) (o:=.cells #[.string a1_0,.int .i64 a1_1] 64 (0,0)) BK109.out k_ hk));(case aO=>exact HO_5.out);(case aS=>exact (below_size HB.out));(case aL=>have:=LMc32.out;omega);intro v114 w34 ho hb hg hat;rw [← Ny113.out] at ho;have HO115:=Aside0.mk (ho);replace BK109:=Aside0.mk (blk_grown (g:=gb109) (o:=.cells #[.string a1_0,.int .i64 a1_1] 64 (0,0)) BK109.out hg (Kd.R_away HO_5.out (fun _ hk=>hk)));replace HB:=Aside0.mk (hb);clear HO_5;clear ho hb hg hat))
      repeat (go_quiet (fail);try go_wp2_with fail)
      all_goals (go_ret)
      all_goals exact ⟨_,by rfl,by exact Kd.R_mono HO115.out (fun _ hk=>trivial),by repeat (with_reducible exact HB.out)⟩
     ·rw [if_neg c32] at H
      exact absurd H (by simp)

/-! ### spec_l06Drop: function 61 -/
def spec_l06Drop.l0:Nat→List (S64)→ByteArray→List (S64)→Int→Option ((List (S64)))
 | 0,_,_,_,_=>none
 | k+1,x0,x1,x5,x6=>if x6<(x0.length:Int) then (if 0≤x6 then (if ((rd_T64 x0 x6).f0).toList=x1.toList then (spec_l06Drop.l0 k x0 x1 x5 (wrap64 (x6+1))) else (if x5.length<5864062014805 then (spec_l06Drop.l0 k x0 x1 (x5++[(⟨(rd_T64 x0 x6).f0,(rd_T64 x0 x6).f1⟩:S64)]) (wrap64 (x6+1))) else (none))) else (none)) else (some x5)
def spec_l06Drop.f (k:Nat) (l0:List (S64)) (a1:ByteArray):Option ((List (S64))):=spec_l06Drop.l0 k l0 a1 (([]:List (S64))) 0
theorem spec_l06Drop.mono_l:∀ k,(∀ y0 y1 y2 y3,LeO (spec_l06Drop.l0 k y0 y1 y2 y3) (spec_l06Drop.l0 (k+1) y0 y1 y2 y3))
 | 0=>fun _ _ _ _ r h=>by simp [spec_l06Drop.l0] at h
 | k+1=>by
  have ih0:=spec_l06Drop.mono_l k
  ·intro y0 y1 y2 y3
   unfold spec_l06Drop.l0
   repeat' first | (with_reducible exact ih0 _ _ _ _) | (with_reducible exact LeO.refl _) | (with_reducible refine LeO.ite ?_ ?_)
theorem spec_l06Drop.mono:∀ a0 a1 k,LeO (spec_l06Drop.f k a0 a1) (spec_l06Drop.f (k+1) a0 a1):=by
 intro a0 a1 k
 have ih0:=spec_l06Drop.mono_l k
 unfold spec_l06Drop.f
 repeat' (with_reducible exact ih0 _ _ _ _)
set_option maxHeartbeats 8000000 in
set_option maxRecDepth 100000 in
theorem spec_l06Drop.calls (k:Nat) (A0:Option Addr) (c0:Nat) (l0:List (S64)) (a1:ByteArray) (r:List (S64)) (w:World) (hr0:Kd.C k64 w A0 l0.length l0) (hc0:l0.length≤c0) (h:spec_l06Drop.f k l0 a1=some r) :
  Calls Tryz.prog 61 #[.slice A0 l0.length c0,.string a1] w fun e w'=>∃ v0_:Value,e=.returned (v0_)∧Kd.R k64 64 w' w.heap.size (fun _=>True) v0_ r∧Below w.heap.size w w':=by
 have HR0:=Aside0.mk hr0
 clear hr0 hc0
 have HB:=Aside0.mk (Below.refl w.heap.size w)
 have H:(spec_l06Drop.l0 k l0 a1 (([]:List (S64))) 0)=some r:=h
 clear h
 obtain ⟨y130,hy130⟩:∃ y_:List (S64),y_=(([]:List (S64))):=⟨_,rfl⟩
 replace H:(spec_l06Drop.l0 k l0 a1 y130 0)=some r:=by (rw [hy130];with_reducible exact H)
 have Ny130:=Aside0.mk hy130
 clear hy130
 have H':=Aside0.mk H
 clear H
 go_enter Tryz.func61,Tryz.ntmps61
 go_wp2_with (((with_reducible refine gate_dst (N:=7) rfl ?_);refine Kd.R_lit k64 _ 64 ?hg (N:=7) ?hd (xs:=([]:List (S64))) (inner:=[]) (ok:=fun _=>True) (okp:=fun _=>True) ?hr ?hp (fun _ hk=>hk) trivial (Below.refl _ _) (Nat.le_refl _) (by simp) ?_;(case hd=>rfl);(case hg=>rfl);(case hr=>(go_simp;done));(case hp=>exact (Reps.none _ _));intro v131 w3 ho4 hb hg_ hnew_;clear hg_ hnew_;(rw [← Ny130.out] at ho4);have HO132:=Aside0.mk (Kd.R_lower ho4 (below_size HB.out));replace HB:=Aside0.mk (below_step HB.out hb);clear hb ho4))
 go_loopg [5,6] k (fun kq v5 v6 w'=>∃ (x5_1:List (S64)) (x6_1:Int),v6=.int .i64 x6_1∧Aside0 (spec_l06Drop.l0 kq l0 a1 x5_1 x6_1=some r)∧Aside0 (kq≤k)∧Aside0 (Kd.R k64 64 w' w.heap.size (fun _=>True) v5 x5_1)∧Aside0 (Below w.heap.size w w'))
 case atStart=>exact ⟨(y130),(0),(by rfl),H',⟨Nat.le_refl _⟩,⟨by exact HO132.out⟩,⟨by repeat (with_reducible exact HB.out)⟩⟩
 case round=>
  clear H'
  try clear p2
  obtain ⟨x5_1,x6_1,rfl,HA,HK1,HO_5,HB⟩:=hrel
  cases gk with
  | zero=>exact absurd HA.out (by simp [spec_l06Drop.l0])
  | succ k1=>
   have H:=HA.out
   clear HA
   simp only [spec_l06Drop.l0] at H
   by_cases c5:x6_1<(l0.length:Int)
   ·rw [if_pos c5] at H
    have c5b0:decide (x6_1<(l0.length:Int))=true:=decide_eq_true c5
    clear c5
    by_cases c6:0≤x6_1
    ·rw [if_pos c6] at H
     have c6b0:decide (0≤x6_1)=true:=decide_eq_true c6
     clear c6
     by_cases c7:((rd_T64 l0 x6_1).f0).toList=a1.toList
     ·rw [if_pos c7] at H
      have c7b0:(((rd_T64 l0 x6_1).f0).toList == a1.toList)=true:=beq_iff_eq.mpr c7
      clear c7
      have H':=Aside0.mk H
      clear H
      have p133:0≤(x6_1:Int):=of_decide_eq_true (by (with_reducible assumption))
      have q133:x6_1<(l0.length:Int):=of_decide_eq_true (by (with_reducible assumption))
      obtain ⟨ad133,e133,hx133_0,hx133_1⟩:=at_T64 HR0.out x6_1 p133 q133
      cases e133
      replace hx133_0:=(HB.out.cell (World.block_lt_of_cell? w _ hx133_0)).trans hx133_0
      replace hx133_1:=(HB.out.cell (World.block_lt_of_cell? w _ hx133_1)).trans hx133_1
      replace p133:=eq_true p133
      replace q133:=eq_true q133
      go_wp2
      go_roundg k1
      case measure=>have:=HK1.out;omega
      case rel=>exact ⟨(x5_1),(wrap64 (x6_1+1)),(by rfl),H',⟨by have:=HK1.out;omega⟩,⟨by exact HO_5.out⟩,⟨by repeat (with_reducible exact HB.out)⟩⟩
     ·rw [if_neg c7] at H
      have c7b0:(((rd_T64 l0 x6_1).f0).toList == a1.toList)=false:=beq_eq_false_iff_ne.mpr c7
      by_cases c8:x5_1.length<5864062014805
      ·rw [if_pos c8] at H
       have LMc8:=Aside0.mk c8
       clear c8
       obtain ⟨y135,hy135⟩:∃ y_:List (S64),y_=(x5_1++[(⟨(rd_T64 l0 x6_1).f0,(rd_T64 l0 x6_1).f1⟩:S64)]):=⟨_,rfl⟩
       replace H:(spec_l06Drop.l0 k1 l0 a1 y135 (wrap64 (x6_1+1)))=some r:=by (rw [hy135];with_reducible exact H)
       have Ny135:=Aside0.mk hy135
       clear hy135
       have H':=Aside0.mk H
       clear H
       have p133:0≤(x6_1:Int):=of_decide_eq_true (by (with_reducible assumption))
       have q133:x6_1<(l0.length:Int):=of_decide_eq_true (by (with_reducible assumption))
       obtain ⟨ad133,e133,hx133_0,hx133_1⟩:=at_T64 HR0.out x6_1 p133 q133
       cases e133
       replace hx133_0:=(HB.out.cell (World.block_lt_of_cell? w _ hx133_0)).trans hx133_0
       replace hx133_1:=(HB.out.cell (World.block_lt_of_cell? w _ hx133_1)).trans hx133_1
       replace p133:=eq_true p133
       replace q133:=eq_true q133
       have p134:0≤(x6_1:Int):=of_decide_eq_true (by (with_reducible assumption))
       have q134:x6_1<(l0.length:Int):=of_decide_eq_true (by (with_reducible assumption))
       obtain ⟨ad134,e134,hx134_0,hx134_1⟩:=at_T64 HR0.out x6_1 p134 q134
       obtain rfl:ad133=ad134:=(by injection e134)
       replace hx134_0:=(HB.out.cell (World.block_lt_of_cell? w _ hx134_0)).trans hx134_0
       replace hx134_1:=(HB.out.cell (World.block_lt_of_cell? w _ hx134_1)).trans hx134_1
       replace p134:=eq_true p134
       replace q134:=eq_true q134
       go_wp2_with (((with_reducible refine gate_builtin (b:=.append) (xs:=#[.tmp 21,.tmp 26]) rfl ?_);at_builtin;refine Kd.R_append k64 (w0:=w) w.heap.size rfl (.tmp 21) (.tmp 26) 25 64 (.agg #[(.string ⟨#[]⟩),(.int .i64 0)]) 24 rfl Tryz.underlying25 info64 rfl (by decide) (by omega) u5 x5_1 (⟨(rd_T64 l0 x6_1).f0,(rd_T64 l0 x6_1).f1⟩:S64) [.string ((rd_T64 l0 x6_1).f0),.int .i64 ((rd_T64 l0 x6_1).f1)] (fun _=>True) (fun _=>False) rfl rfl ?aP (fun _ hk=>hk.elim) ?aF ?aO ?aB ?aS ?aL ?_;(case aP=>exact k64_mkM _ _ _ (⟨(rd_T64 l0 x6_1).f0,(rd_T64 l0 x6_1).f1⟩:S64));(case aB=>exact HB.out);(case aF=>exact (fun _ _=>trivial));(case aO=>exact HO_5.out);(case aS=>exact (below_size HB.out));(case aL=>have:=LMc8.out;omega);intro v136 w9 ho hb hg hat;rw [← Ny135.out] at ho;have HO137:=Aside0.mk (ho);replace HB:=Aside0.mk (hb);clear HO_5;clear ho hb hg hat))
       go_roundg k1
       case measure=>have:=HK1.out;omega
       case rel=>exact ⟨(y135),(wrap64 (x6_1+1)),(by rfl),H',⟨by have:=HK1.out;omega⟩,⟨by exact HO137.out⟩,⟨by repeat (with_reducible exact HB.out)⟩⟩
      ·rw [if_neg c8] at H
       exact absurd H (by simp)
    ·rw [if_neg c6] at H
     exact absurd H (by simp)
   ·rw [if_neg c5] at H
    have c5b0:decide (x6_1<(l0.length:Int))=false:=decide_eq_false c5
    clear c5
    obtain rfl:=Option.some.inj H
    go_wp2
    all_goals (go_ret)
    all_goals exact ⟨_,by rfl,by exact HO_5.out,by repeat (with_reducible exact HB.out)⟩

/-! ### spec_Brought: function 66 -/
def spec_Brought.j0:Nat→Int→Int→Int→Bool→Option (Int)
 | 0,_,_,_,_=>none
 | k+1,x0,x1,x2,x14=>if x14=true then (some x1) else (if x0>x2 then (some x2) else (some x0))
def spec_Brought.f (k:Nat) (a0:Int) (a1:Int) (a2:Int):Option (Int):=if a2<a1 then (spec_Brought.j0 k a0 a1 a2 true) else (spec_Brought.j0 k a0 a1 a2 (decide (a0<a1)))
theorem spec_Brought.mono_l:∀ k,(∀ y0 y1 y2 y3,LeO (spec_Brought.j0 k y0 y1 y2 y3) (spec_Brought.j0 (k+1) y0 y1 y2 y3))
 | 0=>fun _ _ _ _ r h=>by simp [spec_Brought.j0] at h
 | k+1=>by
  ·intro y0 y1 y2 y3
   unfold spec_Brought.j0
   repeat' (with_reducible exact LeO.refl _)
theorem spec_Brought.mono:∀ a0 a1 a2 k,LeO (spec_Brought.f k a0 a1 a2) (spec_Brought.f (k+1) a0 a1 a2):=by
 intro a0 a1 a2 k
 have ih0:=spec_Brought.mono_l k
 unfold spec_Brought.f
 repeat' first | (with_reducible exact ih0 _ _ _ _) | (with_reducible refine LeO.ite ?_ ?_)
set_option maxHeartbeats 8000000 in
set_option maxRecDepth 100000 in
theorem spec_Brought.calls (k:Nat) (a0:Int) (a1:Int) (a2:Int) (r:Int) (w:World) (h:spec_Brought.f k a0 a1 a2=some r) :
  Calls Tryz.prog 66 #[.int .i64 a0,.int .i64 a1,.int .i64 a2] w fun e w'=>e=.returned (.int .i64 r)∧Drawn0 w w':=by
 have H:(if a2<a1 then (spec_Brought.j0 k a0 a1 a2 true) else (spec_Brought.j0 k a0 a1 a2 (decide (a0<a1))))=some r:=h
 clear h
 have HC4:=Aside0.mk H
 clear H
 go_enter Tryz.func66,Tryz.ntmps66
 go_upto_region 1 with (fail)
 go_cut [14] (fun v14 wc=>∃ (kq:Nat) (x14_3:Bool),v14=.bool x14_3∧Aside0 (spec_Brought.j0 kq a0 a1 a2 x14_3=some r)∧Aside0 (kq≤k)∧Drawn0 w wc)
 case first=>
  have H:=HC4.out
  clear HC4
  by_cases c5:a2<a1
  ·rw [if_pos c5] at H
   have c5b0:decide (a2<a1)=true:=decide_eq_true c5
   clear c5
   (skip)
   have H':=Aside0.mk H
   clear H
   go_wp2
   go_meet
   case rel=>exact ⟨_,(true),(by rfl),H',⟨by omega⟩,by repeat (exact Drawn0.refl _)⟩
  ·rw [if_neg c5] at H
   have c5b0:decide (a2<a1)=false:=decide_eq_false c5
   clear c5
   (skip)
   have H':=Aside0.mk H
   clear H
   go_wp2
   go_meet
   case rel=>exact ⟨_,(decide (a0<a1)),(by rfl),H',⟨by omega⟩,by repeat (exact Drawn0.refl _)⟩
 case rest=>
  clear HC4
  try clear p2
  try clear c5
  try clear c5b0
  obtain ⟨kq,x14_3,rfl,HA,HJ3,⟨mc3,rfl⟩⟩:=hcut
  cases kq with
  | zero=>exact absurd HA.out (by simp [spec_Brought.j0])
  | succ kj3=>
   have H:=HA.out
   clear HA
   simp only [spec_Brought.j0] at H
   by_cases c6:x14_3=true
   ·subst c6
    have H1:(some a1)=some r:=by rw [if_pos rfl] at H;exact H
    clear H
    have H:=H1
    clear H1
    obtain rfl:=Option.some.inj H
    go_wp2
    all_goals (go_ret)
    exact ⟨by first | rfl | (simp;done) | (simp [*];done),by repeat (first | exact Drawn0.refl _ | apply Drawn0.step)⟩
   ·replace c6:=Bool.eq_false_iff.mpr c6
    subst c6
    have H1:(if a0>a2 then (some a2) else (some a0))=some r:=by rw [if_neg (show ¬ (false=true) by decide)] at H;exact H
    clear H
    have H:=H1
    clear H1
    by_cases c7:a0>a2
    ·rw [if_pos c7] at H
     have c7b0:decide (a2<a0)=true:=decide_eq_true c7
     clear c7
     obtain rfl:=Option.some.inj H
     go_wp2
     all_goals (go_ret)
     exact ⟨by first | rfl | (simp;done) | (simp [*];done),by repeat (first | exact Drawn0.refl _ | apply Drawn0.step)⟩
    ·rw [if_neg c7] at H
     have c7b0:decide (a2<a0)=false:=decide_eq_false c7
     clear c7
     obtain rfl:=Option.some.inj H
     go_wp2
     all_goals (go_ret)
     exact ⟨by first | rfl | (simp;done) | (simp [*];done),by repeat (first | exact Drawn0.refl _ | apply Drawn0.step)⟩

/-! ### spec_l01Figure: function 110 -/
def spec_l01Figure.f (a0:Int):Option (Int):=if a0<10 then (some ((wrap64 (48+a0)) % 256)) else (some ((wrap64 ((wrap64 (97+a0))-10)) % 256))
set_option maxHeartbeats 8000000 in
set_option maxRecDepth 100000 in
theorem spec_l01Figure.calls (a0:Int) (r:Int) (w:World) (h:spec_l01Figure.f a0=some r) :
  Calls Tryz.prog 110 #[.int .i64 a0] w fun e w'=>e=.returned (.int .u8 r)∧Drawn0 w w':=by
 have H:(if a0<10 then (some ((wrap64 (48+a0)) % 256)) else (some ((wrap64 ((wrap64 (97+a0))-10)) % 256)))=some r:=h
 clear h
 by_cases c2:a0<10
 ·rw [if_pos c2] at H
  have c2b0:decide (a0<10)=true:=decide_eq_true c2
  clear c2
  obtain rfl:=Option.some.inj H
  go_enter Tryz.func110,Tryz.ntmps110
  go_wp2
  all_goals (go_ret)
  exact ⟨by first | rfl | (simp;done) | (simp [*];done),by repeat (exact Drawn0.refl _)⟩
 ·rw [if_neg c2] at H
  have c2b0:decide (a0<10)=false:=decide_eq_false c2
  clear c2
  obtain rfl:=Option.some.inj H
  go_enter Tryz.func110,Tryz.ntmps110
  go_wp2
  all_goals (go_ret)
  exact ⟨by first | rfl | (simp;done) | (simp [*];done),by repeat (exact Drawn0.refl _)⟩

/-! ### spec_Decimal: function 103 -/
def spec_Decimal.l0:Nat→Int→Bool→ByteArray→Option (ByteArray)
 | 0,_,_,_=>none
 | k+1,x0,x3,x4=>if x0=0 then (if x3=true then (if 1+x4.size≤9223372036854775807 then (some ((⟨#[45]⟩:ByteArray)++x4)) else (none)) else (some x4)) else (if (Int.tmod x0 10)<0 then ((spec_l01Figure.f (wrap64 (-(Int.tmod x0 10)))).bind fun t138=>((some (([t138]:List Int):List Int)).bind fun y139=>(if (strOfNums y139).size+x4.size≤9223372036854775807 then (spec_Decimal.l0 k (wrap64 (Int.tdiv x0 10)) x3 ((strOfNums y139)++x4)) else (none)))) else ((spec_l01Figure.f (Int.tmod x0 10)).bind fun t142=>((some (([t142]:List Int):List Int)).bind fun y143=>(if (strOfNums y143).size+x4.size≤9223372036854775807 then (spec_Decimal.l0 k (wrap64 (Int.tdiv x0 10)) x3 ((strOfNums y143)++x4)) else (none)))))
def spec_Decimal.f (k:Nat) (a0:Int):Option (ByteArray):=if a0=0 then (some (⟨#[48]⟩:ByteArray)) else (spec_Decimal.l0 k a0 (decide (a0<0)) (⟨#[]⟩:ByteArray))
theorem spec_Decimal.mono_l:∀ k,(∀ y0 y1 y2,LeO (spec_Decimal.l0 k y0 y1 y2) (spec_Decimal.l0 (k+1) y0 y1 y2))
 | 0=>fun _ _ _ r h=>by simp [spec_Decimal.l0] at h
 | k+1=>by
  have ih0:=spec_Decimal.mono_l k
  ·intro y0 y1 y2
   unfold spec_Decimal.l0
   repeat' first | (with_reducible exact ih0 _ _ _) | (with_reducible exact LeO.refl _) | (with_reducible refine LeO.ite ?_ ?_) | (with_reducible refine LeO.bind ?_ (fun _=>?_))
theorem spec_Decimal.mono:∀ a0 k,LeO (spec_Decimal.f k a0) (spec_Decimal.f (k+1) a0):=by
 intro a0 k
 have ih0:=spec_Decimal.mono_l k
 unfold spec_Decimal.f
 repeat' first | (with_reducible exact ih0 _ _ _) | (with_reducible exact LeO.refl _) | (with_reducible refine LeO.ite ?_ ?_)
set_option maxHeartbeats 8000000 in
set_option maxRecDepth 100000 in
theorem spec_Decimal.calls (k:Nat) (a0:Int) (r:ByteArray) (w:World) (h:spec_Decimal.f k a0=some r) :
  Calls Tryz.prog 103 #[.int .i64 a0] w fun e w'=>e=.returned (.string r)∧Below w.heap.size w w':=by
 have HB:=Aside0.mk (Below.refl w.heap.size w)
 have H:(if a0=0 then (some (⟨#[48]⟩:ByteArray)) else (spec_Decimal.l0 k a0 (decide (a0<0)) (⟨#[]⟩:ByteArray)))=some r:=h
 clear h
 by_cases c2:a0=0
 ·rw [if_pos c2] at H
  have c2b0:(a0 == 0)=true:=beq_iff_eq.mpr c2
  clear c2
  obtain rfl:=Option.some.inj H
  go_enter Tryz.func103,Tryz.ntmps103
  go_wp2
  all_goals (go_ret)
  all_goals exact ⟨by first | rfl | (simp [errW_none,errW_some] <;> rfl) | (simp [*,errW_none,errW_some] <;> rfl) | (exfalso;simp only [decide_eq_true_eq,decide_eq_false_iff_not] at *;omega),by repeat (with_reducible exact HB.out)⟩
 ·rw [if_neg c2] at H
  have c2b0:(a0 == 0)=false:=beq_eq_false_iff_ne.mpr c2
  have H':=Aside0.mk H
  clear H
  go_enter Tryz.func103,Tryz.ntmps103
  go_wp2
  go_loopg [0,4] k (fun kq v0 v4 w'=>∃ (x0_1:Int) (x4_1:ByteArray),v0=.int .i64 x0_1∧v4=.string x4_1∧Aside0 (spec_Decimal.l0 kq x0_1 (decide (a0<0)) x4_1=some r)∧Aside0 (kq≤k)∧Aside0 (Below w.heap.size w w'))
  case atStart=>exact ⟨(a0),(⟨#[]⟩:ByteArray),(by rfl),(by rfl),H',⟨Nat.le_refl _⟩,⟨by repeat (with_reducible exact HB.out)⟩⟩
  case round=>
   clear H'
   try clear c1
   try clear c2
   try clear c2b0
   try skip
   try clear p2
   obtain ⟨x0_1,x4_1,rfl,rfl,HA,HK1,HB⟩:=hrel
   cases gk with
   | zero=>exact absurd HA.out (by simp [spec_Decimal.l0])
   | succ k1=>
    have H:=HA.out
    clear HA
    simp only [spec_Decimal.l0] at H
    by_cases c3:x0_1=0
    ·rw [if_pos c3] at H
     have c3b1:(x0_1 != 0)=false:=bne_eq_false_iff_eq.mpr c3
     clear c3
     by_cases c4:(decide (a0<0))=true
     ·rw [if_pos c4] at H
      have c4b0:(decide (a0<0))=true:=c4
      clear c4
      by_cases c5:1+x4_1.size≤9223372036854775807
      ·rw [if_pos c5] at H
       try have c5b2:(9223372036854775807<1+x4_1.size)=False:=eq_false (Nat.not_lt.2 c5)
       obtain rfl:=Option.some.inj H
       go_wp2
       all_goals (go_ret)
       all_goals exact ⟨by first | rfl | (simp [errW_none,errW_some] <;> rfl) | (simp [*,errW_none,errW_some] <;> rfl) | (exfalso;simp only [decide_eq_true_eq,decide_eq_false_iff_not] at *;omega),by repeat (with_reducible exact HB.out)⟩
      ·rw [if_neg c5] at H
       exact absurd H (by simp)
     ·rw [if_neg c4] at H
      have c4b0:(decide (a0<0))=false:=by simpa using c4
      clear c4
      obtain rfl:=Option.some.inj H
      go_wp2
      all_goals (first | go_ret | (exfalso;simp only [decide_eq_true_eq,decide_eq_false_iff_not] at *;omega))
      all_goals exact ⟨by first | rfl | (simp [errW_none,errW_some] <;> rfl) | (simp [*,errW_none,errW_some] <;> rfl) | (exfalso;simp only [decide_eq_true_eq,decide_eq_false_iff_not] at *;omega),by repeat (with_reducible exact HB.out)⟩
    ·rw [if_neg c3] at H
     have c3b1:(x0_1 != 0)=true:=bne_iff_ne.mpr c3
     by_cases c6:(Int.tmod x0_1 10)<0
     ·rw [if_pos c6] at H
      have c6b0:decide ((Int.tmod x0_1 10)<0)=true:=decide_eq_true c6
      clear c6
      obtain ⟨t138,A7,H⟩:=bA H
      replace H:((some (([t138]:List Int):List Int)).bind fun y139=>(if (strOfNums y139).size+x4_1.size≤9223372036854775807 then (spec_Decimal.l0 k1 (wrap64 (Int.tdiv x0_1 10)) (decide (a0<0)) ((strOfNums y139)++x4_1)) else (none)))=some r:=H
      obtain ⟨y139,hy139⟩:∃ y_:List Int,y_=([t138]:List Int):=⟨_,rfl⟩
      replace H:(if (strOfNums y139).size+x4_1.size≤9223372036854775807 then (spec_Decimal.l0 k1 (wrap64 (Int.tdiv x0_1 10)) (decide (a0<0)) ((strOfNums y139)++x4_1)) else (none))=some r:=by (have H2_:=(Option.bind_some _ _).symm.trans H;rw [hy139];with_reducible exact H2_)
      have Ny139:=Aside0.mk hy139
      clear hy139
      by_cases c8:(strOfNums y139).size+x4_1.size≤9223372036854775807
      ·rw [if_pos c8] at H
       try have c8b2:(9223372036854775807<(strOfNums y139).size+x4_1.size)=False:=eq_false (Nat.not_lt.2 c8)
       have H':=Aside0.mk H
       clear H
       go_wp2_with (first | ((with_reducible refine gate_callee (f:=110) rfl ?_);refine goesL_ (some 19) rfl rfl Tryz.func110 (by kernel_rfl) rfl #[.int .i64 (wrap64 (-(Int.tmod x0_1 10)))] rfl (by (try simp only [List.map_toArray,List.map_cons,List.map_nil]);rfl) ?_;(with_reducible refine (spec_l01Figure.calls (wrap64 (-(Int.tmod x0_1 10))) t138 _ A7.out).mono ?_);rintro e w' ⟨rfl,⟨nd,rfl⟩⟩;refine ⟨_,rfl,?_⟩) | ((with_reducible refine gate_dst (N:=20) rfl ?_);refine Kd.R_lit (Kd.int .u8) _ 5 ?hg (N:=20) ?hd (xs:=([t138]:List Int)) (inner:=[.int .u8 t138]) (ok:=fun _=>True) (okp:=fun _=>True) ?hr ?hp (fun _ hk=>hk) trivial (Below.refl _ _) (Nat.le_refl _) (by simp) ?_;(case hd=>rfl);(case hg=>rfl);(case hr=>(go_simp;done));(case hp=>exact (Reps.one (show Kd.M (Kd.int .u8) _ _ _ t138 [.int .u8 t138] from rfl) (Reps.none _ _)));intro v140 w9 ho10 hb hg_ hnew_;clear hg_ hnew_;(rw [← Ny139.out] at ho10);have HO141:=Aside0.mk (Kd.R_lower ho10 (below_size (by repeat (with_reducible first | exact HB.out | apply pw_below_drewN))));replace HB:=Aside0.mk (below_step (by repeat (with_reducible first | exact HB.out | apply pw_below_drewN)) hb);clear hb ho10;have hcv11:=own_string (P:=Tryz.prog) Tryz.underlying22 Tryz.underlying5 Tryz.underlying9 (Kd.own_of_R HO141.out)))
       go_roundg k1
       case measure=>have:=HK1.out;omega
       case rel=>exact ⟨(wrap64 (Int.tdiv x0_1 10)),((strOfNums y139)++x4_1),(by rfl),(by rfl),H',⟨by have:=HK1.out;omega⟩,⟨by repeat (with_reducible exact HB.out)⟩⟩
      ·rw [if_neg c8] at H
       exact absurd H (by simp)
     ·rw [if_neg c6] at H
      have c6b0:decide ((Int.tmod x0_1 10)<0)=false:=decide_eq_false c6
      clear c6
      obtain ⟨t142,A12,H⟩:=bA H
      replace H:((some (([t142]:List Int):List Int)).bind fun y143=>(if (strOfNums y143).size+x4_1.size≤9223372036854775807 then (spec_Decimal.l0 k1 (wrap64 (Int.tdiv x0_1 10)) (decide (a0<0)) ((strOfNums y143)++x4_1)) else (none)))=some r:=H
      obtain ⟨y143,hy143⟩:∃ y_:List Int,y_=([t142]:List Int):=⟨_,rfl⟩
      replace H:(if (strOfNums y143).size+x4_1.size≤9223372036854775807 then (spec_Decimal.l0 k1 (wrap64 (Int.tdiv x0_1 10)) (decide (a0<0)) ((strOfNums y143)++x4_1)) else (none))=some r:=by (have H2_:=(Option.bind_some _ _).symm.trans H;rw [hy143];with_reducible exact H2_)
      have Ny143:=Aside0.mk hy143
      clear hy143
      by_cases c13:(strOfNums y143).size+x4_1.size≤9223372036854775807
      ·rw [if_pos c13] at H
       try have c13b2:(9223372036854775807<(strOfNums y143).size+x4_1.size)=False:=eq_false (Nat.not_lt.2 c13)
       have H':=Aside0.mk H
       clear H
       go_wp2_with (first | ((with_reducible refine gate_callee (f:=110) rfl ?_);refine goesL_ (some 19) rfl rfl Tryz.func110 (by kernel_rfl) rfl #[.int .i64 (Int.tmod x0_1 10)] rfl (by (try simp only [List.map_toArray,List.map_cons,List.map_nil]);rfl) ?_;(with_reducible refine (spec_l01Figure.calls (Int.tmod x0_1 10) t142 _ A12.out).mono ?_);rintro e w' ⟨rfl,⟨nd,rfl⟩⟩;refine ⟨_,rfl,?_⟩) | ((with_reducible refine gate_dst (N:=20) rfl ?_);refine Kd.R_lit (Kd.int .u8) _ 5 ?hg (N:=20) ?hd (xs:=([t142]:List Int)) (inner:=[.int .u8 t142]) (ok:=fun _=>True) (okp:=fun _=>True) ?hr ?hp (fun _ hk=>hk) trivial (Below.refl _ _) (Nat.le_refl _) (by simp) ?_;(case hd=>rfl);(case hg=>rfl);(case hr=>(go_simp;done));(case hp=>exact (Reps.one (show Kd.M (Kd.int .u8) _ _ _ t142 [.int .u8 t142] from rfl) (Reps.none _ _)));intro v144 w14 ho15 hb hg_ hnew_;clear hg_ hnew_;(rw [← Ny143.out] at ho15);have HO145:=Aside0.mk (Kd.R_lower ho15 (below_size (by repeat (with_reducible first | exact HB.out | apply pw_below_drewN))));replace HB:=Aside0.mk (below_step (by repeat (with_reducible first | exact HB.out | apply pw_below_drewN)) hb);clear hb ho15;have hcv16:=own_string (P:=Tryz.prog) Tryz.underlying22 Tryz.underlying5 Tryz.underlying9 (Kd.own_of_R HO145.out)))
       go_roundg k1
       case measure=>have:=HK1.out;omega
       case rel=>exact ⟨(wrap64 (Int.tdiv x0_1 10)),((strOfNums y143)++x4_1),(by rfl),(by rfl),H',⟨by have:=HK1.out;omega⟩,⟨by repeat (with_reducible exact HB.out)⟩⟩
      ·rw [if_neg c13] at H
       exact absurd H (by simp)

end Go.Proofs.YthbffdjjmapaaaaGreatDoor.MFnRenamed
