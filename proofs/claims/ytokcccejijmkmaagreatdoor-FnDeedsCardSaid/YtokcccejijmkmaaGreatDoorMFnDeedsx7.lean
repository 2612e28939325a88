/- Each theorem here says that a call of one Go function answers what the Lean function beside it answers; its conditions stand in it. Written by a program of this session. -/
import Derived.Test.YtokcccejijmkmaaGreatDoorMFnDeedsx0
import Derived.Test.YtokcccejijmkmaaGreatDoorMFnDeedsx3
import Derived.Test.YtokcccejijmkmaaGreatDoorMFnDeedsx4
import Derived.Test.YtokcccejijmkmaaGreatDoorMFnDeedsx5
import Derived.Test.YtokcccejijmkmaaGreatDoorMFnDeedsx6
namespace Go.Proofs.YtokcccejijmkmaaGreatDoor.MFnDeeds
set_option maxHeartbeats 8000000
set_option maxRecDepth 100000
open Go.RowKit Go.Proofs.YtokcccejijmkmaaGreatDoorW.PrintWords Go.Proofs.YtokcccejijmkmaaGreatDoorW.PrintLast Go.Proofs.YtokcccejijmkmaaGreatDoorW.PrintMore
attribute [local go_sem] max2_int min2_int max_two min_two max_three min_three max_four min_four
set_option linter.unusedVariables false
set_option linter.unusedSimpArgs false
mutual
def spec_StepsDone.l0:Nat→List ByteArray→Int→List (S47)→Int→Option ((List (S47))×Bool)
 | 0,_,_,_,_=>none
 | k+1,x1,x2,x8,x9=>if x9<x2 then (if 0≤x9 then (if x9<(x1.length:Int) then ((spec_l06Step.f k (rdOf ByteArray.empty x1 x9)).bind fun aa=>(if aa.2.2.2=true then ((spec_NameOk.f k aa.1).bind fun t186=>(if t186=true then (if 0<((rdOf ByteArray.empty x1 x9).size:Int) then (if (bt (rdOf ByteArray.empty x1 x9) 0)=43 then (spec_StepsDone.j1 k x1 x2 x8 x9 aa.1 aa.2.1 aa.2.2.1 false) else ((spec_l06Has.f k x8 aa.1).bind fun t188=>(spec_StepsDone.j1 k x1 x2 x8 x9 aa.1 aa.2.1 aa.2.2.1 (!t188)))) else (none)) else (spec_StepsDone.j1 k x1 x2 x8 x9 aa.1 aa.2.1 aa.2.2.1 true))) else (spec_StepsDone.j1 k x1 x2 x8 x9 aa.1 aa.2.1 aa.2.2.1 true))) else (none)) else (none)) else (some (x8,true))
def spec_StepsDone.j1:Nat→List ByteArray→Int→List (S47)→Int→ByteArray→ByteArray→Int→Bool→Option ((List (S47))×Bool)
 | 0,_,_,_,_,_,_,_,_=>none
 | k+1,x1,x2,x8,x9,x10,x11,x12,x56=>if x56=true then (some ((([]:List (S47))),false)) else (if 0≤x9 then (if x9<(x1.length:Int) then (if 0<((rdOf ByteArray.empty x1 x9).size:Int) then (if (bt (rdOf ByteArray.empty x1 x9) 0)=62 then ((spec_EntryAt.f k x8 x10).bind fun t193=>(spec_StepsDone.j2 k x1 x2 x8 x9 x10 x11 t193)) else (spec_StepsDone.j2 k x1 x2 x8 x9 x10 x11 x12)) else (none)) else (none)) else (none))
def spec_StepsDone.j2:Nat→List ByteArray→Int→List (S47)→Int→ByteArray→ByteArray→Int→Option ((List (S47))×Bool)
 | 0,_,_,_,_,_,_,_=>none
 | k+1,x1,x2,x8,x9,x10,x11,x12=>if 0≤x9 then (if x9<(x1.length:Int) then (if 0<((rdOf ByteArray.empty x1 x9).size:Int) then (if (bt (rdOf ByteArray.empty x1 x9) 0)=43 then (if (bt (rdOf ByteArray.empty x1 x9) 0)=45 then (spec_StepsDone.l0 k x1 x2 x8 (wrap64 (x9+1))) else ((spec_l06Put.f k x8 x10 x12).bind fun t196=>(spec_StepsDone.l0 k x1 x2 t196 (wrap64 (x9+1))))) else ((spec_l06Drop.f k x8 x10).bind fun t199=>(if (bt (rdOf ByteArray.empty x1 x9) 0)=45 then (spec_StepsDone.l0 k x1 x2 t199 (wrap64 (x9+1))) else ((spec_l06Put.f k t199 x11 x12).bind fun t203=>(spec_StepsDone.l0 k x1 x2 t203 (wrap64 (x9+1))))))) else (none)) else (none)) else (none)
end
def spec_StepsDone.f (k:Nat) (l0:List (S47)) (l1:List ByteArray) (a2:Int):Option ((List (S47))×Bool):=(some (([]:List (S47)):List (S47))).bind fun aa=>(if aa.length+l0.length<5864062014805 then ((spec_Brought.f k a2 0 (l1.length:Int)).bind fun t180=>(spec_StepsDone.l0 k l1 t180 (aa++l0) 0)) else (none))
theorem spec_StepsDone.mono_l:∀ k,(∀ y0 y1 y2 y3,LeO (spec_StepsDone.l0 k y0 y1 y2 y3) (spec_StepsDone.l0 (k+1) y0 y1 y2 y3))∧(∀ y0 y1 y2 y3 y4 y5 y6 y7,LeO (spec_StepsDone.j1 k y0 y1 y2 y3 y4 y5 y6 y7) (spec_StepsDone.j1 (k+1) y0 y1 y2 y3 y4 y5 y6 y7))∧(∀ y0 y1 y2 y3 y4 y5 y6,LeO (spec_StepsDone.j2 k y0 y1 y2 y3 y4 y5 y6) (spec_StepsDone.j2 (k+1) y0 y1 y2 y3 y4 y5 y6))
 | 0=>⟨fun _ _ _ _ r h=>by simp [spec_StepsDone.l0] at h,fun _ _ _ _ _ _ _ _ r h=>by simp [spec_StepsDone.j1] at h,fun _ _ _ _ _ _ _ r h=>by simp [spec_StepsDone.j2] at h⟩
 | k+1=>by
  obtain ⟨ih0,ih1,ih2⟩:=spec_StepsDone.mono_l k
  refine ⟨?_,?_,?_⟩
  ·intro y0 y1 y2 y3
   unfold spec_StepsDone.l0
   repeat' first | (with_reducible exact ih1 _ _ _ _ _ _ _ _) | (with_reducible exact spec_NameOk.mono _ _) | (with_reducible exact spec_l06Has.mono _ _ _) | (with_reducible exact spec_l06Step.mono _ _) | (with_reducible exact LeO.refl _) | (with_reducible refine LeO.ite ?_ ?_) | (with_reducible refine LeO.bind ?_ (fun _=>?_))
  ·intro y0 y1 y2 y3 y4 y5 y6 y7
   unfold spec_StepsDone.j1
   repeat' first | (with_reducible exact ih2 _ _ _ _ _ _ _) | (with_reducible exact spec_EntryAt.mono _ _ _) | (with_reducible exact LeO.refl _) | (with_reducible refine LeO.ite ?_ ?_) | (with_reducible refine LeO.bind ?_ (fun _=>?_))
  ·intro y0 y1 y2 y3 y4 y5 y6
   unfold spec_StepsDone.j2
   repeat' first | (with_reducible exact ih0 _ _ _ _) | (with_reducible exact spec_l06Drop.mono _ _ _) | (with_reducible exact spec_l06Put.mono _ _ _ _) | (with_reducible exact LeO.refl _) | (with_reducible refine LeO.ite ?_ ?_) | (with_reducible refine LeO.bind ?_ (fun _=>?_))
theorem spec_StepsDone.mono:∀ a0 a1 a2 k,LeO (spec_StepsDone.f k a0 a1 a2) (spec_StepsDone.f (k+1) a0 a1 a2):=by
 intro a0 a1 a2 k
 obtain ⟨ih0,ih1,ih2⟩:=spec_StepsDone.mono_l k
 unfold spec_StepsDone.f
 repeat' first | (with_reducible exact ih0 _ _ _ _) | (with_reducible exact spec_Brought.mono _ _ _ _) | (with_reducible exact LeO.refl _) | (with_reducible refine LeO.ite ?_ ?_) | (with_reducible refine LeO.bind ?_ (fun _=>?_))
theorem spec_StepsDone.calls (k:Nat) (A0:Option Addr) (c0:Nat) (l0:List (S47)) (A1:Option Addr) (c1:Nat) (l1:List ByteArray) (a2:Int) (r1:List (S47)) (r2:Bool) (w:World) (hr0:Kd.C k47 w A0 l0.length l0) (hc0:l0.length≤c0) (hr1:Kd.C Kd.string w A1 l1.length l1) (hc1:l1.length≤c1) (h:spec_StepsDone.f k l0 l1 a2=some (r1,r2)) :
  Calls Tryz.prog 52 #[.slice A0 l0.length c0,.slice A1 l1.length c1,.int .i64 a2] w fun e w'=>∃ v0_:Value,e=.returned (.tuple #[v0_,.bool r2])∧Kd.R k47 47 w' w.heap.size (fun _=>True) v0_ r1∧Below w.heap.size w w':=by
 have HR0:=zA hr0
 clear hr0 hc0
 have HR1:=zA hr1
 clear hr1 hc1
 have HB:=zA (Below.refl w.heap.size w)
 have H:((some (([]:List (S47)):List (S47))).bind fun az=>(if az.length+l0.length<5864062014805 then ((spec_Brought.f k a2 0 (l1.length:Int)).bind fun t180=>(spec_StepsDone.l0 k l1 t180 (az++l0) 0)) else (none)))=some (r1,r2):=h
 clear h
 obtain ⟨az,aK⟩:∃ y_:List (S47),y_=(([]:List (S47))):=⟨_,rfl⟩
 replace H:(if az.length+l0.length<5864062014805 then ((spec_Brought.f k a2 0 (l1.length:Int)).bind fun t180=>(spec_StepsDone.l0 k l1 t180 (az++l0) 0)) else (none))=some (r1,r2):=by (have H2_:=(Option.bind_some _ _).symm.trans H;rw [aK];with_reducible exact H2_)
 have bp:=zA aK
 clear aK
 by_cases c4:az.length+l0.length<5864062014805
 ·rw [if_pos c4] at H
  have bI:=zA c4
  clear c4
  obtain ⟨bf,aM⟩:∃ y_:List (S47),y_=(az++l0):=⟨_,rfl⟩
  replace H:((spec_Brought.f k a2 0 (l1.length:Int)).bind fun t180=>(spec_StepsDone.l0 k l1 t180 bf 0))=some (r1,r2):=by (rw [aM];with_reducible exact H)
  have bq:=zA aM
  clear aM
  obtain ⟨t180,A5,H⟩:=bA H
  replace H:(spec_StepsDone.l0 k l1 t180 bf 0)=some (r1,r2):=H
  have H':=zA H
  clear H
  go_enter Tryz.func52,Tryz.ntmps52
  go_wp2_with (first | ((with_reducible refine gate_dst (N:=14) rfl ?_);refine Kd.R_lit k47 _ 47 ?hg (N:=14) ?hd (xs:=([]:List (S47))) (inner:=[]) (ok:=fun _=>True) (okp:=fun _=>True) ?hr ?hp (fun _ hk=>hk) trivial (Below.refl _ _) (Nat.le_refl _) (by simp) ?_;(case hd=>rfl);(case hg=>rfl);(case hr=>(go_simp;done));(case hp=>exact (Reps.none _ _));intro v175 w6 ho7 hb hg_ hnew_;clear hg_ hnew_;(rw [← bp.out] at ho7);have ba:=zA (Kd.R_lower ho7 (below_size HB.out));replace HB:=zs HB hb;clear hb ho7) | ((with_reducible refine gate_builtin (b:=.append) (xs:=#[.tmp 14,.tmp 15]) rfl ?_);at_builtin;refine Kd.R_append_rows k47 (w0:=w) w.heap.size rfl (.tmp 14) (.tmp 15) 25 47 (.agg #[(.string ⟨#[]⟩),(.int .i64 0)]) 24 rfl Tryz.underlying25 info47 rfl (by decide) (by omega) v175 az l0 _ _ _ (fun _=>True) (fun _=>False) rfl rfl ?aO ?aR (fun _ _ h=>h) (fun _ h=>h.elim) ?aF ?aB ?aS ?aL ?_;(case aR=>repeat (exact (Kd.C_below HR0.out HB.out)));(case aB=>exact HB.out);(case aF=>exact (fun _ _=>trivial));(case aO=>exact ba.out);(case aS=>exact (below_size HB.out));(case aL=>have:=bI.out;omega);intro v178 w8 ho hb hg hat;rw [← bq.out] at ho;have br:=zA (ho);replace HB:=zA (hb);clear ba;clear ho hb hg hat) | ((with_reducible refine gate_callee (f:=65) rfl ?_);refine goesL_ (some 20) rfl rfl Tryz.func65 (by kernel_rfl) rfl #[.int .i64 a2,.int .i64 0,.int .i64 (l1.length:Int)] rfl (by (try simp only [List.map_toArray,List.map_cons,List.map_nil]);rfl) ?_;(with_reducible refine (spec_Brought.calls k a2 0 (l1.length:Int) t180 _ A5.out).mono ?_);rintro e w' ⟨rfl,⟨nd,rfl⟩⟩;refine ⟨_,rfl,?_⟩))
  go_loopg [8,9] k (fun kq v8 v9 w'=>∃ (ad:List (S47)) (aa:Int),v9=.int .i64 aa∧Aside0 (spec_StepsDone.l0 kq l1 t180 ad aa=some (r1,r2))∧Aside0 (kq≤k)∧Aside0 (Kd.R k47 47 w' w.heap.size (fun _=>True) v8 ad)∧Aside0 (Below w.heap.size w w'))
  case atStart=>exact ⟨(bf),(0),(by rfl),H',⟨Nat.le_refl _⟩,⟨by (with_reducible repeat (apply Kd.R_drewN));exact br.out⟩,⟨by repeat (with_reducible first | exact HB.out | apply pw_below_drewN)⟩⟩
  case round=>
   clear H'
   try clear c1
   try clear p2
   try clear c4
   try clear c5
   try clear c6
   try clear p6
   obtain ⟨ad,aa,rfl,HA,HK1,ab,HB⟩:=hrel
   cases gk with
   | zero=>exact absurd HA.out (by simp [spec_StepsDone.l0])
   | succ k1=>
    have H:=HA.out
    clear HA
    simp only [spec_StepsDone.l0] at H
    by_cases c9:aa<t180
    ·rw [if_pos c9] at H
     have bg:decide (aa<t180)=true:=zt c9
     clear c9
     by_cases c10:0≤aa
     ·rw [if_pos c10] at H
      have bb:decide (0≤aa)=true:=zt c10
      clear c10
      by_cases c11:aa<(l1.length:Int)
      ·rw [if_pos c11] at H
       have bc:decide (aa<(l1.length:Int))=true:=zt c11
       clear c11
       obtain ⟨⟨t182,t183,t184,t185⟩,A12,H⟩:=bA H
       replace H:(if t185=true then ((spec_NameOk.f k1 t182).bind fun t186=>(if t186=true then (if 0<((rdOf ByteArray.empty l1 aa).size:Int) then (if (bt (rdOf ByteArray.empty l1 aa) 0)=43 then (spec_StepsDone.j1 k1 l1 t180 ad aa t182 t183 t184 false) else ((spec_l06Has.f k1 ad t182).bind fun t188=>(spec_StepsDone.j1 k1 l1 t180 ad aa t182 t183 t184 (!t188)))) else (none)) else (spec_StepsDone.j1 k1 l1 t180 ad aa t182 t183 t184 true))) else (spec_StepsDone.j1 k1 l1 t180 ad aa t182 t183 t184 true))=some (r1,r2):=H
       have bh:=zA H
       clear H
       have aN:0≤(aa:Int):=ze
       have aP:aa<(l1.length:Int):=ze
       obtain ⟨ai,bJ,an⟩:=Kd.at_string HR1.out aa aN aP
       cases bJ
       replace an:=(HB.out.cell (World.block_lt_of_cell? w _ an)).trans an
       replace aN:=eq_true aN
       replace aP:=eq_true aP
       go_upto_region 7 with (((with_reducible refine gate_callee (f:=90) rfl ?_);refine goesL_ (some 31) rfl rfl Tryz.func90 (by kernel_rfl) rfl #[.string (rdOf ByteArray.empty l1 aa)] rfl (by (try simp only [List.map_toArray,List.map_cons,List.map_nil]);rfl) ?_;(with_reducible refine (spec_l06Step.calls k1 (rdOf ByteArray.empty l1 aa) t182 t183 t184 t185 _ A12.out).mono ?_);rintro e w14 ⟨rfl,hb⟩;refine ⟨_,rfl,?_⟩;replace ab:=zA (Kd.R_below ab.out hb);replace HB:=zs HB hb;(try clear hb)))
       (try simp only [Act.put,yA,yB,yC])
       go_cut [56] (fun v56 wc=>∃ (kq:Nat) (aw:Bool),v56=.bool aw∧Aside0 (spec_StepsDone.j1 kq l1 t180 ad aa t182 t183 t184 aw=some (r1,r2))∧Aside0 (kq≤k1)∧Aside0 (Kd.R k47 47 wc w.heap.size (fun _=>True) u8 ad)∧Aside0 (Below w.heap.size w wc))
       case first=>
        have H:=bh.out
        clear bh
        by_cases c15:t185=true
        ·subst c15
         have H1:((spec_NameOk.f k1 t182).bind fun t186=>(if t186=true then (if 0<((rdOf ByteArray.empty l1 aa).size:Int) then (if (bt (rdOf ByteArray.empty l1 aa) 0)=43 then (spec_StepsDone.j1 k1 l1 t180 ad aa t182 t183 t184 false) else ((spec_l06Has.f k1 ad t182).bind fun t188=>(spec_StepsDone.j1 k1 l1 t180 ad aa t182 t183 t184 (!t188)))) else (none)) else (spec_StepsDone.j1 k1 l1 t180 ad aa t182 t183 t184 true)))=some (r1,r2):=by rw [if_pos rfl] at H;exact H
         clear H
         have H:=H1
         clear H1
         obtain ⟨t186,A16,H⟩:=bA H
         replace H:(if t186=true then (if 0<((rdOf ByteArray.empty l1 aa).size:Int) then (if (bt (rdOf ByteArray.empty l1 aa) 0)=43 then (spec_StepsDone.j1 k1 l1 t180 ad aa t182 t183 t184 false) else ((spec_l06Has.f k1 ad t182).bind fun t188=>(spec_StepsDone.j1 k1 l1 t180 ad aa t182 t183 t184 (!t188)))) else (none)) else (spec_StepsDone.j1 k1 l1 t180 ad aa t182 t183 t184 true))=some (r1,r2):=H
         by_cases c17:t186=true
         ·subst c17
          have H1:(if 0<((rdOf ByteArray.empty l1 aa).size:Int) then (if (bt (rdOf ByteArray.empty l1 aa) 0)=43 then (spec_StepsDone.j1 k1 l1 t180 ad aa t182 t183 t184 false) else ((spec_l06Has.f k1 ad t182).bind fun t188=>(spec_StepsDone.j1 k1 l1 t180 ad aa t182 t183 t184 (!t188)))) else (none))=some (r1,r2):=by rw [if_pos rfl] at H;exact H
          clear H
          have H:=H1
          clear H1
          by_cases c18:0<((rdOf ByteArray.empty l1 aa).size:Int)
          ·rw [if_pos c18] at H
           have bd:decide (0<((rdOf ByteArray.empty l1 aa).size:Int))=true:=zt c18
           clear c18
           (skip)
           by_cases c20:(bt (rdOf ByteArray.empty l1 aa) 0)=43
           ·rw [if_pos c20] at H
            have aQ:((bt (rdOf ByteArray.empty l1 aa) 0) != 43)=false:=bne_eq_false_iff_eq.mpr c20
            clear c20
            have H':=zA H
            clear H
            go_wp2_with ((go_at_call 91;(with_reducible refine (spec_NameOk.calls k1 t182 true _ A16.out).mono ?_);rintro e w' ⟨rfl,⟨nd,rfl⟩⟩;have ax:0≤(aa:Int):=ze;have ay:aa<(l1.length:Int):=ze;obtain ⟨aT,bj,af⟩:=Kd.at_string HR1.out aa ax ay;obtain rfl:ai=aT:=(by injection bj);replace af:=(HB.out.cell (World.block_lt_of_cell? w _ af)).trans af;replace ax:=eq_true ax;replace ay:=eq_true ay;have q19:0<(rdOf ByteArray.empty l1 aa).size:=(by have:(0:Int)<((rdOf ByteArray.empty l1 aa).size:Int):=ze;omega);have bk:∀ h:0<(rdOf ByteArray.empty l1 aa).size,(((rdOf ByteArray.empty l1 aa)[0]'h).toNat:Int)=bt (rdOf ByteArray.empty l1 aa) 0:=bt_at (rdOf ByteArray.empty l1 aa) 0;replace q19:=eq_true q19))
            go_meet
            case rel=>exact ⟨_,(false),(by rfl),H',⟨by have:=HK1.out;omega⟩,⟨by (with_reducible repeat (apply Kd.R_drewN));exact ab.out⟩,⟨by repeat (with_reducible first | exact HB.out | apply pw_below_drewN)⟩⟩
           ·rw [if_neg c20] at H
            have aQ:((bt (rdOf ByteArray.empty l1 aa) 0) != 43)=true:=bne_iff_ne.mpr c20
            obtain ⟨t188,A21,H⟩:=bA H
            replace H:(spec_StepsDone.j1 k1 l1 t180 ad aa t182 t183 t184 (!t188))=some (r1,r2):=H
            have H':=zA H
            clear H
            go_wp2_with (first | (go_at_call 91;(with_reducible refine (spec_NameOk.calls k1 t182 true _ A16.out).mono ?_);rintro e w' ⟨rfl,⟨nd,rfl⟩⟩;have ax:0≤(aa:Int):=ze;have ay:aa<(l1.length:Int):=ze;obtain ⟨aT,bj,af⟩:=Kd.at_string HR1.out aa ax ay;obtain rfl:ai=aT:=(by injection bj);replace af:=(HB.out.cell (World.block_lt_of_cell? w _ af)).trans af;replace ax:=eq_true ax;replace ay:=eq_true ay;have q19:0<(rdOf ByteArray.empty l1 aa).size:=(by have:(0:Int)<((rdOf ByteArray.empty l1 aa).size:Int):=ze;omega);have bk:∀ h:0<(rdOf ByteArray.empty l1 aa).size,(((rdOf ByteArray.empty l1 aa)[0]'h).toNat:Int)=bt (rdOf ByteArray.empty l1 aa) 0:=bt_at (rdOf ByteArray.empty l1 aa) 0;replace q19:=eq_true q19;obtain ⟨Ao22,co22,bK⟩:=Kd.R_slice ab.out;subst bK) | (go_at_call 45;(with_reducible refine (spec_l06Has.calls k1 _ _ ad t182 t188 _ ?side1 ?side2 A21.out).mono ?_);(case side1=>repeat (exact (Kd.R_reads' ab.out).2.2));(case side2=>exact (Kd.R_reads' ab.out).2.1);rintro e w' ⟨rfl,⟨nd,rfl⟩⟩))
            go_meet
            case rel=>exact ⟨_,(!t188),(by rfl),H',⟨by have:=HK1.out;omega⟩,⟨by (with_reducible repeat (apply Kd.R_drewN));exact ab.out⟩,⟨by repeat (with_reducible first | exact HB.out | apply pw_below_drewN)⟩⟩
          ·rw [if_neg c18] at H
           exact absurd H (by simp)
         ·replace c17:=Bool.eq_false_iff.mpr c17
          subst c17
          have H1:(spec_StepsDone.j1 k1 l1 t180 ad aa t182 t183 t184 true)=some (r1,r2):=by rw [if_neg (show ¬ (false=true) by decide)] at H;exact H
          clear H
          have H:=H1
          clear H1
          have H':=zA H
          clear H
          go_wp2_with ((go_at_call 91;(with_reducible refine (spec_NameOk.calls k1 t182 false _ A16.out).mono ?_);rintro e w' ⟨rfl,⟨nd,rfl⟩⟩))
          go_meet
          case rel=>exact ⟨_,(true),(by rfl),H',⟨by have:=HK1.out;omega⟩,⟨by (with_reducible repeat (apply Kd.R_drewN));exact ab.out⟩,⟨by repeat (with_reducible first | exact HB.out | apply pw_below_drewN)⟩⟩
        ·replace c15:=Bool.eq_false_iff.mpr c15
         subst c15
         have H1:(spec_StepsDone.j1 k1 l1 t180 ad aa t182 t183 t184 true)=some (r1,r2):=by rw [if_neg (show ¬ (false=true) by decide)] at H;exact H
         clear H
         have H:=H1
         clear H1
         have H':=zA H
         clear H
         go_wp2
         go_meet
         case rel=>exact ⟨_,(true),(by rfl),H',⟨by have:=HK1.out;omega⟩,⟨by exact ab.out⟩,⟨by repeat (with_reducible exact HB.out)⟩⟩
       case rest=>
        clear bh
        try clear c1
        try clear p1
        try clear q1
        try clear hx1
        try clear qi1
        try clear c2
        try clear p2
        try clear c4
        try clear c5
        try clear c6
        try clear p6
        try clear c9
        try clear bg
        try clear c10
        try clear bb
        try clear c11
        try clear bc
        try clear c15
        try clear c17
        try clear c18
        try clear bd
        try skip
        try clear p18
        try clear q18
        try clear bL
        try skip
        try clear q19
        try clear bk
        try skip
        try clear c20
        try skip
        try clear aQ
        try clear an
        try clear af
        try clear aN
        try clear ax
        try skip
        try clear p2
        try clear p6
        try clear aP
        try clear ay
        try clear q19
        obtain ⟨kq,aw,rfl,HA,av,ab,HB⟩:=hcut
        cases kq with
        | zero=>exact absurd HA.out (by simp [spec_StepsDone.j1])
        | succ aJ=>
         have H:=HA.out
         clear HA
         simp only [spec_StepsDone.j1] at H
         by_cases c23:aw=true
         ·subst c23
          have H1:(some ((([]:List (S47))),false))=some (r1,r2):=by rw [if_pos rfl] at H;exact H
          clear H
          have H:=H1
          clear H1
          obtain ⟨bM,aU⟩:∃ y_:List (S47),y_=(([]:List (S47))):=⟨_,rfl⟩
          replace H:(some (bM,false))=some (r1,r2):=by (rw [aU];with_reducible exact H)
          have bs:=zA aU
          clear aU
          simp only [Option.some.injEq,Prod.mk.injEq] at H
          obtain ⟨rfl,rfl⟩:=H
          go_wp2_with (((with_reducible refine gate_dst (N:=57) rfl ?_);refine Kd.R_lit k47 _ 47 ?hg (N:=57) ?hd (xs:=([]:List (S47))) (inner:=[]) (ok:=fun _=>True) (okp:=fun _=>True) ?hr ?hp (fun _ hk=>hk) trivial (Below.refl _ _) (Nat.le_refl _) (by simp) ?_;(case hd=>rfl);(case hg=>rfl);(case hr=>(go_simp;done));(case hp=>exact (Reps.none _ _));intro v190 w24 aX hb hg_ hnew_;clear hg_ hnew_;(rw [← bs.out] at aX);have bu:=zA (Kd.R_lower (Kd.R_new' aX (Kd.R_lt ab.out)) (below_size HB.out));replace ab:=zA (Kd.R_elder' ab.out (Kd.R_base aX) hb);replace HB:=zs HB hb;clear hb aX))
          all_goals (go_ret2)
          all_goals exact ⟨_,by rfl,by exact Kd.R_mono bu.out (fun _ hk=>trivial),by repeat (with_reducible exact HB.out)⟩
         ·replace c23:=Bool.eq_false_iff.mpr c23
          subst c23
          have H1:(if 0≤aa then (if aa<(l1.length:Int) then (if 0<((rdOf ByteArray.empty l1 aa).size:Int) then (if (bt (rdOf ByteArray.empty l1 aa) 0)=62 then ((spec_EntryAt.f aJ ad t182).bind fun t193=>(spec_StepsDone.j2 aJ l1 t180 ad aa t182 t183 t193)) else (spec_StepsDone.j2 aJ l1 t180 ad aa t182 t183 t184)) else (none)) else (none)) else (none))=some (r1,r2):=by rw [if_neg (show ¬ (false=true) by decide)] at H;exact H
          clear H
          have H:=H1
          clear H1
          by_cases c26:0≤aa
          ·rw [if_pos c26] at H
           have bw:decide (0≤aa)=true:=zt c26
           clear c26
           by_cases c27:aa<(l1.length:Int)
           ·rw [if_pos c27] at H
            have bx:decide (aa<(l1.length:Int))=true:=zt c27
            clear c27
            by_cases c28:0<((rdOf ByteArray.empty l1 aa).size:Int)
            ·rw [if_pos c28] at H
             have bz:decide (0<((rdOf ByteArray.empty l1 aa).size:Int))=true:=zt c28
             clear c28
             have bl:=zA H
             clear H
             have aY:0≤(aa:Int):=ze
             have aZ:aa<(l1.length:Int):=ze
             obtain ⟨bC,bN,ar⟩:=Kd.at_string HR1.out aa aY aZ
             obtain rfl:ai=bC:=(by injection bN)
             replace ar:=(HB.out.cell (World.block_lt_of_cell? w _ ar)).trans ar
             replace aY:=eq_true aY
             replace aZ:=eq_true aZ
             have q29:0<(rdOf ByteArray.empty l1 aa).size:=(by have:(0:Int)<((rdOf ByteArray.empty l1 aa).size:Int):=ze;omega)
             have bO:∀ h:0<(rdOf ByteArray.empty l1 aa).size,(((rdOf ByteArray.empty l1 aa)[0]'h).toNat:Int)=bt (rdOf ByteArray.empty l1 aa) 0:=bt_at (rdOf ByteArray.empty l1 aa) 0
             replace q29:=eq_true q29
             go_upto_if 63 with (fail)
             go_cut [12] (fun v12 wc=>∃ (kq:Nat) (aj:Int),v12=.int .i64 aj∧Aside0 (spec_StepsDone.j2 kq l1 t180 ad aa t182 t183 aj=some (r1,r2))∧Aside0 (kq≤aJ)∧Aside0 (Kd.R k47 47 wc w.heap.size (fun _=>True) u8 ad)∧Aside0 (Below w.heap.size w wc))
             case first=>
              have H:=bl.out
              clear bl
              by_cases c31:(bt (rdOf ByteArray.empty l1 aa) 0)=62
              ·rw [if_pos c31] at H
               have aI:((bt (rdOf ByteArray.empty l1 aa) 0) == 62)=true:=beq_iff_eq.mpr c31
               clear c31
               (rw [aI])
               obtain ⟨t193,A32,H⟩:=bA H
               replace H:(spec_StepsDone.j2 aJ l1 t180 ad aa t182 t183 t193)=some (r1,r2):=H
               have H':=zA H
               clear H
               obtain ⟨bP,bQ,bR⟩:=Kd.R_slice ab.out
               subst bR
               go_wp2_with (((with_reducible refine gate_callee (f:=47) rfl ?_);refine goesL_ (some 66) rfl rfl Tryz.func47 (by kernel_rfl) rfl #[.slice bP ad.length bQ,.string t182] rfl (by (try simp only [List.map_toArray,List.map_cons,List.map_nil]);rfl) ?_;(with_reducible refine (spec_EntryAt.calls aJ _ _ ad t182 t193 _ ?side1 ?side2 A32.out).mono ?_);(case side1=>repeat (exact (Kd.R_reads' ab.out).2.2));(case side2=>exact (Kd.R_reads' ab.out).2.1);rintro e w' ⟨rfl,⟨nd,rfl⟩⟩;refine ⟨_,rfl,?_⟩))
               go_meet
               case rel=>exact ⟨_,(t193),(by rfl),H',⟨by have:=HK1.out;have:=av.out;omega⟩,⟨by (with_reducible repeat (apply Kd.R_drewN));exact ab.out⟩,⟨by repeat (with_reducible first | exact HB.out | apply pw_below_drewN)⟩⟩
              ·rw [if_neg c31] at H
               have aI:((bt (rdOf ByteArray.empty l1 aa) 0) == 62)=false:=beq_eq_false_iff_ne.mpr c31
               (rw [aI])
               have H':=zA H
               clear H
               go_wp2
               go_meet
               case rel=>exact ⟨_,(t184),(by rfl),H',⟨by have:=HK1.out;have:=av.out;omega⟩,⟨by exact ab.out⟩,⟨by repeat (with_reducible exact HB.out)⟩⟩
             case rest=>
              clear bl
              try clear c1
              try clear p1
              try clear q1
              try clear hx1
              try clear qi1
              try clear c2
              try clear p2
              try clear q2
              try clear hx2
              try clear qi2
              try clear c3
              try clear c4
              try clear c5
              try clear c6
              try clear p6
              try clear c9
              try clear bg
              try clear c10
              try clear bb
              try clear c11
              try clear bc
              try clear c15
              try clear c17
              try clear c18
              try clear bd
              try skip
              try clear p18
              try clear q18
              try clear bL
              try skip
              try clear q19
              try clear bk
              try skip
              try clear c20
              try skip
              try clear aQ
              try clear c23
              try clear c26
              try clear bw
              try clear c27
              try clear bx
              try clear c28
              try clear bz
              try skip
              try skip
              try clear q29
              try clear bO
              try skip
              try clear c31
              try clear aI
              try skip
              try clear an
              try clear af
              try clear ar
              try clear p1
              try clear p18
              try clear aN
              try clear ax
              try skip
              try clear aY
              try clear p2
              try skip
              try clear p6
              try clear q1
              try clear q18
              try clear aP
              try clear ay
              try clear q19
              try clear aZ
              try clear q29
              obtain ⟨kq,aj,rfl,HA,aA,ab,HB⟩:=hcut
              cases kq with
              | zero=>exact absurd HA.out (by simp [spec_StepsDone.j2])
              | succ ao=>
               have H:=HA.out
               clear HA
               simp only [spec_StepsDone.j2] at H
               by_cases c34:0≤aa
               ·rw [if_pos c34] at H
                have c34b0:decide (0≤aa)=true:=zt c34
                clear c34
                by_cases c35:aa<(l1.length:Int)
                ·rw [if_pos c35] at H
                 have c35b0:decide (aa<(l1.length:Int))=true:=zt c35
                 clear c35
                 by_cases c36:0<((rdOf ByteArray.empty l1 aa).size:Int)
                 ·rw [if_pos c36] at H
                  have c36b0:decide (0<((rdOf ByteArray.empty l1 aa).size:Int))=true:=zt c36
                  clear c36
                  by_cases c38:(bt (rdOf ByteArray.empty l1 aa) 0)=43
                  ·rw [if_pos c38] at H
                   have bD:((bt (rdOf ByteArray.empty l1 aa) 0) != 43)=false:=bne_eq_false_iff_eq.mpr c38
                   clear c38
                   by_cases c40:(bt (rdOf ByteArray.empty l1 aa) 0)=45
                   ·rw [if_pos c40] at H
                    have bE:((bt (rdOf ByteArray.empty l1 aa) 0) != 45)=false:=bne_eq_false_iff_eq.mpr c40
                    clear c40
                    have H':=zA H
                    clear H
                    have ak:0≤(aa:Int):=ze
                    have al:aa<(l1.length:Int):=ze
                    obtain ⟨au,aC,ae⟩:=Kd.at_string HR1.out aa ak al
                    obtain rfl:ai=au:=(by injection aC)
                    replace ae:=(HB.out.cell (World.block_lt_of_cell? w _ ae)).trans ae
                    replace ak:=eq_true ak
                    replace al:=eq_true al
                    have q37:0<(rdOf ByteArray.empty l1 aa).size:=(by have:(0:Int)<((rdOf ByteArray.empty l1 aa).size:Int):=ze;omega)
                    have bm:∀ h:0<(rdOf ByteArray.empty l1 aa).size,(((rdOf ByteArray.empty l1 aa)[0]'h).toNat:Int)=bt (rdOf ByteArray.empty l1 aa) 0:=bt_at (rdOf ByteArray.empty l1 aa) 0
                    replace q37:=eq_true q37
                    have aD:0≤(aa:Int):=ze
                    have aE:aa<(l1.length:Int):=ze
                    obtain ⟨aV,bn,ag⟩:=Kd.at_string HR1.out aa aD aE
                    obtain rfl:ai=aV:=(by injection bn)
                    replace ag:=(HB.out.cell (World.block_lt_of_cell? w _ ag)).trans ag
                    replace aD:=eq_true aD
                    replace aE:=eq_true aE
                    go_wp2
                    go_roundg ao
                    case measure=>have:=HK1.out;have:=av.out;have:=aA.out;omega
                    case rel=>exact ⟨(ad),(wrap64 (aa+1)),(by rfl),H',⟨by have:=HK1.out;have:=av.out;have:=aA.out;omega⟩,⟨by exact ab.out⟩,⟨by repeat (with_reducible exact HB.out)⟩⟩
                   ·rw [if_neg c40] at H
                    have bE:((bt (rdOf ByteArray.empty l1 aa) 0) != 45)=true:=bne_iff_ne.mpr c40
                    obtain ⟨t196,A41,H⟩:=bA H
                    replace H:(spec_StepsDone.l0 ao l1 t180 t196 (wrap64 (aa+1)))=some (r1,r2):=H
                    have H':=zA H
                    clear H
                    have ak:0≤(aa:Int):=ze
                    have al:aa<(l1.length:Int):=ze
                    obtain ⟨au,aC,ae⟩:=Kd.at_string HR1.out aa ak al
                    obtain rfl:ai=au:=(by injection aC)
                    replace ae:=(HB.out.cell (World.block_lt_of_cell? w _ ae)).trans ae
                    replace ak:=eq_true ak
                    replace al:=eq_true al
                    have q37:0<(rdOf ByteArray.empty l1 aa).size:=(by have:(0:Int)<((rdOf ByteArray.empty l1 aa).size:Int):=ze;omega)
                    have bm:∀ h:0<(rdOf ByteArray.empty l1 aa).size,(((rdOf ByteArray.empty l1 aa)[0]'h).toNat:Int)=bt (rdOf ByteArray.empty l1 aa) 0:=bt_at (rdOf ByteArray.empty l1 aa) 0
                    replace q37:=eq_true q37
                    have aD:0≤(aa:Int):=ze
                    have aE:aa<(l1.length:Int):=ze
                    obtain ⟨aV,bn,ag⟩:=Kd.at_string HR1.out aa aD aE
                    obtain rfl:ai=aV:=(by injection bn)
                    replace ag:=(HB.out.cell (World.block_lt_of_cell? w _ ag)).trans ag
                    replace aD:=eq_true aD
                    replace aE:=eq_true aE
                    obtain ⟨bS,bT,bU⟩:=Kd.R_slice ab.out
                    subst bU
                    go_wp2_with (((with_reducible refine gate_callee (f:=93) rfl ?_);refine goesL_ (some 87) rfl rfl Tryz.func93 (by kernel_rfl) rfl #[.slice bS ad.length bT,.agg #[.string t182,.int .i64 aj]] rfl (by (try simp only [List.map_toArray,List.map_cons,List.map_nil]);rfl) ?_;(with_reducible refine (spec_l06Put.calls ao _ _ ad t182 aj t196 _ ?side1 ?side2 A41.out).mono ?_);(case side1=>repeat (exact (Kd.R_reads' ab.out).2.2));(case side2=>exact (Kd.R_reads' ab.out).2.1);rintro e w43 ⟨v197,rfl,ho0,hb⟩;refine ⟨_,rfl,?_⟩;have bF:=zA (Kd.R_lower (Kd.R_new' ho0 (Kd.R_lt ab.out)) (below_size HB.out));replace ab:=zA (Kd.R_elder' ab.out (Kd.R_base ho0) hb);replace HB:=zs HB hb;(try clear hb);(try clear ho0)))
                    go_roundg ao
                    case measure=>have:=HK1.out;have:=av.out;have:=aA.out;omega
                    case rel=>exact ⟨(t196),(wrap64 (aa+1)),(by rfl),H',⟨by have:=HK1.out;have:=av.out;have:=aA.out;omega⟩,⟨by exact Kd.R_mono bF.out (fun _ hk=>trivial)⟩,⟨by repeat (with_reducible exact HB.out)⟩⟩
                  ·rw [if_neg c38] at H
                   have bD:((bt (rdOf ByteArray.empty l1 aa) 0) != 43)=true:=bne_iff_ne.mpr c38
                   obtain ⟨t199,A44,H⟩:=bA H
                   replace H:(if (bt (rdOf ByteArray.empty l1 aa) 0)=45 then (spec_StepsDone.l0 ao l1 t180 t199 (wrap64 (aa+1))) else ((spec_l06Put.f ao t199 t183 aj).bind fun t203=>(spec_StepsDone.l0 ao l1 t180 t203 (wrap64 (aa+1)))))=some (r1,r2):=H
                   by_cases c46:(bt (rdOf ByteArray.empty l1 aa) 0)=45
                   ·rw [if_pos c46] at H
                    have bG:((bt (rdOf ByteArray.empty l1 aa) 0) != 45)=false:=bne_eq_false_iff_eq.mpr c46
                    clear c46
                    have H':=zA H
                    clear H
                    have ak:0≤(aa:Int):=ze
                    have al:aa<(l1.length:Int):=ze
                    obtain ⟨au,aC,ae⟩:=Kd.at_string HR1.out aa ak al
                    obtain rfl:ai=au:=(by injection aC)
                    replace ae:=(HB.out.cell (World.block_lt_of_cell? w _ ae)).trans ae
                    replace ak:=eq_true ak
                    replace al:=eq_true al
                    have q37:0<(rdOf ByteArray.empty l1 aa).size:=(by have:(0:Int)<((rdOf ByteArray.empty l1 aa).size:Int):=ze;omega)
                    have bm:∀ h:0<(rdOf ByteArray.empty l1 aa).size,(((rdOf ByteArray.empty l1 aa)[0]'h).toNat:Int)=bt (rdOf ByteArray.empty l1 aa) 0:=bt_at (rdOf ByteArray.empty l1 aa) 0
                    replace q37:=eq_true q37
                    obtain ⟨bV,bW,bX⟩:=Kd.R_slice ab.out
                    subst bX
                    go_wp2_with (((with_reducible refine gate_callee (f:=92) rfl ?_);refine goesL_ (some 75) rfl rfl Tryz.func92 (by kernel_rfl) rfl #[.slice bV ad.length bW,.string t182] rfl (by (try simp only [List.map_toArray,List.map_cons,List.map_nil]);rfl) ?_;(with_reducible refine (spec_l06Drop.calls ao _ _ ad t182 t199 _ ?side1 ?side2 A44.out).mono ?_);(case side1=>repeat (exact (Kd.R_reads' ab.out).2.2));(case side2=>exact (Kd.R_reads' ab.out).2.1);rintro e w48 ⟨bY,rfl,ho0,hb⟩;refine ⟨_,rfl,?_⟩;have aq:=zA (Kd.R_lower (Kd.R_new' ho0 (Kd.R_lt ab.out)) (below_size HB.out));replace ab:=zA (Kd.R_elder' ab.out (Kd.R_base ho0) hb);replace HB:=zs HB hb;(try clear hb);(try clear ho0);have aG:0≤(aa:Int):=ze;have aH:aa<(l1.length:Int):=ze;obtain ⟨aW,bo,ah⟩:=Kd.at_string HR1.out aa aG aH;obtain rfl:ai=aW:=(by injection bo);replace ah:=(HB.out.cell (World.block_lt_of_cell? w _ ah)).trans ah;replace aG:=eq_true aG;replace aH:=eq_true aH;skip))
                    go_roundg ao
                    case measure=>have:=HK1.out;have:=av.out;have:=aA.out;omega
                    case rel=>exact ⟨(t199),(wrap64 (aa+1)),(by rfl),H',⟨by have:=HK1.out;have:=av.out;have:=aA.out;omega⟩,⟨by exact Kd.R_mono aq.out (fun _ hk=>trivial)⟩,⟨by repeat (with_reducible exact HB.out)⟩⟩
                   ·rw [if_neg c46] at H
                    have bG:((bt (rdOf ByteArray.empty l1 aa) 0) != 45)=true:=bne_iff_ne.mpr c46
                    obtain ⟨t203,A49,H⟩:=bA H
                    replace H:(spec_StepsDone.l0 ao l1 t180 t203 (wrap64 (aa+1)))=some (r1,r2):=H
                    have H':=zA H
                    clear H
                    have ak:0≤(aa:Int):=ze
                    have al:aa<(l1.length:Int):=ze
                    obtain ⟨au,aC,ae⟩:=Kd.at_string HR1.out aa ak al
                    obtain rfl:ai=au:=(by injection aC)
                    replace ae:=(HB.out.cell (World.block_lt_of_cell? w _ ae)).trans ae
                    replace ak:=eq_true ak
                    replace al:=eq_true al
                    have q37:0<(rdOf ByteArray.empty l1 aa).size:=(by have:(0:Int)<((rdOf ByteArray.empty l1 aa).size:Int):=ze;omega)
                    have bm:∀ h:0<(rdOf ByteArray.empty l1 aa).size,(((rdOf ByteArray.empty l1 aa)[0]'h).toNat:Int)=bt (rdOf ByteArray.empty l1 aa) 0:=bt_at (rdOf ByteArray.empty l1 aa) 0
                    replace q37:=eq_true q37
                    obtain ⟨bZ,ca,cb⟩:=Kd.R_slice ab.out
                    subst cb
                    go_wp2_with (first | ((with_reducible refine gate_callee (f:=92) rfl ?_);refine goesL_ (some 75) rfl rfl Tryz.func92 (by kernel_rfl) rfl #[.slice bZ ad.length ca,.string t182] rfl (by (try simp only [List.map_toArray,List.map_cons,List.map_nil]);rfl) ?_;(with_reducible refine (spec_l06Drop.calls ao _ _ ad t182 t199 _ ?side1 ?side2 A44.out).mono ?_);(case side1=>repeat (exact (Kd.R_reads' ab.out).2.2));(case side2=>exact (Kd.R_reads' ab.out).2.1);rintro e w51 ⟨bY,rfl,ho0,hb⟩;refine ⟨_,rfl,?_⟩;have aq:=zA (Kd.R_lower (Kd.R_new' ho0 (Kd.R_lt ab.out)) (below_size HB.out));replace ab:=zA (Kd.R_elder' ab.out (Kd.R_base ho0) hb);replace HB:=zs HB hb;(try clear hb);(try clear ho0);have aG:0≤(aa:Int):=ze;have aH:aa<(l1.length:Int):=ze;obtain ⟨aW,bo,ah⟩:=Kd.at_string HR1.out aa aG aH;obtain rfl:ai=aW:=(by injection bo);replace ah:=(HB.out.cell (World.block_lt_of_cell? w _ ah)).trans ah;replace aG:=eq_true aG;replace aH:=eq_true aH;obtain ⟨cc,cd,cf⟩:=Kd.R_slice aq.out;subst cf) | ((with_reducible refine gate_callee (f:=93) rfl ?_);refine goesL_ (some 87) rfl rfl Tryz.func93 (by kernel_rfl) rfl #[.slice cc t199.length cd,.agg #[.string t183,.int .i64 aj]] rfl (by (try simp only [List.map_toArray,List.map_cons,List.map_nil]);rfl) ?_;(with_reducible refine (spec_l06Put.calls ao _ _ t199 t183 aj t203 _ ?side1 ?side2 A49.out).mono ?_);(case side1=>repeat (exact (Kd.R_reads' aq.out).2.2));(case side2=>exact (Kd.R_reads' aq.out).2.1);rintro e w53 ⟨v204,rfl,ho0,hb⟩;refine ⟨_,rfl,?_⟩;have bH:=zA (Kd.R_lower (Kd.R_new' (Kd.R_new' ho0 (Kd.R_lt ab.out)) (Kd.R_lt aq.out)) (below_size HB.out));replace ab:=zA (Kd.R_elder' ab.out (Kd.R_base ho0) hb);replace aq:=zA (Kd.R_elder' aq.out (Kd.R_base ho0) hb);replace HB:=zs HB hb;(try clear hb);(try clear ho0)))
                    go_roundg ao
                    case measure=>have:=HK1.out;have:=av.out;have:=aA.out;omega
                    case rel=>exact ⟨(t203),(wrap64 (aa+1)),(by rfl),H',⟨by have:=HK1.out;have:=av.out;have:=aA.out;omega⟩,⟨by exact Kd.R_mono bH.out (fun _ hk=>trivial)⟩,⟨by repeat (with_reducible exact HB.out)⟩⟩
                 ·rw [if_neg c36] at H
                  exact absurd H (by simp)
                ·rw [if_neg c35] at H
                 exact absurd H (by simp)
               ·rw [if_neg c34] at H
                exact absurd H (by simp)
            ·rw [if_neg c28] at H
             exact absurd H (by simp)
           ·rw [if_neg c27] at H
            exact absurd H (by simp)
          ·rw [if_neg c26] at H
           exact absurd H (by simp)
      ·rw [if_neg c11] at H
       exact absurd H (by simp)
     ·rw [if_neg c10] at H
      exact absurd H (by simp)
    ·rw [if_neg c9] at H
     have bg:decide (aa<t180)=false:=zf c9
     clear c9
     simp only [Option.some.injEq,Prod.mk.injEq] at H
     obtain ⟨rfl,rfl⟩:=H
     go_wp2
     all_goals (go_ret2)
     all_goals exact ⟨_,by rfl,by exact ab.out,by repeat (with_reducible exact HB.out)⟩
 ·rw [if_neg c4] at H
  exact absurd H (by simp)
def spec_l05Node.l0:Nat→Int→Int→List (S45)→List (S47)→List (S47)→List ByteArray→Int→Int→Option (Int)
 | 0,_,_,_,_,_,_,_,_=>none
 | k+1,x1,x5,aa,ab,ad,ae,af,ag=>if x5<(aa.length:Int) then (if 0≤x5 then (if ((rd_T45 aa x5).f0)=x1 then (some x5) else (spec_l05Node.l0 k x1 (wrap64 (x5+1)) aa ab ad ae af ag)) else (none)) else (some (-1))
def spec_l05Node.f (k:Nat) (aa:List (S45)) (ab:List (S47)) (ad:List (S47)) (ae:List ByteArray) (af:Int) (ag:Int) (a1:Int):Option (Int):=spec_l05Node.l0 k a1 0 aa ab ad ae af ag
theorem spec_l05Node.mono_l:∀ k,(∀ y0 y1 y2 y3 y4 y5 y6 y7,LeO (spec_l05Node.l0 k y0 y1 y2 y3 y4 y5 y6 y7) (spec_l05Node.l0 (k+1) y0 y1 y2 y3 y4 y5 y6 y7))
 | 0=>fun _ _ _ _ _ _ _ _ r h=>by simp [spec_l05Node.l0] at h
 | k+1=>by
  have ih0:=spec_l05Node.mono_l k
  ·intro y0 y1 y2 y3 y4 y5 y6 y7
   unfold spec_l05Node.l0
   repeat' first | (with_reducible exact ih0 _ _ _ _ _ _ _ _) | (with_reducible exact LeO.refl _) | (with_reducible refine LeO.ite ?_ ?_)
theorem spec_l05Node.mono:∀ a0 a1 a2 a3 a4 a5 a6 k,LeO (spec_l05Node.f k a0 a1 a2 a3 a4 a5 a6) (spec_l05Node.f (k+1) a0 a1 a2 a3 a4 a5 a6):=by
 intro a0 a1 a2 a3 a4 a5 a6 k
 have ih0:=spec_l05Node.mono_l k
 unfold spec_l05Node.f
 repeat' (with_reducible exact ih0 _ _ _ _ _ _ _ _)
theorem spec_l05Node.calls (k:Nat) (aq:Option Addr) (ar:Nat) (af:List (S45)) (au:Option Addr) (av:Nat) (ah:List (S47)) (aw:Option Addr) (ax:Nat) (ai:List (S47)) (ay:Option Addr) (az:Nat) (aj:List ByteArray) (an:Int) (ao:Int) (a1:Int) (r:Int) (w:World) (aA:Kd.C k45 w aq af.length af) (aD:af.length≤ar) (aE:Kd.C k47 w au ah.length ah) (aF:ah.length≤av) (aG:Kd.C k47 w aw ai.length ai) (aH:ai.length≤ax) (aI:Kd.C Kd.string w ay aj.length aj) (aJ:aj.length≤az) (h:spec_l05Node.f k af ah ai aj an ao a1=some r) :
  Calls Tryz.prog 46 #[.agg #[.slice aq af.length ar,.slice au ah.length av,.slice aw ai.length ax,.slice ay aj.length az,.int .i64 an,.int .i64 ao],.int .i64 a1] w fun e w'=>e=.returned (.int .i64 r)∧Below w.heap.size w w':=by
 have aB:=zA aA
 clear aA aD
 clear aE aF
 clear aG aH
 clear aI aJ
 have HB:=zA (Below.refl w.heap.size w)
 have H:(spec_l05Node.l0 k a1 0 af ah ai aj an ao)=some r:=h
 clear h
 have H':=zA H
 clear H
 go_enter Tryz.func46,Tryz.ntmps46
 go_wp2_with (((with_reducible refine gate_dst (N:=2) rfl ?_);refine box_event ?hg (N:=2) ?hd (cs:=#[.slice aq af.length ar,.slice au ah.length av,.slice aw ai.length ax,.slice ay aj.length az,.int .i64 an,.int .i64 ao]) (t:=28) ?hr ?_;(case hd=>rfl);(case hg=>rfl);(case hr=>(go_simp;done));intro aK hg w3 hbox hb;have ag:=zA (hbox);replace HB:=zs HB hb;clear hb hbox hg))
 go_loopg [5] k (fun kq v5 w'=>∃ (ae:Int),v5=.int .i64 ae∧Aside0 (spec_l05Node.l0 kq a1 ae af ah ai aj an ao=some r)∧Aside0 (kq≤k)∧Aside0 (w'.heap[aK]? = some (.cells #[(.slice aq af.length ar),(.slice au ah.length av),(.slice aw ai.length ax),(.slice ay aj.length az),.int .i64 an,.int .i64 ao] 28 (0,0)))∧Aside0 (Below w.heap.size w w'))
 case atStart=>exact ⟨(0),(by rfl),H',⟨Nat.le_refl _⟩,⟨by exact ag.out⟩,⟨by repeat (with_reducible exact HB.out)⟩⟩
 case round=>
  clear H'
  try clear p2
  obtain ⟨ae,rfl,HA,HK1,ag,HB⟩:=hrel
  cases gk with
  | zero=>exact absurd HA.out (by simp [spec_l05Node.l0])
  | succ k1=>
   have H:=HA.out
   clear HA
   simp only [spec_l05Node.l0] at H
   by_cases c4:ae<(af.length:Int)
   ·rw [if_pos c4] at H
    have aM:decide (ae<(af.length:Int))=true:=zt c4
    clear c4
    by_cases c5:0≤ae
    ·rw [if_pos c5] at H
     have c5b0:decide (0≤ae)=true:=zt c5
     clear c5
     by_cases c6:((rd_T45 af ae).f0)=a1
     ·rw [if_pos c6] at H
      have aN:(((rd_T45 af ae).f0) == a1)=true:=beq_iff_eq.mpr c6
      clear c6
      obtain rfl:=Option.some.inj H
      obtain ⟨hcz7_0,hcz7_1,hcz7_2,hcz7_3,hcz7_4,hcz7_5⟩:=b6of ag.out
      obtain ⟨hfz7_0,hfz7_1,hfz7_2,hfz7_3,hfz7_4,hfz7_5⟩:=z6of ag.out
      have ak:0≤(ae:Int):=ze
      have al:ae<(af.length:Int):=ze
      obtain ⟨aL,aC,aa,ab,ad⟩:=at_T45 aB.out ae ak al
      cases aC
      replace aa:=(HB.out.cell (World.block_lt_of_cell? w _ aa)).trans aa
      replace ab:=(HB.out.cell (World.block_lt_of_cell? w _ ab)).trans ab
      replace ad:=(HB.out.cell (World.block_lt_of_cell? w _ ad)).trans ad
      replace ak:=eq_true ak
      replace al:=eq_true al
      go_wp2
      all_goals (go_ret)
      all_goals exact ⟨by rfl,by repeat (with_reducible exact HB.out)⟩
     ·rw [if_neg c6] at H
      have aN:(((rd_T45 af ae).f0) == a1)=false:=beq_eq_false_iff_ne.mpr c6
      have H':=zA H
      clear H
      obtain ⟨hcz8_0,hcz8_1,hcz8_2,hcz8_3,hcz8_4,hcz8_5⟩:=b6of ag.out
      obtain ⟨hfz8_0,hfz8_1,hfz8_2,hfz8_3,hfz8_4,hfz8_5⟩:=z6of ag.out
      have ak:0≤(ae:Int):=ze
      have al:ae<(af.length:Int):=ze
      obtain ⟨aL,aC,aa,ab,ad⟩:=at_T45 aB.out ae ak al
      cases aC
      replace aa:=(HB.out.cell (World.block_lt_of_cell? w _ aa)).trans aa
      replace ab:=(HB.out.cell (World.block_lt_of_cell? w _ ab)).trans ab
      replace ad:=(HB.out.cell (World.block_lt_of_cell? w _ ad)).trans ad
      replace ak:=eq_true ak
      replace al:=eq_true al
      go_wp2
      go_roundg k1
      case measure=>have:=HK1.out;omega
      case rel=>exact ⟨(wrap64 (ae+1)),(by rfl),H',⟨by have:=HK1.out;omega⟩,⟨by exact ag.out⟩,⟨by repeat (with_reducible exact HB.out)⟩⟩
    ·rw [if_neg c5] at H
     exact absurd H (by simp)
   ·rw [if_neg c4] at H
    have aM:decide (ae<(af.length:Int))=false:=zf c4
    clear c4
    obtain rfl:=Option.some.inj H
    obtain ⟨hcz9_0,hcz9_1,hcz9_2,hcz9_3,hcz9_4,hcz9_5⟩:=b6of ag.out
    obtain ⟨hfz9_0,hfz9_1,hfz9_2,hfz9_3,hfz9_4,hfz9_5⟩:=z6of ag.out
    go_wp2
    all_goals (go_ret)
    all_goals exact ⟨by rfl,by repeat (with_reducible exact HB.out)⟩
end Go.Proofs.YtokcccejijmkmaaGreatDoor.MFnDeeds
