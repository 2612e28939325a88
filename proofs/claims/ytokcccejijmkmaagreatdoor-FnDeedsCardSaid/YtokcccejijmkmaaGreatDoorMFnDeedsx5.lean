/- Each theorem here says that a call of one Go function answers what the Lean function beside it answers; its conditions stand in it. Written by a program of this session. -/
import Derived.Test.YtokcccejijmkmaaGreatDoorMFnDeedsx0
import Derived.Test.YtokcccejijmkmaaGreatDoorMFnDeedsx4
namespace Go.Proofs.YtokcccejijmkmaaGreatDoor.MFnDeeds
set_option maxHeartbeats 8000000
set_option maxRecDepth 100000
open Go.RowKit Go.Proofs.YtokcccejijmkmaaGreatDoorW.PrintWords Go.Proofs.YtokcccejijmkmaaGreatDoorW.PrintLast Go.Proofs.YtokcccejijmkmaaGreatDoorW.PrintMore
attribute [local go_sem] max2_int min2_int max_two min_two max_three min_three max_four min_four
set_option linter.unusedVariables false
set_option linter.unusedSimpArgs false
mutual
def spec_l06Step.j0:Nat→ByteArray→Bool→Option (ByteArray×ByteArray×Int×Bool)
 | 0,_,_=>none
 | k+1,x0,x26=>if x26=true then (some ((⟨#[]⟩:ByteArray),(⟨#[]⟩:ByteArray),0,false)) else (if 0<(x0.size:Int) then (if (bt x0 0)=45 then (if 1≤(x0.size:Int) then (some (x0.extract 1 x0.size,(⟨#[]⟩:ByteArray),0,true)) else (none)) else (spec_l06Step.l0 k x0 1)) else (none))
def spec_l06Step.l0:Nat→ByteArray→Int→Option (ByteArray×ByteArray×Int×Bool)
 | 0,_,_=>none
 | k+1,x0,x6=>if x6<(x0.size:Int) then (if 0≤x6 then (if (bt x0 x6)=58 then (if 0<(x0.size:Int) then (spec_l06Step.j2 k x0 x6 ((bt x0 0) == 62)) else (none)) else (spec_l06Step.j2 k x0 x6 false)) else (none)) else (some ((⟨#[]⟩:ByteArray),(⟨#[]⟩:ByteArray),0,false))
def spec_l06Step.j2:Nat→ByteArray→Int→Bool→Option (ByteArray×ByteArray×Int×Bool)
 | 0,_,_,_=>none
 | k+1,x0,x6,x46=>if x46=true then (if 1≤x6 then (if x6≤(x0.size:Int) then (if 0≤(wrap64 (x6+1)) then (if (wrap64 (x6+1))≤(x0.size:Int) then ((spec_NameOk.f k (x0.extract ((wrap64 (x6+1)):Int).toNat x0.size)).bind fun t141=>(if t141=true then (some (x0.extract 1 (x6:Int).toNat,x0.extract ((wrap64 (x6+1)):Int).toNat x0.size,0,((x0.extract 1 (x6:Int).toNat).toList != (x0.extract ((wrap64 (x6+1)):Int).toNat x0.size).toList))) else (some (x0.extract 1 (x6:Int).toNat,x0.extract ((wrap64 (x6+1)):Int).toNat x0.size,0,false)))) else (none)) else (none)) else (none)) else (none)) else (if 0≤x6 then (if x6<(x0.size:Int) then (if (bt x0 x6)=58 then (if 0≤(wrap64 (x6+1)) then (if (wrap64 (x6+1))≤(x0.size:Int) then ((spec_ReadDecimal.f k (x0.extract ((wrap64 (x6+1)):Int).toNat x0.size)).bind fun aa=>(if 1≤x6 then (if x6≤(x0.size:Int) then (if aa.2=true then ((spec_NameOk.f k (x0.extract 1 (x6:Int).toNat)).bind fun t144=>(some (x0.extract 1 (x6:Int).toNat,(⟨#[]⟩:ByteArray),aa.1,t144))) else (some (x0.extract 1 (x6:Int).toNat,(⟨#[]⟩:ByteArray),aa.1,false))) else (none)) else (none))) else (none)) else (none)) else (spec_l06Step.l0 k x0 (wrap64 (x6+1)))) else (none)) else (none))
end
def spec_l06Step.f (k:Nat) (a0:ByteArray):Option (ByteArray×ByteArray×Int×Bool):=if (a0.size:Int)<2 then (spec_l06Step.j0 k a0 true) else (if 0<(a0.size:Int) then (if (bt a0 0)=43 then (spec_l06Step.j0 k a0 false) else (if (bt a0 0)=45 then (spec_l06Step.j0 k a0 false) else (spec_l06Step.j0 k a0 ((bt a0 0) != 62)))) else (none))
theorem spec_l06Step.mono_l:∀ k,(∀ y0 y1,LeO (spec_l06Step.j0 k y0 y1) (spec_l06Step.j0 (k+1) y0 y1))∧(∀ y0 y1,LeO (spec_l06Step.l0 k y0 y1) (spec_l06Step.l0 (k+1) y0 y1))∧(∀ y0 y1 y2,LeO (spec_l06Step.j2 k y0 y1 y2) (spec_l06Step.j2 (k+1) y0 y1 y2))
 | 0=>⟨fun _ _ r h=>by simp [spec_l06Step.j0] at h,fun _ _ r h=>by simp [spec_l06Step.l0] at h,fun _ _ _ r h=>by simp [spec_l06Step.j2] at h⟩
 | k+1=>by
  obtain ⟨ih0,ih1,ih2⟩:=spec_l06Step.mono_l k
  refine ⟨?_,?_,?_⟩
  ·intro y0 y1
   unfold spec_l06Step.j0
   repeat' first | (with_reducible exact ih1 _ _) | (with_reducible exact LeO.refl _) | (with_reducible refine LeO.ite ?_ ?_)
  ·intro y0 y1
   unfold spec_l06Step.l0
   repeat' first | (with_reducible exact ih2 _ _ _) | (with_reducible exact LeO.refl _) | (with_reducible refine LeO.ite ?_ ?_)
  ·intro y0 y1 y2
   unfold spec_l06Step.j2
   repeat' first | (with_reducible exact ih1 _ _) | (with_reducible exact spec_NameOk.mono _ _) | (with_reducible exact spec_ReadDecimal.mono _ _) | (with_reducible exact LeO.refl _) | (with_reducible refine LeO.ite ?_ ?_) | (with_reducible refine LeO.bind ?_ (fun _=>?_))
theorem spec_l06Step.mono:∀ a0 k,LeO (spec_l06Step.f k a0) (spec_l06Step.f (k+1) a0):=by
 intro a0 k
 obtain ⟨ih0,ih1,ih2⟩:=spec_l06Step.mono_l k
 unfold spec_l06Step.f
 repeat' first | (with_reducible exact ih0 _ _) | (with_reducible exact LeO.refl _) | (with_reducible refine LeO.ite ?_ ?_)
theorem spec_l06Step.calls (k:Nat) (a0:ByteArray) (r1:ByteArray) (r2:ByteArray) (r3:Int) (r4:Bool) (w:World) (h:spec_l06Step.f k a0=some (r1,r2,r3,r4)) :
  Calls Tryz.prog 90 #[.string a0] w fun e w'=>e=.returned (.tuple #[.string r1,.string r2,.int .i64 r3,.bool r4])∧Below w.heap.size w w':=by
 have HB:=zA (Below.refl w.heap.size w)
 have H:(if (a0.size:Int)<2 then (spec_l06Step.j0 k a0 true) else (if 0<(a0.size:Int) then (if (bt a0 0)=43 then (spec_l06Step.j0 k a0 false) else (if (bt a0 0)=45 then (spec_l06Step.j0 k a0 false) else (spec_l06Step.j0 k a0 ((bt a0 0) != 62)))) else (none)))=some (r1,r2,r3,r4):=h
 clear h
 have HC2:=zA H
 clear H
 go_enter Tryz.func90,Tryz.ntmps90
 go_upto_region 1 with (fail)
 repeat (go_quiet (fail);go_upto_region 1 with (fail))
 go_cut [26] (fun v26 wc=>∃ (kq:Nat) (ak:Bool),v26=.bool ak∧Aside0 (spec_l06Step.j0 kq a0 ak=some (r1,r2,r3,r4))∧Aside0 (kq≤k)∧Aside0 (Below w.heap.size w wc))
 case first=>
  have H:=HC2.out
  clear HC2
  by_cases c3:(a0.size:Int)<2
  ·rw [if_pos c3] at H
   have ah:decide ((a0.size:Int)<2)=true:=zt c3
   have aq:decide (a0.size<2)=true:=zt (by omega)
   clear c3
   (first | rw [ah] | (simp only [i64_w,i32_w];rw [ah]) | skip)
   have H':=zA H
   clear H
   go_wp2
   repeat (go_quiet (fail);try go_wp2)
   go_meet
   case rel=>exact ⟨_,(true),(by first | rfl | (simp;done) | (simp [*];done)),H',⟨by first | omega | exact Nat.le_refl _⟩,⟨by repeat (first | (with_reducible first | exact HB.out | apply below_alloc | apply pw_below_drewN | apply below_drew1) | exact HB.out)⟩⟩
  ·rw [if_neg c3] at H
   have ah:decide ((a0.size:Int)<2)=false:=zf c3
   have aq:decide (a0.size<2)=false:=zf (by omega)
   clear c3
   (first | rw [ah] | (simp only [i64_w,i32_w];rw [ah]) | skip)
   by_cases c4:0<(a0.size:Int)
   ·rw [if_pos c4] at H
    have aE:decide (0<(a0.size:Int))=true:=zt c4
    have aF:decide (0<a0.size)=true:=zt (by omega)
    clear c4
    by_cases c6:(bt a0 0)=43
    ·rw [if_pos c6] at H
     have ar:((bt a0 0) == 43)=true:=beq_iff_eq.mpr c6
     have au:((bt a0 0) != 43)=false:=bne_eq_false_iff_eq.mpr c6
     clear c6
     have H':=zA H
     clear H
     have p5:0≤(0:Int):=(by omega)
     have q5:0<a0.size:=(by have:(0:Int)<(a0.size:Int):=zg;omega)
     have hx5:∀ h:0<a0.size,((a0[0]'h).toNat:Int)=bt a0 0:=bt_at a0 0
     clear p5
     have qi5:(0<(a0.size:Int))=True:=eq_true (zg)
     replace q5:=eq_true q5
     go_wp2
     repeat (go_quiet (fail);try go_wp2)
     go_meet
     case rel=>exact ⟨_,(false),(by first | rfl | (simp;done) | (simp [*];done)),H',⟨by first | omega | exact Nat.le_refl _⟩,⟨by repeat (first | (with_reducible first | exact HB.out | apply below_alloc | apply pw_below_drewN | apply below_drew1) | exact HB.out)⟩⟩
    ·rw [if_neg c6] at H
     have ar:((bt a0 0) == 43)=false:=beq_eq_false_iff_ne.mpr c6
     have au:((bt a0 0) != 43)=true:=bne_iff_ne.mpr c6
     by_cases c8:(bt a0 0)=45
     ·rw [if_pos c8] at H
      have av:((bt a0 0) == 45)=true:=beq_iff_eq.mpr c8
      have aw:((bt a0 0) != 45)=false:=bne_eq_false_iff_eq.mpr c8
      clear c8
      have H':=zA H
      clear H
      have p5:0≤(0:Int):=(by omega)
      have q5:0<a0.size:=(by have:(0:Int)<(a0.size:Int):=zg;omega)
      have hx5:∀ h:0<a0.size,((a0[0]'h).toNat:Int)=bt a0 0:=bt_at a0 0
      clear p5
      have qi5:(0<(a0.size:Int))=True:=eq_true (zg)
      replace q5:=eq_true q5
      have p7:0≤(0:Int):=(by omega)
      have q7:0<a0.size:=(by have:(0:Int)<(a0.size:Int):=zg;omega)
      have hx7:∀ h:0<a0.size,((a0[0]'h).toNat:Int)=bt a0 0:=bt_at a0 0
      clear p7
      have qi7:(0<(a0.size:Int))=True:=eq_true (zg)
      replace q7:=eq_true q7
      go_wp2
      repeat (go_quiet (fail);try go_wp2)
      go_meet
      case rel=>exact ⟨_,(false),(by first | rfl | (simp;done) | (simp [*];done)),H',⟨by first | omega | exact Nat.le_refl _⟩,⟨by repeat (first | (with_reducible first | exact HB.out | apply below_alloc | apply pw_below_drewN | apply below_drew1) | exact HB.out)⟩⟩
     ·rw [if_neg c8] at H
      have av:((bt a0 0) == 45)=false:=beq_eq_false_iff_ne.mpr c8
      have aw:((bt a0 0) != 45)=true:=bne_iff_ne.mpr c8
      have H':=zA H
      clear H
      have p5:0≤(0:Int):=(by omega)
      have q5:0<a0.size:=(by have:(0:Int)<(a0.size:Int):=zg;omega)
      have hx5:∀ h:0<a0.size,((a0[0]'h).toNat:Int)=bt a0 0:=bt_at a0 0
      clear p5
      have qi5:(0<(a0.size:Int))=True:=eq_true (zg)
      replace q5:=eq_true q5
      have p7:0≤(0:Int):=(by omega)
      have q7:0<a0.size:=(by have:(0:Int)<(a0.size:Int):=zg;omega)
      have hx7:∀ h:0<a0.size,((a0[0]'h).toNat:Int)=bt a0 0:=bt_at a0 0
      clear p7
      have qi7:(0<(a0.size:Int))=True:=eq_true (zg)
      replace q7:=eq_true q7
      have p9:0≤(0:Int):=(by omega)
      have q9:0<a0.size:=(by have:(0:Int)<(a0.size:Int):=zg;omega)
      have hx9:∀ h:0<a0.size,((a0[0]'h).toNat:Int)=bt a0 0:=bt_at a0 0
      clear p9
      have qi9:(0<(a0.size:Int))=True:=eq_true (zg)
      replace q9:=eq_true q9
      go_wp2
      repeat (go_quiet (fail);try go_wp2)
      go_meet
      case rel=>exact ⟨_,(((bt a0 0) != 62)),(by first | rfl | (simp;done) | (simp [*];done)),H',⟨by first | omega | exact Nat.le_refl _⟩,⟨by repeat (first | (with_reducible first | exact HB.out | apply below_alloc | apply pw_below_drewN | apply below_drew1) | exact HB.out)⟩⟩
   ·rw [if_neg c4] at H
    exact absurd H (by simp)
 case rest=>
  clear HC2
  try clear p2
  try clear c3
  try clear ah
  try clear aq
  try clear c4
  try clear aE
  try clear aF
  try clear p5
  try clear q5
  try clear hx5
  try clear qi5
  try clear c6
  try clear ar
  try clear au
  try clear p7
  try clear q7
  try clear hx7
  try clear qi7
  try clear c8
  try clear av
  try clear aw
  try clear c9
  try clear p9
  try clear q9
  try clear hx9
  try clear qi9
  try clear p5
  try clear p7
  try clear p9
  try clear q5
  try clear q7
  try clear q9
  obtain ⟨kq,ak,rfl,HA,HJ1,HB⟩:=hcut
  cases kq with
  | zero=>exact absurd HA.out (by simp [spec_l06Step.j0])
  | succ kj1=>
   have H:=HA.out
   clear HA
   simp only [spec_l06Step.j0] at H
   by_cases c10:ak=true
   ·subst c10
    have H1:(some ((⟨#[]⟩:ByteArray),(⟨#[]⟩:ByteArray),0,false))=some (r1,r2,r3,r4):=by rw [if_pos rfl] at H;exact H
    clear H
    have H:=H1
    clear H1
    simp only [Option.some.injEq,Prod.mk.injEq] at H
    obtain ⟨rfl,rfl,rfl,rfl⟩:=H
    go_wp2
    repeat (go_quiet (fail);try go_wp2)
    refine bodyPost_ret (results_list (rs:=[.tmp 2,.tmp 3,.tmp 4,.tmp 5]) rfl (by simp) (.tmp (.tmp (.tmp (.tmp .nil))))) rfl ?_
    all_goals exact ⟨by rfl,by repeat (first | (with_reducible first | exact HB.out | apply below_alloc | apply pw_below_drewN | apply below_drew1) | exact HB.out)⟩
   ·replace c10:=Bool.eq_false_iff.mpr c10
    subst c10
    have H1:(if 0<(a0.size:Int) then (if (bt a0 0)=45 then (if 1≤(a0.size:Int) then (some (a0.extract 1 a0.size,(⟨#[]⟩:ByteArray),0,true)) else (none)) else (spec_l06Step.l0 kj1 a0 1)) else (none))=some (r1,r2,r3,r4):=by rw [if_neg (show ¬ (false=true) by decide)] at H;exact H
    clear H
    have H:=H1
    clear H1
    by_cases c11:0<(a0.size:Int)
    ·rw [if_pos c11] at H
     have ax:decide (0<(a0.size:Int))=true:=zt c11
     have ay:decide (0<a0.size)=true:=zt (by omega)
     clear c11
     by_cases c13:(bt a0 0)=45
     ·rw [if_pos c13] at H
      have al:((bt a0 0) == 45)=true:=beq_iff_eq.mpr c13
      have an:((bt a0 0) != 45)=false:=bne_eq_false_iff_eq.mpr c13
      clear c13
      by_cases c14:1≤(a0.size:Int)
      ·rw [if_pos c14] at H
       have az:=eq_true c14
       have aA:decide (1≤(a0.size:Int))=true:=zt c14
       clear c14
       simp only [Option.some.injEq,Prod.mk.injEq] at H
       obtain ⟨rfl,rfl,rfl,rfl⟩:=H
       have p12:0≤(0:Int):=(by omega)
       have q12:0<a0.size:=(by have:(0:Int)<(a0.size:Int):=zg;omega)
       have aG:∀ h:0<a0.size,((a0[0]'h).toNat:Int)=bt a0 0:=bt_at a0 0
       clear p12
       have aH:(0<(a0.size:Int))=True:=eq_true (zg)
       replace q12:=eq_true q12
       go_wp2
       repeat (go_quiet (fail);try go_wp2)
       refine bodyPost_ret (results_list (rs:=[.tmp 2,.tmp 3,.tmp 4,.tmp 5]) rfl (by simp) (.tmp (.tmp (.tmp (.tmp .nil))))) rfl ?_
       all_goals exact ⟨by rfl,by repeat (first | (with_reducible first | exact HB.out | apply below_alloc | apply pw_below_drewN | apply below_drew1) | exact HB.out)⟩
      ·rw [if_neg c14] at H
       exact absurd H (by simp)
     ·rw [if_neg c13] at H
      have al:((bt a0 0) == 45)=false:=beq_eq_false_iff_ne.mpr c13
      have an:((bt a0 0) != 45)=true:=bne_iff_ne.mpr c13
      have H':=zA H
      clear H
      have p12:0≤(0:Int):=(by omega)
      have q12:0<a0.size:=(by have:(0:Int)<(a0.size:Int):=zg;omega)
      have aG:∀ h:0<a0.size,((a0[0]'h).toNat:Int)=bt a0 0:=bt_at a0 0
      clear p12
      have aH:(0<(a0.size:Int))=True:=eq_true (zg)
      replace q12:=eq_true q12
      go_wp2
      repeat (go_quiet (fail);try go_wp2)
      go_loopg [6] kj1 (fun kq v6 w'=>∃ (aa:Int),v6=.int .i64 aa∧Aside0 (spec_l06Step.l0 kq a0 aa=some (r1,r2,r3,r4))∧Aside0 (kq≤kj1)∧Aside0 (Below w.heap.size w w'))
      case atStart=>exact ⟨(1),(by first | rfl | (simp;done) | (simp [*];done)),H',⟨Nat.le_refl _⟩,⟨by repeat (first | (with_reducible first | exact HB.out | apply below_alloc | apply pw_below_drewN | apply below_drew1) | exact HB.out)⟩⟩
      case round=>
       clear H'
       try clear c1
       try clear p1
       try clear q1
       try clear hx1
       try clear qi1
       try clear p2
       try clear c3
       try clear ah
       try clear aq
       try clear c4
       try clear aE
       try clear aF
       try clear p5
       try clear q5
       try clear hx5
       try clear qi5
       try clear c6
       try clear ar
       try clear au
       try clear p7
       try clear q7
       try clear hx7
       try clear qi7
       try clear c8
       try clear av
       try clear aw
       try clear c9
       try clear p9
       try clear q9
       try clear hx9
       try clear qi9
       try clear c10
       try clear c11
       try clear ax
       try clear ay
       try clear p12
       try clear q12
       try clear aG
       try clear aH
       try clear c13
       try clear al
       try clear an
       try clear c14
       try clear az
       try clear aA
       try clear p12
       try clear p2
       try clear p5
       try clear p7
       try clear p9
       try clear q12
       try clear q5
       try clear q7
       try clear q9
       obtain ⟨aa,rfl,HA,HK2,HB⟩:=hrel
       cases gk with
       | zero=>exact absurd HA.out (by simp [spec_l06Step.l0])
       | succ k2=>
        have H:=HA.out
        clear HA
        simp only [spec_l06Step.l0] at H
        by_cases c15:aa<(a0.size:Int)
        ·rw [if_pos c15] at H
         have aB:decide (aa<(a0.size:Int))=true:=zt c15
         clear c15
         have aI:=zA H
         clear H
         go_upto_region 8 with (fail)
         repeat (go_quiet (fail);go_upto_region 8 with (fail))
         go_cut [46] (fun v46 wc=>∃ (kq:Nat) (ag:Bool),v46=.bool ag∧Aside0 (spec_l06Step.j2 kq a0 aa ag=some (r1,r2,r3,r4))∧Aside0 (kq≤k2)∧Aside0 (Below w.heap.size w wc))
         case first=>
          have H:=aI.out
          clear aI
          by_cases c17:0≤aa
          ·rw [if_pos c17] at H
           have ao:decide (0≤aa)=true:=zt c17
           clear c17
           (first | rw [ao] | (simp only [i64_w,i32_w];rw [ao]) | skip)
           by_cases c19:(bt a0 aa)=58
           ·rw [if_pos c19] at H
            have aC:((bt a0 aa) == 58)=true:=beq_iff_eq.mpr c19
            have aD:((bt a0 aa) != 58)=false:=bne_eq_false_iff_eq.mpr c19
            clear c19
            by_cases c20:0<(a0.size:Int)
            ·rw [if_pos c20] at H
             have aJ:decide (0<(a0.size:Int))=true:=zt c20
             have aK:decide (0<a0.size)=true:=zt (by omega)
             clear c20
             have H':=zA H
             clear H
             have p18:0≤(aa:Int):=zg
             have q18:aa<(a0.size:Int):=zg
             have aL:=bt_at a0 aa
             replace p18:=eq_true p18
             replace q18:=eq_true q18
             have p21:0≤(0:Int):=(by omega)
             have q21:0<a0.size:=(by have:(0:Int)<(a0.size:Int):=zg;omega)
             have aQ:∀ h:0<a0.size,((a0[0]'h).toNat:Int)=bt a0 0:=bt_at a0 0
             clear p21
             have aR:(0<(a0.size:Int))=True:=eq_true (zg)
             replace q21:=eq_true q21
             go_wp2
             repeat (go_quiet (fail);try go_wp2)
             go_meet
             case rel=>exact ⟨_,(((bt a0 0) == 62)),(by first | rfl | (simp;done) | (simp [*];done)),H',⟨by have:=HJ1.out;have:=HK2.out;first | omega | exact Nat.le_refl _⟩,⟨by repeat (first | (with_reducible first | exact HB.out | apply below_alloc | apply pw_below_drewN | apply below_drew1) | exact HB.out)⟩⟩
            ·rw [if_neg c20] at H
             exact absurd H (by simp)
           ·rw [if_neg c19] at H
            have aC:((bt a0 aa) == 58)=false:=beq_eq_false_iff_ne.mpr c19
            have aD:((bt a0 aa) != 58)=true:=bne_iff_ne.mpr c19
            have H':=zA H
            clear H
            have p18:0≤(aa:Int):=zg
            have q18:aa<(a0.size:Int):=zg
            have aL:=bt_at a0 aa
            replace p18:=eq_true p18
            replace q18:=eq_true q18
            go_wp2
            repeat (go_quiet (fail);try go_wp2)
            go_meet
            case rel=>exact ⟨_,(false),(by first | rfl | (simp;done) | (simp [*];done)),H',⟨by have:=HJ1.out;have:=HK2.out;first | omega | exact Nat.le_refl _⟩,⟨by repeat (first | (with_reducible first | exact HB.out | apply below_alloc | apply pw_below_drewN | apply below_drew1) | exact HB.out)⟩⟩
          ·rw [if_neg c17] at H
           exact absurd H (by simp)
         case rest=>
          clear aI
          try clear c1
          try clear p1
          try clear q1
          try clear hx1
          try clear qi1
          try clear c2
          try clear p2
          try clear q2
          try clear hx2
          try clear qi2
          try clear c3
          try clear ah
          try clear aq
          try clear c4
          try clear aE
          try clear aF
          try clear p5
          try clear q5
          try clear hx5
          try clear qi5
          try clear c6
          try clear ar
          try clear au
          try clear p7
          try clear q7
          try clear hx7
          try clear qi7
          try clear c8
          try clear av
          try clear aw
          try clear c9
          try clear p9
          try clear q9
          try clear hx9
          try clear qi9
          try clear c10
          try clear c11
          try clear ax
          try clear ay
          try clear p12
          try clear q12
          try clear aG
          try clear aH
          try clear c13
          try clear al
          try clear an
          try clear c14
          try clear az
          try clear aA
          try clear c15
          try clear aB
          try clear c17
          try clear ao
          try clear p18
          try clear q18
          try clear aL
          try clear c19
          try clear aC
          try clear aD
          try clear c20
          try clear aJ
          try clear aK
          try clear p21
          try clear q21
          try clear aQ
          try clear aR
          try clear p1
          try clear p12
          try clear p18
          try clear p2
          try clear p21
          try clear p5
          try clear p7
          try clear p9
          try clear q1
          try clear q12
          try clear q18
          try clear q21
          try clear q5
          try clear q7
          try clear q9
          obtain ⟨kq,ag,rfl,HA,aM,HB⟩:=hcut
          cases kq with
          | zero=>exact absurd HA.out (by simp [spec_l06Step.j2])
          | succ ad=>
           have H:=HA.out
           clear HA
           simp only [spec_l06Step.j2] at H
           by_cases c22:ag=true
           ·subst c22
            have H1:(if 1≤aa then (if aa≤(a0.size:Int) then (if 0≤(wrap64 (aa+1)) then (if (wrap64 (aa+1))≤(a0.size:Int) then ((spec_NameOk.f ad (a0.extract ((wrap64 (aa+1)):Int).toNat a0.size)).bind fun t141=>(if t141=true then (some (a0.extract 1 (aa:Int).toNat,a0.extract ((wrap64 (aa+1)):Int).toNat a0.size,0,((a0.extract 1 (aa:Int).toNat).toList != (a0.extract ((wrap64 (aa+1)):Int).toNat a0.size).toList))) else (some (a0.extract 1 (aa:Int).toNat,a0.extract ((wrap64 (aa+1)):Int).toNat a0.size,0,false)))) else (none)) else (none)) else (none)) else (none))=some (r1,r2,r3,r4):=by rw [if_pos rfl] at H;exact H
            clear H
            have H:=H1
            clear H1
            by_cases c23:1≤aa
            ·rw [if_pos c23] at H
             have c23b0:=eq_true c23
             have c23b1:decide (1≤aa)=true:=zt c23
             clear c23
             by_cases c24:aa≤(a0.size:Int)
             ·rw [if_pos c24] at H
              have c24b0:=eq_true c24
              have c24b1:decide (aa≤(a0.size:Int))=true:=zt c24
              clear c24
              obtain ⟨ab,ai⟩:∃ j_:Int,(wrap64 (aa+1))=j_:=⟨_,rfl⟩
              replace H:(if 0≤(ab) then (if (ab)≤(a0.size:Int) then ((spec_NameOk.f ad (a0.extract ((ab):Int).toNat a0.size)).bind fun t141=>(if t141=true then (some (a0.extract 1 (aa:Int).toNat,a0.extract ((ab):Int).toNat a0.size,0,((a0.extract 1 (aa:Int).toNat).toList != (a0.extract ((ab):Int).toNat a0.size).toList))) else (some (a0.extract 1 (aa:Int).toNat,a0.extract ((ab):Int).toNat a0.size,0,false)))) else (none)) else (none))=some (r1,r2,r3,r4):=by first | (rw [ai] at H;exact H) | (simp only [ai] at H ⊢;exact H)
              have hji25w:(IntKind.i64.wrap (aa+1))=ab:=(i64_w _).trans ai
              by_cases c26:0≤(ab)
              ·rw [if_pos c26] at H
               have c26b0:=eq_true c26
               have c26b1:decide (0≤(ab))=true:=zt c26
               clear c26
               by_cases c27:(ab)≤(a0.size:Int)
               ·rw [if_pos c27] at H
                have c27b0:=eq_true c27
                have c27b1:decide ((ab)≤(a0.size:Int))=true:=zt c27
                clear c27
                have c28b0:=eq_true (zg:0≤(ab))
                have c29b0:=eq_true (zg:(ab)≤(a0.size:Int))
                obtain ⟨t141,A30,H⟩:=bA H
                replace H:(if t141=true then (some (a0.extract 1 (aa:Int).toNat,a0.extract ((ab):Int).toNat a0.size,0,((a0.extract 1 (aa:Int).toNat).toList != (a0.extract ((ab):Int).toNat a0.size).toList))) else (some (a0.extract 1 (aa:Int).toNat,a0.extract ((ab):Int).toNat a0.size,0,false)))=some (r1,r2,r3,r4):=H
                by_cases c31:t141=true
                ·subst c31
                 have H1:(some (a0.extract 1 (aa:Int).toNat,a0.extract ((ab):Int).toNat a0.size,0,((a0.extract 1 (aa:Int).toNat).toList != (a0.extract ((ab):Int).toNat a0.size).toList)))=some (r1,r2,r3,r4):=by rw [if_pos rfl] at H;exact H
                 clear H
                 have H:=H1
                 clear H1
                 have c32b0:=eq_true (zg:1≤aa)
                 have c33b0:=eq_true (zg:aa≤(a0.size:Int))
                 have c34b0:=eq_true (zg:0≤(ab))
                 have c35b0:=eq_true (zg:(ab)≤(a0.size:Int))
                 simp only [Option.some.injEq,Prod.mk.injEq] at H
                 obtain ⟨rfl,rfl,rfl,rfl⟩:=H
                 go_wp2_with (first | (go_at_call 91;(with_reducible refine (spec_NameOk.calls ad (a0.extract ((ab):Int).toNat a0.size) true _ A30.out).mono ?_);rintro e w' ⟨rfl,⟨nd,rfl⟩⟩;(try first | exact ⟨rfl,_,World.drewN_drewN _ _ _⟩ | exact ⟨rfl,_,Eq.trans (World.drewN_drewN _ _ _) (congrArg (World.drewN _) (Nat.add_assoc _ _ _))⟩)))
                 repeat (go_quiet (first | (go_at_call 91;(with_reducible refine (spec_NameOk.calls ad (a0.extract ((ab):Int).toNat a0.size) true _ A30.out).mono ?_);rintro e w' ⟨rfl,⟨nd,rfl⟩⟩;(try first | exact ⟨rfl,_,World.drewN_drewN _ _ _⟩ | exact ⟨rfl,_,Eq.trans (World.drewN_drewN _ _ _) (congrArg (World.drewN _) (Nat.add_assoc _ _ _))⟩)));try go_wp2_with (first | (go_at_call 91;(with_reducible refine (spec_NameOk.calls ad (a0.extract ((ab):Int).toNat a0.size) true _ A30.out).mono ?_);rintro e w' ⟨rfl,⟨nd,rfl⟩⟩;(try first | exact ⟨rfl,_,World.drewN_drewN _ _ _⟩ | exact ⟨rfl,_,Eq.trans (World.drewN_drewN _ _ _) (congrArg (World.drewN _) (Nat.add_assoc _ _ _))⟩))))
                 refine bodyPost_ret (results_list (rs:=[.tmp 2,.tmp 3,.tmp 4,.tmp 5]) rfl (by simp) (.tmp (.tmp (.tmp (.tmp .nil))))) rfl ?_
                 all_goals exact ⟨by first | rfl | (simp [errW_none,errW_some] <;> rfl) | (simp only [← ai];first | rfl | (simp [errW_none,errW_some] <;> rfl)) | (simp [*,errW_none,errW_some] <;> rfl) | (exfalso;simp only [decide_eq_true_eq,decide_eq_false_iff_not] at *;omega),by repeat (first | (with_reducible first | exact HB.out | apply below_alloc | apply pw_below_drewN | apply below_drew1) | exact HB.out)⟩
                ·replace c31:=Bool.eq_false_iff.mpr c31
                 subst c31
                 have H1:(some (a0.extract 1 (aa:Int).toNat,a0.extract ((ab):Int).toNat a0.size,0,false))=some (r1,r2,r3,r4):=by rw [if_neg (show ¬ (false=true) by decide)] at H;exact H
                 clear H
                 have H:=H1
                 clear H1
                 simp only [Option.some.injEq,Prod.mk.injEq] at H
                 obtain ⟨rfl,rfl,rfl,rfl⟩:=H
                 go_wp2_with (first | (go_at_call 91;(with_reducible refine (spec_NameOk.calls ad (a0.extract ((ab):Int).toNat a0.size) false _ A30.out).mono ?_);rintro e w' ⟨rfl,⟨nd,rfl⟩⟩;(try first | exact ⟨rfl,_,World.drewN_drewN _ _ _⟩ | exact ⟨rfl,_,Eq.trans (World.drewN_drewN _ _ _) (congrArg (World.drewN _) (Nat.add_assoc _ _ _))⟩)))
                 repeat (go_quiet (first | (go_at_call 91;(with_reducible refine (spec_NameOk.calls ad (a0.extract ((ab):Int).toNat a0.size) false _ A30.out).mono ?_);rintro e w' ⟨rfl,⟨nd,rfl⟩⟩;(try first | exact ⟨rfl,_,World.drewN_drewN _ _ _⟩ | exact ⟨rfl,_,Eq.trans (World.drewN_drewN _ _ _) (congrArg (World.drewN _) (Nat.add_assoc _ _ _))⟩)));try go_wp2_with (first | (go_at_call 91;(with_reducible refine (spec_NameOk.calls ad (a0.extract ((ab):Int).toNat a0.size) false _ A30.out).mono ?_);rintro e w' ⟨rfl,⟨nd,rfl⟩⟩;(try first | exact ⟨rfl,_,World.drewN_drewN _ _ _⟩ | exact ⟨rfl,_,Eq.trans (World.drewN_drewN _ _ _) (congrArg (World.drewN _) (Nat.add_assoc _ _ _))⟩))))
                 refine bodyPost_ret (results_list (rs:=[.tmp 2,.tmp 3,.tmp 4,.tmp 5]) rfl (by simp) (.tmp (.tmp (.tmp (.tmp .nil))))) rfl ?_
                 all_goals exact ⟨by first | rfl | (simp [errW_none,errW_some] <;> rfl) | (simp only [← ai];first | rfl | (simp [errW_none,errW_some] <;> rfl)) | (simp [*,errW_none,errW_some] <;> rfl) | (exfalso;simp only [decide_eq_true_eq,decide_eq_false_iff_not] at *;omega),by repeat (first | (with_reducible first | exact HB.out | apply below_alloc | apply pw_below_drewN | apply below_drew1) | exact HB.out)⟩
               ·rw [if_neg c27] at H
                exact absurd H (by simp)
              ·rw [if_neg c26] at H
               exact absurd H (by simp)
             ·rw [if_neg c24] at H
              exact absurd H (by simp)
            ·rw [if_neg c23] at H
             exact absurd H (by simp)
           ·replace c22:=Bool.eq_false_iff.mpr c22
            subst c22
            have H1:(if 0≤aa then (if aa<(a0.size:Int) then (if (bt a0 aa)=58 then (if 0≤(wrap64 (aa+1)) then (if (wrap64 (aa+1))≤(a0.size:Int) then ((spec_ReadDecimal.f ad (a0.extract ((wrap64 (aa+1)):Int).toNat a0.size)).bind fun af=>(if 1≤aa then (if aa≤(a0.size:Int) then (if af.2=true then ((spec_NameOk.f ad (a0.extract 1 (aa:Int).toNat)).bind fun t144=>(some (a0.extract 1 (aa:Int).toNat,(⟨#[]⟩:ByteArray),af.1,t144))) else (some (a0.extract 1 (aa:Int).toNat,(⟨#[]⟩:ByteArray),af.1,false))) else (none)) else (none))) else (none)) else (none)) else (spec_l06Step.l0 ad a0 (wrap64 (aa+1)))) else (none)) else (none))=some (r1,r2,r3,r4):=by rw [if_neg (show ¬ (false=true) by decide)] at H;exact H
            clear H
            have H:=H1
            clear H1
            by_cases c36:0≤aa
            ·rw [if_pos c36] at H
             have c36b0:decide (0≤aa)=true:=zt c36
             clear c36
             by_cases c37:aa<(a0.size:Int)
             ·rw [if_pos c37] at H
              have c37b0:decide (aa<(a0.size:Int))=true:=zt c37
              clear c37
              by_cases c39:(bt a0 aa)=58
              ·rw [if_pos c39] at H
               have aN:((bt a0 aa) == 58)=true:=beq_iff_eq.mpr c39
               have aO:((bt a0 aa) != 58)=false:=bne_eq_false_iff_eq.mpr c39
               clear c39
               obtain ⟨ae,aj⟩:∃ j_:Int,(wrap64 (aa+1))=j_:=⟨_,rfl⟩
               replace H:(if 0≤(ae) then (if (ae)≤(a0.size:Int) then ((spec_ReadDecimal.f ad (a0.extract ((ae):Int).toNat a0.size)).bind fun af=>(if 1≤aa then (if aa≤(a0.size:Int) then (if af.2=true then ((spec_NameOk.f ad (a0.extract 1 (aa:Int).toNat)).bind fun t144=>(some (a0.extract 1 (aa:Int).toNat,(⟨#[]⟩:ByteArray),af.1,t144))) else (some (a0.extract 1 (aa:Int).toNat,(⟨#[]⟩:ByteArray),af.1,false))) else (none)) else (none))) else (none)) else (none))=some (r1,r2,r3,r4):=by first | (rw [aj] at H;exact H) | (simp only [aj] at H ⊢;exact H)
               have hji40w:(IntKind.i64.wrap (aa+1))=ae:=(i64_w _).trans aj
               by_cases c41:0≤(ae)
               ·rw [if_pos c41] at H
                have c41b0:=eq_true c41
                have c41b1:decide (0≤(ae))=true:=zt c41
                clear c41
                by_cases c42:(ae)≤(a0.size:Int)
                ·rw [if_pos c42] at H
                 have c42b0:=eq_true c42
                 have c42b1:decide ((ae)≤(a0.size:Int))=true:=zt c42
                 clear c42
                 obtain ⟨⟨t142,t143⟩,A43,H⟩:=bA H
                 replace H:(if 1≤aa then (if aa≤(a0.size:Int) then (if t143=true then ((spec_NameOk.f ad (a0.extract 1 (aa:Int).toNat)).bind fun t144=>(some (a0.extract 1 (aa:Int).toNat,(⟨#[]⟩:ByteArray),t142,t144))) else (some (a0.extract 1 (aa:Int).toNat,(⟨#[]⟩:ByteArray),t142,false))) else (none)) else (none))=some (r1,r2,r3,r4):=H
                 by_cases c44:1≤aa
                 ·rw [if_pos c44] at H
                  have c44b0:=eq_true c44
                  have c44b1:decide (1≤aa)=true:=zt c44
                  clear c44
                  by_cases c45:aa≤(a0.size:Int)
                  ·rw [if_pos c45] at H
                   have c45b0:=eq_true c45
                   have c45b1:decide (aa≤(a0.size:Int))=true:=zt c45
                   clear c45
                   by_cases c46:t143=true
                   ·subst c46
                    have H1:((spec_NameOk.f ad (a0.extract 1 (aa:Int).toNat)).bind fun t144=>(some (a0.extract 1 (aa:Int).toNat,(⟨#[]⟩:ByteArray),t142,t144)))=some (r1,r2,r3,r4):=by rw [if_pos rfl] at H;exact H
                    clear H
                    have H:=H1
                    clear H1
                    have c47b0:=eq_true (zg:1≤aa)
                    have c48b0:=eq_true (zg:aa≤(a0.size:Int))
                    obtain ⟨t144,A49,H⟩:=bA H
                    replace H:(some (a0.extract 1 (aa:Int).toNat,(⟨#[]⟩:ByteArray),t142,t144))=some (r1,r2,r3,r4):=H
                    simp only [Option.some.injEq,Prod.mk.injEq] at H
                    obtain ⟨rfl,rfl,rfl,rfl⟩:=H
                    have p38:0≤(aa:Int):=zg
                    have q38:aa<(a0.size:Int):=zg
                    have aP:=bt_at a0 aa
                    replace p38:=eq_true p38
                    replace q38:=eq_true q38
                    go_wp2_with (first | (go_at_call 112;(with_reducible refine (spec_ReadDecimal.calls ad (a0.extract ((ae):Int).toNat a0.size) t142 true _ A43.out).mono ?_);rintro e w50 ⟨rfl,hb⟩;have n0_:=zA (below_step (by repeat (first | (with_reducible first | exact HB.out | apply below_alloc | apply pw_below_drewN | apply below_drew1) | exact HB.out)) hb);clear HB;have HB:=n0_;clear n0_;(try clear hb);(try clear hb2);(try clear hk);(try clear hi)) | (go_at_call 91;(with_reducible refine (spec_NameOk.calls ad (a0.extract 1 (aa:Int).toNat) t144 _ A49.out).mono ?_);rintro e w' ⟨rfl,⟨nd,rfl⟩⟩;(try first | exact ⟨rfl,_,World.drewN_drewN _ _ _⟩ | exact ⟨rfl,_,Eq.trans (World.drewN_drewN _ _ _) (congrArg (World.drewN _) (Nat.add_assoc _ _ _))⟩)))
                    repeat (go_quiet (first | (go_at_call 112;(with_reducible refine (spec_ReadDecimal.calls ad (a0.extract ((ae):Int).toNat a0.size) t142 true _ A43.out).mono ?_);rintro e w50 ⟨rfl,hb⟩;have n0_:=zA (below_step (by repeat (first | (with_reducible first | exact HB.out | apply below_alloc | apply pw_below_drewN | apply below_drew1) | exact HB.out)) hb);clear HB;have HB:=n0_;clear n0_;(try clear hb);(try clear hb2);(try clear hk);(try clear hi)) | (go_at_call 91;(with_reducible refine (spec_NameOk.calls ad (a0.extract 1 (aa:Int).toNat) t144 _ A49.out).mono ?_);rintro e w' ⟨rfl,⟨nd,rfl⟩⟩;(try first | exact ⟨rfl,_,World.drewN_drewN _ _ _⟩ | exact ⟨rfl,_,Eq.trans (World.drewN_drewN _ _ _) (congrArg (World.drewN _) (Nat.add_assoc _ _ _))⟩)));try go_wp2_with (first | (go_at_call 112;(with_reducible refine (spec_ReadDecimal.calls ad (a0.extract ((ae):Int).toNat a0.size) t142 true _ A43.out).mono ?_);rintro e w50 ⟨rfl,hb⟩;have n0_:=zA (below_step (by repeat (first | (with_reducible first | exact HB.out | apply below_alloc | apply pw_below_drewN | apply below_drew1) | exact HB.out)) hb);clear HB;have HB:=n0_;clear n0_;(try clear hb);(try clear hb2);(try clear hk);(try clear hi)) | (go_at_call 91;(with_reducible refine (spec_NameOk.calls ad (a0.extract 1 (aa:Int).toNat) t144 _ A49.out).mono ?_);rintro e w' ⟨rfl,⟨nd,rfl⟩⟩;(try first | exact ⟨rfl,_,World.drewN_drewN _ _ _⟩ | exact ⟨rfl,_,Eq.trans (World.drewN_drewN _ _ _) (congrArg (World.drewN _) (Nat.add_assoc _ _ _))⟩))))
                    refine bodyPost_ret (results_list (rs:=[.tmp 2,.tmp 3,.tmp 4,.tmp 5]) rfl (by simp) (.tmp (.tmp (.tmp (.tmp .nil))))) rfl ?_
                    all_goals exact ⟨by first | rfl | (simp [errW_none,errW_some] <;> rfl) | (simp only [← aj];first | rfl | (simp [errW_none,errW_some] <;> rfl)) | (simp [*,errW_none,errW_some] <;> rfl) | (exfalso;simp only [decide_eq_true_eq,decide_eq_false_iff_not] at *;omega),by repeat (first | (with_reducible first | exact HB.out | apply below_alloc | apply pw_below_drewN | apply below_drew1) | exact HB.out)⟩
                   ·replace c46:=Bool.eq_false_iff.mpr c46
                    subst c46
                    have H1:(some (a0.extract 1 (aa:Int).toNat,(⟨#[]⟩:ByteArray),t142,false))=some (r1,r2,r3,r4):=by rw [if_neg (show ¬ (false=true) by decide)] at H;exact H
                    clear H
                    have H:=H1
                    clear H1
                    simp only [Option.some.injEq,Prod.mk.injEq] at H
                    obtain ⟨rfl,rfl,rfl,rfl⟩:=H
                    have p38:0≤(aa:Int):=zg
                    have q38:aa<(a0.size:Int):=zg
                    have aP:=bt_at a0 aa
                    replace p38:=eq_true p38
                    replace q38:=eq_true q38
                    go_wp2_with (first | (go_at_call 112;(with_reducible refine (spec_ReadDecimal.calls ad (a0.extract ((ae):Int).toNat a0.size) t142 false _ A43.out).mono ?_);rintro e w51 ⟨rfl,hb⟩;have n0_:=zA (below_step (by repeat (first | (with_reducible first | exact HB.out | apply below_alloc | apply pw_below_drewN | apply below_drew1) | exact HB.out)) hb);clear HB;have HB:=n0_;clear n0_;(try clear hb);(try clear hb2);(try clear hk);(try clear hi)))
                    repeat (go_quiet (first | (go_at_call 112;(with_reducible refine (spec_ReadDecimal.calls ad (a0.extract ((ae):Int).toNat a0.size) t142 false _ A43.out).mono ?_);rintro e w51 ⟨rfl,hb⟩;have n0_:=zA (below_step (by repeat (first | (with_reducible first | exact HB.out | apply below_alloc | apply pw_below_drewN | apply below_drew1) | exact HB.out)) hb);clear HB;have HB:=n0_;clear n0_;(try clear hb);(try clear hb2);(try clear hk);(try clear hi)));try go_wp2_with (first | (go_at_call 112;(with_reducible refine (spec_ReadDecimal.calls ad (a0.extract ((ae):Int).toNat a0.size) t142 false _ A43.out).mono ?_);rintro e w51 ⟨rfl,hb⟩;have n0_:=zA (below_step (by repeat (first | (with_reducible first | exact HB.out | apply below_alloc | apply pw_below_drewN | apply below_drew1) | exact HB.out)) hb);clear HB;have HB:=n0_;clear n0_;(try clear hb);(try clear hb2);(try clear hk);(try clear hi))))
                    refine bodyPost_ret (results_list (rs:=[.tmp 2,.tmp 3,.tmp 4,.tmp 5]) rfl (by simp) (.tmp (.tmp (.tmp (.tmp .nil))))) rfl ?_
                    all_goals exact ⟨by first | rfl | (simp [errW_none,errW_some] <;> rfl) | (simp only [← aj];first | rfl | (simp [errW_none,errW_some] <;> rfl)) | (simp [*,errW_none,errW_some] <;> rfl) | (exfalso;simp only [decide_eq_true_eq,decide_eq_false_iff_not] at *;omega),by repeat (first | (with_reducible first | exact HB.out | apply below_alloc | apply pw_below_drewN | apply below_drew1) | exact HB.out)⟩
                  ·rw [if_neg c45] at H
                   exact absurd H (by simp)
                 ·rw [if_neg c44] at H
                  exact absurd H (by simp)
                ·rw [if_neg c42] at H
                 exact absurd H (by simp)
               ·rw [if_neg c41] at H
                exact absurd H (by simp)
              ·rw [if_neg c39] at H
               have aN:((bt a0 aa) == 58)=false:=beq_eq_false_iff_ne.mpr c39
               have aO:((bt a0 aa) != 58)=true:=bne_iff_ne.mpr c39
               have H':=zA H
               clear H
               have p38:0≤(aa:Int):=zg
               have q38:aa<(a0.size:Int):=zg
               have aP:=bt_at a0 aa
               replace p38:=eq_true p38
               replace q38:=eq_true q38
               go_wp2
               repeat (go_quiet (fail);try go_wp2)
               go_roundg ad
               case measure=>have:=HJ1.out;have:=HK2.out;have:=aM.out;omega
               case rel=>exact ⟨(wrap64 (aa+1)),(by first | rfl | (simp;done) | (simp [*];done)),H',⟨by have:=HJ1.out;have:=HK2.out;have:=aM.out;omega⟩,⟨by repeat (first | (with_reducible first | exact HB.out | apply below_alloc | apply pw_below_drewN | apply below_drew1) | exact HB.out)⟩⟩
             ·rw [if_neg c37] at H
              exact absurd H (by simp)
            ·rw [if_neg c36] at H
             exact absurd H (by simp)
        ·rw [if_neg c15] at H
         have aB:decide (aa<(a0.size:Int))=false:=zf c15
         clear c15
         simp only [Option.some.injEq,Prod.mk.injEq] at H
         obtain ⟨rfl,rfl,rfl,rfl⟩:=H
         go_wp2
         repeat (go_quiet (fail);try go_wp2)
         refine bodyPost_ret (results_list (rs:=[.tmp 2,.tmp 3,.tmp 4,.tmp 5]) rfl (by simp) (.tmp (.tmp (.tmp (.tmp .nil))))) rfl ?_
         all_goals exact ⟨by rfl,by repeat (first | (with_reducible first | exact HB.out | apply below_alloc | apply pw_below_drewN | apply below_drew1) | exact HB.out)⟩
    ·rw [if_neg c11] at H
     exact absurd H (by simp)
def spec_l06Drop.l0:Nat→List (S47)→ByteArray→List (S47)→Int→Option ((List (S47)))
 | 0,_,_,_,_=>none
 | k+1,x0,x1,x5,x6=>if x6<(x0.length:Int) then (if 0≤x6 then (if ((rd_T47 x0 x6).f0).toList=x1.toList then (spec_l06Drop.l0 k x0 x1 x5 (wrap64 (x6+1))) else (if x5.length<5864062014805 then (spec_l06Drop.l0 k x0 x1 (x5++[(⟨(rd_T47 x0 x6).f0,(rd_T47 x0 x6).f1⟩:S47)]) (wrap64 (x6+1))) else (none))) else (none)) else (some x5)
def spec_l06Drop.f (k:Nat) (l0:List (S47)) (a1:ByteArray):Option ((List (S47))):=spec_l06Drop.l0 k l0 a1 (([]:List (S47))) 0
theorem spec_l06Drop.mono_l:∀ k,(∀ y0 y1 y2 y3,LeO (spec_l06Drop.l0 k y0 y1 y2 y3) (spec_l06Drop.l0 (k+1) y0 y1 y2 y3))
 | 0=>fun _ _ _ _ r h=>by simp [spec_l06Drop.l0] at h
 | k+1=>by
  have ih0:=spec_l06Drop.mono_l k
  ·intro y0 y1 y2 y3
   unfold spec_l06Drop.l0
   repeat' first | (with_reducible exact ih0 _ _ _ _) | (with_reducible exact LeO.refl _) | (with_reducible refine LeO.ite ?_ ?_)
theorem spec_l06Drop.mono:∀ a0 a1 k,LeO (spec_l06Drop.f k a0 a1) (spec_l06Drop.f (k+1) a0 a1):=by
 intro a0 a1 k
 have ih0:=spec_l06Drop.mono_l k
 unfold spec_l06Drop.f
 repeat' (with_reducible exact ih0 _ _ _ _)
theorem spec_l06Drop.calls (k:Nat) (A0:Option Addr) (c0:Nat) (l0:List (S47)) (a1:ByteArray) (r:List (S47)) (w:World) (hr0:Kd.C k47 w A0 l0.length l0) (hc0:l0.length≤c0) (h:spec_l06Drop.f k l0 a1=some r) :
  Calls Tryz.prog 92 #[.slice A0 l0.length c0,.string a1] w fun e w'=>∃ v0_:Value,e=.returned (v0_)∧Kd.R k47 47 w' w.heap.size (fun _=>True) v0_ r∧Below w.heap.size w w':=by
 have HR0:=zA hr0
 clear hr0 hc0
 have HB:=zA (Below.refl w.heap.size w)
 have H:(spec_l06Drop.l0 k l0 a1 (([]:List (S47))) 0)=some r:=h
 clear h
 obtain ⟨au,aj⟩:∃ y_:List (S47),y_=(([]:List (S47))):=⟨_,rfl⟩
 replace H:(spec_l06Drop.l0 k l0 a1 au 0)=some r:=by (rw [aj];with_reducible exact H)
 have av:=zA aj
 clear aj
 have H':=zA H
 clear H
 go_enter Tryz.func92,Tryz.ntmps92
 go_wp2_with (((with_reducible refine gate_dst (N:=7) rfl ?_);refine Kd.R_lit k47 _ 47 ?hg (N:=7) ?hd (xs:=([]:List (S47))) (inner:=[]) (ok:=fun _=>True) (okp:=fun _=>True) ?hr ?hp (fun _ hk=>hk) trivial (Below.refl _ _) (Nat.le_refl _) (by simp) ?_;(case hd=>rfl);(case hg=>rfl);(case hr=>(go_simp;done));(case hp=>exact (Reps.none _ _));intro v146 w3 ho4 hb hg_ hnew_;clear hg_ hnew_;(rw [← av.out] at ho4);have aw:=zA (Kd.R_lower ho4 (below_size HB.out));replace HB:=zs HB hb;clear hb ho4))
 go_loopg [5,6] k (fun kq v5 v6 w'=>∃ (ag:List (S47)) (aa:Int),v6=.int .i64 aa∧Aside0 (spec_l06Drop.l0 kq l0 a1 ag aa=some r)∧Aside0 (kq≤k)∧Aside0 (Kd.R k47 47 w' w.heap.size (fun _=>True) v5 ag)∧Aside0 (Below w.heap.size w w'))
 case atStart=>exact ⟨(au),(0),(by rfl),H',⟨Nat.le_refl _⟩,⟨by exact aw.out⟩,⟨by repeat (with_reducible exact HB.out)⟩⟩
 case round=>
  clear H'
  try clear p2
  obtain ⟨ag,aa,rfl,HA,HK1,al,HB⟩:=hrel
  cases gk with
  | zero=>exact absurd HA.out (by simp [spec_l06Drop.l0])
  | succ k1=>
   have H:=HA.out
   clear HA
   simp only [spec_l06Drop.l0] at H
   by_cases c5:aa<(l0.length:Int)
   ·rw [if_pos c5] at H
    have aC:decide (aa<(l0.length:Int))=true:=zt c5
    clear c5
    by_cases c6:0≤aa
    ·rw [if_pos c6] at H
     have c6b0:decide (0≤aa)=true:=zt c6
     clear c6
     by_cases c7:((rd_T47 l0 aa).f0).toList=a1.toList
     ·rw [if_pos c7] at H
      have aD:(((rd_T47 l0 aa).f0).toList == a1.toList)=true:=beq_iff_eq.mpr c7
      clear c7
      have H':=zA H
      clear H
      have ah:0≤(aa:Int):=ze
      have ai:aa<(l0.length:Int):=ze
      obtain ⟨an,ao,ab,ad⟩:=at_T47 HR0.out aa ah ai
      cases ao
      replace ab:=(HB.out.cell (World.block_lt_of_cell? w _ ab)).trans ab
      replace ad:=(HB.out.cell (World.block_lt_of_cell? w _ ad)).trans ad
      replace ah:=eq_true ah
      replace ai:=eq_true ai
      go_wp2
      go_roundg k1
      case measure=>have:=HK1.out;omega
      case rel=>exact ⟨(ag),(wrap64 (aa+1)),(by rfl),H',⟨by have:=HK1.out;omega⟩,⟨by exact al.out⟩,⟨by repeat (with_reducible exact HB.out)⟩⟩
     ·rw [if_neg c7] at H
      have aD:(((rd_T47 l0 aa).f0).toList == a1.toList)=false:=beq_eq_false_iff_ne.mpr c7
      by_cases c8:ag.length<5864062014805
      ·rw [if_pos c8] at H
       have aE:=zA c8
       clear c8
       obtain ⟨ax,ak⟩:∃ y_:List (S47),y_=(ag++[(⟨(rd_T47 l0 aa).f0,(rd_T47 l0 aa).f1⟩:S47)]):=⟨_,rfl⟩
       replace H:(spec_l06Drop.l0 k1 l0 a1 ax (wrap64 (aa+1)))=some r:=by (rw [ak];with_reducible exact H)
       have ay:=zA ak
       clear ak
       have H':=zA H
       clear H
       have ah:0≤(aa:Int):=ze
       have ai:aa<(l0.length:Int):=ze
       obtain ⟨an,ao,ab,ad⟩:=at_T47 HR0.out aa ah ai
       cases ao
       replace ab:=(HB.out.cell (World.block_lt_of_cell? w _ ab)).trans ab
       replace ad:=(HB.out.cell (World.block_lt_of_cell? w _ ad)).trans ad
       replace ah:=eq_true ah
       replace ai:=eq_true ai
       have aq:0≤(aa:Int):=ze
       have ar:aa<(l0.length:Int):=ze
       obtain ⟨az,aG,ae,af⟩:=at_T47 HR0.out aa aq ar
       obtain rfl:an=az:=(by injection aG)
       replace ae:=(HB.out.cell (World.block_lt_of_cell? w _ ae)).trans ae
       replace af:=(HB.out.cell (World.block_lt_of_cell? w _ af)).trans af
       replace aq:=eq_true aq
       replace ar:=eq_true ar
       go_wp2_with (((with_reducible refine gate_builtin (b:=.append) (xs:=#[.tmp 21,.tmp 26]) rfl ?_);at_builtin;refine Kd.R_append k47 (w0:=w) w.heap.size rfl (.tmp 21) (.tmp 26) 25 47 (.agg #[(.string ⟨#[]⟩),(.int .i64 0)]) 24 rfl Tryz.underlying25 info47 rfl (by decide) (by omega) u5 ag (⟨(rd_T47 l0 aa).f0,(rd_T47 l0 aa).f1⟩:S47) [.string ((rd_T47 l0 aa).f0),.int .i64 ((rd_T47 l0 aa).f1)] (fun _=>True) (fun _=>False) rfl rfl ?aP (fun _ hk=>hk.elim) ?aF ?aO ?aB ?aS ?aL ?_;(case aP=>exact k47_mkM _ _ _ (⟨(rd_T47 l0 aa).f0,(rd_T47 l0 aa).f1⟩:S47));(case aB=>exact HB.out);(case aF=>exact (fun _ _=>trivial));(case aO=>exact al.out);(case aS=>exact (below_size HB.out));(case aL=>have:=aE.out;omega);intro v151 w9 ho hb hg hat;rw [← ay.out] at ho;have aA:=zA (ho);replace HB:=zA (hb);clear al;clear ho hb hg hat))
       go_roundg k1
       case measure=>have:=HK1.out;omega
       case rel=>exact ⟨(ax),(wrap64 (aa+1)),(by rfl),H',⟨by have:=HK1.out;omega⟩,⟨by exact aA.out⟩,⟨by repeat (with_reducible exact HB.out)⟩⟩
      ·rw [if_neg c8] at H
       exact absurd H (by simp)
    ·rw [if_neg c6] at H
     exact absurd H (by simp)
   ·rw [if_neg c5] at H
    have aC:decide (aa<(l0.length:Int))=false:=zf c5
    clear c5
    obtain rfl:=Option.some.inj H
    go_wp2
    all_goals (go_ret)
    all_goals exact ⟨_,by rfl,by exact al.out,by repeat (with_reducible exact HB.out)⟩
end Go.Proofs.YtokcccejijmkmaaGreatDoor.MFnDeeds
