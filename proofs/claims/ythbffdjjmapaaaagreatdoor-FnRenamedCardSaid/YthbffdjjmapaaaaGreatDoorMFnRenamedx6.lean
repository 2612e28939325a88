/- Each theorem here says that a call of one Go function answers what the Lean function beside it answers; its conditions stand in it. Written by a program of this session. -/
import Derived.Test.YthbffdjjmapaaaaGreatDoorMFnRenamedx0
import Derived.Test.YthbffdjjmapaaaaGreatDoorMFnRenamedx3
import Derived.Test.YthbffdjjmapaaaaGreatDoorMFnRenamedx5
namespace Go.Proofs.YthbffdjjmapaaaaGreatDoor.MFnRenamed
open Go.RowKit Go.Proofs.YthbffdjjmapaaaaGreatDoorW.PrintWords Go.Proofs.YthbffdjjmapaaaaGreatDoorW.PrintLast Go.Proofs.YthbffdjjmapaaaaGreatDoorW.PrintMore
attribute [local go_sem] max2_int min2_int max_two min_two max_three min_three max_four min_four   -- for this text's walks alone
set_option linter.unusedVariables false
set_option linter.unusedSimpArgs false

/-! ### spec_l06Step: function 67 -/
mutual
def spec_l06Step.j0:Nat→ByteArray→Bool→Option (ByteArray×ByteArray×Int×Bool)
 | 0,_,_=>none
 | k+1,x0,x26=>if x26=true then (some ((⟨#[]⟩:ByteArray),(⟨#[]⟩:ByteArray),0,false)) else (if 0<(x0.size:Int) then (if (bt x0 0)=45 then (if 1≤(x0.size:Int) then (some (x0.extract 1 x0.size,(⟨#[]⟩:ByteArray),0,true)) else (none)) else (spec_l06Step.l0 k x0 1)) else (none))
def spec_l06Step.l0:Nat→ByteArray→Int→Option (ByteArray×ByteArray×Int×Bool)
 | 0,_,_=>none
 | k+1,x0,x6=>if x6<(x0.size:Int) then (if 0≤x6 then (if (bt x0 x6)=58 then (if 0<(x0.size:Int) then (spec_l06Step.j2 k x0 x6 ((bt x0 0) == 62)) else (none)) else (spec_l06Step.j2 k x0 x6 false)) else (none)) else (some ((⟨#[]⟩:ByteArray),(⟨#[]⟩:ByteArray),0,false))
def spec_l06Step.j2:Nat→ByteArray→Int→Bool→Option (ByteArray×ByteArray×Int×Bool)
 | 0,_,_,_=>none
 | k+1,x0,x6,x46=>if x46=true then (if 1≤x6 then (if x6≤(x0.size:Int) then (if 0≤(wrap64 (x6+1)) then (if (wrap64 (x6+1))≤(x0.size:Int) then ((spec_NameOk.f k (x0.extract ((wrap64 (x6+1)):Int).toNat x0.size)).bind fun t147=>(if t147=true then (some (x0.extract 1 (x6:Int).toNat,x0.extract ((wrap64 (x6+1)):Int).toNat x0.size,0,((x0.extract 1 (x6:Int).toNat).toList != (x0.extract ((wrap64 (x6+1)):Int).toNat x0.size).toList))) else (some (x0.extract 1 (x6:Int).toNat,x0.extract ((wrap64 (x6+1)):Int).toNat x0.size,0,false)))) else (none)) else (none)) else (none)) else (none)) else (if 0≤x6 then (if x6<(x0.size:Int) then (if (bt x0 x6)=58 then (if 0≤(wrap64 (x6+1)) then (if (wrap64 (x6+1))≤(x0.size:Int) then ((spec_ReadDecimal.f k (x0.extract ((wrap64 (x6+1)):Int).toNat x0.size)).bind fun bt148=>(if 1≤x6 then (if x6≤(x0.size:Int) then (if bt148.2=true then ((spec_NameOk.f k (x0.extract 1 (x6:Int).toNat)).bind fun t150=>(some (x0.extract 1 (x6:Int).toNat,(⟨#[]⟩:ByteArray),bt148.1,t150))) else (some (x0.extract 1 (x6:Int).toNat,(⟨#[]⟩:ByteArray),bt148.1,false))) else (none)) else (none))) else (none)) else (none)) else (spec_l06Step.l0 k x0 (wrap64 (x6+1)))) else (none)) else (none))
end
def spec_l06Step.f (k:Nat) (a0:ByteArray):Option (ByteArray×ByteArray×Int×Bool):=if (a0.size:Int)<2 then (spec_l06Step.j0 k a0 true) else (if 0<(a0.size:Int) then (if (bt a0 0)=43 then (spec_l06Step.j0 k a0 false) else (if (bt a0 0)=45 then (spec_l06Step.j0 k a0 false) else (spec_l06Step.j0 k a0 ((bt a0 0) != 62)))) else (none))
theorem spec_l06Step.mono_l:∀ k,(∀ y0 y1,LeO (spec_l06Step.j0 k y0 y1) (spec_l06Step.j0 (k+1) y0 y1))∧(∀ y0 y1,LeO (spec_l06Step.l0 k y0 y1) (spec_l06Step.l0 (k+1) y0 y1))∧(∀ y0 y1 y2,LeO (spec_l06Step.j2 k y0 y1 y2) (spec_l06Step.j2 (k+1) y0 y1 y2))
 | 0=>⟨fun _ _ r h=>by simp [spec_l06Step.j0] at h,fun _ _ r h=>by simp [spec_l06Step.l0] at h,fun _ _ _ r h=>by simp [spec_l06Step.j2] at h⟩
 | k+1=>by
  obtain ⟨ih0,ih1,ih2⟩:=spec_l06Step.mono_l k
  refine ⟨?_,?_,?_⟩
  ·intro y0 y1
   unfold spec_l06Step.j0
   repeat' first | (with_reducible exact ih1 _ _) | (with_reducible exact LeO.refl _) | (with_reducible refine LeO.ite ?_ ?_)
  ·intro y0 y1
   unfold spec_l06Step.l0
   repeat' first | (with_reducible exact ih2 _ _ _) | (with_reducible exact LeO.refl _) | (with_reducible refine LeO.ite ?_ ?_)
  ·intro y0 y1 y2
   unfold spec_l06Step.j2
   repeat' first | (with_reducible exact ih1 _ _) | (with_reducible exact spec_NameOk.mono _ _) | (with_reducible exact spec_ReadDecimal.mono _ _) | (with_reducible exact LeO.refl _) | (with_reducible refine LeO.ite ?_ ?_) | (with_reducible refine LeO.bind ?_ (fun _=>?_))
theorem spec_l06Step.mono:∀ a0 k,LeO (spec_l06Step.f k a0) (spec_l06Step.f (k+1) a0):=by
 intro a0 k
 obtain ⟨ih0,ih1,ih2⟩:=spec_l06Step.mono_l k
 unfold spec_l06Step.f
 repeat' first | (with_reducible exact ih0 _ _) | (with_reducible exact LeO.refl _) | (with_reducible refine LeO.ite ?_ ?_)
set_option maxHeartbeats 8000000 in
set_option maxRecDepth 100000 in
theorem spec_l06Step.calls (k:Nat) (a0:ByteArray) (r1:ByteArray) (r2:ByteArray) (r3:Int) (r4:Bool) (w:World) (h:spec_l06Step.f k a0=some (r1,r2,r3,r4)) :
  Calls Tryz.prog 67 #[.string a0] w fun e w'=>e=.returned (.tuple #[.string r1,.string r2,.int .i64 r3,.bool r4])∧Below w.heap.size w w':=by
 have HB:=Aside0.mk (Below.refl w.heap.size w)
 have H:(if (a0.size:Int)<2 then (spec_l06Step.j0 k a0 true) else (if 0<(a0.size:Int) then (if (bt a0 0)=43 then (spec_l06Step.j0 k a0 false) else (if (bt a0 0)=45 then (spec_l06Step.j0 k a0 false) else (spec_l06Step.j0 k a0 ((bt a0 0) != 62)))) else (none)))=some (r1,r2,r3,r4):=h
 clear h
 have HC2:=Aside0.mk H
 clear H
 go_enter Tryz.func67,Tryz.ntmps67
 go_upto_region 1 with (fail)
 repeat (go_quiet (fail);go_upto_region 1 with (fail))
 go_cut [26] (fun v26 wc=>∃ (kq:Nat) (x26_1:Bool),v26=.bool x26_1∧Aside0 (spec_l06Step.j0 kq a0 x26_1=some (r1,r2,r3,r4))∧Aside0 (kq≤k)∧Aside0 (Below w.heap.size w wc))
 case first=>
  have H:=HC2.out
  clear HC2
  by_cases c3:(a0.size:Int)<2
  ·rw [if_pos c3] at H
   have c3b0:decide ((a0.size:Int)<2)=true:=decide_eq_true c3
   have c3b1:decide (a0.size<2)=true:=decide_eq_true (by omega)
   clear c3
   (first | rw [c3b0] | (simp only [i64_w,i32_w];rw [c3b0]) | skip)
   have H':=Aside0.mk H
   clear H
   go_wp2
   repeat (go_quiet (fail);try go_wp2)
   go_meet
   case rel=>exact ⟨_,(true),(by first | rfl | (simp;done) | (simp [*];done)),H',⟨by first | omega | exact Nat.le_refl _⟩,⟨by repeat (first | (with_reducible first | exact HB.out | apply below_alloc | apply pw_below_drewN | apply below_drew1) | exact HB.out)⟩⟩
  ·rw [if_neg c3] at H
   have c3b0:decide ((a0.size:Int)<2)=false:=decide_eq_false c3
   have c3b1:decide (a0.size<2)=false:=decide_eq_false (by omega)
   clear c3
   (first | rw [c3b0] | (simp only [i64_w,i32_w];rw [c3b0]) | skip)
   by_cases c4:0<(a0.size:Int)
   ·rw [if_pos c4] at H
    have c4b0:decide (0<(a0.size:Int))=true:=decide_eq_true c4
    have c4b1:decide (0<a0.size)=true:=decide_eq_true (by omega)
    clear c4
    by_cases c6:(bt a0 0)=43
    ·rw [if_pos c6] at H
     have c6b0:((bt a0 0) == 43)=true:=beq_iff_eq.mpr c6
     have c6b1:((bt a0 0) != 43)=false:=bne_eq_false_iff_eq.mpr c6
     clear c6
     have H':=Aside0.mk H
     clear H
     have p5:0≤(0:Int):=(by omega)
     have q5:0<a0.size:=(by have:(0:Int)<(a0.size:Int):=of_decide_eq_true (by first | (with_reducible assumption) | assumption);omega)
     have hx5:∀ h:0<a0.size,((a0[0]'h).toNat:Int)=bt a0 0:=bt_at a0 0
     clear p5
     have qi5:(0<(a0.size:Int))=True:=eq_true (of_decide_eq_true (by first | (with_reducible assumption) | assumption))
     replace q5:=eq_true q5
     go_wp2
     repeat (go_quiet (fail);try go_wp2)
     go_meet
     case rel=>exact ⟨_,(false),(by first | rfl | (simp;done) | (simp [*];done)),H',⟨by first | omega | exact Nat.le_refl _⟩,⟨by repeat (first | (with_reducible first | exact HB.out | apply below_alloc | apply pw_below_drewN | apply below_drew1) | exact HB.out)⟩⟩
    ·rw [if_neg c6] at H
     have c6b0:((bt a0 0) == 43)=false:=beq_eq_false_iff_ne.mpr c6
     have c6b1:((bt a0 0) != 43)=true:=bne_iff_ne.mpr c6
     by_cases c8:(bt a0 0)=45
     ·rw [if_pos c8] at H
      have c8b0:((bt a0 0) == 45)=true:=beq_iff_eq.mpr c8
      have c8b1:((bt a0 0) != 45)=false:=bne_eq_false_iff_eq.mpr c8
      clear c8
      have H':=Aside0.mk H
      clear H
      have p5:0≤(0:Int):=(by omega)
      have q5:0<a0.size:=(by have:(0:Int)<(a0.size:Int):=of_decide_eq_true (by first | (with_reducible assumption) | assumption);omega)
      have hx5:∀ h:0<a0.size,((a0[0]'h).toNat:Int)=bt a0 0:=bt_at a0 0
      clear p5
      have qi5:(0<(a0.size:Int))=True:=eq_true (of_decide_eq_true (by first | (with_reducible assumption) | assumption))
      replace q5:=eq_true q5
      have p7:0≤(0:Int):=(by omega)
      have q7:0<a0.size:=(by have:(0:Int)<(a0.size:Int):=of_decide_eq_true (by first | (with_reducible assumption) | assumption);omega)
      have hx7:∀ h:0<a0.size,((a0[0]'h).toNat:Int)=bt a0 0:=bt_at a0 0
      clear p7
      have qi7:(0<(a0.size:Int))=True:=eq_true (of_decide_eq_true (by first | (with_reducible assumption) | assumption))
      replace q7:=eq_true q7
      go_wp2
      repeat (go_quiet (fail);try go_wp2)
      go_meet
      case rel=>exact ⟨_,(false),(by first | rfl | (simp;done) | (simp [*];done)),H',⟨by first | omega | exact Nat.le_refl _⟩,⟨by repeat (first | (with_reducible first | exact HB.out | apply below_alloc | apply pw_below_drewN | apply below_drew1) | exact HB.out)⟩⟩
     ·rw [if_neg c8] at H
      have c8b0:((bt a0 0) == 45)=false:=beq_eq_false_iff_ne.mpr c8
      have c8b1:((bt a0 0) != 45)=true:=bne_iff_ne.mpr c8
      have H':=Aside0.mk H
      clear H
      have p5:0≤(0:Int):=(by omega)
      have q5:0<a0.size:=(by have:(0:Int)<(a0.size:Int):=of_decide_eq_true (by first | (with_reducible assumption) | assumption);omega)
      have hx5:∀ h:0<a0.size,((a0[0]'h).toNat:Int)=bt a0 0:=bt_at a0 0
      clear p5
      have qi5:(0<(a0.size:Int))=True:=eq_true (of_decide_eq_true (by first | (with_reducible assumption) | assumption))
      replace q5:=eq_true q5
      have p7:0≤(0:Int):=(by omega)
      have q7:0<a0.size:=(by have:(0:Int)<(a0.size:Int):=of_decide_eq_true (by first | (with_reducible assumption) | assumption);omega)
      have hx7:∀ h:0<a0.size,((a0[0]'h).toNat:Int)=bt a0 0:=bt_at a0 0
      clear p7
      have qi7:(0<(a0.size:Int))=True:=eq_true (of_decide_eq_true (by first | (with_reducible assumption) | assumption))
      replace q7:=eq_true q7
      have p9:0≤(0:Int):=(by omega)
      have q9:0<a0.size:=(by have:(0:Int)<(a0.size:Int):=of_decide_eq_true (by first | (with_reducible assumption) | assumption);omega)
      have hx9:∀ h:0<a0.size,((a0[0]'h).toNat:Int)=bt a0 0:=bt_at a0 0
      clear p9
      have qi9:(0<(a0.size:Int))=True:=eq_true (of_decide_eq_true (by first | (with_reducible assumption) | assumption))
      replace q9:=eq_true q9
      go_wp2
      repeat (go_quiet (fail);try go_wp2)
      go_meet
      case rel=>exact ⟨_,(((bt a0 0) != 62)),(by first | rfl | (simp;done) | (simp [*];done)),H',⟨by first | omega | exact Nat.le_refl _⟩,⟨by repeat (first | (with_reducible first | exact HB.out | apply below_alloc | apply pw_below_drewN | apply below_drew1) | exact HB.out)⟩⟩
   ·rw [if_neg c4] at H
    exact absurd H (by simp)
 case rest=>
  clear HC2
  try clear p2
  try clear c3
  try clear c3b0
  try clear c3b1
  try clear c4
  try clear c4b0
  try clear c4b1
  try clear p5
  try clear q5
  try clear hx5
  try clear qi5
  try clear c6
  try clear c6b0
  try clear c6b1
  try clear p7
  try clear q7
  try clear hx7
  try clear qi7
  try clear c8
  try clear c8b0
  try clear c8b1
  try clear p9
  try clear q9
  try clear hx9
  try clear qi9
  try clear p5
  try clear p7
  try clear p9
  try clear q5
  try clear q7
  try clear q9
  obtain ⟨kq,x26_1,rfl,HA,HJ1,HB⟩:=hcut
  cases kq with
  | zero=>exact absurd HA.out (by simp [spec_l06Step.j0])
  | succ kj1=>
   have H:=HA.out
   clear HA
   simp only [spec_l06Step.j0] at H
   by_cases c10:x26_1=true
   ·subst c10
    have H1:(some ((⟨#[]⟩:ByteArray),(⟨#[]⟩:ByteArray),0,false))=some (r1,r2,r3,r4):=by rw [if_pos rfl] at H;exact H
    clear H
    have H:=H1
    clear H1
    simp only [Option.some.injEq,Prod.mk.injEq] at H
    obtain ⟨rfl,rfl,rfl,rfl⟩:=H
    go_wp2
    repeat (go_quiet (fail);try go_wp2)
    refine bodyPost_ret (results_list (rs:=[.tmp 2,.tmp 3,.tmp 4,.tmp 5]) rfl (by simp) (.tmp (.tmp (.tmp (.tmp .nil))))) rfl ?_
    all_goals exact ⟨by rfl,by repeat (first | (with_reducible first | exact HB.out | apply below_alloc | apply pw_below_drewN | apply below_drew1) | exact HB.out)⟩
   ·replace c10:=Bool.eq_false_iff.mpr c10
    subst c10
    have H1:(if 0<(a0.size:Int) then (if (bt a0 0)=45 then (if 1≤(a0.size:Int) then (some (a0.extract 1 a0.size,(⟨#[]⟩:ByteArray),0,true)) else (none)) else (spec_l06Step.l0 kj1 a0 1)) else (none))=some (r1,r2,r3,r4):=by rw [if_neg (show ¬ (false=true) by decide)] at H;exact H
    clear H
    have H:=H1
    clear H1
    by_cases c11:0<(a0.size:Int)
    ·rw [if_pos c11] at H
     have c11b0:decide (0<(a0.size:Int))=true:=decide_eq_true c11
     have c11b1:decide (0<a0.size)=true:=decide_eq_true (by omega)
     clear c11
     by_cases c13:(bt a0 0)=45
     ·rw [if_pos c13] at H
      have c13b0:((bt a0 0) == 45)=true:=beq_iff_eq.mpr c13
      have c13b1:((bt a0 0) != 45)=false:=bne_eq_false_iff_eq.mpr c13
      clear c13
      by_cases c14:1≤(a0.size:Int)
      ·rw [if_pos c14] at H
       have c14b0:=eq_true c14
       have c14b1:decide (1≤(a0.size:Int))=true:=decide_eq_true c14
       clear c14
       simp only [Option.some.injEq,Prod.mk.injEq] at H
       obtain ⟨rfl,rfl,rfl,rfl⟩:=H
       have p12:0≤(0:Int):=(by omega)
       have q12:0<a0.size:=(by have:(0:Int)<(a0.size:Int):=of_decide_eq_true (by first | (with_reducible assumption) | assumption);omega)
       have hx12:∀ h:0<a0.size,((a0[0]'h).toNat:Int)=bt a0 0:=bt_at a0 0
       clear p12
       have qi12:(0<(a0.size:Int))=True:=eq_true (of_decide_eq_true (by first | (with_reducible assumption) | assumption))
       replace q12:=eq_true q12
       go_wp2
       repeat (go_quiet (fail);try go_wp2)
       refine bodyPost_ret (results_list (rs:=[.tmp 2,.tmp 3,.tmp 4,.tmp 5]) rfl (by simp) (.tmp (.tmp (.tmp (.tmp .nil))))) rfl ?_
       all_goals exact ⟨by rfl,by repeat (first | (with_reducible first | exact HB.out | apply below_alloc | apply pw_below_drewN | apply below_drew1) | exact HB.out)⟩
      ·rw [if_neg c14] at H
       exact absurd H (by simp)
     ·rw [if_neg c13] at H
      have c13b0:((bt a0 0) == 45)=false:=beq_eq_false_iff_ne.mpr c13
      have c13b1:((bt a0 0) != 45)=true:=bne_iff_ne.mpr c13
      have H':=Aside0.mk H
      clear H
      have p12:0≤(0:Int):=(by omega)
      have q12:0<a0.size:=(by have:(0:Int)<(a0.size:Int):=of_decide_eq_true (by first | (with_reducible assumption) | assumption);omega)
      have hx12:∀ h:0<a0.size,((a0[0]'h).toNat:Int)=bt a0 0:=bt_at a0 0
      clear p12
      have qi12:(0<(a0.size:Int))=True:=eq_true (of_decide_eq_true (by first | (with_reducible assumption) | assumption))
      replace q12:=eq_true q12
      go_wp2
      repeat (go_quiet (fail);try go_wp2)
      go_loopg [6] kj1 (fun kq v6 w'=>∃ (x6_2:Int),v6=.int .i64 x6_2∧Aside0 (spec_l06Step.l0 kq a0 x6_2=some (r1,r2,r3,r4))∧Aside0 (kq≤kj1)∧Aside0 (Below w.heap.size w w'))
      case atStart=>exact ⟨(1),(by first | rfl | (simp;done) | (simp [*];done)),H',⟨Nat.le_refl _⟩,⟨by repeat (first | (with_reducible first | exact HB.out | apply below_alloc | apply pw_below_drewN | apply below_drew1) | exact HB.out)⟩⟩
      case round=>
       clear H'
       try clear c1
       try clear p1
       try clear q1
       try clear hx1
       try clear qi1
       try clear p2
       try clear c3
       try clear c3b0
       try clear c3b1
       try clear c4
       try clear c4b0
       try clear c4b1
       try clear p5
       try clear q5
       try clear hx5
       try clear qi5
       try clear c6
       try clear c6b0
       try clear c6b1
       try clear p7
       try clear q7
       try clear hx7
       try clear qi7
       try clear c8
       try clear c8b0
       try clear c8b1
       try clear p9
       try clear q9
       try clear hx9
       try clear qi9
       try clear c10
       try clear c11
       try clear c11b0
       try clear c11b1
       try clear p12
       try clear q12
       try clear hx12
       try clear qi12
       try clear c13
       try clear c13b0
       try clear c13b1
       try clear c14
       try clear c14b0
       try clear c14b1
       try clear p12
       try clear p2
       try clear p5
       try clear p7
       try clear p9
       try clear q12
       try clear q5
       try clear q7
       try clear q9
       obtain ⟨x6_2,rfl,HA,HK2,HB⟩:=hrel
       cases gk with
       | zero=>exact absurd HA.out (by simp [spec_l06Step.l0])
       | succ k2=>
        have H:=HA.out
        clear HA
        simp only [spec_l06Step.l0] at H
        by_cases c15:x6_2<(a0.size:Int)
        ·rw [if_pos c15] at H
         have c15b0:decide (x6_2<(a0.size:Int))=true:=decide_eq_true c15
         clear c15
         have HC16:=Aside0.mk H
         clear H
         go_upto_region 8 with (fail)
         repeat (go_quiet (fail);go_upto_region 8 with (fail))
         go_cut [46] (fun v46 wc=>∃ (kq:Nat) (x46_15:Bool),v46=.bool x46_15∧Aside0 (spec_l06Step.j2 kq a0 x6_2 x46_15=some (r1,r2,r3,r4))∧Aside0 (kq≤k2)∧Aside0 (Below w.heap.size w wc))
         case first=>
          have H:=HC16.out
          clear HC16
          by_cases c17:0≤x6_2
          ·rw [if_pos c17] at H
           have c17b0:decide (0≤x6_2)=true:=decide_eq_true c17
           clear c17
           (first | rw [c17b0] | (simp only [i64_w,i32_w];rw [c17b0]) | skip)
           by_cases c19:(bt a0 x6_2)=58
           ·rw [if_pos c19] at H
            have c19b0:((bt a0 x6_2) == 58)=true:=beq_iff_eq.mpr c19
            have c19b1:((bt a0 x6_2) != 58)=false:=bne_eq_false_iff_eq.mpr c19
            clear c19
            by_cases c20:0<(a0.size:Int)
            ·rw [if_pos c20] at H
             have c20b0:decide (0<(a0.size:Int))=true:=decide_eq_true c20
             have c20b1:decide (0<a0.size)=true:=decide_eq_true (by omega)
             clear c20
             have H':=Aside0.mk H
             clear H
             have p18:0≤(x6_2:Int):=of_decide_eq_true (by first | (with_reducible assumption) | assumption)
             have q18:x6_2<(a0.size:Int):=of_decide_eq_true (by first | (with_reducible assumption) | assumption)
             have hx18:=bt_at a0 x6_2
             replace p18:=eq_true p18
             replace q18:=eq_true q18
             have p21:0≤(0:Int):=(by omega)
             have q21:0<a0.size:=(by have:(0:Int)<(a0.size:Int):=of_decide_eq_true (by first | (with_reducible assumption) | assumption);omega)
             have hx21:∀ h:0<a0.size,((a0[0]'h).toNat:Int)=bt a0 0:=bt_at a0 0
             clear p21
             have qi21:(0<(a0.size:Int))=True:=eq_true (of_decide_eq_true (by first | (with_reducible assumption) | assumption))
             replace q21:=eq_true q21
             go_wp2
             repeat (go_quiet (fail);try go_wp2)
             go_meet
             case rel=>exact ⟨_,(((bt a0 0) == 62)),(by first | rfl | (simp;done) | (simp [*];done)),H',⟨by have:=HJ1.out;have:=HK2.out;first | omega | exact Nat.le_refl _⟩,⟨by repeat (first | (with_reducible first | exact HB.out | apply below_alloc | apply pw_below_drewN | apply below_drew1) | exact HB.out)⟩⟩
            ·rw [if_neg c20] at H
             exact absurd H (by simp)
           ·rw [if_neg c19] at H
            have c19b0:((bt a0 x6_2) == 58)=false:=beq_eq_false_iff_ne.mpr c19
            have c19b1:((bt a0 x6_2) != 58)=true:=bne_iff_ne.mpr c19
            have H':=Aside0.mk H
            clear H
            have p18:0≤(x6_2:Int):=of_decide_eq_true (by first | (with_reducible assumption) | assumption)
            have q18:x6_2<(a0.size:Int):=of_decide_eq_true (by first | (with_reducible assumption) | assumption)
            have hx18:=bt_at a0 x6_2
            replace p18:=eq_true p18
            replace q18:=eq_true q18
            go_wp2
            repeat (go_quiet (fail);try go_wp2)
            go_meet
            case rel=>exact ⟨_,(false),(by first | rfl | (simp;done) | (simp [*];done)),H',⟨by have:=HJ1.out;have:=HK2.out;first | omega | exact Nat.le_refl _⟩,⟨by repeat (first | (with_reducible first | exact HB.out | apply below_alloc | apply pw_below_drewN | apply below_drew1) | exact HB.out)⟩⟩
          ·rw [if_neg c17] at H
           exact absurd H (by simp)
         case rest=>
          clear HC16
          try clear c1
          try clear p1
          try clear q1
          try clear hx1
          try clear qi1
          try clear c2
          try clear p2
          try clear q2
          try clear hx2
          try clear qi2
          try clear c3
          try clear c3b0
          try clear c3b1
          try clear c4
          try clear c4b0
          try clear c4b1
          try clear p5
          try clear q5
          try clear hx5
          try clear qi5
          try clear c6
          try clear c6b0
          try clear c6b1
          try clear p7
          try clear q7
          try clear hx7
          try clear qi7
          try clear c8
          try clear c8b0
          try clear c8b1
          try clear p9
          try clear q9
          try clear hx9
          try clear qi9
          try clear c10
          try clear c11
          try clear c11b0
          try clear c11b1
          try clear p12
          try clear q12
          try clear hx12
          try clear qi12
          try clear c13
          try clear c13b0
          try clear c13b1
          try clear c14
          try clear c14b0
          try clear c14b1
          try clear c15
          try clear c15b0
          try clear c17
          try clear c17b0
          try clear p18
          try clear q18
          try clear hx18
          try clear c19
          try clear c19b0
          try clear c19b1
          try clear c20
          try clear c20b0
          try clear c20b1
          try clear p21
          try clear q21
          try clear hx21
          try clear qi21
          try clear p1
          try clear p12
          try clear p18
          try clear p2
          try clear p21
          try clear p5
          try clear p7
          try clear p9
          try clear q1
          try clear q12
          try clear q18
          try clear q21
          try clear q5
          try clear q7
          try clear q9
          obtain ⟨kq,x46_15,rfl,HA,HJ15,HB⟩:=hcut
          cases kq with
          | zero=>exact absurd HA.out (by simp [spec_l06Step.j2])
          | succ kj15=>
           have H:=HA.out
           clear HA
           simp only [spec_l06Step.j2] at H
           by_cases c22:x46_15=true
           ·subst c22
            have H1:(if 1≤x6_2 then (if x6_2≤(a0.size:Int) then (if 0≤(wrap64 (x6_2+1)) then (if (wrap64 (x6_2+1))≤(a0.size:Int) then ((spec_NameOk.f kj15 (a0.extract ((wrap64 (x6_2+1)):Int).toNat a0.size)).bind fun t147=>(if t147=true then (some (a0.extract 1 (x6_2:Int).toNat,a0.extract ((wrap64 (x6_2+1)):Int).toNat a0.size,0,((a0.extract 1 (x6_2:Int).toNat).toList != (a0.extract ((wrap64 (x6_2+1)):Int).toNat a0.size).toList))) else (some (a0.extract 1 (x6_2:Int).toNat,a0.extract ((wrap64 (x6_2+1)):Int).toNat a0.size,0,false)))) else (none)) else (none)) else (none)) else (none))=some (r1,r2,r3,r4):=by rw [if_pos rfl] at H;exact H
            clear H
            have H:=H1
            clear H1
            by_cases c23:1≤x6_2
            ·rw [if_pos c23] at H
             have c23b0:=eq_true c23
             have c23b1:decide (1≤x6_2)=true:=decide_eq_true c23
             clear c23
             by_cases c24:x6_2≤(a0.size:Int)
             ·rw [if_pos c24] at H
              have c24b0:=eq_true c24
              have c24b1:decide (x6_2≤(a0.size:Int))=true:=decide_eq_true c24
              clear c24
              obtain ⟨ji25,hji25⟩:∃ j_:Int,(wrap64 (x6_2+1))=j_:=⟨_,rfl⟩
              replace H:(if 0≤(ji25) then (if (ji25)≤(a0.size:Int) then ((spec_NameOk.f kj15 (a0.extract ((ji25):Int).toNat a0.size)).bind fun t147=>(if t147=true then (some (a0.extract 1 (x6_2:Int).toNat,a0.extract ((ji25):Int).toNat a0.size,0,((a0.extract 1 (x6_2:Int).toNat).toList != (a0.extract ((ji25):Int).toNat a0.size).toList))) else (some (a0.extract 1 (x6_2:Int).toNat,a0.extract ((ji25):Int).toNat a0.size,0,false)))) else (none)) else (none))=some (r1,r2,r3,r4):=by first | (rw [hji25] at H;exact H) | (simp only [hji25] at H ⊢;exact H)
              have hji25w:(IntKind.i64.wrap (x6_2+1))=ji25:=(i64_w _).trans hji25
              by_cases c26:0≤(ji25)
              ·rw [if_pos c26] at H
               have c26b0:=eq_true c26
               have c26b1:decide (0≤(ji25))=true:=decide_eq_true c26
               clear c26
               by_cases c27:(ji25)≤(a0.size:Int)
               ·rw [if_pos c27] at H
                have c27b0:=eq_true c27
                have c27b1:decide ((ji25)≤(a0.size:Int))=true:=decide_eq_true c27
                clear c27
                have c28b0:=eq_true (of_decide_eq_true (by first | (with_reducible assumption) | assumption):0≤(ji25))
                have c29b0:=eq_true (of_decide_eq_true (by first | (with_reducible assumption) | assumption):(ji25)≤(a0.size:Int))
                obtain ⟨t147,A30,H⟩:=bA H
                replace H:(if t147=true then (some (a0.extract 1 (x6_2:Int).toNat,a0.extract ((ji25):Int).toNat a0.size,0,((a0.extract 1 (x6_2:Int).toNat).toList != (a0.extract ((ji25):Int).toNat a0.size).toList))) else (some (a0.extract 1 (x6_2:Int).toNat,a0.extract ((ji25):Int).toNat a0.size,0,false)))=some (r1,r2,r3,r4):=H
                by_cases c31:t147=true
                ·subst c31
                 have H1:(some (a0.extract 1 (x6_2:Int).toNat,a0.extract ((ji25):Int).toNat a0.size,0,((a0.extract 1 (x6_2:Int).toNat).toList != (a0.extract ((ji25):Int).toNat a0.size).toList)))=some (r1,r2,r3,r4):=by rw [if_pos rfl] at H;exact H
                 clear H
                 have H:=H1
                 clear H1
                 have c32b0:=eq_true (of_decide_eq_true (by first | (with_reducible assumption) | assumption):1≤x6_2)
                 have c33b0:=eq_true (of_decide_eq_true (by first | (with_reducible assumption) | assumption):x6_2≤(a0.size:Int))
                 have c34b0:=eq_true (of_decide_eq_true (by first | (with_reducible assumption) | assumption):0≤(ji25))
                 have c35b0:=eq_true (of_decide_eq_true (by first | (with_reducible assumption) | assumption):(ji25)≤(a0.size:Int))
                 simp only [Option.some.injEq,Prod.mk.injEq] at H
                 obtain ⟨rfl,rfl,rfl,rfl⟩:=H
                 go_wp2_with (first | (go_at_call 58;(with_reducible refine (spec_NameOk.calls kj15 (a0.extract ((ji25):Int).toNat a0.size) true _ A30.out).mono ?_);rintro e w' ⟨rfl,⟨nd,rfl⟩⟩;(try first | exact ⟨rfl,_,World.drewN_drewN _ _ _⟩ | exact ⟨rfl,_,Eq.trans (World.drewN_drewN _ _ _) (congrArg (World.drewN _) (Nat.add_assoc _ _ _))⟩)))
                 repeat (go_quiet (first | (go_at_call 58;(with_reducible refine (spec_NameOk.calls kj15 (a0.extract ((ji25):Int).toNat a0.size) true _ A30.out).mono ?_);rintro e w' ⟨rfl,⟨nd,rfl⟩⟩;(try first | exact ⟨rfl,_,World.drewN_drewN _ _ _⟩ | exact ⟨rfl,_,Eq.trans (World.drewN_drewN _ _ _) (congrArg (World.drewN _) (Nat.add_assoc _ _ _))⟩)));try go_wp2_with (first | (go_at_call 58;(with_reducible refine (spec_NameOk.calls kj15 (a0.extract ((ji25):Int).toNat a0.size) true _ A30.out).mono ?_);rintro e w' ⟨rfl,⟨nd,rfl⟩⟩;(try first | exact ⟨rfl,_,World.drewN_drewN _ _ _⟩ | exact ⟨rfl,_,Eq.trans (World.drewN_drewN _ _ _) (congrArg (World.drewN _) (Nat.add_assoc _ _ _))⟩))))
                 refine bodyPost_ret (results_list (rs:=[.tmp 2,.tmp 3,.tmp 4,.tmp 5]) rfl (by simp) (.tmp (.tmp (.tmp (.tmp .nil))))) rfl ?_
                 all_goals exact ⟨by first | rfl | (simp [errW_none,errW_some] <;> rfl) | (simp only [← hji25];first | rfl | (simp [errW_none,errW_some] <;> rfl)) | (simp [*,errW_none,errW_some] <;> rfl) | (exfalso;simp only [decide_eq_true_eq,decide_eq_false_iff_not] at *;omega),by repeat (first | (with_reducible first | exact HB.out | apply below_alloc | apply pw_below_drewN | apply below_drew1) | exact HB.out)⟩
                ·replace c31:=Bool.eq_false_iff.mpr c31
                 subst c31
                 have H1:(some (a0.extract 1 (x6_2:Int).toNat,a0.extract ((ji25):Int).toNat a0.size,0,false))=some (r1,r2,r3,r4):=by rw [if_neg (show ¬ (false=true) by decide)] at H;exact H
                 clear H
                 have H:=H1
                 clear H1
                 simp only [Option.some.injEq,Prod.mk.injEq] at H
                 obtain ⟨rfl,rfl,rfl,rfl⟩:=H
                 go_wp2_with (first | (go_at_call 58;(with_reducible refine (spec_NameOk.calls kj15 (a0.extract ((ji25):Int).toNat a0.size) false _ A30.out).mono ?_);rintro e w' ⟨rfl,⟨nd,rfl⟩⟩;(try first | exact ⟨rfl,_,World.drewN_drewN _ _ _⟩ | exact ⟨rfl,_,Eq.trans (World.drewN_drewN _ _ _) (congrArg (World.drewN _) (Nat.add_assoc _ _ _))⟩)))
                 repeat (go_quiet (first | (go_at_call 58;(with_reducible refine (spec_NameOk.calls kj15 (a0.extract ((ji25):Int).toNat a0.size) false _ A30.out).mono ?_);rintro e w' ⟨rfl,⟨nd,rfl⟩⟩;(try first | exact ⟨rfl,_,World.drewN_drewN _ _ _⟩ | exact ⟨rfl,_,Eq.trans (World.drewN_drewN _ _ _) (congrArg (World.drewN _) (Nat.add_assoc _ _ _))⟩)));try go_wp2_with (first | (go_at_call 58;(with_reducible refine (spec_NameOk.calls kj15 (a0.extract ((ji25):Int).toNat a0.size) false _ A30.out).mono ?_);rintro e w' ⟨rfl,⟨nd,rfl⟩⟩;(try first | exact ⟨rfl,_,World.drewN_drewN _ _ _⟩ | exact ⟨rfl,_,Eq.trans (World.drewN_drewN _ _ _) (congrArg (World.drewN _) (Nat.add_assoc _ _ _))⟩))))
                 refine bodyPost_ret (results_list (rs:=[.tmp 2,.tmp 3,.tmp 4,.tmp 5]) rfl (by simp) (.tmp (.tmp (.tmp (.tmp .nil))))) rfl ?_
                 all_goals exact ⟨by first | rfl | (simp [errW_none,errW_some] <;> rfl) | (simp only [← hji25];first | rfl | (simp [errW_none,errW_some] <;> rfl)) | (simp [*,errW_none,errW_some] <;> rfl) | (exfalso;simp only [decide_eq_true_eq,decide_eq_false_iff_not] at *;omega),by repeat (first | (with_reducible first | exact HB.out | apply below_alloc | apply pw_below_drewN | apply below_drew1) | exact HB.out)⟩
               ·rw [if_neg c27] at H
                exact absurd H (by simp)
              ·rw [if_neg c26] at H
               exact absurd H (by simp)
             ·rw [if_neg c24] at H
              exact absurd H (by simp)
            ·rw [if_neg c23] at H
             exact absurd H (by simp)
           ·replace c22:=Bool.eq_false_iff.mpr c22
            subst c22
            have H1:(if 0≤x6_2 then (if x6_2<(a0.size:Int) then (if (bt a0 x6_2)=58 then (if 0≤(wrap64 (x6_2+1)) then (if (wrap64 (x6_2+1))≤(a0.size:Int) then ((spec_ReadDecimal.f kj15 (a0.extract ((wrap64 (x6_2+1)):Int).toNat a0.size)).bind fun bt148=>(if 1≤x6_2 then (if x6_2≤(a0.size:Int) then (if bt148.2=true then ((spec_NameOk.f kj15 (a0.extract 1 (x6_2:Int).toNat)).bind fun t150=>(some (a0.extract 1 (x6_2:Int).toNat,(⟨#[]⟩:ByteArray),bt148.1,t150))) else (some (a0.extract 1 (x6_2:Int).toNat,(⟨#[]⟩:ByteArray),bt148.1,false))) else (none)) else (none))) else (none)) else (none)) else (spec_l06Step.l0 kj15 a0 (wrap64 (x6_2+1)))) else (none)) else (none))=some (r1,r2,r3,r4):=by rw [if_neg (show ¬ (false=true) by decide)] at H;exact H
            clear H
            have H:=H1
            clear H1
            by_cases c36:0≤x6_2
            ·rw [if_pos c36] at H
             have c36b0:decide (0≤x6_2)=true:=decide_eq_true c36
             clear c36
             by_cases c37:x6_2<(a0.size:Int)
             ·rw [if_pos c37] at H
              have c37b0:decide (x6_2<(a0.size:Int))=true:=decide_eq_true c37
              clear c37
              by_cases c39:(bt a0 x6_2)=58
              ·rw [if_pos c39] at H
               have c39b0:((bt a0 x6_2) == 58)=true:=beq_iff_eq.mpr c39
               have c39b1:((bt a0 x6_2) != 58)=false:=bne_eq_false_iff_eq.mpr c39
               clear c39
               obtain ⟨ji40,hji40⟩:∃ j_:Int,(wrap64 (x6_2+1))=j_:=⟨_,rfl⟩
               replace H:(if 0≤(ji40) then (if (ji40)≤(a0.size:Int) then ((spec_ReadDecimal.f kj15 (a0.extract ((ji40):Int).toNat a0.size)).bind fun bt148=>(if 1≤x6_2 then (if x6_2≤(a0.size:Int) then (if bt148.2=true then ((spec_NameOk.f kj15 (a0.extract 1 (x6_2:Int).toNat)).bind fun t150=>(some (a0.extract 1 (x6_2:Int).toNat,(⟨#[]⟩:ByteArray),bt148.1,t150))) else (some (a0.extract 1 (x6_2:Int).toNat,(⟨#[]⟩:ByteArray),bt148.1,false))) else (none)) else (none))) else (none)) else (none))=some (r1,r2,r3,r4):=by first | (rw [hji40] at H;exact H) | (simp only [hji40] at H ⊢;exact H)
               have hji40w:(IntKind.i64.wrap (x6_2+1))=ji40:=(i64_w _).trans hji40
               by_cases c41:0≤(ji40)
               ·rw [if_pos c41] at H
                have c41b0:=eq_true c41
                have c41b1:decide (0≤(ji40))=true:=decide_eq_true c41
                clear c41
                by_cases c42:(ji40)≤(a0.size:Int)
                ·rw [if_pos c42] at H
                 have c42b0:=eq_true c42
                 have c42b1:decide ((ji40)≤(a0.size:Int))=true:=decide_eq_true c42
                 clear c42
                 obtain ⟨⟨t148,t149⟩,A43,H⟩:=bA H
                 replace H:(if 1≤x6_2 then (if x6_2≤(a0.size:Int) then (if t149=true then ((spec_NameOk.f kj15 (a0.extract 1 (x6_2:Int).toNat)).bind fun t150=>(some (a0.extract 1 (x6_2:Int).toNat,(⟨#[]⟩:ByteArray),t148,t150))) else (some (a0.extract 1 (x6_2:Int).toNat,(⟨#[]⟩:ByteArray),t148,false))) else (none)) else (none))=some (r1,r2,r3,r4):=H
                 by_cases c44:1≤x6_2
                 ·rw [if_pos c44] at H
                  have c44b0:=eq_true c44
                  have c44b1:decide (1≤x6_2)=true:=decide_eq_true c44
                  clear c44
                  by_cases c45:x6_2≤(a0.size:Int)
                  ·rw [if_pos c45] at H
                   have c45b0:=eq_true c45
                   have c45b1:decide (x6_2≤(a0.size:Int))=true:=decide_eq_true c45
                   clear c45
                   by_cases c46:t149=true
                   ·subst c46
                    have H1:((spec_NameOk.f kj15 (a0.extract 1 (x6_2:Int).toNat)).bind fun t150=>(some (a0.extract 1 (x6_2:Int).toNat,(⟨#[]⟩:ByteArray),t148,t150)))=some (r1,r2,r3,r4):=by rw [if_pos rfl] at H;exact H
                    clear H
                    have H:=H1
                    clear H1
                    have c47b0:=eq_true (of_decide_eq_true (by first | (with_reducible assumption) | assumption):1≤x6_2)
                    have c48b0:=eq_true (of_decide_eq_true (by first | (with_reducible assumption) | assumption):x6_2≤(a0.size:Int))
                    obtain ⟨t150,A49,H⟩:=bA H
                    replace H:(some (a0.extract 1 (x6_2:Int).toNat,(⟨#[]⟩:ByteArray),t148,t150))=some (r1,r2,r3,r4):=H
                    simp only [Option.some.injEq,Prod.mk.injEq] at H
                    obtain ⟨rfl,rfl,rfl,rfl⟩:=H
                    have p38:0≤(x6_2:Int):=of_decide_eq_true (by first | (with_reducible assumption) | assumption)
                    have q38:x6_2<(a0.size:Int):=of_decide_eq_true (by first | (with_reducible assumption) | assumption)
                    have hx38:=bt_at a0 x6_2
                    replace p38:=eq_true p38
                    replace q38:=eq_true q38
                    go_wp2_with (first | (go_at_call 86;(with_reducible refine (spec_ReadDecimal.calls kj15 (a0.extract ((ji40):Int).toNat a0.size) t148 true _ A43.out).mono ?_);rintro e w50 ⟨rfl,hb⟩;have n0_:=Aside0.mk (below_step (by repeat (first | (with_reducible first | exact HB.out | apply below_alloc | apply pw_below_drewN | apply below_drew1) | exact HB.out)) hb);clear HB;have HB:=n0_;clear n0_;(try clear hb);(try clear hb2);(try clear hk);(try clear hi)) | (go_at_call 58;(with_reducible refine (spec_NameOk.calls kj15 (a0.extract 1 (x6_2:Int).toNat) t150 _ A49.out).mono ?_);rintro e w' ⟨rfl,⟨nd,rfl⟩⟩;(try first | exact ⟨rfl,_,World.drewN_drewN _ _ _⟩ | exact ⟨rfl,_,Eq.trans (World.drewN_drewN _ _ _) (congrArg (World.drewN _) (Nat.add_assoc _ _ _))⟩)))
                    repeat (go_quiet (first | (go_at_call 86;(with_reducible refine (spec_ReadDecimal.calls kj15 (a0.extract ((ji40):Int).toNat a0.size) t148 true _ A43.out).mono ?_);rintro e w50 ⟨rfl,hb⟩;have n0_:=Aside0.mk (below_step (by repeat (first | (with_reducible first | exact HB.out | apply below_alloc | apply pw_below_drewN | apply below_drew1) | exact HB.out)) hb);clear HB;have HB:=n0_;clear n0_;(try clear hb);(try clear hb2);(try clear hk);(try clear hi)) | (go_at_call 58;(with_reducible refine (spec_NameOk.calls kj15 (a0.extract 1 (x6_2:Int).toNat) t150 _ A49.out).mono ?_);rintro e w' ⟨rfl,⟨nd,rfl⟩⟩;(try first | exact ⟨rfl,_,World.drewN_drewN _ _ _⟩ | exact ⟨rfl,_,Eq.trans (World.drewN_drewN _ _ _) (congrArg (World.drewN _) (Nat.add_assoc _ _ _))⟩)));try go_wp2_with (first | (go_at_call 86;(with_reducible refine (spec_ReadDecimal.calls kj15 (a0.extract ((ji40):Int).toNat a0.size) t148 true _ A43.out).mono ?_);rintro e w50 ⟨rfl,hb⟩;have n0_:=Aside0.mk (below_step (by repeat (first | (with_reducible first | exact HB.out | apply below_alloc | apply pw_below_drewN | apply below_drew1) | exact HB.out)) hb);clear HB;have HB:=n0_;clear n0_;(try clear hb);(try clear hb2);(try clear hk);(try clear hi)) | (go_at_call 58;(with_reducible refine (spec_NameOk.calls kj15 (a0.extract 1 (x6_2:Int).toNat) t150 _ A49.out).mono ?_);rintro e w' ⟨rfl,⟨nd,rfl⟩⟩;(try first | exact ⟨rfl,_,World.drewN_drewN _ _ _⟩ | exact ⟨rfl,_,Eq.trans (World.drewN_drewN _ _ _) (congrArg (World.drewN _) (Nat.add_assoc _ _ _))⟩))))
                    refine bodyPost_ret (results_list (rs:=[.tmp 2,.tmp 3,.tmp 4,.tmp 5]) rfl (by simp) (.tmp (.tmp (.tmp (.tmp .nil))))) rfl ?_
                    all_goals exact ⟨by first | rfl | (simp [errW_none,errW_some] <;> rfl) | (simp only [← hji40];first | rfl | (simp [errW_none,errW_some] <;> rfl)) | (simp [*,errW_none,errW_some] <;> rfl) | (exfalso;simp only [decide_eq_true_eq,decide_eq_false_iff_not] at *;omega),by repeat (first | (with_reducible first | exact HB.out | apply below_alloc | apply pw_below_drewN | apply below_drew1) | exact HB.out)⟩
                   ·replace c46:=Bool.eq_false_iff.mpr c46
                    subst c46
                    have H1:(some (a0.extract 1 (x6_2:Int).toNat,(⟨#[]⟩:ByteArray),t148,false))=some (r1,r2,r3,r4):=by rw [if_neg (show ¬ (false=true) by decide)] at H;exact H
                    clear H
                    have H:=H1
                    clear H1
                    simp only [Option.some.injEq,Prod.mk.injEq] at H
                    obtain ⟨rfl,rfl,rfl,rfl⟩:=H
                    have p38:0≤(x6_2:Int):=of_decide_eq_true (by first | (with_reducible assumption) | assumption)
                    have q38:x6_2<(a0.size:Int):=of_decide_eq_true (by first | (with_reducible assumption) | assumption)
                    have hx38:=bt_at a0 x6_2
                    replace p38:=eq_true p38
                    replace q38:=eq_true q38
                    go_wp2_with (first | (go_at_call 86;(with_reducible refine (spec_ReadDecimal.calls kj15 (a0.extract ((ji40):Int).toNat a0.size) t148 false _ A43.out).mono ?_);rintro e w51 ⟨rfl,hb⟩;have n0_:=Aside0.mk (below_step (by repeat (first | (with_reducible first | exact HB.out | apply below_alloc | apply pw_below_drewN | apply below_drew1) | exact HB.out)) hb);clear HB;have HB:=n0_;clear n0_;(try clear hb);(try clear hb2);(try clear hk);(try clear hi)))
                    repeat (go_quiet (first | (go_at_call 86;(with_reducible refine (spec_ReadDecimal.calls kj15 (a0.extract ((ji40):Int).toNat a0.size) t148 false _ A43.out).mono ?_);rintro e w51 ⟨rfl,hb⟩;have n0_:=Aside0.mk (below_step (by repeat (first | (with_reducible first | exact HB.out | apply below_alloc | apply pw_below_drewN | apply below_drew1) | exact HB.out)) hb);clear HB;have HB:=n0_;clear n0_;(try clear hb);(try clear hb2);(try clear hk);(try clear hi)));try go_wp2_with (first | (go_at_call 86;(with_reducible refine (spec_ReadDecimal.calls kj15 (a0.extract ((ji40):Int).toNat a0.size) t148 false _ A43.out).mono ?_);rintro e w51 ⟨rfl,hb⟩;have n0_:=Aside0.mk (below_step (by repeat (first | (with_reducible first | exact HB.out | apply below_alloc | apply pw_below_drewN | apply below_drew1) | exact HB.out)) hb);clear HB;have HB:=n0_;clear n0_;(try clear hb);(try clear hb2);(try clear hk);(try clear hi))))
                    refine bodyPost_ret (results_list (rs:=[.tmp 2,.tmp 3,.tmp 4,.tmp 5]) rfl (by simp) (.tmp (.tmp (.tmp (.tmp .nil))))) rfl ?_
                    all_goals exact ⟨by first | rfl | (simp [errW_none,errW_some] <;> rfl) | (simp only [← hji40];first | rfl | (simp [errW_none,errW_some] <;> rfl)) | (simp [*,errW_none,errW_some] <;> rfl) | (exfalso;simp only [decide_eq_true_eq,decide_eq_false_iff_not] at *;omega),by repeat (first | (with_reducible first | exact HB.out | apply below_alloc | apply pw_below_drewN | apply below_drew1) | exact HB.out)⟩
                  ·rw [if_neg c45] at H
                   exact absurd H (by simp)
                 ·rw [if_neg c44] at H
                  exact absurd H (by simp)
                ·rw [if_neg c42] at H
                 exact absurd H (by simp)
               ·rw [if_neg c41] at H
                exact absurd H (by simp)
              ·rw [if_neg c39] at H
               have c39b0:((bt a0 x6_2) == 58)=false:=beq_eq_false_iff_ne.mpr c39
               have c39b1:((bt a0 x6_2) != 58)=true:=bne_iff_ne.mpr c39
               have H':=Aside0.mk H
               clear H
               have p38:0≤(x6_2:Int):=of_decide_eq_true (by first | (with_reducible assumption) | assumption)
               have q38:x6_2<(a0.size:Int):=of_decide_eq_true (by first | (with_reducible assumption) | assumption)
               have hx38:=bt_at a0 x6_2
               replace p38:=eq_true p38
               replace q38:=eq_true q38
               go_wp2
               repeat (go_quiet (fail);try go_wp2)
               go_roundg kj15
               case measure=>have:=HJ1.out;have:=HK2.out;have:=HJ15.out;omega
               case rel=>exact ⟨(wrap64 (x6_2+1)),(by first | rfl | (simp;done) | (simp [*];done)),H',⟨by have:=HJ1.out;have:=HK2.out;have:=HJ15.out;omega⟩,⟨by repeat (first | (with_reducible first | exact HB.out | apply below_alloc | apply pw_below_drewN | apply below_drew1) | exact HB.out)⟩⟩
             ·rw [if_neg c37] at H
              exact absurd H (by simp)
            ·rw [if_neg c36] at H
             exact absurd H (by simp)
        ·rw [if_neg c15] at H
         have c15b0:decide (x6_2<(a0.size:Int))=false:=decide_eq_false c15
         clear c15
         simp only [Option.some.injEq,Prod.mk.injEq] at H
         obtain ⟨rfl,rfl,rfl,rfl⟩:=H
         go_wp2
         repeat (go_quiet (fail);try go_wp2)
         refine bodyPost_ret (results_list (rs:=[.tmp 2,.tmp 3,.tmp 4,.tmp 5]) rfl (by simp) (.tmp (.tmp (.tmp (.tmp .nil))))) rfl ?_
         all_goals exact ⟨by rfl,by repeat (first | (with_reducible first | exact HB.out | apply below_alloc | apply pw_below_drewN | apply below_drew1) | exact HB.out)⟩
    ·rw [if_neg c11] at H
     exact absurd H (by simp)

end Go.Proofs.YthbffdjjmapaaaaGreatDoor.MFnRenamed
