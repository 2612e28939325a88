/- Each theorem here says that a call of one Go function answers what the Lean function beside it answers; its conditions stand in it. Written by a program of this session. -/
import Derived.Test.YthbffdjjmapaaaaGreatDoorMFnRenamedx0
import Derived.Test.YthbffdjjmapaaaaGreatDoorMFnRenamedx4
namespace Go.Proofs.YthbffdjjmapaaaaGreatDoor.MFnRenamed
open Go.RowKit Go.Proofs.YthbffdjjmapaaaaGreatDoorW.PrintWords Go.Proofs.YthbffdjjmapaaaaGreatDoorW.PrintLast Go.Proofs.YthbffdjjmapaaaaGreatDoorW.PrintMore
attribute [local go_sem] max2_int min2_int max_two min_two max_three min_three max_four min_four   -- for this text's walks alone
set_option linter.unusedVariables false
set_option linter.unusedSimpArgs false

/-! ### spec_ReadDecimal: function 86 -/
def spec_ReadDecimal.l0:Nat→ByteArray→Int→Int→Option (Int×Bool)
 | 0,_,_,_=>none
 | k+1,x0,x4,x5=>if x5<(x0.size:Int) then (if 0≤x5 then (if (bt x0 x5)<48 then (some (0,false)) else (if (bt x0 x5)>57 then (some (0,false)) else (spec_ReadDecimal.l0 k x0 (wrap64 ((wrap64 ((wrap64 (10*x4))+(wrap64 (bt x0 x5))))-48)) (wrap64 (x5+1))))) else (none)) else (if x4>1000000000 then (some (0,false)) else ((spec_Decimal.f k x4).bind fun t146=>(if t146.toList=x0.toList then (some (x4,true)) else (some (0,false)))))
def spec_ReadDecimal.f (k:Nat) (a0:ByteArray):Option (Int×Bool):=if (a0.size:Int)>10 then (some (0,false)) else (spec_ReadDecimal.l0 k a0 0 0)
theorem spec_ReadDecimal.mono_l:∀ k,(∀ y0 y1 y2,LeO (spec_ReadDecimal.l0 k y0 y1 y2) (spec_ReadDecimal.l0 (k+1) y0 y1 y2))
 | 0=>fun _ _ _ r h=>by simp [spec_ReadDecimal.l0] at h
 | k+1=>by
  have ih0:=spec_ReadDecimal.mono_l k
  ·intro y0 y1 y2
   unfold spec_ReadDecimal.l0
   repeat' first | (with_reducible exact ih0 _ _ _) | (with_reducible exact spec_Decimal.mono _ _) | (with_reducible exact LeO.refl _) | (with_reducible refine LeO.ite ?_ ?_) | (with_reducible refine LeO.bind ?_ (fun _=>?_))
theorem spec_ReadDecimal.mono:∀ a0 k,LeO (spec_ReadDecimal.f k a0) (spec_ReadDecimal.f (k+1) a0):=by
 intro a0 k
 have ih0:=spec_ReadDecimal.mono_l k
 unfold spec_ReadDecimal.f
 repeat' first | (with_reducible exact ih0 _ _ _) | (with_reducible exact LeO.refl _) | (with_reducible refine LeO.ite ?_ ?_)
set_option maxHeartbeats 8000000 in
set_option maxRecDepth 100000 in
theorem spec_ReadDecimal.calls (k:Nat) (a0:ByteArray) (r1:Int) (r2:Bool) (w:World) (h:spec_ReadDecimal.f k a0=some (r1,r2)) :
  Calls Tryz.prog 86 #[.string a0] w fun e w'=>e=.returned (.tuple #[.int .i64 r1,.bool r2])∧Below w.heap.size w w':=by
 have HB:=Aside0.mk (Below.refl w.heap.size w)
 have H:(if (a0.size:Int)>10 then (some (0,false)) else (spec_ReadDecimal.l0 k a0 0 0))=some (r1,r2):=h
 clear h
 by_cases c2:(a0.size:Int)>10
 ·rw [if_pos c2] at H
  have c2b0:decide (10<(a0.size:Int))=true:=decide_eq_true c2
  clear c2
  simp only [Option.some.injEq,Prod.mk.injEq] at H
  obtain ⟨rfl,rfl⟩:=H
  go_enter Tryz.func86,Tryz.ntmps86
  go_wp2
  all_goals (go_ret2)
  all_goals exact ⟨by rfl,by repeat (with_reducible exact HB.out)⟩
 ·rw [if_neg c2] at H
  have c2b0:decide (10<(a0.size:Int))=false:=decide_eq_false c2
  clear c2
  have H':=Aside0.mk H
  clear H
  go_enter Tryz.func86,Tryz.ntmps86
  go_wp2
  go_loopg [4,5] k (fun kq v4 v5 w'=>∃ (x4_1:Int) (x5_1:Int),v4=.int .i64 x4_1∧v5=.int .i64 x5_1∧Aside0 (spec_ReadDecimal.l0 kq a0 x4_1 x5_1=some (r1,r2))∧Aside0 (kq≤k)∧Aside0 (Below w.heap.size w w'))
  case atStart=>exact ⟨(0),(0),(by rfl),(by rfl),H',⟨Nat.le_refl _⟩,⟨by repeat (with_reducible exact HB.out)⟩⟩
  case round=>
   clear H'
   try clear c2
   try clear c2b0
   try skip
   try clear p2
   obtain ⟨x4_1,x5_1,rfl,rfl,HA,HK1,HB⟩:=hrel
   cases gk with
   | zero=>exact absurd HA.out (by simp [spec_ReadDecimal.l0])
   | succ k1=>
    have H:=HA.out
    clear HA
    simp only [spec_ReadDecimal.l0] at H
    by_cases c3:x5_1<(a0.size:Int)
    ·rw [if_pos c3] at H
     have c3b0:decide (x5_1<(a0.size:Int))=true:=decide_eq_true c3
     clear c3
     by_cases c4:0≤x5_1
     ·rw [if_pos c4] at H
      have c4b0:decide (0≤x5_1)=true:=decide_eq_true c4
      clear c4
      by_cases c6:(bt a0 x5_1)<48
      ·rw [if_pos c6] at H
       have c6b0:decide ((bt a0 x5_1)<48)=true:=decide_eq_true c6
       clear c6
       simp only [Option.some.injEq,Prod.mk.injEq] at H
       obtain ⟨rfl,rfl⟩:=H
       have p5:0≤(x5_1:Int):=of_decide_eq_true (by (with_reducible assumption))
       have q5:x5_1<(a0.size:Int):=of_decide_eq_true (by (with_reducible assumption))
       have hx5:=bt_at a0 x5_1
       replace p5:=eq_true p5
       replace q5:=eq_true q5
       go_wp2
       all_goals (go_ret2)
       all_goals exact ⟨by rfl,by repeat (with_reducible exact HB.out)⟩
      ·rw [if_neg c6] at H
       have c6b0:decide ((bt a0 x5_1)<48)=false:=decide_eq_false c6
       clear c6
       by_cases c8:(bt a0 x5_1)>57
       ·rw [if_pos c8] at H
        have c8b0:decide (57<(bt a0 x5_1))=true:=decide_eq_true c8
        clear c8
        simp only [Option.some.injEq,Prod.mk.injEq] at H
        obtain ⟨rfl,rfl⟩:=H
        have p5:0≤(x5_1:Int):=of_decide_eq_true (by (with_reducible assumption))
        have q5:x5_1<(a0.size:Int):=of_decide_eq_true (by (with_reducible assumption))
        have hx5:=bt_at a0 x5_1
        replace p5:=eq_true p5
        replace q5:=eq_true q5
        go_wp2
        all_goals (go_ret2)
        all_goals exact ⟨by rfl,by repeat (with_reducible exact HB.out)⟩
       ·rw [if_neg c8] at H
        have c8b0:decide (57<(bt a0 x5_1))=false:=decide_eq_false c8
        clear c8
        have H':=Aside0.mk H
        clear H
        have p5:0≤(x5_1:Int):=of_decide_eq_true (by (with_reducible assumption))
        have q5:x5_1<(a0.size:Int):=of_decide_eq_true (by (with_reducible assumption))
        have hx5:=bt_at a0 x5_1
        replace p5:=eq_true p5
        replace q5:=eq_true q5
        go_wp2
        go_roundg k1
        case measure=>have:=HK1.out;omega
        case rel=>exact ⟨(wrap64 ((wrap64 ((wrap64 (10*x4_1))+(wrap64 (bt a0 x5_1))))-48)),(wrap64 (x5_1+1)),(by rfl),(by rfl),H',⟨by have:=HK1.out;omega⟩,⟨by repeat (with_reducible exact HB.out)⟩⟩
     ·rw [if_neg c4] at H
      exact absurd H (by simp)
    ·rw [if_neg c3] at H
     have c3b0:decide (x5_1<(a0.size:Int))=false:=decide_eq_false c3
     clear c3
     by_cases c10:x4_1>1000000000
     ·rw [if_pos c10] at H
      have c10b0:decide (1000000000<x4_1)=true:=decide_eq_true c10
      clear c10
      simp only [Option.some.injEq,Prod.mk.injEq] at H
      obtain ⟨rfl,rfl⟩:=H
      go_wp2
      all_goals (go_ret2)
      all_goals exact ⟨by rfl,by repeat (with_reducible exact HB.out)⟩
     ·rw [if_neg c10] at H
      have c10b0:decide (1000000000<x4_1)=false:=decide_eq_false c10
      clear c10
      obtain ⟨t146,A11,H⟩:=bA H
      replace H:(if t146.toList=a0.toList then (some (x4_1,true)) else (some (0,false)))=some (r1,r2):=H
      by_cases c12:t146.toList=a0.toList
      ·rw [if_pos c12] at H
       have c12b0:(t146.toList == a0.toList)=true:=beq_iff_eq.mpr c12
       clear c12
       simp only [Option.some.injEq,Prod.mk.injEq] at H
       obtain ⟨rfl,rfl⟩:=H
       go_wp2_with ((go_at_call 103;(with_reducible refine (spec_Decimal.calls k1 x4_1 t146 _ A11.out).mono ?_);rintro e w13 ⟨rfl,hb⟩;replace HB:=Aside0.mk (below_step HB.out hb);(try clear hb)))
       all_goals (go_ret2)
       all_goals exact ⟨by rfl,by repeat (with_reducible exact HB.out)⟩
      ·rw [if_neg c12] at H
       have c12b0:(t146.toList == a0.toList)=false:=beq_eq_false_iff_ne.mpr c12
       simp only [Option.some.injEq,Prod.mk.injEq] at H
       obtain ⟨rfl,rfl⟩:=H
       go_wp2_with ((go_at_call 103;(with_reducible refine (spec_Decimal.calls k1 x4_1 t146 _ A11.out).mono ?_);rintro e w14 ⟨rfl,hb⟩;replace HB:=Aside0.mk (below_step HB.out hb);(try clear hb)))
       all_goals (go_ret2)
       all_goals exact ⟨by rfl,by repeat (with_reducible exact HB.out)⟩

end Go.Proofs.YthbffdjjmapaaaaGreatDoor.MFnRenamed
