/- Each theorem here says that a call of one Go function answers what the Lean function beside it answers; its conditions stand in it. Written by a program of this session. -/
import Derived.Test.YtokcccejijmkmaaGreatDoorMFnDeedsx0
import Derived.Test.YtokcccejijmkmaaGreatDoorMFnDeedsx3
namespace Go.Proofs.YtokcccejijmkmaaGreatDoor.MFnDeeds
set_option maxHeartbeats 8000000
set_option maxRecDepth 100000
open Go.RowKit Go.Proofs.YtokcccejijmkmaaGreatDoorW.PrintWords Go.Proofs.YtokcccejijmkmaaGreatDoorW.PrintLast Go.Proofs.YtokcccejijmkmaaGreatDoorW.PrintMore
attribute [local go_sem] max2_int min2_int max_two min_two max_three min_three max_four min_four
set_option linter.unusedVariables false
set_option linter.unusedSimpArgs false
def spec_NameOk.l0:Nat→ByteArray→Int→Option (Bool)
 | 0,_,_=>none
 | k+1,x0,x3=>if x3<(x0.size:Int) then (if 0≤x3 then ((spec_l01In.f (wrap64 (bt x0 x3)) 97 122).bind fun t130=>(if t130=true then (spec_NameOk.l0 k x0 (wrap64 (x3+1))) else ((spec_l01In.f (wrap64 (bt x0 x3)) 48 57).bind fun t131=>(if t131=true then (spec_NameOk.l0 k x0 (wrap64 (x3+1))) else (if (wrap64 (bt x0 x3))=46 then (spec_NameOk.l0 k x0 (wrap64 (x3+1))) else (if (wrap64 (bt x0 x3))=45 then (spec_NameOk.l0 k x0 (wrap64 (x3+1))) else (some false))))))) else (none)) else ((spec_l01In.f (x0.size:Int) 1 20).bind fun t129=>(some t129))
def spec_NameOk.f (k:Nat) (a0:ByteArray):Option (Bool):=spec_NameOk.l0 k a0 0
theorem spec_NameOk.mono_l:∀ k,(∀ y0 y1,LeO (spec_NameOk.l0 k y0 y1) (spec_NameOk.l0 (k+1) y0 y1))
 | 0=>fun _ _ r h=>by simp [spec_NameOk.l0] at h
 | k+1=>by
  have ih0:=spec_NameOk.mono_l k
  ·intro y0 y1
   unfold spec_NameOk.l0
   repeat' first | (with_reducible exact ih0 _ _) | (with_reducible exact LeO.refl _) | (with_reducible refine LeO.ite ?_ ?_) | (with_reducible refine LeO.bind ?_ (fun _=>?_))
theorem spec_NameOk.mono:∀ a0 k,LeO (spec_NameOk.f k a0) (spec_NameOk.f (k+1) a0):=by
 intro a0 k
 have ih0:=spec_NameOk.mono_l k
 unfold spec_NameOk.f
 repeat' (with_reducible exact ih0 _ _)
theorem spec_NameOk.calls (k:Nat) (a0:ByteArray) (r:Bool) (w:World) (h:spec_NameOk.f k a0=some r) :
  Calls Tryz.prog 91 #[.string a0] w fun e w'=>e=.returned (.bool r)∧Drawn0 w w':=by
 have H:(spec_NameOk.l0 k a0 0)=some r:=h
 clear h
 have H':=zA H
 clear H
 go_enter Tryz.func91,Tryz.ntmps91
 go_wp2
 go_loopg [3] k (fun kq v3 w'=>∃ (aa:Int),v3=.int .i64 aa∧Aside0 (spec_NameOk.l0 kq a0 aa=some r)∧Aside0 (kq≤k)∧Drawn0 w w')
 case atStart=>exact ⟨(0),(by rfl),H',⟨Nat.le_refl _⟩,by repeat (exact Drawn0.refl _)⟩
 case round=>
  clear H'
  obtain ⟨aa,rfl,HA,HK1,⟨m1,rfl⟩⟩:=hrel
  cases gk with
  | zero=>exact absurd HA.out (by simp [spec_NameOk.l0])
  | succ k1=>
   have H:=HA.out
   clear HA
   simp only [spec_NameOk.l0] at H
   by_cases c2:aa<(a0.size:Int)
   ·rw [if_pos c2] at H
    have ad:decide (aa<(a0.size:Int))=true:=zt c2
    clear c2
    by_cases c3:0≤aa
    ·rw [if_pos c3] at H
     have c3b0:decide (0≤aa)=true:=zt c3
     clear c3
     obtain ⟨t130,A5,H⟩:=bA H
     replace H:(if t130=true then (spec_NameOk.l0 k1 a0 (wrap64 (aa+1))) else ((spec_l01In.f (wrap64 (bt a0 aa)) 48 57).bind fun t131=>(if t131=true then (spec_NameOk.l0 k1 a0 (wrap64 (aa+1))) else (if (wrap64 (bt a0 aa))=46 then (spec_NameOk.l0 k1 a0 (wrap64 (aa+1))) else (if (wrap64 (bt a0 aa))=45 then (spec_NameOk.l0 k1 a0 (wrap64 (aa+1))) else (some false))))))=some r:=H
     by_cases c6:t130=true
     ·subst c6
      have H1:(spec_NameOk.l0 k1 a0 (wrap64 (aa+1)))=some r:=by rw [if_pos rfl] at H;exact H
      clear H
      have H:=H1
      clear H1
      have H':=zA H
      clear H
      have p4:0≤(aa:Int):=ze
      have q4:aa<(a0.size:Int):=ze
      have hx4:=bt_at a0 aa
      replace p4:=eq_true p4
      replace q4:=eq_true q4
      go_wp2_with (((with_reducible refine gate_callee (f:=51) rfl ?_);refine goesL_ (some 16) rfl rfl Tryz.func51 (by kernel_rfl) rfl #[.int .i64 (wrap64 (bt a0 aa)),.int .i64 97,.int .i64 122] rfl (by (try simp only [List.map_toArray,List.map_cons,List.map_nil]);rfl) ?_;(with_reducible refine (spec_l01In.calls (wrap64 (bt a0 aa)) 97 122 true _ A5.out).mono ?_);rintro e w' ⟨rfl,⟨nd,rfl⟩⟩;refine ⟨_,rfl,?_⟩))
      go_roundg k1
      case measure=>have:=HK1.out;omega
      case rel=>exact ⟨(wrap64 (aa+1)),(by rfl),H',⟨by have:=HK1.out;omega⟩,by repeat (first | exact Drawn0.refl _ | apply Drawn0.step)⟩
     ·replace c6:=Bool.eq_false_iff.mpr c6
      subst c6
      have H1:((spec_l01In.f (wrap64 (bt a0 aa)) 48 57).bind fun t131=>(if t131=true then (spec_NameOk.l0 k1 a0 (wrap64 (aa+1))) else (if (wrap64 (bt a0 aa))=46 then (spec_NameOk.l0 k1 a0 (wrap64 (aa+1))) else (if (wrap64 (bt a0 aa))=45 then (spec_NameOk.l0 k1 a0 (wrap64 (aa+1))) else (some false)))))=some r:=by rw [if_neg (show ¬ (false=true) by decide)] at H;exact H
      clear H
      have H:=H1
      clear H1
      obtain ⟨t131,A7,H⟩:=bA H
      replace H:(if t131=true then (spec_NameOk.l0 k1 a0 (wrap64 (aa+1))) else (if (wrap64 (bt a0 aa))=46 then (spec_NameOk.l0 k1 a0 (wrap64 (aa+1))) else (if (wrap64 (bt a0 aa))=45 then (spec_NameOk.l0 k1 a0 (wrap64 (aa+1))) else (some false))))=some r:=H
      by_cases c8:t131=true
      ·subst c8
       have H1:(spec_NameOk.l0 k1 a0 (wrap64 (aa+1)))=some r:=by rw [if_pos rfl] at H;exact H
       clear H
       have H:=H1
       clear H1
       have H':=zA H
       clear H
       have p4:0≤(aa:Int):=ze
       have q4:aa<(a0.size:Int):=ze
       have hx4:=bt_at a0 aa
       replace p4:=eq_true p4
       replace q4:=eq_true q4
       go_wp2_with (first | ((with_reducible refine gate_callee (f:=51) rfl ?_);refine goesL_ (some 16) rfl rfl Tryz.func51 (by kernel_rfl) rfl #[.int .i64 (wrap64 (bt a0 aa)),.int .i64 97,.int .i64 122] rfl (by (try simp only [List.map_toArray,List.map_cons,List.map_nil]);rfl) ?_;(with_reducible refine (spec_l01In.calls (wrap64 (bt a0 aa)) 97 122 false _ A5.out).mono ?_);rintro e w' ⟨rfl,⟨nd,rfl⟩⟩;refine ⟨_,rfl,?_⟩) | (go_at_call 51;(with_reducible refine (spec_l01In.calls (wrap64 (bt a0 aa)) 48 57 true _ A7.out).mono ?_);rintro e w' ⟨rfl,⟨nd,rfl⟩⟩))
       go_roundg k1
       case measure=>have:=HK1.out;omega
       case rel=>exact ⟨(wrap64 (aa+1)),(by rfl),H',⟨by have:=HK1.out;omega⟩,by repeat (first | exact Drawn0.refl _ | apply Drawn0.step)⟩
      ·replace c8:=Bool.eq_false_iff.mpr c8
       subst c8
       have H1:(if (wrap64 (bt a0 aa))=46 then (spec_NameOk.l0 k1 a0 (wrap64 (aa+1))) else (if (wrap64 (bt a0 aa))=45 then (spec_NameOk.l0 k1 a0 (wrap64 (aa+1))) else (some false)))=some r:=by rw [if_neg (show ¬ (false=true) by decide)] at H;exact H
       clear H
       have H:=H1
       clear H1
       by_cases c9:(wrap64 (bt a0 aa))=46
       ·rw [if_pos c9] at H
        have ae:((wrap64 (bt a0 aa)) != 46)=false:=bne_eq_false_iff_eq.mpr c9
        clear c9
        have H':=zA H
        clear H
        have p4:0≤(aa:Int):=ze
        have q4:aa<(a0.size:Int):=ze
        have hx4:=bt_at a0 aa
        replace p4:=eq_true p4
        replace q4:=eq_true q4
        go_wp2_with (first | ((with_reducible refine gate_callee (f:=51) rfl ?_);refine goesL_ (some 16) rfl rfl Tryz.func51 (by kernel_rfl) rfl #[.int .i64 (wrap64 (bt a0 aa)),.int .i64 97,.int .i64 122] rfl (by (try simp only [List.map_toArray,List.map_cons,List.map_nil]);rfl) ?_;(with_reducible refine (spec_l01In.calls (wrap64 (bt a0 aa)) 97 122 false _ A5.out).mono ?_);rintro e w' ⟨rfl,⟨nd,rfl⟩⟩;refine ⟨_,rfl,?_⟩) | (go_at_call 51;(with_reducible refine (spec_l01In.calls (wrap64 (bt a0 aa)) 48 57 false _ A7.out).mono ?_);rintro e w' ⟨rfl,⟨nd,rfl⟩⟩))
        go_roundg k1
        case measure=>have:=HK1.out;omega
        case rel=>exact ⟨(wrap64 (aa+1)),(by rfl),H',⟨by have:=HK1.out;omega⟩,by repeat (first | exact Drawn0.refl _ | apply Drawn0.step)⟩
       ·rw [if_neg c9] at H
        have ae:((wrap64 (bt a0 aa)) != 46)=true:=bne_iff_ne.mpr c9
        by_cases c10:(wrap64 (bt a0 aa))=45
        ·rw [if_pos c10] at H
         have ab:((wrap64 (bt a0 aa)) != 45)=false:=bne_eq_false_iff_eq.mpr c10
         clear c10
         have H':=zA H
         clear H
         have p4:0≤(aa:Int):=ze
         have q4:aa<(a0.size:Int):=ze
         have hx4:=bt_at a0 aa
         replace p4:=eq_true p4
         replace q4:=eq_true q4
         go_wp2_with (first | ((with_reducible refine gate_callee (f:=51) rfl ?_);refine goesL_ (some 16) rfl rfl Tryz.func51 (by kernel_rfl) rfl #[.int .i64 (wrap64 (bt a0 aa)),.int .i64 97,.int .i64 122] rfl (by (try simp only [List.map_toArray,List.map_cons,List.map_nil]);rfl) ?_;(with_reducible refine (spec_l01In.calls (wrap64 (bt a0 aa)) 97 122 false _ A5.out).mono ?_);rintro e w' ⟨rfl,⟨nd,rfl⟩⟩;refine ⟨_,rfl,?_⟩) | (go_at_call 51;(with_reducible refine (spec_l01In.calls (wrap64 (bt a0 aa)) 48 57 false _ A7.out).mono ?_);rintro e w' ⟨rfl,⟨nd,rfl⟩⟩))
         go_roundg k1
         case measure=>have:=HK1.out;omega
         case rel=>exact ⟨(wrap64 (aa+1)),(by rfl),H',⟨by have:=HK1.out;omega⟩,by repeat (first | exact Drawn0.refl _ | apply Drawn0.step)⟩
        ·rw [if_neg c10] at H
         have ab:((wrap64 (bt a0 aa)) != 45)=true:=bne_iff_ne.mpr c10
         obtain rfl:=Option.some.inj H
         have p4:0≤(aa:Int):=ze
         have q4:aa<(a0.size:Int):=ze
         have hx4:=bt_at a0 aa
         replace p4:=eq_true p4
         replace q4:=eq_true q4
         go_wp2_with (first | ((with_reducible refine gate_callee (f:=51) rfl ?_);refine goesL_ (some 16) rfl rfl Tryz.func51 (by kernel_rfl) rfl #[.int .i64 (wrap64 (bt a0 aa)),.int .i64 97,.int .i64 122] rfl (by (try simp only [List.map_toArray,List.map_cons,List.map_nil]);rfl) ?_;(with_reducible refine (spec_l01In.calls (wrap64 (bt a0 aa)) 97 122 false _ A5.out).mono ?_);rintro e w' ⟨rfl,⟨nd,rfl⟩⟩;refine ⟨_,rfl,?_⟩) | (go_at_call 51;(with_reducible refine (spec_l01In.calls (wrap64 (bt a0 aa)) 48 57 false _ A7.out).mono ?_);rintro e w' ⟨rfl,⟨nd,rfl⟩⟩))
         all_goals (go_ret)
         exact ⟨by first | rfl | (simp;done) | (simp [*];done),by repeat (first | exact Drawn0.refl _ | apply Drawn0.step)⟩
    ·rw [if_neg c3] at H
     exact absurd H (by simp)
   ·rw [if_neg c2] at H
    have ad:decide (aa<(a0.size:Int))=false:=zf c2
    clear c2
    obtain ⟨t129,A11,H⟩:=bA H
    replace H:(some t129)=some r:=H
    obtain rfl:=Option.some.inj H
    go_wp2_with (((with_reducible refine gate_callee (f:=51) rfl ?_);refine goesL_ (some 33) rfl rfl Tryz.func51 (by kernel_rfl) rfl #[.int .i64 (a0.size:Int),.int .i64 1,.int .i64 20] rfl (by (try simp only [List.map_toArray,List.map_cons,List.map_nil]);rfl) ?_;(with_reducible refine (spec_l01In.calls (a0.size:Int) 1 20 t129 _ A11.out).mono ?_);rintro e w' ⟨rfl,⟨nd,rfl⟩⟩;refine ⟨_,rfl,?_⟩))
    all_goals (go_ret)
    exact ⟨by first | rfl | (simp;done) | (simp [*];done),by repeat (first | exact Drawn0.refl _ | apply Drawn0.step)⟩
def spec_l01Figure.f (a0:Int):Option (Int):=if a0<10 then (some ((wrap64 (48+a0)) % 256)) else (some ((wrap64 ((wrap64 (97+a0))-10)) % 256))
theorem spec_l01Figure.calls (a0:Int) (r:Int) (w:World) (h:spec_l01Figure.f a0=some r) :
  Calls Tryz.prog 116 #[.int .i64 a0] w fun e w'=>e=.returned (.int .u8 r)∧Drawn0 w w':=by
 have H:(if a0<10 then (some ((wrap64 (48+a0)) % 256)) else (some ((wrap64 ((wrap64 (97+a0))-10)) % 256)))=some r:=h
 clear h
 by_cases c2:a0<10
 ·rw [if_pos c2] at H
  have aa:decide (a0<10)=true:=zt c2
  clear c2
  obtain rfl:=Option.some.inj H
  go_enter Tryz.func116,Tryz.ntmps116
  go_wp2
  all_goals (go_ret)
  exact ⟨by first | rfl | (simp;done) | (simp [*];done),by repeat (exact Drawn0.refl _)⟩
 ·rw [if_neg c2] at H
  have aa:decide (a0<10)=false:=zf c2
  clear c2
  obtain rfl:=Option.some.inj H
  go_enter Tryz.func116,Tryz.ntmps116
  go_wp2
  all_goals (go_ret)
  exact ⟨by first | rfl | (simp;done) | (simp [*];done),by repeat (exact Drawn0.refl _)⟩
def spec_Decimal.l0:Nat→Int→Bool→ByteArray→Option (ByteArray)
 | 0,_,_,_=>none
 | k+1,x0,x3,x4=>if x0=0 then (if x3=true then (if 1+x4.size≤9223372036854775807 then (some ((⟨#[45]⟩:ByteArray)++x4)) else (none)) else (some x4)) else (if (Int.tmod x0 10)<0 then ((spec_l01Figure.f (wrap64 (-(Int.tmod x0 10)))).bind fun t132=>((some (([t132]:List Int):List Int)).bind fun aa=>(if (strOfNums aa).size+x4.size≤9223372036854775807 then (spec_Decimal.l0 k (wrap64 (Int.tdiv x0 10)) x3 ((strOfNums aa)++x4)) else (none)))) else ((spec_l01Figure.f (Int.tmod x0 10)).bind fun t136=>((some (([t136]:List Int):List Int)).bind fun ab=>(if (strOfNums ab).size+x4.size≤9223372036854775807 then (spec_Decimal.l0 k (wrap64 (Int.tdiv x0 10)) x3 ((strOfNums ab)++x4)) else (none)))))
def spec_Decimal.f (k:Nat) (a0:Int):Option (ByteArray):=if a0=0 then (some (⟨#[48]⟩:ByteArray)) else (spec_Decimal.l0 k a0 (decide (a0<0)) (⟨#[]⟩:ByteArray))
theorem spec_Decimal.mono_l:∀ k,(∀ y0 y1 y2,LeO (spec_Decimal.l0 k y0 y1 y2) (spec_Decimal.l0 (k+1) y0 y1 y2))
 | 0=>fun _ _ _ r h=>by simp [spec_Decimal.l0] at h
 | k+1=>by
  have ih0:=spec_Decimal.mono_l k
  ·intro y0 y1 y2
   unfold spec_Decimal.l0
   repeat' first | (with_reducible exact ih0 _ _ _) | (with_reducible exact LeO.refl _) | (with_reducible refine LeO.ite ?_ ?_) | (with_reducible refine LeO.bind ?_ (fun _=>?_))
theorem spec_Decimal.mono:∀ a0 k,LeO (spec_Decimal.f k a0) (spec_Decimal.f (k+1) a0):=by
 intro a0 k
 have ih0:=spec_Decimal.mono_l k
 unfold spec_Decimal.f
 repeat' first | (with_reducible exact ih0 _ _ _) | (with_reducible exact LeO.refl _) | (with_reducible refine LeO.ite ?_ ?_)
theorem spec_Decimal.calls (k:Nat) (a0:Int) (r:ByteArray) (w:World) (h:spec_Decimal.f k a0=some r) :
  Calls Tryz.prog 100 #[.int .i64 a0] w fun e w'=>e=.returned (.string r)∧Below w.heap.size w w':=by
 have HB:=zA (Below.refl w.heap.size w)
 have H:(if a0=0 then (some (⟨#[48]⟩:ByteArray)) else (spec_Decimal.l0 k a0 (decide (a0<0)) (⟨#[]⟩:ByteArray)))=some r:=h
 clear h
 by_cases c2:a0=0
 ·rw [if_pos c2] at H
  have aj:(a0 == 0)=true:=beq_iff_eq.mpr c2
  clear c2
  obtain rfl:=Option.some.inj H
  go_enter Tryz.func100,Tryz.ntmps100
  go_wp2
  all_goals (go_ret)
  all_goals exact ⟨by first | rfl | (simp [errW_none,errW_some] <;> rfl) | (simp [*,errW_none,errW_some] <;> rfl) | (exfalso;simp only [decide_eq_true_eq,decide_eq_false_iff_not] at *;omega),by repeat (with_reducible exact HB.out)⟩
 ·rw [if_neg c2] at H
  have aj:(a0 == 0)=false:=beq_eq_false_iff_ne.mpr c2
  have H':=zA H
  clear H
  go_enter Tryz.func100,Tryz.ntmps100
  go_wp2
  go_loopg [0,4] k (fun kq v0 v4 w'=>∃ (aa:Int) (ab:ByteArray),v0=.int .i64 aa∧v4=.string ab∧Aside0 (spec_Decimal.l0 kq aa (decide (a0<0)) ab=some r)∧Aside0 (kq≤k)∧Aside0 (Below w.heap.size w w'))
  case atStart=>exact ⟨(a0),(⟨#[]⟩:ByteArray),(by rfl),(by rfl),H',⟨Nat.le_refl _⟩,⟨by repeat (with_reducible exact HB.out)⟩⟩
  case round=>
   clear H'
   try clear c1
   try clear c2
   try clear aj
   try skip
   try clear p2
   obtain ⟨aa,ab,rfl,rfl,HA,HK1,HB⟩:=hrel
   cases gk with
   | zero=>exact absurd HA.out (by simp [spec_Decimal.l0])
   | succ k1=>
    have H:=HA.out
    clear HA
    simp only [spec_Decimal.l0] at H
    by_cases c3:aa=0
    ·rw [if_pos c3] at H
     have aq:(aa != 0)=false:=bne_eq_false_iff_eq.mpr c3
     clear c3
     by_cases c4:(decide (a0<0))=true
     ·rw [if_pos c4] at H
      have ar:(decide (a0<0))=true:=c4
      clear c4
      by_cases c5:1+ab.size≤9223372036854775807
      ·rw [if_pos c5] at H
       try have c5b2:(9223372036854775807<1+ab.size)=False:=eq_false (Nat.not_lt.2 c5)
       obtain rfl:=Option.some.inj H
       go_wp2
       all_goals (go_ret)
       all_goals exact ⟨by first | rfl | (simp [errW_none,errW_some] <;> rfl) | (simp [*,errW_none,errW_some] <;> rfl) | (exfalso;simp only [decide_eq_true_eq,decide_eq_false_iff_not] at *;omega),by repeat (with_reducible exact HB.out)⟩
      ·rw [if_neg c5] at H
       exact absurd H (by simp)
     ·rw [if_neg c4] at H
      have ar:(decide (a0<0))=false:=by simpa using c4
      clear c4
      obtain rfl:=Option.some.inj H
      go_wp2
      all_goals (first | go_ret | (exfalso;simp only [decide_eq_true_eq,decide_eq_false_iff_not] at *;omega))
      all_goals exact ⟨by first | rfl | (simp [errW_none,errW_some] <;> rfl) | (simp [*,errW_none,errW_some] <;> rfl) | (exfalso;simp only [decide_eq_true_eq,decide_eq_false_iff_not] at *;omega),by repeat (with_reducible exact HB.out)⟩
    ·rw [if_neg c3] at H
     have aq:(aa != 0)=true:=bne_iff_ne.mpr c3
     by_cases c6:(Int.tmod aa 10)<0
     ·rw [if_pos c6] at H
      have au:decide ((Int.tmod aa 10)<0)=true:=zt c6
      clear c6
      obtain ⟨t132,A7,H⟩:=bA H
      replace H:((some (([t132]:List Int):List Int)).bind fun ad=>(if (strOfNums ad).size+ab.size≤9223372036854775807 then (spec_Decimal.l0 k1 (wrap64 (Int.tdiv aa 10)) (decide (a0<0)) ((strOfNums ad)++ab)) else (none)))=some r:=H
      obtain ⟨ad,af⟩:∃ y_:List Int,y_=([t132]:List Int):=⟨_,rfl⟩
      replace H:(if (strOfNums ad).size+ab.size≤9223372036854775807 then (spec_Decimal.l0 k1 (wrap64 (Int.tdiv aa 10)) (decide (a0<0)) ((strOfNums ad)++ab)) else (none))=some r:=by (have H2_:=(Option.bind_some _ _).symm.trans H;rw [af];with_reducible exact H2_)
      have ak:=zA af
      clear af
      by_cases c8:(strOfNums ad).size+ab.size≤9223372036854775807
      ·rw [if_pos c8] at H
       try have c8b2:(9223372036854775807<(strOfNums ad).size+ab.size)=False:=eq_false (Nat.not_lt.2 c8)
       have H':=zA H
       clear H
       go_wp2_with (first | ((with_reducible refine gate_callee (f:=116) rfl ?_);refine goesL_ (some 19) rfl rfl Tryz.func116 (by kernel_rfl) rfl #[.int .i64 (wrap64 (-(Int.tmod aa 10)))] rfl (by (try simp only [List.map_toArray,List.map_cons,List.map_nil]);rfl) ?_;(with_reducible refine (spec_l01Figure.calls (wrap64 (-(Int.tmod aa 10))) t132 _ A7.out).mono ?_);rintro e w' ⟨rfl,⟨nd,rfl⟩⟩;refine ⟨_,rfl,?_⟩) | ((with_reducible refine gate_dst (N:=20) rfl ?_);refine Kd.R_lit (Kd.int .u8) _ 5 ?hg (N:=20) ?hd (xs:=([t132]:List Int)) (inner:=[.int .u8 t132]) (ok:=fun _=>True) (okp:=fun _=>True) ?hr ?hp (fun _ hk=>hk) trivial (Below.refl _ _) (Nat.le_refl _) (by simp) ?_;(case hd=>rfl);(case hg=>rfl);(case hr=>(go_simp;done));(case hp=>exact (Reps.one (show Kd.M (Kd.int .u8) _ _ _ t132 [.int .u8 t132] from rfl) (Reps.none _ _)));intro v134 w9 ah hb hg_ hnew_;clear hg_ hnew_;(rw [← ak.out] at ah);have al:=zA (Kd.R_lower ah (below_size (by repeat (with_reducible first | exact HB.out | apply pw_below_drewN))));replace HB:=zA (below_step (by repeat (with_reducible first | exact HB.out | apply pw_below_drewN)) hb);clear hb ah;have hcv11:=own_string (P:=Tryz.prog) Tryz.underlying22 Tryz.underlying5 Tryz.underlying9 (Kd.own_of_R al.out)))
       go_roundg k1
       case measure=>have:=HK1.out;omega
       case rel=>exact ⟨(wrap64 (Int.tdiv aa 10)),((strOfNums ad)++ab),(by rfl),(by rfl),H',⟨by have:=HK1.out;omega⟩,⟨by repeat (with_reducible exact HB.out)⟩⟩
      ·rw [if_neg c8] at H
       exact absurd H (by simp)
     ·rw [if_neg c6] at H
      have au:decide ((Int.tmod aa 10)<0)=false:=zf c6
      clear c6
      obtain ⟨t136,A12,H⟩:=bA H
      replace H:((some (([t136]:List Int):List Int)).bind fun ae=>(if (strOfNums ae).size+ab.size≤9223372036854775807 then (spec_Decimal.l0 k1 (wrap64 (Int.tdiv aa 10)) (decide (a0<0)) ((strOfNums ae)++ab)) else (none)))=some r:=H
      obtain ⟨ae,ag⟩:∃ y_:List Int,y_=([t136]:List Int):=⟨_,rfl⟩
      replace H:(if (strOfNums ae).size+ab.size≤9223372036854775807 then (spec_Decimal.l0 k1 (wrap64 (Int.tdiv aa 10)) (decide (a0<0)) ((strOfNums ae)++ab)) else (none))=some r:=by (have H2_:=(Option.bind_some _ _).symm.trans H;rw [ag];with_reducible exact H2_)
      have an:=zA ag
      clear ag
      by_cases c13:(strOfNums ae).size+ab.size≤9223372036854775807
      ·rw [if_pos c13] at H
       try have c13b2:(9223372036854775807<(strOfNums ae).size+ab.size)=False:=eq_false (Nat.not_lt.2 c13)
       have H':=zA H
       clear H
       go_wp2_with (first | ((with_reducible refine gate_callee (f:=116) rfl ?_);refine goesL_ (some 19) rfl rfl Tryz.func116 (by kernel_rfl) rfl #[.int .i64 (Int.tmod aa 10)] rfl (by (try simp only [List.map_toArray,List.map_cons,List.map_nil]);rfl) ?_;(with_reducible refine (spec_l01Figure.calls (Int.tmod aa 10) t136 _ A12.out).mono ?_);rintro e w' ⟨rfl,⟨nd,rfl⟩⟩;refine ⟨_,rfl,?_⟩) | ((with_reducible refine gate_dst (N:=20) rfl ?_);refine Kd.R_lit (Kd.int .u8) _ 5 ?hg (N:=20) ?hd (xs:=([t136]:List Int)) (inner:=[.int .u8 t136]) (ok:=fun _=>True) (okp:=fun _=>True) ?hr ?hp (fun _ hk=>hk) trivial (Below.refl _ _) (Nat.le_refl _) (by simp) ?_;(case hd=>rfl);(case hg=>rfl);(case hr=>(go_simp;done));(case hp=>exact (Reps.one (show Kd.M (Kd.int .u8) _ _ _ t136 [.int .u8 t136] from rfl) (Reps.none _ _)));intro v138 w14 ai hb hg_ hnew_;clear hg_ hnew_;(rw [← an.out] at ai);have ao:=zA (Kd.R_lower ai (below_size (by repeat (with_reducible first | exact HB.out | apply pw_below_drewN))));replace HB:=zA (below_step (by repeat (with_reducible first | exact HB.out | apply pw_below_drewN)) hb);clear hb ai;have hcv16:=own_string (P:=Tryz.prog) Tryz.underlying22 Tryz.underlying5 Tryz.underlying9 (Kd.own_of_R ao.out)))
       go_roundg k1
       case measure=>have:=HK1.out;omega
       case rel=>exact ⟨(wrap64 (Int.tdiv aa 10)),((strOfNums ae)++ab),(by rfl),(by rfl),H',⟨by have:=HK1.out;omega⟩,⟨by repeat (with_reducible exact HB.out)⟩⟩
      ·rw [if_neg c13] at H
       exact absurd H (by simp)
def spec_ReadDecimal.l0:Nat→ByteArray→Int→Int→Option (Int×Bool)
 | 0,_,_,_=>none
 | k+1,x0,x4,x5=>if x5<(x0.size:Int) then (if 0≤x5 then (if (bt x0 x5)<48 then (some (0,false)) else (if (bt x0 x5)>57 then (some (0,false)) else (spec_ReadDecimal.l0 k x0 (wrap64 ((wrap64 ((wrap64 (10*x4))+(wrap64 (bt x0 x5))))-48)) (wrap64 (x5+1))))) else (none)) else (if x4>1000000000 then (some (0,false)) else ((spec_Decimal.f k x4).bind fun t140=>(if t140.toList=x0.toList then (some (x4,true)) else (some (0,false)))))
def spec_ReadDecimal.f (k:Nat) (a0:ByteArray):Option (Int×Bool):=if (a0.size:Int)>10 then (some (0,false)) else (spec_ReadDecimal.l0 k a0 0 0)
theorem spec_ReadDecimal.mono_l:∀ k,(∀ y0 y1 y2,LeO (spec_ReadDecimal.l0 k y0 y1 y2) (spec_ReadDecimal.l0 (k+1) y0 y1 y2))
 | 0=>fun _ _ _ r h=>by simp [spec_ReadDecimal.l0] at h
 | k+1=>by
  have ih0:=spec_ReadDecimal.mono_l k
  ·intro y0 y1 y2
   unfold spec_ReadDecimal.l0
   repeat' first | (with_reducible exact ih0 _ _ _) | (with_reducible exact spec_Decimal.mono _ _) | (with_reducible exact LeO.refl _) | (with_reducible refine LeO.ite ?_ ?_) | (with_reducible refine LeO.bind ?_ (fun _=>?_))
theorem spec_ReadDecimal.mono:∀ a0 k,LeO (spec_ReadDecimal.f k a0) (spec_ReadDecimal.f (k+1) a0):=by
 intro a0 k
 have ih0:=spec_ReadDecimal.mono_l k
 unfold spec_ReadDecimal.f
 repeat' first | (with_reducible exact ih0 _ _ _) | (with_reducible exact LeO.refl _) | (with_reducible refine LeO.ite ?_ ?_)
theorem spec_ReadDecimal.calls (k:Nat) (a0:ByteArray) (r1:Int) (r2:Bool) (w:World) (h:spec_ReadDecimal.f k a0=some (r1,r2)) :
  Calls Tryz.prog 112 #[.string a0] w fun e w'=>e=.returned (.tuple #[.int .i64 r1,.bool r2])∧Below w.heap.size w w':=by
 have HB:=zA (Below.refl w.heap.size w)
 have H:(if (a0.size:Int)>10 then (some (0,false)) else (spec_ReadDecimal.l0 k a0 0 0))=some (r1,r2):=h
 clear h
 by_cases c2:(a0.size:Int)>10
 ·rw [if_pos c2] at H
  have ad:decide (10<(a0.size:Int))=true:=zt c2
  clear c2
  simp only [Option.some.injEq,Prod.mk.injEq] at H
  obtain ⟨rfl,rfl⟩:=H
  go_enter Tryz.func112,Tryz.ntmps112
  go_wp2
  all_goals (go_ret2)
  all_goals exact ⟨by rfl,by repeat (with_reducible exact HB.out)⟩
 ·rw [if_neg c2] at H
  have ad:decide (10<(a0.size:Int))=false:=zf c2
  clear c2
  have H':=zA H
  clear H
  go_enter Tryz.func112,Tryz.ntmps112
  go_wp2
  go_loopg [4,5] k (fun kq v4 v5 w'=>∃ (ab:Int) (aa:Int),v4=.int .i64 ab∧v5=.int .i64 aa∧Aside0 (spec_ReadDecimal.l0 kq a0 ab aa=some (r1,r2))∧Aside0 (kq≤k)∧Aside0 (Below w.heap.size w w'))
  case atStart=>exact ⟨(0),(0),(by rfl),(by rfl),H',⟨Nat.le_refl _⟩,⟨by repeat (with_reducible exact HB.out)⟩⟩
  case round=>
   clear H'
   try clear c1
   try clear c2
   try clear ad
   try skip
   try clear p2
   obtain ⟨ab,aa,rfl,rfl,HA,HK1,HB⟩:=hrel
   cases gk with
   | zero=>exact absurd HA.out (by simp [spec_ReadDecimal.l0])
   | succ k1=>
    have H:=HA.out
    clear HA
    simp only [spec_ReadDecimal.l0] at H
    by_cases c3:aa<(a0.size:Int)
    ·rw [if_pos c3] at H
     have ag:decide (aa<(a0.size:Int))=true:=zt c3
     clear c3
     by_cases c4:0≤aa
     ·rw [if_pos c4] at H
      have c4b0:decide (0≤aa)=true:=zt c4
      clear c4
      by_cases c6:(bt a0 aa)<48
      ·rw [if_pos c6] at H
       have ah:decide ((bt a0 aa)<48)=true:=zt c6
       clear c6
       simp only [Option.some.injEq,Prod.mk.injEq] at H
       obtain ⟨rfl,rfl⟩:=H
       have p5:0≤(aa:Int):=ze
       have q5:aa<(a0.size:Int):=ze
       have hx5:=bt_at a0 aa
       replace p5:=eq_true p5
       replace q5:=eq_true q5
       go_wp2
       all_goals (go_ret2)
       all_goals exact ⟨by rfl,by repeat (with_reducible exact HB.out)⟩
      ·rw [if_neg c6] at H
       have ah:decide ((bt a0 aa)<48)=false:=zf c6
       clear c6
       by_cases c8:(bt a0 aa)>57
       ·rw [if_pos c8] at H
        have ai:decide (57<(bt a0 aa))=true:=zt c8
        clear c8
        simp only [Option.some.injEq,Prod.mk.injEq] at H
        obtain ⟨rfl,rfl⟩:=H
        have p5:0≤(aa:Int):=ze
        have q5:aa<(a0.size:Int):=ze
        have hx5:=bt_at a0 aa
        replace p5:=eq_true p5
        replace q5:=eq_true q5
        go_wp2
        all_goals (go_ret2)
        all_goals exact ⟨by rfl,by repeat (with_reducible exact HB.out)⟩
       ·rw [if_neg c8] at H
        have ai:decide (57<(bt a0 aa))=false:=zf c8
        clear c8
        have H':=zA H
        clear H
        have p5:0≤(aa:Int):=ze
        have q5:aa<(a0.size:Int):=ze
        have hx5:=bt_at a0 aa
        replace p5:=eq_true p5
        replace q5:=eq_true q5
        go_wp2
        go_roundg k1
        case measure=>have:=HK1.out;omega
        case rel=>exact ⟨(wrap64 ((wrap64 ((wrap64 (10*ab))+(wrap64 (bt a0 aa))))-48)),(wrap64 (aa+1)),(by rfl),(by rfl),H',⟨by have:=HK1.out;omega⟩,⟨by repeat (with_reducible exact HB.out)⟩⟩
     ·rw [if_neg c4] at H
      exact absurd H (by simp)
    ·rw [if_neg c3] at H
     have ag:decide (aa<(a0.size:Int))=false:=zf c3
     clear c3
     by_cases c10:ab>1000000000
     ·rw [if_pos c10] at H
      have ae:decide (1000000000<ab)=true:=zt c10
      clear c10
      simp only [Option.some.injEq,Prod.mk.injEq] at H
      obtain ⟨rfl,rfl⟩:=H
      go_wp2
      all_goals (go_ret2)
      all_goals exact ⟨by rfl,by repeat (with_reducible exact HB.out)⟩
     ·rw [if_neg c10] at H
      have ae:decide (1000000000<ab)=false:=zf c10
      clear c10
      obtain ⟨t140,A11,H⟩:=bA H
      replace H:(if t140.toList=a0.toList then (some (ab,true)) else (some (0,false)))=some (r1,r2):=H
      by_cases c12:t140.toList=a0.toList
      ·rw [if_pos c12] at H
       have af:(t140.toList == a0.toList)=true:=beq_iff_eq.mpr c12
       clear c12
       simp only [Option.some.injEq,Prod.mk.injEq] at H
       obtain ⟨rfl,rfl⟩:=H
       go_wp2_with ((go_at_call 100;(with_reducible refine (spec_Decimal.calls k1 ab t140 _ A11.out).mono ?_);rintro e w13 ⟨rfl,hb⟩;replace HB:=zs HB hb;(try clear hb)))
       all_goals (go_ret2)
       all_goals exact ⟨by rfl,by repeat (with_reducible exact HB.out)⟩
      ·rw [if_neg c12] at H
       have af:(t140.toList == a0.toList)=false:=beq_eq_false_iff_ne.mpr c12
       simp only [Option.some.injEq,Prod.mk.injEq] at H
       obtain ⟨rfl,rfl⟩:=H
       go_wp2_with ((go_at_call 100;(with_reducible refine (spec_Decimal.calls k1 ab t140 _ A11.out).mono ?_);rintro e w14 ⟨rfl,hb⟩;replace HB:=zs HB hb;(try clear hb)))
       all_goals (go_ret2)
       all_goals exact ⟨by rfl,by repeat (with_reducible exact HB.out)⟩
end Go.Proofs.YtokcccejijmkmaaGreatDoor.MFnDeeds
