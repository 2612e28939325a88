/- Each theorem here says that a call of one Go function answers what the Lean function beside it answers; its conditions stand in it. Written by a program of this session. -/
import Derived.Test.YthbffdjjmapaaaaGreatDoorMFnRenamedx0
namespace Go.Proofs.YthbffdjjmapaaaaGreatDoor.MFnRenamed
open Go.RowKit Go.Proofs.YthbffdjjmapaaaaGreatDoorW.PrintWords Go.Proofs.YthbffdjjmapaaaaGreatDoorW.PrintLast Go.Proofs.YthbffdjjmapaaaaGreatDoorW.PrintMore
attribute [local go_sem] max2_int min2_int max_two min_two max_three min_three max_four min_four   -- for this text's walks alone
set_option linter.unusedVariables false
set_option linter.unusedSimpArgs false

/-! ### laws_big: function 6 -/
def laws_big.f (l0:List Int):Option (Bool):=some (decide ((l0.length:Int)>1048576))
set_option maxHeartbeats 8000000 in
set_option maxRecDepth 100000 in
theorem laws_big.calls (A0:Option Addr) (c0:Nat) (l0:List Int) (r:Bool) (w:World) (hr0:Kd.C (Kd.int .u8) w A0 l0.length l0) (hc0:l0.length≤c0) (h:laws_big.f l0=some r) :
  Calls Tryz.prog 6 #[.slice A0 l0.length c0] w fun e w'=>e=.returned (.bool r)∧Drawn0 w w':=by
 clear hr0 hc0
 have H:(some (decide ((l0.length:Int)>1048576)))=some r:=h
 clear h
 obtain rfl:=Option.some.inj H
 go_enter Tryz.func6,Tryz.ntmps6
 go_wp2
 all_goals (go_ret)
 exact ⟨by first | rfl | (simp;done) | (simp [*];done),by repeat (exact Drawn0.refl _)⟩

/-! ### spec_UsedOn: function 20 -/
def spec_UsedOn.l0:Nat→Int→Int→List (S38)→List (S64)→List (S64)→List ByteArray→Int→Int→Option (Int)
 | 0,_,_,_,_,_,_,_,_=>none
 | k+1,x3,x4,x102000,x102001,x102002,x102003,x102004,x102005=>if x4<(x102000.length:Int) then (if 0≤x4 then (spec_UsedOn.l0 k (wrap64 (x3+(((rd_T38 x102000 x4).f1).size:Int))) (wrap64 (x4+1)) x102000 x102001 x102002 x102003 x102004 x102005) else (none)) else (some x3)
def spec_UsedOn.f (k:Nat) (l0_0:List (S38)) (l0_1:List (S64)) (l0_2:List (S64)) (l0_3:List ByteArray) (a0_4:Int) (a0_5:Int):Option (Int):=spec_UsedOn.l0 k 0 0 l0_0 l0_1 l0_2 l0_3 a0_4 a0_5
theorem spec_UsedOn.mono_l:∀ k,(∀ y0 y1 y2 y3 y4 y5 y6 y7,LeO (spec_UsedOn.l0 k y0 y1 y2 y3 y4 y5 y6 y7) (spec_UsedOn.l0 (k+1) y0 y1 y2 y3 y4 y5 y6 y7))
 | 0=>fun _ _ _ _ _ _ _ _ r h=>by simp [spec_UsedOn.l0] at h
 | k+1=>by
  have ih0:=spec_UsedOn.mono_l k
  ·intro y0 y1 y2 y3 y4 y5 y6 y7
   unfold spec_UsedOn.l0
   repeat' first | (with_reducible exact ih0 _ _ _ _ _ _ _ _) | (with_reducible exact LeO.refl _) | (with_reducible refine LeO.ite ?_ ?_)
theorem spec_UsedOn.mono:∀ a0 a1 a2 a3 a4 a5 k,LeO (spec_UsedOn.f k a0 a1 a2 a3 a4 a5) (spec_UsedOn.f (k+1) a0 a1 a2 a3 a4 a5):=by
 intro a0 a1 a2 a3 a4 a5 k
 have ih0:=spec_UsedOn.mono_l k
 unfold spec_UsedOn.f
 repeat' (with_reducible exact ih0 _ _ _ _ _ _ _ _)
set_option maxHeartbeats 8000000 in
set_option maxRecDepth 100000 in
theorem spec_UsedOn.calls (k:Nat) (A0_0:Option Addr) (c0_0:Nat) (l0_0:List (S38)) (A0_1:Option Addr) (c0_1:Nat) (l0_1:List (S64)) (A0_2:Option Addr) (c0_2:Nat) (l0_2:List (S64)) (A0_3:Option Addr) (c0_3:Nat) (l0_3:List ByteArray) (a0_4:Int) (a0_5:Int) (r:Int) (w:World) (hr0_0:Kd.C k38 w A0_0 l0_0.length l0_0) (hc0_0:l0_0.length≤c0_0) (hr0_1:Kd.C k64 w A0_1 l0_1.length l0_1) (hc0_1:l0_1.length≤c0_1) (hr0_2:Kd.C k64 w A0_2 l0_2.length l0_2) (hc0_2:l0_2.length≤c0_2) (hr0_3:Kd.C Kd.string w A0_3 l0_3.length l0_3) (hc0_3:l0_3.length≤c0_3) (h:spec_UsedOn.f k l0_0 l0_1 l0_2 l0_3 a0_4 a0_5=some r) :
  Calls Tryz.prog 20 #[.agg #[.slice A0_0 l0_0.length c0_0,.slice A0_1 l0_1.length c0_1,.slice A0_2 l0_2.length c0_2,.slice A0_3 l0_3.length c0_3,.int .i64 a0_4,.int .i64 a0_5]] w fun e w'=>e=.returned (.int .i64 r)∧Below w.heap.size w w':=by
 have HR0_0:=Aside0.mk hr0_0
 clear hr0_0 hc0_0
 clear hr0_1 hc0_1
 clear hr0_2 hc0_2
 clear hr0_3 hc0_3
 have HB:=Aside0.mk (Below.refl w.heap.size w)
 have H:(spec_UsedOn.l0 k 0 0 l0_0 l0_1 l0_2 l0_3 a0_4 a0_5)=some r:=h
 clear h
 have H':=Aside0.mk H
 clear H
 go_enter Tryz.func20,Tryz.ntmps20
 go_wp2_with (((with_reducible refine gate_dst (N:=1) rfl ?_);refine box_event ?hg (N:=1) ?hd (cs:=#[.slice A0_0 l0_0.length c0_0,.slice A0_1 l0_1.length c0_1,.slice A0_2 l0_2.length c0_2,.slice A0_3 l0_3.length c0_3,.int .i64 a0_4,.int .i64 a0_5]) (t:=28) ?hr ?_;(case hd=>rfl);(case hg=>rfl);(case hr=>(go_simp;done));intro gb101 hg w2 hbox hb;have BK101:=Aside0.mk (hbox);replace HB:=Aside0.mk (below_step HB.out hb);clear hb hbox hg))
 go_loopg [3,4] k (fun kq v3 v4 w'=>∃ (x3_1:Int) (x4_1:Int),v3=.int .i64 x3_1∧v4=.int .i64 x4_1∧Aside0 (spec_UsedOn.l0 kq x3_1 x4_1 l0_0 l0_1 l0_2 l0_3 a0_4 a0_5=some r)∧Aside0 (kq≤k)∧Aside0 (w'.heap[gb101]? = some (.cells #[(.slice A0_0 l0_0.length c0_0),(.slice A0_1 l0_1.length c0_1),(.slice A0_2 l0_2.length c0_2),(.slice A0_3 l0_3.length c0_3),.int .i64 a0_4,.int .i64 a0_5] 28 (0,0)))∧Aside0 (Below w.heap.size w w'))
 case atStart=>exact ⟨(0),(0),(by rfl),(by rfl),H',⟨Nat.le_refl _⟩,⟨by exact BK101.out⟩,⟨by repeat (with_reducible exact HB.out)⟩⟩
 case round=>
  clear H'
  try clear c2
  try clear p2
  obtain ⟨x3_1,x4_1,rfl,rfl,HA,HK1,BK101,HB⟩:=hrel
  cases gk with
  | zero=>exact absurd HA.out (by simp [spec_UsedOn.l0])
  | succ k1=>
   have H:=HA.out
   clear HA
   simp only [spec_UsedOn.l0] at H
   by_cases c3:x4_1<(l0_0.length:Int)
   ·rw [if_pos c3] at H
    have c3b0:decide (x4_1<(l0_0.length:Int))=true:=decide_eq_true c3
    clear c3
    by_cases c4:0≤x4_1
    ·rw [if_pos c4] at H
     have c4b0:decide (0≤x4_1)=true:=decide_eq_true c4
     clear c4
     have H':=Aside0.mk H
     clear H
     obtain ⟨hcz5_0,hcz5_1,hcz5_2,hcz5_3,hcz5_4,hcz5_5⟩:=b6of BK101.out
     obtain ⟨hfz5_0,hfz5_1,hfz5_2,hfz5_3,hfz5_4,hfz5_5⟩:=z6of BK101.out
     have p102:0≤(x4_1:Int):=of_decide_eq_true (by (with_reducible assumption))
     have q102:x4_1<(l0_0.length:Int):=of_decide_eq_true (by (with_reducible assumption))
     obtain ⟨ad102,e102,hx102_0,hx102_1,hx102_2⟩:=at_T38 HR0_0.out x4_1 p102 q102
     cases e102
     replace hx102_0:=(HB.out.cell (World.block_lt_of_cell? w _ hx102_0)).trans hx102_0
     replace hx102_1:=(HB.out.cell (World.block_lt_of_cell? w _ hx102_1)).trans hx102_1
     replace hx102_2:=(HB.out.cell (World.block_lt_of_cell? w _ hx102_2)).trans hx102_2
     replace p102:=eq_true p102
     replace q102:=eq_true q102
     go_wp2
     go_roundg k1
     case measure=>have:=HK1.out;omega
     case rel=>exact ⟨(wrap64 (x3_1+(((rd_T38 l0_0 x4_1).f1).size:Int))),(wrap64 (x4_1+1)),(by rfl),(by rfl),H',⟨by have:=HK1.out;omega⟩,⟨by exact BK101.out⟩,⟨by repeat (with_reducible exact HB.out)⟩⟩
    ·rw [if_neg c4] at H
     exact absurd H (by simp)
   ·rw [if_neg c3] at H
    have c3b0:decide (x4_1<(l0_0.length:Int))=false:=decide_eq_false c3
    clear c3
    obtain rfl:=Option.some.inj H
    obtain ⟨hcz6_0,hcz6_1,hcz6_2,hcz6_3,hcz6_4,hcz6_5⟩:=b6of BK101.out
    obtain ⟨hfz6_0,hfz6_1,hfz6_2,hfz6_3,hfz6_4,hfz6_5⟩:=z6of BK101.out
    go_wp2
    all_goals (go_ret)
    all_goals exact ⟨by rfl,by repeat (with_reducible exact HB.out)⟩

/-! ### spec_l06Has: function 57 -/
def spec_l06Has.l0:Nat→List (S64)→ByteArray→Int→Option (Bool)
 | 0,_,_,_=>none
 | k+1,x0,x1,x5=>if x5<(x0.length:Int) then (if 0≤x5 then (if ((rd_T64 x0 x5).f0).toList=x1.toList then (some true) else (spec_l06Has.l0 k x0 x1 (wrap64 (x5+1)))) else (none)) else (some false)
def spec_l06Has.f (k:Nat) (l0:List (S64)) (a1:ByteArray):Option (Bool):=spec_l06Has.l0 k l0 a1 0
theorem spec_l06Has.mono_l:∀ k,(∀ y0 y1 y2,LeO (spec_l06Has.l0 k y0 y1 y2) (spec_l06Has.l0 (k+1) y0 y1 y2))
 | 0=>fun _ _ _ r h=>by simp [spec_l06Has.l0] at h
 | k+1=>by
  have ih0:=spec_l06Has.mono_l k
  ·intro y0 y1 y2
   unfold spec_l06Has.l0
   repeat' first | (with_reducible exact ih0 _ _ _) | (with_reducible exact LeO.refl _) | (with_reducible refine LeO.ite ?_ ?_)
theorem spec_l06Has.mono:∀ a0 a1 k,LeO (spec_l06Has.f k a0 a1) (spec_l06Has.f (k+1) a0 a1):=by
 intro a0 a1 k
 have ih0:=spec_l06Has.mono_l k
 unfold spec_l06Has.f
 repeat' (with_reducible exact ih0 _ _ _)
set_option maxHeartbeats 8000000 in
set_option maxRecDepth 100000 in
theorem spec_l06Has.calls (k:Nat) (A0:Option Addr) (c0:Nat) (l0:List (S64)) (a1:ByteArray) (r:Bool) (w:World) (hr0:Kd.C k64 w A0 l0.length l0) (hc0:l0.length≤c0) (h:spec_l06Has.f k l0 a1=some r) :
  Calls Tryz.prog 57 #[.slice A0 l0.length c0,.string a1] w fun e w'=>e=.returned (.bool r)∧Drawn0 w w':=by
 have HR0:=Aside0.mk hr0
 clear hr0 hc0
 have H:(spec_l06Has.l0 k l0 a1 0)=some r:=h
 clear h
 have H':=Aside0.mk H
 clear H
 go_enter Tryz.func57,Tryz.ntmps57
 go_wp2
 go_loopg [5] k (fun kq v5 w'=>∃ (x5_1:Int),v5=.int .i64 x5_1∧Aside0 (spec_l06Has.l0 kq l0 a1 x5_1=some r)∧Aside0 (kq≤k)∧Drawn0 w w')
 case atStart=>exact ⟨(0),(by rfl),H',⟨Nat.le_refl _⟩,by repeat (exact Drawn0.refl _)⟩
 case round=>
  clear H'
  try clear p2
  obtain ⟨x5_1,rfl,HA,HK1,⟨m1,rfl⟩⟩:=hrel
  cases gk with
  | zero=>exact absurd HA.out (by simp [spec_l06Has.l0])
  | succ k1=>
   have H:=HA.out
   clear HA
   simp only [spec_l06Has.l0] at H
   by_cases c3:x5_1<(l0.length:Int)
   ·rw [if_pos c3] at H
    have c3b0:decide (x5_1<(l0.length:Int))=true:=decide_eq_true c3
    clear c3
    by_cases c4:0≤x5_1
    ·rw [if_pos c4] at H
     have c4b0:decide (0≤x5_1)=true:=decide_eq_true c4
     clear c4
     by_cases c5:((rd_T64 l0 x5_1).f0).toList=a1.toList
     ·rw [if_pos c5] at H
      have c5b0:(((rd_T64 l0 x5_1).f0).toList == a1.toList)=true:=beq_iff_eq.mpr c5
      clear c5
      obtain rfl:=Option.some.inj H
      have p103:0≤(x5_1:Int):=of_decide_eq_true (by (with_reducible assumption))
      have q103:x5_1<(l0.length:Int):=of_decide_eq_true (by (with_reducible assumption))
      obtain ⟨ad103,e103,hx103_0,hx103_1⟩:=at_T64 HR0.out x5_1 p103 q103
      cases e103
      replace p103:=eq_true p103
      replace q103:=eq_true q103
      go_wp2
      all_goals (go_ret)
      exact ⟨by first | rfl | (simp;done) | (simp [*];done),by repeat (first | exact Drawn0.refl _ | apply Drawn0.step)⟩
     ·rw [if_neg c5] at H
      have c5b0:(((rd_T64 l0 x5_1).f0).toList == a1.toList)=false:=beq_eq_false_iff_ne.mpr c5
      have H':=Aside0.mk H
      clear H
      have p103:0≤(x5_1:Int):=of_decide_eq_true (by (with_reducible assumption))
      have q103:x5_1<(l0.length:Int):=of_decide_eq_true (by (with_reducible assumption))
      obtain ⟨ad103,e103,hx103_0,hx103_1⟩:=at_T64 HR0.out x5_1 p103 q103
      cases e103
      replace p103:=eq_true p103
      replace q103:=eq_true q103
      go_wp2
      go_roundg k1
      case measure=>have:=HK1.out;omega
      case rel=>exact ⟨(wrap64 (x5_1+1)),(by rfl),H',⟨by have:=HK1.out;omega⟩,by repeat (first | exact Drawn0.refl _ | apply Drawn0.step)⟩
    ·rw [if_neg c4] at H
     exact absurd H (by simp)
   ·rw [if_neg c3] at H
    have c3b0:decide (x5_1<(l0.length:Int))=false:=decide_eq_false c3
    clear c3
    obtain rfl:=Option.some.inj H
    go_wp2
    all_goals (go_ret)
    exact ⟨by first | rfl | (simp;done) | (simp [*];done),by repeat (first | exact Drawn0.refl _ | apply Drawn0.step)⟩

/-! ### spec_l01In: function 45 -/
def spec_l01In.f (a0:Int) (a1:Int) (a2:Int):Option (Bool):=if a0≥a1 then (some (decide (a0≤a2))) else (some false)
set_option maxHeartbeats 8000000 in
set_option maxRecDepth 100000 in
theorem spec_l01In.calls (a0:Int) (a1:Int) (a2:Int) (r:Bool) (w:World) (h:spec_l01In.f a0 a1 a2=some r) :
  Calls Tryz.prog 45 #[.int .i64 a0,.int .i64 a1,.int .i64 a2] w fun e w'=>e=.returned (.bool r)∧Drawn0 w w':=by
 have H:(if a0≥a1 then (some (decide (a0≤a2))) else (some false))=some r:=h
 clear h
 by_cases c4:a0≥a1
 ·rw [if_pos c4] at H
  have c4b0:decide (a1≤a0)=true:=decide_eq_true c4
  clear c4
  obtain rfl:=Option.some.inj H
  go_enter Tryz.func45,Tryz.ntmps45
  go_wp2
  all_goals (go_ret)
  exact ⟨by first | rfl | (simp;done) | (simp [*];done),by repeat (exact Drawn0.refl _)⟩
 ·rw [if_neg c4] at H
  have c4b0:decide (a1≤a0)=false:=decide_eq_false c4
  clear c4
  obtain rfl:=Option.some.inj H
  go_enter Tryz.func45,Tryz.ntmps45
  go_wp2
  all_goals (go_ret)
  exact ⟨by first | rfl | (simp;done) | (simp [*];done),by repeat (exact Drawn0.refl _)⟩

/-! ### spec_NameOk: function 58 -/
def spec_NameOk.l0:Nat→ByteArray→Int→Option (Bool)
 | 0,_,_=>none
 | k+1,x0,x3=>if x3<(x0.size:Int) then (if 0≤x3 then ((spec_l01In.f (wrap64 (bt x0 x3)) 97 122).bind fun t105=>(if t105=true then (spec_NameOk.l0 k x0 (wrap64 (x3+1))) else ((spec_l01In.f (wrap64 (bt x0 x3)) 48 57).bind fun t106=>(if t106=true then (spec_NameOk.l0 k x0 (wrap64 (x3+1))) else (if (wrap64 (bt x0 x3))=46 then (spec_NameOk.l0 k x0 (wrap64 (x3+1))) else (if (wrap64 (bt x0 x3))=45 then (spec_NameOk.l0 k x0 (wrap64 (x3+1))) else (some false))))))) else (none)) else ((spec_l01In.f (x0.size:Int) 1 20).bind fun t104=>(some t104))
def spec_NameOk.f (k:Nat) (a0:ByteArray):Option (Bool):=spec_NameOk.l0 k a0 0
theorem spec_NameOk.mono_l:∀ k,(∀ y0 y1,LeO (spec_NameOk.l0 k y0 y1) (spec_NameOk.l0 (k+1) y0 y1))
 | 0=>fun _ _ r h=>by simp [spec_NameOk.l0] at h
 | k+1=>by
  have ih0:=spec_NameOk.mono_l k
  ·intro y0 y1
   unfold spec_NameOk.l0
   repeat' first | (with_reducible exact ih0 _ _) | (with_reducible exact LeO.refl _) | (with_reducible refine LeO.ite ?_ ?_) | (with_reducible refine LeO.bind ?_ (fun _=>?_))
theorem spec_NameOk.mono:∀ a0 k,LeO (spec_NameOk.f k a0) (spec_NameOk.f (k+1) a0):=by
 intro a0 k
 have ih0:=spec_NameOk.mono_l k
 unfold spec_NameOk.f
 repeat' (with_reducible exact ih0 _ _)
set_option maxHeartbeats 8000000 in
set_option maxRecDepth 100000 in
theorem spec_NameOk.calls (k:Nat) (a0:ByteArray) (r:Bool) (w:World) (h:spec_NameOk.f k a0=some r) :
  Calls Tryz.prog 58 #[.string a0] w fun e w'=>e=.returned (.bool r)∧Drawn0 w w':=by
 have H:(spec_NameOk.l0 k a0 0)=some r:=h
 clear h
 have H':=Aside0.mk H
 clear H
 go_enter Tryz.func58,Tryz.ntmps58
 go_wp2
 go_loopg [3] k (fun kq v3 w'=>∃ (x3_1:Int),v3=.int .i64 x3_1∧Aside0 (spec_NameOk.l0 kq a0 x3_1=some r)∧Aside0 (kq≤k)∧Drawn0 w w')
 case atStart=>exact ⟨(0),(by rfl),H',⟨Nat.le_refl _⟩,by repeat (exact Drawn0.refl _)⟩
 case round=>
  clear H'
  obtain ⟨x3_1,rfl,HA,HK1,⟨m1,rfl⟩⟩:=hrel
  cases gk with
  | zero=>exact absurd HA.out (by simp [spec_NameOk.l0])
  | succ k1=>
   have H:=HA.out
   clear HA
   simp only [spec_NameOk.l0] at H
   by_cases c2:x3_1<(a0.size:Int)
   ·rw [if_pos c2] at H
    have c2b0:decide (x3_1<(a0.size:Int))=true:=decide_eq_true c2
    clear c2
    by_cases c3:0≤x3_1
    ·rw [if_pos c3] at H
     have c3b0:decide (0≤x3_1)=true:=decide_eq_true c3
     clear c3
     obtain ⟨t105,A5,H⟩:=bA H
     replace H:(if t105=true then (spec_NameOk.l0 k1 a0 (wrap64 (x3_1+1))) else ((spec_l01In.f (wrap64 (bt a0 x3_1)) 48 57).bind fun t106=>(if t106=true then (spec_NameOk.l0 k1 a0 (wrap64 (x3_1+1))) else (if (wrap64 (bt a0 x3_1))=46 then (spec_NameOk.l0 k1 a0 (wrap64 (x3_1+1))) else (if (wrap64 (bt a0 x3_1))=45 then (spec_NameOk.l0 k1 a0 (wrap64 (x3_1+1))) else (some false))))))=some r:=H
     by_cases c6:t105=true
     ·subst c6
      have H1:(spec_NameOk.l0 k1 a0 (wrap64 (x3_1+1)))=some r:=by rw [if_pos rfl] at H;exact H
      clear H
      have H:=H1
      clear H1
      have H':=Aside0.mk H
      clear H
      have p4:0≤(x3_1:Int):=of_decide_eq_true (by (with_reducible assumption))
      have q4:x3_1<(a0.size:Int):=of_decide_eq_true (by (with_reducible assumption))
      have hx4:=bt_at a0 x3_1
      replace p4:=eq_true p4
      replace q4:=eq_true q4
      go_wp2_with (((with_reducible refine gate_callee (f:=45) rfl ?_);refine goesL_ (some 16) rfl rfl Tryz.func45 (by kernel_rfl) rfl #[.int .i64 (wrap64 (bt a0 x3_1)),.int .i64 97,.int .i64 122] rfl (by (try simp only [List.map_toArray,List.map_cons,List.map_nil]);rfl) ?_;(with_reducible refine (spec_l01In.calls (wrap64 (bt a0 x3_1)) 97 122 true _ A5.out).mono ?_);rintro e w' ⟨rfl,⟨nd,rfl⟩⟩;refine ⟨_,rfl,?_⟩))
      go_roundg k1
      case measure=>have:=HK1.out;omega
      case rel=>exact ⟨(wrap64 (x3_1+1)),(by rfl),H',⟨by have:=HK1.out;omega⟩,by repeat (first | exact Drawn0.refl _ | apply Drawn0.step)⟩
     ·replace c6:=Bool.eq_false_iff.mpr c6
      subst c6
      have H1:((spec_l01In.f (wrap64 (bt a0 x3_1)) 48 57).bind fun t106=>(if t106=true then (spec_NameOk.l0 k1 a0 (wrap64 (x3_1+1))) else (if (wrap64 (bt a0 x3_1))=46 then (spec_NameOk.l0 k1 a0 (wrap64 (x3_1+1))) else (if (wrap64 (bt a0 x3_1))=45 then (spec_NameOk.l0 k1 a0 (wrap64 (x3_1+1))) else (some false)))))=some r:=by rw [if_neg (show ¬ (false=true) by decide)] at H;exact H
      clear H
      have H:=H1
      clear H1
      obtain ⟨t106,A7,H⟩:=bA H
      replace H:(if t106=true then (spec_NameOk.l0 k1 a0 (wrap64 (x3_1+1))) else (if (wrap64 (bt a0 x3_1))=46 then (spec_NameOk.l0 k1 a0 (wrap64 (x3_1+1))) else (if (wrap64 (bt a0 x3_1))=45 then (spec_NameOk.l0 k1 a0 (wrap64 (x3_1+1))) else (some false))))=some r:=H
      by_cases c8:t106=true
      ·subst c8
       have H1:(spec_NameOk.l0 k1 a0 (wrap64 (x3_1+1)))=some r:=by rw [if_pos rfl] at H;exact H
       clear H
       have H:=H1
       clear H1
       have H':=Aside0.mk H
       clear H
       have p4:0≤(x3_1:Int):=of_decide_eq_true (by (with_reducible assumption))
       have q4:x3_1<(a0.size:Int):=of_decide_eq_true (by (with_reducible assumption))
       have hx4:=bt_at a0 x3_1
       replace p4:=eq_true p4
       replace q4:=eq_true q4
       go_wp2_with (first | ((with_reducible refine gate_callee (f:=45) rfl ?_);refine goesL_ (some 16) rfl rfl Tryz.func45 (by kernel_rfl) rfl #[.int .i64 (wrap64 (bt a0 x3_1)),.int .i64 97,.int .i64 122] rfl (by (try simp only [List.map_toArray,List.map_cons,List.map_nil]);rfl) ?_;(with_reducible refine (spec_l01In.calls (wrap64 (bt a0 x3_1)) 97 122 false _ A5.out).mono ?_);rintro e w' ⟨rfl,⟨nd,rfl⟩⟩;refine ⟨_,rfl,?_⟩) | (go_at_call 45;(with_reducible refine (spec_l01In.calls (wrap64 (bt a0 x3_1)) 48 57 true _ A7.out).mono ?_);rintro e w' ⟨rfl,⟨nd,rfl⟩⟩))
       go_roundg k1
       case measure=>have:=HK1.out;omega
       case rel=>exact ⟨(wrap64 (x3_1+1)),(by rfl),H',⟨by have:=HK1.out;omega⟩,by repeat (first | exact Drawn0.refl _ | apply Drawn0.step)⟩
      ·replace c8:=Bool.eq_false_iff.mpr c8
       subst c8
       have H1:(if (wrap64 (bt a0 x3_1))=46 then (spec_NameOk.l0 k1 a0 (wrap64 (x3_1+1))) else (if (wrap64 (bt a0 x3_1))=45 then (spec_NameOk.l0 k1 a0 (wrap64 (x3_1+1))) else (some false)))=some r:=by rw [if_neg (show ¬ (false=true) by decide)] at H;exact H
       clear H
       have H:=H1
       clear H1
       by_cases c9:(wrap64 (bt a0 x3_1))=46
       ·rw [if_pos c9] at H
        have c9b1:((wrap64 (bt a0 x3_1)) != 46)=false:=bne_eq_false_iff_eq.mpr c9
        clear c9
        have H':=Aside0.mk H
        clear H
        have p4:0≤(x3_1:Int):=of_decide_eq_true (by (with_reducible assumption))
        have q4:x3_1<(a0.size:Int):=of_decide_eq_true (by (with_reducible assumption))
        have hx4:=bt_at a0 x3_1
        replace p4:=eq_true p4
        replace q4:=eq_true q4
        go_wp2_with (first | ((with_reducible refine gate_callee (f:=45) rfl ?_);refine goesL_ (some 16) rfl rfl Tryz.func45 (by kernel_rfl) rfl #[.int .i64 (wrap64 (bt a0 x3_1)),.int .i64 97,.int .i64 122] rfl (by (try simp only [List.map_toArray,List.map_cons,List.map_nil]);rfl) ?_;(with_reducible refine (spec_l01In.calls (wrap64 (bt a0 x3_1)) 97 122 false _ A5.out).mono ?_);rintro e w' ⟨rfl,⟨nd,rfl⟩⟩;refine ⟨_,rfl,?_⟩) | (go_at_call 45;(with_reducible refine (spec_l01In.calls (wrap64 (bt a0 x3_1)) 48 57 false _ A7.out).mono ?_);rintro e w' ⟨rfl,⟨nd,rfl⟩⟩))
        go_roundg k1
        case measure=>have:=HK1.out;omega
        case rel=>exact ⟨(wrap64 (x3_1+1)),(by rfl),H',⟨by have:=HK1.out;omega⟩,by repeat (first | exact Drawn0.refl _ | apply Drawn0.step)⟩
       ·rw [if_neg c9] at H
        have c9b1:((wrap64 (bt a0 x3_1)) != 46)=true:=bne_iff_ne.mpr c9
        by_cases c10:(wrap64 (bt a0 x3_1))=45
        ·rw [if_pos c10] at H
         have c10b1:((wrap64 (bt a0 x3_1)) != 45)=false:=bne_eq_false_iff_eq.mpr c10
         clear c10
         have H':=Aside0.mk H
         clear H
         have p4:0≤(x3_1:Int):=of_decide_eq_true (by (with_reducible assumption))
         have q4:x3_1<(a0.size:Int):=of_decide_eq_true (by (with_reducible assumption))
         have hx4:=bt_at a0 x3_1
         replace p4:=eq_true p4
         replace q4:=eq_true q4
         go_wp2_with (first | ((with_reducible refine gate_callee (f:=45) rfl ?_);refine goesL_ (some 16) rfl rfl Tryz.func45 (by kernel_rfl) rfl #[.int .i64 (wrap64 (bt a0 x3_1)),.int .i64 97,.int .i64 122] rfl (by (try simp only [List.map_toArray,List.map_cons,List.map_nil]);rfl) ?_;(with_reducible refine (spec_l01In.calls (wrap64 (bt a0 x3_1)) 97 122 false _ A5.out).mono ?_);rintro e w' ⟨rfl,⟨nd,rfl⟩⟩;refine ⟨_,rfl,?_⟩) | (go_at_call 45;(with_reducible refine (spec_l01In.calls (wrap64 (bt a0 x3_1)) 48 57 false _ A7.out).mono ?_);rintro e w' ⟨rfl,⟨nd,rfl⟩⟩))
         go_roundg k1
         case measure=>have:=HK1.out;omega
         case rel=>exact ⟨(wrap64 (x3_1+1)),(by rfl),H',⟨by have:=HK1.out;omega⟩,by repeat (first | exact Drawn0.refl _ | apply Drawn0.step)⟩
        ·rw [if_neg c10] at H
         have c10b1:((wrap64 (bt a0 x3_1)) != 45)=true:=bne_iff_ne.mpr c10
         obtain rfl:=Option.some.inj H
         have p4:0≤(x3_1:Int):=of_decide_eq_true (by (with_reducible assumption))
         have q4:x3_1<(a0.size:Int):=of_decide_eq_true (by (with_reducible assumption))
         have hx4:=bt_at a0 x3_1
         replace p4:=eq_true p4
         replace q4:=eq_true q4
         go_wp2_with (first | ((with_reducible refine gate_callee (f:=45) rfl ?_);refine goesL_ (some 16) rfl rfl Tryz.func45 (by kernel_rfl) rfl #[.int .i64 (wrap64 (bt a0 x3_1)),.int .i64 97,.int .i64 122] rfl (by (try simp only [List.map_toArray,List.map_cons,List.map_nil]);rfl) ?_;(with_reducible refine (spec_l01In.calls (wrap64 (bt a0 x3_1)) 97 122 false _ A5.out).mono ?_);rintro e w' ⟨rfl,⟨nd,rfl⟩⟩;refine ⟨_,rfl,?_⟩) | (go_at_call 45;(with_reducible refine (spec_l01In.calls (wrap64 (bt a0 x3_1)) 48 57 false _ A7.out).mono ?_);rintro e w' ⟨rfl,⟨nd,rfl⟩⟩))
         all_goals (go_ret)
         exact ⟨by first | rfl | (simp;done) | (simp [*];done),by repeat (first | exact Drawn0.refl _ | apply Drawn0.step)⟩
    ·rw [if_neg c3] at H
     exact absurd H (by simp)
   ·rw [if_neg c2] at H
    have c2b0:decide (x3_1<(a0.size:Int))=false:=decide_eq_false c2
    clear c2
    obtain ⟨t104,A11,H⟩:=bA H
    replace H:(some t104)=some r:=H
    obtain rfl:=Option.some.inj H
    go_wp2_with (((with_reducible refine gate_callee (f:=45) rfl ?_);refine goesL_ (some 33) rfl rfl Tryz.func45 (by kernel_rfl) rfl #[.int .i64 (a0.size:Int),.int .i64 1,.int .i64 20] rfl (by (try simp only [List.map_toArray,List.map_cons,List.map_nil]);rfl) ?_;(with_reducible refine (spec_l01In.calls (a0.size:Int) 1 20 t104 _ A11.out).mono ?_);rintro e w' ⟨rfl,⟨nd,rfl⟩⟩;refine ⟨_,rfl,?_⟩))
    all_goals (go_ret)
    exact ⟨by first | rfl | (simp;done) | (simp [*];done),by repeat (first | exact Drawn0.refl _ | apply Drawn0.step)⟩

/-! ### spec_EntryAt: function 59 -/
def spec_EntryAt.l0:Nat→List (S64)→ByteArray→Int→Option (Int)
 | 0,_,_,_=>none
 | k+1,x0,x1,x5=>if x5<(x0.length:Int) then (if 0≤x5 then (if ((rd_T64 x0 x5).f0).toList=x1.toList then (some ((rd_T64 x0 x5).f1)) else (spec_EntryAt.l0 k x0 x1 (wrap64 (x5+1)))) else (none)) else (some 0)
def spec_EntryAt.f (k:Nat) (l0:List (S64)) (a1:ByteArray):Option (Int):=spec_EntryAt.l0 k l0 a1 0
theorem spec_EntryAt.mono_l:∀ k,(∀ y0 y1 y2,LeO (spec_EntryAt.l0 k y0 y1 y2) (spec_EntryAt.l0 (k+1) y0 y1 y2))
 | 0=>fun _ _ _ r h=>by simp [spec_EntryAt.l0] at h
 | k+1=>by
  have ih0:=spec_EntryAt.mono_l k
  ·intro y0 y1 y2
   unfold spec_EntryAt.l0
   repeat' first | (with_reducible exact ih0 _ _ _) | (with_reducible exact LeO.refl _) | (with_reducible refine LeO.ite ?_ ?_)
theorem spec_EntryAt.mono:∀ a0 a1 k,LeO (spec_EntryAt.f k a0 a1) (spec_EntryAt.f (k+1) a0 a1):=by
 intro a0 a1 k
 have ih0:=spec_EntryAt.mono_l k
 unfold spec_EntryAt.f
 repeat' (with_reducible exact ih0 _ _ _)
set_option maxHeartbeats 8000000 in
set_option maxRecDepth 100000 in
theorem spec_EntryAt.calls (k:Nat) (A0:Option Addr) (c0:Nat) (l0:List (S64)) (a1:ByteArray) (r:Int) (w:World) (hr0:Kd.C k64 w A0 l0.length l0) (hc0:l0.length≤c0) (h:spec_EntryAt.f k l0 a1=some r) :
  Calls Tryz.prog 59 #[.slice A0 l0.length c0,.string a1] w fun e w'=>e=.returned (.int .i64 r)∧Drawn0 w w':=by
 have HR0:=Aside0.mk hr0
 clear hr0 hc0
 have H:(spec_EntryAt.l0 k l0 a1 0)=some r:=h
 clear h
 have H':=Aside0.mk H
 clear H
 go_enter Tryz.func59,Tryz.ntmps59
 go_wp2
 go_loopg [5] k (fun kq v5 w'=>∃ (x5_1:Int),v5=.int .i64 x5_1∧Aside0 (spec_EntryAt.l0 kq l0 a1 x5_1=some r)∧Aside0 (kq≤k)∧Drawn0 w w')
 case atStart=>exact ⟨(0),(by rfl),H',⟨Nat.le_refl _⟩,by repeat (exact Drawn0.refl _)⟩
 case round=>
  clear H'
  try clear p2
  obtain ⟨x5_1,rfl,HA,HK1,⟨m1,rfl⟩⟩:=hrel
  cases gk with
  | zero=>exact absurd HA.out (by simp [spec_EntryAt.l0])
  | succ k1=>
   have H:=HA.out
   clear HA
   simp only [spec_EntryAt.l0] at H
   by_cases c3:x5_1<(l0.length:Int)
   ·rw [if_pos c3] at H
    have c3b0:decide (x5_1<(l0.length:Int))=true:=decide_eq_true c3
    clear c3
    by_cases c4:0≤x5_1
    ·rw [if_pos c4] at H
     have c4b0:decide (0≤x5_1)=true:=decide_eq_true c4
     clear c4
     by_cases c5:((rd_T64 l0 x5_1).f0).toList=a1.toList
     ·rw [if_pos c5] at H
      have c5b0:(((rd_T64 l0 x5_1).f0).toList == a1.toList)=true:=beq_iff_eq.mpr c5
      clear c5
      obtain rfl:=Option.some.inj H
      have p107:0≤(x5_1:Int):=of_decide_eq_true (by (with_reducible assumption))
      have q107:x5_1<(l0.length:Int):=of_decide_eq_true (by (with_reducible assumption))
      obtain ⟨ad107,e107,hx107_0,hx107_1⟩:=at_T64 HR0.out x5_1 p107 q107
      cases e107
      replace p107:=eq_true p107
      replace q107:=eq_true q107
      have p108:0≤(x5_1:Int):=of_decide_eq_true (by (with_reducible assumption))
      have q108:x5_1<(l0.length:Int):=of_decide_eq_true (by (with_reducible assumption))
      obtain ⟨ad108,e108,hx108_0,hx108_1⟩:=at_T64 HR0.out x5_1 p108 q108
      obtain rfl:ad107=ad108:=(by injection e108)
      replace p108:=eq_true p108
      replace q108:=eq_true q108
      go_wp2
      all_goals (go_ret)
      exact ⟨by first | rfl | (simp;done) | (simp [*];done),by repeat (first | exact Drawn0.refl _ | apply Drawn0.step)⟩
     ·rw [if_neg c5] at H
      have c5b0:(((rd_T64 l0 x5_1).f0).toList == a1.toList)=false:=beq_eq_false_iff_ne.mpr c5
      have H':=Aside0.mk H
      clear H
      have p107:0≤(x5_1:Int):=of_decide_eq_true (by (with_reducible assumption))
      have q107:x5_1<(l0.length:Int):=of_decide_eq_true (by (with_reducible assumption))
      obtain ⟨ad107,e107,hx107_0,hx107_1⟩:=at_T64 HR0.out x5_1 p107 q107
      cases e107
      replace p107:=eq_true p107
      replace q107:=eq_true q107
      go_wp2
      go_roundg k1
      case measure=>have:=HK1.out;omega
      case rel=>exact ⟨(wrap64 (x5_1+1)),(by rfl),H',⟨by have:=HK1.out;omega⟩,by repeat (first | exact Drawn0.refl _ | apply Drawn0.step)⟩
    ·rw [if_neg c4] at H
     exact absurd H (by simp)
   ·rw [if_neg c3] at H
    have c3b0:decide (x5_1<(l0.length:Int))=false:=decide_eq_false c3
    clear c3
    obtain rfl:=Option.some.inj H
    go_wp2
    all_goals (go_ret)
    exact ⟨by first | rfl | (simp;done) | (simp [*];done),by repeat (first | exact Drawn0.refl _ | apply Drawn0.step)⟩

end Go.Proofs.YthbffdjjmapaaaaGreatDoor.MFnRenamed
