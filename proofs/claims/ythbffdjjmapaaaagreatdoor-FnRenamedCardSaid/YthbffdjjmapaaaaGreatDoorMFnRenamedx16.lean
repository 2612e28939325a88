/- Each theorem here says that a call of one Go function answers what the Lean function beside it answers; its conditions stand in it. Written by a program of this session. -/
import Derived.Test.YthbffdjjmapaaaaGreatDoorMFnRenamedx0
import Derived.Test.YthbffdjjmapaaaaGreatDoorMFnRenamedx2
import Derived.Test.YthbffdjjmapaaaaGreatDoorMFnRenamedx15
namespace Go.Proofs.YthbffdjjmapaaaaGreatDoor.MFnRenamed
open Go.RowKit Go.Proofs.YthbffdjjmapaaaaGreatDoorW.PrintWords Go.Proofs.YthbffdjjmapaaaaGreatDoorW.PrintLast Go.Proofs.YthbffdjjmapaaaaGreatDoorW.PrintMore
attribute [local go_sem] max2_int min2_int max_two min_two max_three min_three max_four min_four   -- for this text's walks alone
set_option linter.unusedVariables false
set_option linter.unusedSimpArgs false

attribute [local go_sem high] eqA64
/-! ### impl_Entry_43: function 43 -/
def impl_Entry_43.l0:Nat→List (S64)→List (S64)→Int→Int→Option (Bool)
 | 0,_,_,_,_=>none
 | k+1,x0,x1,x12,x13=>if x13<x12 then (if 0≤x13 then (if x13<(x0.length:Int) then (if x13<(x1.length:Int) then (if (!((((rd_T64 x0 x13).f0).toList) == (((rd_T64 x1 x13).f0).toList)) || (!(((rd_T64 x0 x13).f1) == ((rd_T64 x1 x13).f1))))=true then (some false) else (impl_Entry_43.l0 k x0 x1 x12 (wrap64 (x13+1)))) else (none)) else (none)) else (none)) else (some true)
def impl_Entry_43.f (k:Nat) (l0:List (S64)) (l1:List (S64)):Option (Bool):=if (l0.length:Int)=(l1.length:Int) then (impl_Entry_43.l0 k l0 l1 (l0.length:Int) 0) else (some false)
theorem impl_Entry_43.mono_l:∀ k,(∀ y0 y1 y2 y3,LeO (impl_Entry_43.l0 k y0 y1 y2 y3) (impl_Entry_43.l0 (k+1) y0 y1 y2 y3))
 | 0=>fun _ _ _ _ r h=>by simp [impl_Entry_43.l0] at h
 | k+1=>by
  have ih0:=impl_Entry_43.mono_l k
  ·intro y0 y1 y2 y3
   unfold impl_Entry_43.l0
   repeat' first | (with_reducible exact ih0 _ _ _ _) | (with_reducible exact LeO.refl _) | (with_reducible refine LeO.ite ?_ ?_)
theorem impl_Entry_43.mono:∀ a0 a1 k,LeO (impl_Entry_43.f k a0 a1) (impl_Entry_43.f (k+1) a0 a1):=by
 intro a0 a1 k
 have ih0:=impl_Entry_43.mono_l k
 unfold impl_Entry_43.f
 repeat' first | (with_reducible exact ih0 _ _ _ _) | (with_reducible exact LeO.refl _) | (with_reducible refine LeO.ite ?_ ?_)
set_option maxHeartbeats 8000000 in
set_option maxRecDepth 100000 in
theorem impl_Entry_43.calls (k:Nat) (A0:Option Addr) (c0:Nat) (l0:List (S64)) (A1:Option Addr) (c1:Nat) (l1:List (S64)) (r:Bool) (w:World) (hr0:Kd.C k64 w A0 l0.length l0) (hc0:l0.length≤c0) (hr1:Kd.C k64 w A1 l1.length l1) (hc1:l1.length≤c1) (h:impl_Entry_43.f k l0 l1=some r) :
  Calls Tryz.prog 43 #[.slice A0 l0.length c0,.slice A1 l1.length c1] w fun e w'=>e=.returned (.bool r)∧Drawn0 w w':=by
 have HR0:=Aside0.mk hr0
 clear hr0 hc0
 have HR1:=Aside0.mk hr1
 clear hr1 hc1
 have H:(if (l0.length:Int)=(l1.length:Int) then (impl_Entry_43.l0 k l0 l1 (l0.length:Int) 0) else (some false))=some r:=h
 clear h
 by_cases c3:(l0.length:Int)=(l1.length:Int)
 ·rw [if_pos c3] at H
  have c3b1:((l0.length:Int) != (l1.length:Int))=false:=bne_eq_false_iff_eq.mpr c3
  clear c3
  have H':=Aside0.mk H
  clear H
  go_enter Tryz.func43,Tryz.ntmps43
  go_wp2
  repeat (go_quiet (fail);try go_wp2)
  go_loopg [13] k (fun kq v13 w'=>∃ (x13_1:Int),v13=.int .i64 x13_1∧Aside0 (impl_Entry_43.l0 kq l0 l1 (l0.length:Int) x13_1=some r)∧Aside0 (kq≤k)∧Drawn0 w w')
  case atStart=>exact ⟨(0),(by rfl),H',⟨Nat.le_refl _⟩,by repeat (exact Drawn0.refl _)⟩
  case round=>
   clear H'
   try clear c1
   try clear p2
   try clear c3
   try clear c3b1
   obtain ⟨x13_1,rfl,HA,HK1,⟨m1,rfl⟩⟩:=hrel
   cases gk with
   | zero=>exact absurd HA.out (by simp [impl_Entry_43.l0])
   | succ k1=>
    have H:=HA.out
    clear HA
    simp only [impl_Entry_43.l0] at H
    by_cases c4:x13_1<(l0.length:Int)
    ·rw [if_pos c4] at H
     have c4b0:decide (x13_1<(l0.length:Int))=true:=decide_eq_true c4
     clear c4
     by_cases c5:0≤x13_1
     ·rw [if_pos c5] at H
      have c5b0:decide (0≤x13_1)=true:=decide_eq_true c5
      clear c5
      by_cases c6:x13_1<(l0.length:Int)
      ·rw [if_pos c6] at H
       have c6b0:decide (x13_1<(l0.length:Int))=true:=decide_eq_true c6
       clear c6
       by_cases c7:x13_1<(l1.length:Int)
       ·rw [if_pos c7] at H
        have c7b0:decide (x13_1<(l1.length:Int))=true:=decide_eq_true c7
        clear c7
        by_cases c8:(!((((rd_T64 l0 x13_1).f0).toList) == (((rd_T64 l1 x13_1).f0).toList)) || (!(((rd_T64 l0 x13_1).f1) == ((rd_T64 l1 x13_1).f1))))=true
        ·rw [if_pos c8] at H
         have c8b0:(!((((rd_T64 l0 x13_1).f0).toList) == (((rd_T64 l1 x13_1).f0).toList)) || (!(((rd_T64 l0 x13_1).f1) == ((rd_T64 l1 x13_1).f1))))=true:=c8
         clear c8
         obtain rfl:=Option.some.inj H
         have p289:0≤(x13_1:Int):=of_decide_eq_true (by (with_reducible assumption))
         have q289:x13_1<(l0.length:Int):=of_decide_eq_true (by (with_reducible assumption))
         obtain ⟨ad289,e289,hx289_0,hx289_1⟩:=at_T64 HR0.out x13_1 p289 q289
         cases e289
         replace p289:=eq_true p289
         replace q289:=eq_true q289
         have p290:0≤(x13_1:Int):=of_decide_eq_true (by (with_reducible assumption))
         have q290:x13_1<(l1.length:Int):=of_decide_eq_true (by (with_reducible assumption))
         obtain ⟨ad290,e290,hx290_0,hx290_1⟩:=at_T64 HR1.out x13_1 p290 q290
         cases e290
         replace p290:=eq_true p290
         replace q290:=eq_true q290
         go_wp2
         repeat (go_quiet (fail);try go_wp2)
         all_goals (go_ret)
         exact ⟨by first | rfl | (simp;done) | (simp [*];done),by repeat (first | exact Drawn0.refl _ | apply Drawn0.step)⟩
        ·rw [if_neg c8] at H
         have c8b0:(!((((rd_T64 l0 x13_1).f0).toList) == (((rd_T64 l1 x13_1).f0).toList)) || (!(((rd_T64 l0 x13_1).f1) == ((rd_T64 l1 x13_1).f1))))=false:=by simpa using c8
         clear c8
         have H':=Aside0.mk H
         clear H
         have p289:0≤(x13_1:Int):=of_decide_eq_true (by (with_reducible assumption))
         have q289:x13_1<(l0.length:Int):=of_decide_eq_true (by (with_reducible assumption))
         obtain ⟨ad289,e289,hx289_0,hx289_1⟩:=at_T64 HR0.out x13_1 p289 q289
         cases e289
         replace p289:=eq_true p289
         replace q289:=eq_true q289
         have p290:0≤(x13_1:Int):=of_decide_eq_true (by (with_reducible assumption))
         have q290:x13_1<(l1.length:Int):=of_decide_eq_true (by (with_reducible assumption))
         obtain ⟨ad290,e290,hx290_0,hx290_1⟩:=at_T64 HR1.out x13_1 p290 q290
         cases e290
         replace p290:=eq_true p290
         replace q290:=eq_true q290
         go_wp2
         repeat (go_quiet (fail);try go_wp2)
         go_roundg k1
         case measure=>have:=HK1.out;omega
         case rel=>exact ⟨(wrap64 (x13_1+1)),(by rfl),H',⟨by have:=HK1.out;omega⟩,by repeat (first | exact Drawn0.refl _ | apply Drawn0.step)⟩
       ·rw [if_neg c7] at H
        exact absurd H (by simp)
      ·rw [if_neg c6] at H
       exact absurd H (by simp)
     ·rw [if_neg c5] at H
      exact absurd H (by simp)
    ·rw [if_neg c4] at H
     have c4b0:decide (x13_1<(l0.length:Int))=false:=decide_eq_false c4
     clear c4
     obtain rfl:=Option.some.inj H
     go_wp2
     repeat (go_quiet (fail);try go_wp2)
     all_goals (go_ret)
     exact ⟨by first | rfl | (simp;done) | (simp [*];done),by repeat (first | exact Drawn0.refl _ | apply Drawn0.step)⟩
 ·rw [if_neg c3] at H
  have c3b1:((l0.length:Int) != (l1.length:Int))=true:=bne_iff_ne.mpr c3
  obtain rfl:=Option.some.inj H
  go_enter Tryz.func43,Tryz.ntmps43
  go_wp2
  repeat (go_quiet (fail);try go_wp2)
  all_goals (go_ret)
  exact ⟨by first | rfl | (simp;done) | (simp [*];done),by repeat (exact Drawn0.refl _)⟩

/-! ### impl_Decimal: function 74 -/
/-- The library's table of powers: its name, as the program bears it. -/
noncomputable def tabPName:String:=((Tryz.prog.globals[3]?).map (·.name)).getD default
/-- It reads as its text lays it. -/
structure TabsP (w:World):Prop where
  out:Lib.TabIs Tryz.prog w tabPName .u64 Lib.pow10Tab
theorem TabsP.below {w W:World} (h:TabsP w) (hb:Below w.heap.size w W):TabsP W:=⟨Lib.tabBelow_of_tabIs h.out _ hb⟩
theorem TabsP.use {w:World} {n:String} (h:TabsP w) (hn:tabPName=n):Lib.TabIs Tryz.prog w n .u64 Lib.pow10Tab:=hn▸h.out
theorem TabsP.of {w:World} {n:String} (hn:n=tabPName) (h:Lib.TabIs Tryz.prog w n .u64 Lib.pow10Tab):TabsP w:=⟨hn▸h⟩
theorem below_growD (w:World) (k:Nat) (os:Array Obj):Below w.heap.size w (Sort.grow (w.drewN k) os):=by
  have h:Below w.heap.size w (w.drewN k):=(Drawn0.mk ⟨k,rfl⟩).below
  refine ⟨h.os,h.tape,h.output,?_,fun i hi=>?_⟩
  · show w.heap.size≤((w.drewN k).heap++os).size
    rw [Array.size_append]
    exact Nat.le_trans h.size (Nat.le_add_right ..)
  · show ((w.drewN k).heap++os)[i]? = _
    rw [Array.getElem?_append_left (Nat.lt_of_lt_of_le hi h.size)]
    exact h.block i hi
def impl_Decimal.f (a0:Int):Option ByteArray:=if -9223372036854775808≤a0∧a0≤9223372036854775807 then some ⟨(Lib.itoa a0).toArray⟩ else none
theorem impl_Decimal.calls (a0:Int) (r:ByteArray) (w:World) (hTP:TabsP w) (h:impl_Decimal.f a0=some r) :
    Calls Tryz.prog 74 #[.int .i64 a0] w fun e w'=>e=.returned (.string r)∧Below w.heap.size w w':=by
  unfold impl_Decimal.f at h
  split at h
  · rename_i hb
    obtain rfl:=Option.some.inj h
    have hcon:=Any.strconv_Itoa Tryz.laysM171 a0 hb.1 hb.2 w (hTP.use (by kernel_rfl))
    change Calls Tryz.prog 90 _ _ _ at hcon
    clear hTP h
    generalize (Lib.itoa a0).toArray=r at hcon ⊢
    go_enter Tryz.func74,Tryz.ntmps74
    go_wp2_with (go_at_call 90;refine hcon.mono ?_;rintro e w' ⟨rfl,k,os,rfl⟩)
    go_ret
    exact ⟨rfl,below_growD _ _ _⟩
  · cases h

/-! ### impl_ReadDecimal: function 79 -/
theorem var_below {P:Program} {w W:World} {name:String} {cs:Array Value} (h:w.var? P name=some cs) (hb:Below w.heap.size w W):W.var? P name=some cs:=by
  unfold World.var? at *
  cases hg:P.globalNamed name with
  | none=>simp [hg] at h
  | some g=>
    simp only [hg,Option.bind_some] at h ⊢
    have hlt:g<w.heap.size:=by
      rcases Nat.lt_or_ge g w.heap.size with h' | h'
      · exact h'
      · rw [Array.getElem?_eq_none h'] at h;simp at h
    rw [hb.block g hlt]
    exact h
/-- The library's two errors are there. -/
structure TabsE (w:World):Prop where
  syn:∃ tp p,w.var? Tryz.prog "strconv.ErrSyntax"=some #[.iface tp p]
  rng:∃ tp p,w.var? Tryz.prog "strconv.ErrRange"=some #[.iface tp p]
theorem TabsE.below {w W:World} (h:TabsE w) (hb:Below w.heap.size w W):TabsE W:=by
  obtain ⟨⟨a,b,h1⟩,c,d,h2⟩:=h
  exact ⟨⟨a,b,var_below h1 hb⟩,c,d,var_below h2 hb⟩
/-- strconv.Atoi at every text: a number and no error, or an error. -/
theorem atoi_any (s:ByteArray) (hlim:s.size≤281474976710656) (w:World) (hTE:TabsE w) :
    Calls Tryz.prog 99 #[.string s] w fun e w'=>(∃ v er,e=.returned (.tuple #[.int .i64 v,er])∧((er=.nilIface∧Lib.atoiAll s.data.toList=.ok v)∨(∃ t p,er=.iface t p∧∀ v',Lib.atoiAll s.data.toList≠.ok v')))∧Below w.heap.size w w':=by
  cases hv:Lib.atoiAll s.data.toList
  · rename_i v
    have h:=Any.strconv_Atoi_ok Tryz.laysC172 s (by omega) v hv w
    refine (h:Calls Tryz.prog 99 _ _ _).mono ?_
    rintro e w' ⟨rfl,hw⟩
    refine ⟨⟨v,_,rfl,.inl ⟨rfl,rfl⟩⟩,?_⟩
    rcases hw with rfl | ⟨t,rfl⟩
    · exact Below.refl _ _
    · exact Lib.bytesWorld_below _ _ _
  · obtain ⟨tp,p,hs⟩:=hTE.syn
    have h:=Any.strconv_Atoi_syntax_var Tryz.laysC172 s hlim hv tp p w hs
    refine (h:Calls Tryz.prog 99 _ _ _).mono ?_
    rintro e w' ⟨N,rfl,_,_,hb⟩
    exact ⟨⟨_,_,rfl,.inr ⟨_,_,rfl,fun v' h=>by cases h⟩⟩,hb⟩
  · obtain ⟨tp,p,hs⟩:=hTE.rng
    have h:=Any.strconv_Atoi_range_var Tryz.laysC172 s hlim hv tp p w hs
    refine (h:Calls Tryz.prog 99 _ _ _).mono ?_
    rintro e w' ⟨N,rfl,_,_,hb⟩
    exact ⟨⟨_,_,rfl,.inr ⟨_,_,rfl,fun v' h=>by cases h⟩⟩,hb⟩
def impl_ReadDecimal.f (a0:ByteArray):Option (Int×Bool):=if a0.size≤281474976710656 then (match Lib.atoiAll a0.data.toList with
  | .ok v=>(impl_isNumber.f v).bind fun t=>if t=true then (impl_Decimal.f v).bind fun d=>if d.toList=a0.toList then some (v,true) else some (0,false) else some (0,false)
  | _=>some (0,false)) else none
theorem impl_ReadDecimal.calls (a0:ByteArray) (r1:Int) (r2:Bool) (w:World) (hTE:TabsE w) (hTP:TabsP w) (h:impl_ReadDecimal.f a0=some (r1,r2)) :
    Calls Tryz.prog 79 #[.string a0] w fun e w'=>e=.returned (.tuple #[.int .i64 r1,.bool r2])∧Below w.heap.size w w':=by
  unfold impl_ReadDecimal.f at h
  by_cases hs:a0.size≤281474976710656
  · rw [if_pos hs] at h
    have hA:=atoi_any a0 hs w hTE
    cases hv:Lib.atoiAll a0.data.toList with
    | ok v=>
      rw [hv] at h hA
      replace h:((impl_isNumber.f v).bind fun t=>if t=true then (impl_Decimal.f v).bind fun d=>if d.toList=a0.toList then some (v,true) else some (0,false) else some (0,false))=some (r1,r2):=h
      replace hA:Calls Tryz.prog 99 #[.string a0] w fun e w'=>e=.returned (.tuple #[.int .i64 v,.nilIface])∧Below w.heap.size w w':=hA.mono (by
        rintro e w' ⟨⟨v',er,rfl,(⟨rfl,e⟩ | ⟨t,p,_,e⟩)⟩,hb⟩
        · injection e with e;subst e;exact ⟨rfl,hb⟩
        · exact absurd rfl (e v))
      obtain ⟨t,ht,h⟩:=Option.bind_eq_some_iff.mp h
      clear hv hTE
      have HA:=Aside0.mk hA
      have HN:=Aside0.mk ht
      have HT:=Aside0.mk hTP
      clear hA ht hTP
      cases t with
      | false=>
        rw [if_neg Bool.false_ne_true] at h
        have e1:=(Prod.mk.inj (Option.some.inj h)).1
        have e2:=(Prod.mk.inj (Option.some.inj h)).2
        subst e1 e2
        clear h
        go_enter Tryz.func79,Tryz.ntmps79
        go_wp2_with (first | (go_at_call 99;refine HA.out.mono ?_;rintro e w1 ⟨rfl,hb1⟩;have HB1:=Aside0.mk hb1;clear hb1) | (go_at_call 38;refine (impl_isNumber.calls v false _ HN.out).mono ?_;rintro e w2 ⟨rfl,⟨n2,rfl⟩⟩))
        all_goals go_ret2
        exact ⟨rfl,by exact pw_below_drewN HB1.out _⟩
      | true=>
        rw [if_pos rfl] at h
        obtain ⟨d,hd,h⟩:=Option.bind_eq_some_iff.mp h
        have HD:=Aside0.mk hd
        clear hd
        by_cases hc:d.toList=a0.toList
        · rw [if_pos hc] at h
          have e1:=(Prod.mk.inj (Option.some.inj h)).1
          have e2:=(Prod.mk.inj (Option.some.inj h)).2
          subst e1 e2
          clear h
          have c1:(d.toList == a0.toList)=true:=beq_iff_eq.mpr hc
          clear hc
          go_enter Tryz.func79,Tryz.ntmps79
          go_wp2_with (first | (go_at_call 99;refine HA.out.mono ?_;rintro e w1 ⟨rfl,hb1⟩;have HB1:=Aside0.mk hb1;clear hb1) | (go_at_call 38;refine (impl_isNumber.calls v true _ HN.out).mono ?_;rintro e w2 ⟨rfl,⟨n2,rfl⟩⟩) | (go_at_call 74;refine (impl_Decimal.calls v d _ (HT.out.below (by exact pw_below_drewN HB1.out _)) HD.out).mono ?_;rintro e w3 ⟨rfl,hb3⟩;have HB3:=Aside0.mk hb3;clear hb3))
          all_goals go_ret2
          exact ⟨rfl,by exact (pw_below_drewN HB1.out _).trans (HB3.out.mono (pw_below_drewN HB1.out _).size)⟩
        · rw [if_neg hc] at h
          have e1:=(Prod.mk.inj (Option.some.inj h)).1
          have e2:=(Prod.mk.inj (Option.some.inj h)).2
          subst e1 e2
          clear h
          have c1:(d.toList == a0.toList)=false:=beq_eq_false_iff_ne.mpr hc
          clear hc
          go_enter Tryz.func79,Tryz.ntmps79
          go_wp2_with (first | (go_at_call 99;refine HA.out.mono ?_;rintro e w1 ⟨rfl,hb1⟩;have HB1:=Aside0.mk hb1;clear hb1) | (go_at_call 38;refine (impl_isNumber.calls v true _ HN.out).mono ?_;rintro e w2 ⟨rfl,⟨n2,rfl⟩⟩) | (go_at_call 74;refine (impl_Decimal.calls v d _ (HT.out.below (by exact pw_below_drewN HB1.out _)) HD.out).mono ?_;rintro e w3 ⟨rfl,hb3⟩;have HB3:=Aside0.mk hb3;clear hb3))
          all_goals go_ret2
          exact ⟨rfl,by exact (pw_below_drewN HB1.out _).trans (HB3.out.mono (pw_below_drewN HB1.out _).size)⟩
    | _=>
      rw [hv] at h hA
      replace h:some ((0:Int),false)=some (r1,r2):=h
      have e1:=(Prod.mk.inj (Option.some.inj h)).1
      have e2:=(Prod.mk.inj (Option.some.inj h)).2
      subst e1 e2
      replace hA:Calls Tryz.prog 99 #[.string a0] w fun e w'=>(∃ v t p,e=.returned (.tuple #[.int .i64 v,.iface t p]))∧Below w.heap.size w w':=hA.mono (by
        rintro e w' ⟨⟨v',er,rfl,(⟨_,e⟩ | ⟨t,p,rfl,_⟩)⟩,hb⟩
        · cases e
        · exact ⟨⟨_,_,_,rfl⟩,hb⟩)
      clear hv hTE hTP h
      have HA:=Aside0.mk hA
      clear hA
      go_enter Tryz.func79,Tryz.ntmps79
      go_wp2_with (go_at_call 99;refine HA.out.mono ?_;rintro e w1 ⟨⟨v,t,p,rfl⟩,hb1⟩;have HB1:=Aside0.mk hb1;clear hb1)
      all_goals go_ret2
      exact ⟨rfl,HB1.out⟩
  · rw [if_neg hs] at h;cases h

end Go.Proofs.YthbffdjjmapaaaaGreatDoor.MFnRenamed
