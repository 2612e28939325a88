/- Each theorem here says that a call of one Go function answers what the Lean function beside it answers; its conditions stand in it. Written by a program of this session. -/
import Derived.Test.YthbffdjjmapaaaaGreatDoorMFnRenamedx0
import Derived.Test.YthbffdjjmapaaaaGreatDoorMFnRenamedx1
import Derived.Test.YthbffdjjmapaaaaGreatDoorMFnRenamedx9
import Derived.Test.YthbffdjjmapaaaaGreatDoorMFnRenamedx11
import Derived.Test.YthbffdjjmapaaaaGreatDoorMFnRenamedx14
import Derived.Test.YthbffdjjmapaaaaGreatDoorMFnRenamedx15
import Derived.Test.YthbffdjjmapaaaaGreatDoorMFnRenamedx16
import Derived.Test.YthbffdjjmapaaaaGreatDoorMFnRenamedx17
import Derived.Test.YthbffdjjmapaaaaGreatDoorMFnRenamedx18
import Derived.Test.YthbffdjjmapaaaaGreatDoorMFnRenamedx19
import Derived.Test.YthbffdjjmapaaaaGreatDoorMFnRenamedx20
namespace Go.Proofs.YthbffdjjmapaaaaGreatDoor.MFnRenamed
open Go.RowKit Go.Proofs.YthbffdjjmapaaaaGreatDoorW.PrintWords Go.Proofs.YthbffdjjmapaaaaGreatDoorW.PrintLast Go.Proofs.YthbffdjjmapaaaaGreatDoorW.PrintMore
attribute [local go_sem] max2_int min2_int max_two min_two max_three min_three max_four min_four   -- for this text's walks alone
set_option linter.unusedVariables false
set_option linter.unusedSimpArgs false

attribute [local go_sem high] eqA38
/-! ### laws_sameNodes: function 63 -/
def laws_sameNodes.l0:Nat→List (S38)→List (S38)→Int→Option (Bool)
 | 0,_,_,_=>none
 | k+1,x0,x1,x5=>if x5<(x0.length:Int) then (if 0≤x5 then (if x5<(x1.length:Int) then (if (!(((rd_T38 x0 x5).f0) == ((rd_T38 x1 x5).f0)) || (!((((rd_T38 x0 x5).f1).toList) == (((rd_T38 x1 x5).f1).toList)) || (!(((rd_T38 x0 x5).f2) == ((rd_T38 x1 x5).f2)))))=true then (some false) else (laws_sameNodes.l0 k x0 x1 (wrap64 (x5+1)))) else (none)) else (none)) else (some true)
def laws_sameNodes.f (k:Nat) (l0:List (S38)) (l1:List (S38)):Option (Bool):=if (l0.length:Int)=(l1.length:Int) then (laws_sameNodes.l0 k l0 l1 0) else (some false)
theorem laws_sameNodes.mono_l:∀ k,(∀ y0 y1 y2,LeO (laws_sameNodes.l0 k y0 y1 y2) (laws_sameNodes.l0 (k+1) y0 y1 y2))
 | 0=>fun _ _ _ r h=>by simp [laws_sameNodes.l0] at h
 | k+1=>by
  have ih0:=laws_sameNodes.mono_l k
  ·intro y0 y1 y2
   unfold laws_sameNodes.l0
   repeat' first
   | (with_reducible exact ih0 _ _ _)
   | (with_reducible exact LeO.refl _)
   | (with_reducible exact LeO.none _)
   | (with_reducible refine LeO.ite ?_ ?_)
   | (with_reducible refine LeO.bind ?_ (fun _=>?_))
   | exact ih0 _ _ _
   | exact LeO.none _
   | refine LeO.ite ?_ ?_
   | refine LeO.bind ?_ (fun _=>?_)
theorem laws_sameNodes.mono:∀ a0 a1 k,LeO (laws_sameNodes.f k a0 a1) (laws_sameNodes.f (k+1) a0 a1):=by
 intro a0 a1 k
 have ih0:=laws_sameNodes.mono_l k
 unfold laws_sameNodes.f
 repeat' first
   | (with_reducible exact ih0 _ _ _)
   | (with_reducible exact LeO.refl _)
   | (with_reducible exact LeO.none _)
   | (with_reducible refine LeO.ite ?_ ?_)
   | (with_reducible refine LeO.bind ?_ (fun _=>?_))
   | exact ih0 _ _ _
   | exact LeO.none _
   | refine LeO.ite ?_ ?_
   | refine LeO.bind ?_ (fun _=>?_)
set_option maxHeartbeats 8000000 in
set_option maxRecDepth 100000 in
theorem laws_sameNodes.calls (k:Nat) (A0:Option Addr) (c0:Nat) (l0:List (S38)) (A1:Option Addr) (c1:Nat) (l1:List (S38)) (r:Bool) (w:World) (hr0:Kd.C k38 w A0 l0.length l0) (hc0:l0.length≤c0) (hr1:Kd.C k38 w A1 l1.length l1) (hc1:l1.length≤c1) (h:laws_sameNodes.f k l0 l1=some r) :
  Calls Tryz.prog 63 #[.slice A0 l0.length c0,.slice A1 l1.length c1] w fun e w'=>e=.returned (.bool r)∧Drawn0 w w':=by
 have hu38:=Tryz.underlying38
 have HR0:=Aside0.mk hr0
 have HC0:=Aside0.mk hc0
 clear hr0 hc0
 have HR1:=Aside0.mk hr1
 have HC1:=Aside0.mk hc1
 clear hr1 hc1
 have H:(if (l0.length:Int)=(l1.length:Int) then (laws_sameNodes.l0 k l0 l1 0) else (some false))=some r:=h
 clear h
 by_cases c3:(l0.length:Int)=(l1.length:Int)
 ·rw [if_pos c3] at H
  have c3b0:((l0.length:Int) == (l1.length:Int))=true:=beq_iff_eq.mpr c3
  have c3b1:((l0.length:Int) != (l1.length:Int))=false:=bne_eq_false_iff_eq.mpr c3
  have c3b2:(l0.length == l1.length)=true:=by first | simpa using c3 | (simp at c3 ⊢;omega)
  clear c3
  have H':=Aside0.mk H
  clear H
  go_enter Tryz.func63,Tryz.ntmps63
  go_wp2
  repeat (go_quiet (fail);try go_wp2)
  go_loopg [5] k (fun kq v5 w'=>∃ (x5_1:Int),v5=.int .i64 x5_1∧Aside0 (laws_sameNodes.l0 kq l0 l1 x5_1=some r)∧Aside0 (kq≤k)∧Drawn0 w w')
  case atStart=>exact ⟨(0),(by first | rfl | (simp;done) | (simp [*];done)),H',⟨Nat.le_refl _⟩,by repeat (first | exact Drawn0.refl _ | apply Drawn0.step)⟩
  case round=>
   clear H'
   try clear c1
   try clear p2
   try clear c3
   try clear c3b0
   try clear c3b1
   try clear c3b2
   obtain ⟨x5_1,rfl,HA,HK1,⟨m1,rfl⟩⟩:=hrel
   cases gk with
   | zero=>exact absurd HA.out (by simp [laws_sameNodes.l0])
   | succ k1=>
    have H:=HA.out
    clear HA
    simp only [laws_sameNodes.l0] at H
    by_cases c4:x5_1<(l0.length:Int)
    ·rw [if_pos c4] at H
     have c4b0:decide (x5_1<(l0.length:Int))=true:=decide_eq_true c4
     clear c4
     by_cases c5:0≤x5_1
     ·rw [if_pos c5] at H
      have c5b0:decide (0≤x5_1)=true:=decide_eq_true c5
      clear c5
      by_cases c6:x5_1<(l1.length:Int)
      ·rw [if_pos c6] at H
       have c6b0:decide (x5_1<(l1.length:Int))=true:=decide_eq_true c6
       clear c6
       by_cases c7:(!(((rd_T38 l0 x5_1).f0) == ((rd_T38 l1 x5_1).f0)) || (!((((rd_T38 l0 x5_1).f1).toList) == (((rd_T38 l1 x5_1).f1).toList)) || (!(((rd_T38 l0 x5_1).f2) == ((rd_T38 l1 x5_1).f2)))))=true
       ·rw [if_pos c7] at H
        have c7b0:(!(((rd_T38 l0 x5_1).f0) == ((rd_T38 l1 x5_1).f0)) || (!((((rd_T38 l0 x5_1).f1).toList) == (((rd_T38 l1 x5_1).f1).toList)) || (!(((rd_T38 l0 x5_1).f2) == ((rd_T38 l1 x5_1).f2)))))=true:=c7
        clear c7
        obtain rfl:=Option.some.inj H
        have p324:0≤(x5_1:Int):=of_decide_eq_true (by first | (with_reducible assumption) | assumption)
        have q324:x5_1<(l0.length:Int):=of_decide_eq_true (by first | (with_reducible assumption) | assumption)
        obtain ⟨ad324,e324,hx324_0,hx324_1,hx324_2⟩:=at_T38 HR0.out x5_1 p324 q324
        cases e324
        replace p324:=eq_true p324
        replace q324:=eq_true q324
        have p325:0≤(x5_1:Int):=of_decide_eq_true (by first | (with_reducible assumption) | assumption)
        have q325:x5_1<(l1.length:Int):=of_decide_eq_true (by first | (with_reducible assumption) | assumption)
        obtain ⟨ad325,e325,hx325_0,hx325_1,hx325_2⟩:=at_T38 HR1.out x5_1 p325 q325
        cases e325
        replace p325:=eq_true p325
        replace q325:=eq_true q325
        go_wp2
        repeat (go_quiet (fail);try go_wp2)
        all_goals (first | go_ret | (exfalso;simp only [decide_eq_true_eq,decide_eq_false_iff_not] at *;omega))
        exact ⟨by first | rfl | (simp;done) | (simp [*];done),by repeat (first | exact Drawn0.refl _ | apply Drawn0.step)⟩
       ·rw [if_neg c7] at H
        have c7b0:(!(((rd_T38 l0 x5_1).f0) == ((rd_T38 l1 x5_1).f0)) || (!((((rd_T38 l0 x5_1).f1).toList) == (((rd_T38 l1 x5_1).f1).toList)) || (!(((rd_T38 l0 x5_1).f2) == ((rd_T38 l1 x5_1).f2)))))=false:=by simpa using c7
        clear c7
        have H':=Aside0.mk H
        clear H
        have p324:0≤(x5_1:Int):=of_decide_eq_true (by first | (with_reducible assumption) | assumption)
        have q324:x5_1<(l0.length:Int):=of_decide_eq_true (by first | (with_reducible assumption) | assumption)
        obtain ⟨ad324,e324,hx324_0,hx324_1,hx324_2⟩:=at_T38 HR0.out x5_1 p324 q324
        cases e324
        replace p324:=eq_true p324
        replace q324:=eq_true q324
        have p325:0≤(x5_1:Int):=of_decide_eq_true (by first | (with_reducible assumption) | assumption)
        have q325:x5_1<(l1.length:Int):=of_decide_eq_true (by first | (with_reducible assumption) | assumption)
        obtain ⟨ad325,e325,hx325_0,hx325_1,hx325_2⟩:=at_T38 HR1.out x5_1 p325 q325
        cases e325
        replace p325:=eq_true p325
        replace q325:=eq_true q325
        go_wp2
        repeat (go_quiet (fail);try go_wp2)
        go_roundg k1
        case measure=>have:=HK1.out;omega
        case rel=>exact ⟨(wrap64 (x5_1+1)),(by first | rfl | (simp;done) | (simp [*];done)),H',⟨by have:=HK1.out;omega⟩,by repeat (first | exact Drawn0.refl _ | apply Drawn0.step)⟩
      ·rw [if_neg c6] at H
       exact absurd H (by simp)
     ·rw [if_neg c5] at H
      exact absurd H (by simp)
    ·rw [if_neg c4] at H
     have c4b0:decide (x5_1<(l0.length:Int))=false:=decide_eq_false c4
     clear c4
     obtain rfl:=Option.some.inj H
     go_wp2
     repeat (go_quiet (fail);try go_wp2)
     all_goals (first | go_ret | (exfalso;simp only [decide_eq_true_eq,decide_eq_false_iff_not] at *;omega))
     exact ⟨by first | rfl | (simp;done) | (simp [*];done),by repeat (first | exact Drawn0.refl _ | apply Drawn0.step)⟩
 ·rw [if_neg c3] at H
  have c3b0:((l0.length:Int) == (l1.length:Int))=false:=beq_eq_false_iff_ne.mpr c3
  have c3b1:((l0.length:Int) != (l1.length:Int))=true:=bne_iff_ne.mpr c3
  have c3b2:(l0.length == l1.length)=false:=by first | simpa using c3 | (simp at c3 ⊢;omega)
  obtain rfl:=Option.some.inj H
  go_enter Tryz.func63,Tryz.ntmps63
  go_wp2
  repeat (go_quiet (fail);try go_wp2)
  all_goals (first | go_ret | (exfalso;simp only [decide_eq_true_eq,decide_eq_false_iff_not] at *;omega))
  exact ⟨by first | rfl | (simp;done) | (simp [*];done),by repeat (first | exact Drawn0.refl _ | apply Drawn0.step)⟩

/-! ### laws_sameDisk: function 24 -/
def laws_sameDisk.f (k:Nat) (l0_0:List S38) (l0_1:List S64) (l0_2:List S64) (l0_3:List ByteArray) (a0_4:Int) (a0_5:Int) (l1_0:List S38) (l1_1:List S64) (l1_2:List S64) (l1_3:List ByteArray) (a1_4:Int) (a1_5:Int):Option Bool:=(laws_sameNodes.f k l0_0 l1_0).bind fun p=>(laws_sameEntrys.f k l0_1 l1_1).bind fun q=>(laws_sameEntrys.f k l0_2 l1_2).bind fun s=>(laws_sameTexts.f k l0_3 l1_3).bind fun t=>if (p=true∧q=true∧s=true∧t=true)∧a0_4=a1_4∧a0_5=a1_5 then some true else none
theorem laws_sameDisk.mono:∀ l0_0 l0_1 l0_2 l0_3 a0_4 a0_5 l1_0 l1_1 l1_2 l1_3 a1_4 a1_5 k,LeO (laws_sameDisk.f k l0_0 l0_1 l0_2 l0_3 a0_4 a0_5 l1_0 l1_1 l1_2 l1_3 a1_4 a1_5) (laws_sameDisk.f (k+1) l0_0 l0_1 l0_2 l0_3 a0_4 a0_5 l1_0 l1_1 l1_2 l1_3 a1_4 a1_5):=by
  intro l0_0 l0_1 l0_2 l0_3 a0_4 a0_5 l1_0 l1_1 l1_2 l1_3 a1_4 a1_5 k
  unfold laws_sameDisk.f
  repeat' first | (with_reducible exact LeO.refl _) | (with_reducible exact laws_sameNodes.mono _ _ _) | (with_reducible exact laws_sameEntrys.mono _ _ _) | (with_reducible exact laws_sameTexts.mono _ _ _) | (with_reducible refine LeO.bind ?_ (fun _=>?_))
set_option maxHeartbeats 40000000 in
set_option maxRecDepth 100000 in
theorem laws_sameDisk.calls (k:Nat) (A0_0:Option Addr) (c0_0:Nat) (l0_0:List (S38)) (A0_1:Option Addr) (c0_1:Nat) (l0_1:List (S64)) (A0_2:Option Addr) (c0_2:Nat) (l0_2:List (S64)) (A0_3:Option Addr) (c0_3:Nat) (l0_3:List ByteArray) (a0_4:Int) (a0_5:Int) (A1_0:Option Addr) (c1_0:Nat) (l1_0:List (S38)) (A1_1:Option Addr) (c1_1:Nat) (l1_1:List (S64)) (A1_2:Option Addr) (c1_2:Nat) (l1_2:List (S64)) (A1_3:Option Addr) (c1_3:Nat) (l1_3:List ByteArray) (a1_4:Int) (a1_5:Int) (r:Bool) (w:World) (hr0_0:Kd.C k38 w A0_0 l0_0.length l0_0) (hc0_0:l0_0.length≤c0_0) (hr0_1:Kd.C k64 w A0_1 l0_1.length l0_1) (hc0_1:l0_1.length≤c0_1) (hr0_2:Kd.C k64 w A0_2 l0_2.length l0_2) (hc0_2:l0_2.length≤c0_2) (hr0_3:Kd.C Kd.string w A0_3 l0_3.length l0_3) (hc0_3:l0_3.length≤c0_3) (hr1_0:Kd.C k38 w A1_0 l1_0.length l1_0) (hc1_0:l1_0.length≤c1_0) (hr1_1:Kd.C k64 w A1_1 l1_1.length l1_1) (hc1_1:l1_1.length≤c1_1) (hr1_2:Kd.C k64 w A1_2 l1_2.length l1_2) (hc1_2:l1_2.length≤c1_2) (hr1_3:Kd.C Kd.string w A1_3 l1_3.length l1_3) (hc1_3:l1_3.length≤c1_3) (h:laws_sameDisk.f k l0_0 l0_1 l0_2 l0_3 a0_4 a0_5 l1_0 l1_1 l1_2 l1_3 a1_4 a1_5=some r) :
    Calls Tryz.prog 24 #[.agg #[.slice A0_0 l0_0.length c0_0,.slice A0_1 l0_1.length c0_1,.slice A0_2 l0_2.length c0_2,.slice A0_3 l0_3.length c0_3,.int .i64 a0_4,.int .i64 a0_5],.agg #[.slice A1_0 l1_0.length c1_0,.slice A1_1 l1_1.length c1_1,.slice A1_2 l1_2.length c1_2,.slice A1_3 l1_3.length c1_3,.int .i64 a1_4,.int .i64 a1_5]] w fun e w'=>e=.returned (.bool r)∧Below w.heap.size w w':=by
  unfold laws_sameDisk.f at h
  replace h:=Option.bind_eq_some_iff.mp h
  obtain ⟨p,hp,h⟩:=h
  replace h:=Option.bind_eq_some_iff.mp h
  obtain ⟨q,hq,h⟩:=h
  replace h:=Option.bind_eq_some_iff.mp h
  obtain ⟨s,hs,h⟩:=h
  replace h:=Option.bind_eq_some_iff.mp h
  obtain ⟨t,ht,h⟩:=h
  split at h
  case isFalse=>cases h
  rename_i hc
  obtain ⟨⟨rfl,rfl,rfl,rfl⟩,c5,c6⟩:=hc
  subst c5 c6
  obtain rfl:=Option.some.inj h
  have C0:=Aside0.mk (fun (w1:World) (hb:Below w.heap.size w w1)=>laws_sameNodes.calls k A0_0 c0_0 l0_0 A1_0 c1_0 l1_0 true w1 (Kd.C_below hr0_0 hb) hc0_0 (Kd.C_below hr1_0 hb) hc1_0 hp)
  have C1:=Aside0.mk (fun (w1:World) (hb:Below w.heap.size w w1)=>laws_sameEntrys.calls k A0_1 c0_1 l0_1 A1_1 c1_1 l1_1 true w1 (Kd.C_below hr0_1 hb) hc0_1 (Kd.C_below hr1_1 hb) hc1_1 hq)
  have C2:=Aside0.mk (fun (w1:World) (hb:Below w.heap.size w w1)=>laws_sameEntrys.calls k A0_2 c0_2 l0_2 A1_2 c1_2 l1_2 true w1 (Kd.C_below hr0_2 hb) hc0_2 (Kd.C_below hr1_2 hb) hc1_2 hs)
  have C3:=Aside0.mk (fun (w1:World) (hb:Below w.heap.size w w1)=>laws_sameTexts.calls k A0_3 c0_3 l0_3 A1_3 c1_3 l1_3 true w1 (Kd.C_below hr0_3 hb) hc0_3 (Kd.C_below hr1_3 hb) hc1_3 ht)
  have BL:=Aside0.mk (Below.refl w.heap.size w)
  clear hp hq hs ht h hr0_0 hc0_0 hr0_1 hc0_1 hr0_2 hc0_2 hr0_3 hc0_3 hr1_0 hc1_0 hr1_1 hc1_1 hr1_2 hc1_2 hr1_3 hc1_3
  go_enter Tryz.func24,Tryz.ntmps24
  go_wp2_with (first | ((with_reducible refine gate_dst (N:=2) rfl ?_);refine box_event ?hg (N:=2) ?hd (cs:=#[.slice A0_0 l0_0.length c0_0,.slice A0_1 l0_1.length c0_1,.slice A0_2 l0_2.length c0_2,.slice A0_3 l0_3.length c0_3,.int .i64 a0_4,.int .i64 a0_5]) (t:=28) ?hr ?_;(case hd=>rfl);(case hg=>rfl);(case hr=>first | (go_simp;done) | (go_simp;rfl));intro gD hg w1 hbox hb;replace BL:=Aside0.mk (below_step BL.out hb);(try replace BD:=Aside0.mk ((hb.block gD (blk_lt BD.out)).trans BD.out));(try replace BE:=Aside0.mk ((hb.block gE (blk_lt BE.out)).trans BE.out));have BD:=Aside0.mk hbox;clear hg hbox hb;(try replace iD:=blk6 BD.out);(try replace iE:=blk6 BE.out)) | ((with_reducible refine gate_dst (N:=3) rfl ?_);refine box_event ?hg (N:=3) ?hd (cs:=#[.slice A1_0 l1_0.length c1_0,.slice A1_1 l1_1.length c1_1,.slice A1_2 l1_2.length c1_2,.slice A1_3 l1_3.length c1_3,.int .i64 a0_4,.int .i64 a0_5]) (t:=28) ?hr ?_;(case hd=>rfl);(case hg=>rfl);(case hr=>first | (go_simp;done) | (go_simp;rfl));intro gE hg w1 hbox hb;replace BL:=Aside0.mk (below_step BL.out hb);(try replace BD:=Aside0.mk ((hb.block gD (blk_lt BD.out)).trans BD.out));(try replace BE:=Aside0.mk ((hb.block gE (blk_lt BE.out)).trans BE.out));have BE:=Aside0.mk hbox;clear hg hbox hb;(try replace iD:=blk6 BD.out);(try replace iE:=blk6 BE.out)) | (go_at_call 63;(with_reducible refine (C0.out _ BL.out).mono ?_);rintro e wq ⟨rfl,hq⟩;have hb:Below w1.heap.size w1 wq:=(by obtain ⟨nd,hnd⟩:=hq;rw [hnd];exact pw_below_drewN (Below.refl _ _) nd);clear hq;replace BL:=Aside0.mk (below_step BL.out hb);(try replace BD:=Aside0.mk ((hb.block gD (blk_lt BD.out)).trans BD.out));(try replace BE:=Aside0.mk ((hb.block gE (blk_lt BE.out)).trans BE.out));clear hb;obtain ⟨w1,hw1⟩:∃ x,x=wq:=⟨_,rfl⟩;subst hw1;(try replace iD:=blk6 BD.out);(try replace iE:=blk6 BE.out)) | (go_at_call 28;(with_reducible refine (C1.out _ BL.out).mono ?_);rintro e wq ⟨rfl,hq⟩;have hb:Below w1.heap.size w1 wq:=(by obtain ⟨nd,hnd⟩:=hq;rw [hnd];exact pw_below_drewN (Below.refl _ _) nd);clear hq;replace BL:=Aside0.mk (below_step BL.out hb);(try replace BD:=Aside0.mk ((hb.block gD (blk_lt BD.out)).trans BD.out));(try replace BE:=Aside0.mk ((hb.block gE (blk_lt BE.out)).trans BE.out));clear hb;obtain ⟨w1,hw1⟩:∃ x,x=wq:=⟨_,rfl⟩;subst hw1;(try replace iD:=blk6 BD.out);(try replace iE:=blk6 BE.out)) | (go_at_call 28;(with_reducible refine (C2.out _ BL.out).mono ?_);rintro e wq ⟨rfl,hq⟩;have hb:Below w1.heap.size w1 wq:=(by obtain ⟨nd,hnd⟩:=hq;rw [hnd];exact pw_below_drewN (Below.refl _ _) nd);clear hq;replace BL:=Aside0.mk (below_step BL.out hb);(try replace BD:=Aside0.mk ((hb.block gD (blk_lt BD.out)).trans BD.out));(try replace BE:=Aside0.mk ((hb.block gE (blk_lt BE.out)).trans BE.out));clear hb;obtain ⟨w1,hw1⟩:∃ x,x=wq:=⟨_,rfl⟩;subst hw1;(try replace iD:=blk6 BD.out);(try replace iE:=blk6 BE.out)) | (go_at_call 16;(with_reducible refine (C3.out _ BL.out).mono ?_);rintro e wq ⟨rfl,hq⟩;have hb:Below w1.heap.size w1 wq:=(by obtain ⟨nd,hnd⟩:=hq;rw [hnd];exact pw_below_drewN (Below.refl _ _) nd);clear hq;replace BL:=Aside0.mk (below_step BL.out hb);(try replace BD:=Aside0.mk ((hb.block gD (blk_lt BD.out)).trans BD.out));(try replace BE:=Aside0.mk ((hb.block gE (blk_lt BE.out)).trans BE.out));clear hb;obtain ⟨w1,hw1⟩:∃ x,x=wq:=⟨_,rfl⟩;subst hw1;(try replace iD:=blk6 BD.out);(try replace iE:=blk6 BE.out)))
  go_ret
  exact ⟨rfl,BL.out⟩

/-! ### spec_DrawStepsDone: function 25 -/
def spec_DrawStepsDone.f (k:Nat) (l0:List Int):Option (List S64×List ByteArray×Int):=(spec_l01New.f k l0).bind fun y=>(spec_l05Any.f k y.1 y.2.1 y.2.2).bind fun o=>(spec_l01PickInt.f y.1 o.2.2.2.2.2.2.1 o.2.2.2.2.2.2.2 [0,1,2,5,(o.2.2.2.1.length:Int),-1,9223372036854775807]).bind fun p=>some (o.2.2.1,o.2.2.2.1,p.1)
theorem spec_DrawStepsDone.mono:∀ l0 k,LeO (spec_DrawStepsDone.f k l0) (spec_DrawStepsDone.f (k+1) l0):=by
  intro l0 k
  unfold spec_DrawStepsDone.f
  repeat' first | (with_reducible exact LeO.refl _) | (with_reducible exact spec_l01New.mono _ _) | (with_reducible exact spec_l05Any.mono _ _ _ _) | (with_reducible exact spec_l01Text.mono _ _ _ _ _) | (with_reducible exact spec_l01Long.mono _ _ _) | (with_reducible refine LeO.ite ?_ ?_) | (with_reducible refine LeO.bind ?_ (fun _=>?_))
set_option maxHeartbeats 40000000 in
set_option maxRecDepth 100000 in
theorem spec_DrawStepsDone.calls (k:Nat) (A0:Option Addr) (c0:Nat) (l0:List Int) (r1:List S64) (r2:List ByteArray) (r3:Int) (w:World) (hr0:Kd.C (Kd.int .u8) w A0 l0.length l0) (hc0:l0.length≤c0) (h:spec_DrawStepsDone.f k l0=some (r1,r2,r3)) :
    Calls Tryz.prog 25 #[.slice A0 l0.length c0] w fun e w'=>∃ v0_ v1_:Value,e=.returned (.tuple #[v0_,v1_,.int .i64 r3])∧Kd.R k64 64 w' w.heap.size (fun _=>True) v0_ r1∧Kd.R Kd.string 9 w' w.heap.size (fun _=>True) v1_ r2∧Below w.heap.size w w':=by
  unfold spec_DrawStepsDone.f at h
  replace h:=Option.bind_eq_some_iff.mp h
  obtain ⟨⟨y0,y1,y2⟩,hy,h⟩:=h
  replace h:=Option.bind_eq_some_iff.mp h
  obtain ⟨⟨d1,d2,d3,d4,d5,d6,d7,d8⟩,hd,h⟩:=h
  dsimp only at hd h
  have HB:=Aside0.mk (Below.refl w.heap.size w)
  have CN:=Aside0.mk (fun (w1:World) (hB:Below w.heap.size w w1)=>spec_l01New.calls k A0 c0 l0 y0 y1 y2 w w1 hB hr0 hc0 hy)
  have CA:=Aside0.mk (fun (w1:World) (g:Nat) (hI:IsS89 w w1 g y0 y1 y2) (hB:Below w.heap.size w w1)=>spec_l05Any.calls k g y0 y1 y2 d1 d2 d3 d4 d5 d6 d7 d8 w w1 hI hB hd)
  clear hy hd hr0 hc0
  obtain ⟨li,hli⟩:∃ x,x=([0,1,2,5,(d4.length:Int),-1,9223372036854775807]:List Int):=⟨_,rfl⟩
  rw [← hli] at h
  have HLI:=Aside0.mk hli
  replace h:=Option.bind_eq_some_iff.mp h
  obtain ⟨⟨p,p2,p3⟩,hp,h⟩:=h
  dsimp only at hp h
  have C1:=Aside0.mk (fun (w1:World) (g:Nat) (hI:IsS89 w w1 g y0 d7 d8) (hB:Below w.heap.size w w1) (bb:Nat) (pp:Nat→Prop) (Al:Option Addr) (cl:Nat) (hr:Kd.R (Kd.int .i64) 3 w1 bb pp (.slice Al li.length cl) li)=>spec_l01PickInt.calls g y0 d7 d8 Al cl li p p2 p3 w w1 hI hB (Kd.R_reads' hr).2.2 (Kd.R_reads' hr).2.1 (far_slice (IsS89.own_ne hI hr (by decide))) hp)
  simp only [Option.some.injEq,Prod.mk.injEq] at h
  obtain ⟨rfl,rfl,rfl⟩:=h
  clear hp hli
  go_enter Tryz.func25,Tryz.ntmps25
  go_wp2_with (first | (go_at_call 37;(with_reducible refine (CN.out _ HB.out).mono ?_);rintro e w1 ⟨g,rfl,hi,hB1,hb⟩;(try replace HI:=Aside0.mk (HI.out.below hb));replace HB:=Aside0.mk (below_step HB.out hb);(try replace BD:=Aside0.mk ((hb.block gD (blk_lt BD.out)).trans BD.out));(try replace BR:=Aside0.mk ((hb.block gR (blk_lt BR.out)).trans BR.out));(try replace Do:=Aside0.mk (Do.out.on hb));(try replace RL:=Aside0.mk (Kd.R_below RL.out hb));have HI:=Aside0.mk hi;(try (have GR2:=Aside0.mk (show gR≠g from (IsS89.ne_blk hi BR.out (by decide)).symm)));clear hi hb hB1) | (go_at_call 36;have hbs:=HB.out.size;(with_reducible refine (CA.out _ _ HI.out HB.out).mono ?_);rintro e w1 ⟨u0,u1,u2,u3,rfl,p0,p1,p2,p3,hi,hb,hk⟩;have hD:=HasD.of p0 p1 p2 p3;(try replace Do:=Aside0.mk (Do.out.step fun k ho hl=>hk.2 k hl (own_far HI.out Do.out k ho) (by simp)));replace HI:=Aside0.mk hi;replace HB:=Aside0.mk hb;(try replace BD:=Aside0.mk (KeepBut.blk hk BD.out GD2.out (by simp)));(try replace BR:=Aside0.mk (KeepBut.blk hk BR.out GR2.out (by simp)));have Do:=Aside0.mk (hD.lower hbs);obtain ⟨A0,a0,rfl⟩:=Kd.R_slice p0;obtain ⟨A1,a1,rfl⟩:=Kd.R_slice p1;obtain ⟨A2,a2,rfl⟩:=Kd.R_slice p2;obtain ⟨A3,a3,rfl⟩:=Kd.R_slice p3;clear hD hb hi hk hbs p0 p1 p2 p3) | ((with_reducible refine gate_store (t:=28) (p:=6) rfl ?_);refine store_event (t:=28) (p:=6) (w1:=w1.alloc (.cells #[.slice A0 d1.length a0,.slice A1 d2.length a1,.slice A2 d3.length a2,.slice A3 d4.length a3,.int .i64 d5,.int .i64 d6] 28 (0,0))) rfl rfl rfl ?hr ?_;(case hr=>first | (go_simp;done) | (go_simp;rfl));intro wz hw;have hb:Below w1.heap.size w1 wz:=(by rw [hw];exact below_alloc (Below.refl _ _) _);have hbox:=(by rw [hw];exact blk_new w1 _:wz.heap[w1.heap.size]? = some (.cells #[.slice A0 d1.length a0,.slice A1 d2.length a1,.slice A2 d3.length a2,.slice A3 d4.length a3,.int .i64 d5,.int .i64 d6] 28 (0,0)));clear hw;obtain ⟨gD,hg⟩:∃ g,g=w1.heap.size:=⟨_,rfl⟩;rw [← hg] at hbox;have GD0:=Aside0.mk (show w.heap.size≤gD by rw [hg];exact HB.out.size);have GD2:=Aside0.mk (show gD≠g by rw [hg];exact Nat.ne_of_gt HI.out.lt);(try (have RD:=Aside0.mk (show gR≠gD by rw [hg];exact Nat.ne_of_lt (blk_lt BR.out))));(try rw [← hg]);clear hg;(try replace HI:=Aside0.mk (HI.out.below hb));replace HB:=Aside0.mk (below_step HB.out hb);(try replace BD:=Aside0.mk ((hb.block gD (blk_lt BD.out)).trans BD.out));(try replace BR:=Aside0.mk ((hb.block gR (blk_lt BR.out)).trans BR.out));(try replace Do:=Aside0.mk (Do.out.on hb));(try replace RL:=Aside0.mk (Kd.R_below RL.out hb));have BD:=Aside0.mk hbox;clear hb hbox;obtain ⟨w1,hw1⟩:∃ x,x=wz:=⟨_,rfl⟩;subst hw1;(try replace iD:=blk6 BD.out);(try replace zD:=z6_ BD.out)))
  (try clear iD zD)
  have hb:=below_drew (Below.refl w1.heap.size w1)
  (try replace HI:=Aside0.mk (HI.out.below hb));replace HB:=Aside0.mk (below_step HB.out hb);(try replace BD:=Aside0.mk ((hb.block gD (blk_lt BD.out)).trans BD.out));(try replace BR:=Aside0.mk ((hb.block gR (blk_lt BR.out)).trans BR.out));(try replace Do:=Aside0.mk (Do.out.on hb));(try replace RL:=Aside0.mk (Kd.R_below RL.out hb))
  clear hb
  refine start_ (n:=13) (S:=fun w'=>w'.cell? ⟨gD,0,none⟩=some (.slice A0 d1.length a0)∧w'.cell? ⟨gD,1,none⟩=some (.slice A1 d2.length a1)∧w'.cell? ⟨gD,2,none⟩=some (.slice A2 d3.length a2)∧w'.cell? ⟨gD,3,none⟩=some (.slice A3 d4.length a3)∧w'.cell? ⟨gD,4,none⟩=some (.int .i64 d5)∧w'.cell? ⟨gD,5,none⟩=some (.int .i64 d6)) (ds:=[]) (marks 13 0) (by kernel_rfl) rfl rfl ⟨(blk_cell BD.out 0).trans rfl,(blk_cell BD.out 1).trans rfl,(blk_cell BD.out 2).trans rfl,(blk_cell BD.out 3).trans rfl,(blk_cell BD.out 4).trans rfl,(blk_cell BD.out 5).trans rfl⟩ (fun hHeld=>?_)
  generalize w1.drew=w2 at HI HB BD Do hHeld ⊢
  refine pure_ (i:=0) (N:=some 11) (v:=?_) (a':=?_) (marks 13 1) rfl rfl (by kernel_rfl) (fun _ _ _ h=>h) (Or.inl ⟨by rfl,?_⟩) ?_ ?_
  rotate_left
  · intro w'
    go_simp
    with_reducible rfl
  rotate_left
  · simp only [Act.put,List.setIfInBounds_toArray,List.set_cons_zero,List.set_cons_succ,i64_w,i32_w]
    rfl
  refine pure_ (i:=2) (N:=some 13) (v:=?_) (a':=?_) (marks 13 5) rfl rfl (by kernel_rfl) (fun _ _ _ h=>h) (Or.inl ⟨by rfl,?_⟩) ?_ ?_
  rotate_left
  · intro w'
    go_simp
    with_reducible rfl
  rotate_left
  · simp only [Act.put,List.setIfInBounds_toArray,List.set_cons_zero,List.set_cons_succ,i64_w,i32_w]
    rfl
  refine pure_ (i:=4) (N:=some 15) (v:=?_) (a':=?_) (marks 13 21) rfl rfl (by kernel_rfl) (fun _ _ _ h=>h) (Or.inl ⟨by rfl,?_⟩) ?_ ?_
  rotate_left
  · intro w'
    go_simp
    with_reducible rfl
  rotate_left
  · simp only [Act.put,List.setIfInBounds_toArray,List.set_cons_zero,List.set_cons_succ,i64_w,i32_w]
    rfl
  refine pure_ (i:=5) (N:=some 16) (v:=?_) (a':=?_) (marks 13 53) rfl rfl (by kernel_rfl) (fun _ _ _ h=>h) (Or.inl ⟨by rfl,?_⟩) ?_ ?_
  rotate_left
  · intro w'
    go_simp
    with_reducible rfl
  rotate_left
  · simp only [Act.put,List.setIfInBounds_toArray,List.set_cons_zero,List.set_cons_succ,i64_w,i32_w]
    rfl
  refine take_ (i:=1) (N:=some 12) (v:=?_) (a':=?_) (marks 13 55) rfl rfl (by kernel_rfl) (fun _ _ _ h=>h) (Or.inl ⟨by rfl,?_⟩) hHeld ?_ ?_
  rotate_left
  · rintro w' ⟨s0,s1,s2,s3,s4,s5⟩
    go_simp
    with_reducible rfl
  rotate_left
  · simp only [Act.put,List.setIfInBounds_toArray,List.set_cons_zero,List.set_cons_succ,i64_w,i32_w]
    rfl
  refine take_ (i:=3) (N:=some 14) (v:=?_) (a':=?_) (marks 13 63) rfl rfl (by kernel_rfl) (fun _ _ _ h=>h) (Or.inl ⟨by rfl,?_⟩) hHeld ?_ ?_
  rotate_left
  · rintro w' ⟨s0,s1,s2,s3,s4,s5⟩
    go_simp
    with_reducible rfl
  rotate_left
  · simp only [Act.put,List.setIfInBounds_toArray,List.set_cons_zero,List.set_cons_succ,i64_w,i32_w]
    rfl
  refine take_ (i:=6) (N:=some 17) (v:=?_) (a':=?_) (marks 13 127) rfl rfl (by kernel_rfl) (fun _ _ _ h=>h) (Or.inl ⟨by rfl,?_⟩) hHeld ?_ ?_
  rotate_left
  · rintro w' ⟨s0,s1,s2,s3,s4,s5⟩
    go_simp
    with_reducible rfl
  rotate_left
  · simp only [Act.put,List.setIfInBounds_toArray,List.set_cons_zero,List.set_cons_succ,i64_w,i32_w]
    rfl
  refine pure_ (i:=7) (N:=some 18) (v:=?_) (a':=?_) (marks 13 255) rfl rfl (by kernel_rfl) (fun _ _ _ h=>h) (Or.inl ⟨by rfl,?_⟩) ?_ ?_
  rotate_left
  · intro w'
    go_simp
    with_reducible rfl
  rotate_left
  · simp only [Act.put,List.setIfInBounds_toArray,List.set_cons_zero,List.set_cons_succ,i64_w,i32_w]
    rfl
  refine one_ (i:=8) (N:=some 19) (marks 13 511) rfl rfl (by kernel_rfl) (by decide) (fun K hK=>?_)
  refine Kd.R_lit_step (Kd.int .i64) _ 3 ?hg (N:=19) ?hd (xs:=([0,1,2,5,(d4.length:Int),-1,9223372036854775807]:List Int)) (inner:=[.int .i64 0,.int .i64 1,.int .i64 2,.int .i64 5,.int .i64 (d4.length:Int),.int .i64 (-1),.int .i64 9223372036854775807]) (ok:=fun _=>True) (okp:=fun _=>True) ?hr ?hp (fun _ hk=>hk) trivial (Below.refl _ _) (Nat.le_refl _) (by simp) ?_
  (case hd=>rfl)
  (case hg=>rfl)
  (case hr=>first | (go_simp;done) | (go_simp;rfl))
  (case hp=>exact (Reps.one (show Kd.M (Kd.int .i64) _ _ _ 0 [.int .i64 0] from rfl) (Reps.one (show Kd.M (Kd.int .i64) _ _ _ 1 [.int .i64 1] from rfl) (Reps.one (show Kd.M (Kd.int .i64) _ _ _ 2 [.int .i64 2] from rfl) (Reps.one (show Kd.M (Kd.int .i64) _ _ _ 5 [.int .i64 5] from rfl) (Reps.one (show Kd.M (Kd.int .i64) _ _ _ (d4.length:Int) [.int .i64 (d4.length:Int)] from rfl) (Reps.one (show Kd.M (Kd.int .i64) _ _ _ (-1) [.int .i64 (-1)] from rfl) (Reps.one (show Kd.M (Kd.int .i64) _ _ _ 9223372036854775807 [.int .i64 9223372036854775807] from rfl) (Reps.none _ _)))))))))
  intro v9 w1 ho hb hg_ hnew_
  clear hg_ hnew_
  rw [← HLI.out] at ho
  (try replace HI:=Aside0.mk (HI.out.below hb));replace HB:=Aside0.mk (below_step HB.out hb);(try replace BD:=Aside0.mk ((hb.block gD (blk_lt BD.out)).trans BD.out));(try replace BR:=Aside0.mk ((hb.block gR (blk_lt BR.out)).trans BR.out));(try replace Do:=Aside0.mk (Do.out.on hb));(try replace RL:=Aside0.mk (Kd.R_below RL.out hb))
  have RL:=Aside0.mk ho
  obtain ⟨Al,cl,rfl⟩:=Kd.R_slice ho
  clear ho hb
  refine hK.out _ _ ⟨(blk_cell BD.out 0).trans rfl,(blk_cell BD.out 1).trans rfl,(blk_cell BD.out 2).trans rfl,(blk_cell BD.out 3).trans rfl,(blk_cell BD.out 4).trans rfl,(blk_cell BD.out 5).trans rfl⟩ (fun hHeld=>?_)
  clear hK K
  refine norm_ (a':=?_) ?_ ?_
  rotate_left
  · show Act.put _ (some 19) _=_
    simp only [Act.put,List.setIfInBounds_toArray,List.set_cons_zero,List.set_cons_succ,i64_w,i32_w]
    rfl
  refine one_ (i:=9) (N:=some 20) (marks 13 1023) rfl rfl (by kernel_rfl) (by decide) (fun K hK=>?_)
  refine goes_ Tryz.func64 (by kernel_rfl) rfl #[.pointer (some ⟨g,0,none⟩),.slice Al li.length cl] (by rfl) rfl rfl (by (try simp only [List.map_toArray,List.map_cons,List.map_nil]);first | done | rfl | (go_simp;done)) ?_
  with_reducible refine (C1.out _ _ HI.out HB.out _ _ _ _ RL.out).mono ?_
  rintro e w1 ⟨rfl,hi,hb,hk⟩
  refine ⟨_,rfl,?_⟩
  clear RL
  (try replace Do:=Aside0.mk (Do.out.step fun k ho hl=>hk.2 k hl (own_far HI.out Do.out k ho) (by simp)));replace HI:=Aside0.mk hi;replace HB:=Aside0.mk hb;(try replace BD:=Aside0.mk (KeepBut.blk hk BD.out GD2.out (by simp)));(try replace BR:=Aside0.mk (KeepBut.blk hk BR.out GR2.out (by simp)))
  clear hi hb hk
  refine hK.out _ _ ⟨(blk_cell BD.out 0).trans rfl,(blk_cell BD.out 1).trans rfl,(blk_cell BD.out 2).trans rfl,(blk_cell BD.out 3).trans rfl,(blk_cell BD.out 4).trans rfl,(blk_cell BD.out 5).trans rfl⟩ (fun hHeld=>?_)
  clear hK K
  refine norm_ (a':=?_) ?_ ?_
  rotate_left
  · show Act.put _ (some 20) _=_
    simp only [Act.put,List.setIfInBounds_toArray,List.set_cons_zero,List.set_cons_succ,i64_w,i32_w]
    rfl
  refine pure_ (i:=10) (N:=some 2) (v:=?_) (a':=?_) (marks 13 2047) rfl rfl (by kernel_rfl) (fun _ _ _ h=>h) (Or.inl ⟨by rfl,?_⟩) ?_ ?_
  rotate_left
  · intro w'
    go_simp
    with_reducible rfl
  rotate_left
  · simp only [Act.put,List.setIfInBounds_toArray,List.set_cons_zero,List.set_cons_succ,i64_w,i32_w]
    rfl
  refine pure_ (i:=11) (N:=some 3) (v:=?_) (a':=?_) (marks 13 4095) rfl rfl (by kernel_rfl) (fun _ _ _ h=>h) (Or.inl ⟨by rfl,?_⟩) ?_ ?_
  rotate_left
  · intro w'
    go_simp
    with_reducible rfl
  rotate_left
  · simp only [Act.put,List.setIfInBounds_toArray,List.set_cons_zero,List.set_cons_succ,i64_w,i32_w]
    rfl
  refine pure_ (i:=12) (N:=some 4) (v:=?_) (a':=?_) (marks 13 8191) rfl rfl (by kernel_rfl) (fun _ _ _ h=>h) (Or.inl ⟨by rfl,?_⟩) ?_ ?_
  rotate_left
  · intro w'
    go_simp
    with_reducible rfl
  rotate_left
  · simp only [Act.put,List.setIfInBounds_toArray,List.set_cons_zero,List.set_cons_succ,i64_w,i32_w]
    rfl
  refine done_ (by kernel_rfl) ?_
  go_wp2_with fail
  go_ret3
  exact ⟨_,_,rfl,Kd.R_mono Do.out.r2 fun _ _=>trivial,Kd.R_mono Do.out.r3 fun _ _=>trivial,HB.out⟩

/-! ### impl_Brought: function 65 -/
def impl_Brought.f (a0:Int) (a1:Int) (a2:Int):Option (Int):=if a2<a1 then (some a1) else (some (mn (mx a0 a1) a2))
set_option maxHeartbeats 8000000 in
set_option maxRecDepth 100000 in
theorem impl_Brought.calls (a0:Int) (a1:Int) (a2:Int) (r:Int) (w:World) (h:impl_Brought.f a0 a1 a2=some r) :
  Calls Tryz.prog 65 #[.int .i64 a0,.int .i64 a1,.int .i64 a2] w fun e w'=>e=.returned (.int .i64 r)∧Below w.heap.size w w':=by
 have HB:=Aside0.mk (Below.refl w.heap.size w)
 have H:(if a2<a1 then (some a1) else (some (mn (mx a0 a1) a2)))=some r:=h
 clear h
 by_cases c4:a2<a1
 ·rw [if_pos c4] at H
  have c4b0:decide (a2<a1)=true:=decide_eq_true c4
  clear c4
  obtain rfl:=Option.some.inj H
  go_enter Tryz.func65,Tryz.ntmps65
  go_wp2
  all_goals (first | go_ret | (exfalso;simp only [decide_eq_true_eq,decide_eq_false_iff_not] at *;omega))
  all_goals exact ⟨by rfl,by repeat (first | (with_reducible first | exact HB.out | apply below_alloc | apply pw_below_drewN | apply below_drew1) | exact HB.out)⟩
 ·rw [if_neg c4] at H
  have c4b0:decide (a2<a1)=false:=decide_eq_false c4
  clear c4
  obtain ⟨ji5,hji5⟩:∃ j_:Int,(mx a0 a1)=j_:=⟨_,rfl⟩
  replace H:(some (mn (ji5) a2))=some r:=by first | (rw [hji5] at H;exact H) | (simp only [hji5] at H ⊢;exact H)
  have hji5_:(if a0<a1 then a1 else a0)=ji5:=hji5
  obtain ⟨ji6,hji6⟩:∃ j_:Int,(mn (ji5) a2)=j_:=⟨_,rfl⟩
  replace H:(some ji6)=some r:=by first | (rw [hji6] at H;exact H) | (simp only [hji6] at H ⊢;exact H)
  have hji6_:(if a2<(ji5) then a2 else (ji5))=ji6:=hji6
  obtain rfl:=Option.some.inj H
  go_enter Tryz.func65,Tryz.ntmps65
  go_wp2
  all_goals (first | go_ret | (exfalso;simp only [decide_eq_true_eq,decide_eq_false_iff_not] at *;omega))
  all_goals exact ⟨by first | rfl | (simp [errW_none,errW_some] <;> rfl) | (simp only [← hji5,← hji6];first | rfl | (simp [errW_none,errW_some] <;> rfl)) | (simp [*,errW_none,errW_some] <;> rfl) | (exfalso;simp only [decide_eq_true_eq,decide_eq_false_iff_not] at *;omega),by repeat (first | (with_reducible first | exact HB.out | apply below_alloc | apply pw_below_drewN | apply below_drew1) | exact HB.out)⟩

/-! ### impl_StepsDone: function 26 -/
theorem sd_str {w:World} {A:Option Addr} {n:Nat} {xs:List ByteArray} (h:Kd.C Kd.string w A n xs) (i:Nat) (hi:i<xs.length):∃ ad,A=some ad∧w.cell? (ad.add i)=some (.string xs[i]):=by
  have hl:xs.length=n:=h.1
  obtain ⟨ad,c,e,_,hK,hc⟩:=Kd.C_get h ByteArray.empty (i:Int) (by omega) (by omega)
  have hK':c=[Value.string (xs.getD ((i:Int)).toNat ByteArray.empty)]:=hK
  subst hK'
  refine ⟨ad,e,?_⟩
  have:=hc 0 _ rfl
  rw [Int.toNat_natCast,List.getD_eq_getElem?_getD,List.getElem?_eq_getElem hi] at this
  simpa [Kd.string,Kd.scalar] using this
def stepsD:List S64→List ByteArray→Option (List S64×Bool)
  | now,[]=>some (now,true)
  | now,s :: r=>(impl_stepDone.f now s).bind fun q=>if q.2=true then stepsD q.1 r else some ([],false)
def impl_StepsDone.f (l0:List S64) (l1:List ByteArray) (a2:Int):Option (List S64×Bool):=if l0.length*24≤140737488355328 then (impl_Brought.f a2 0 (l1.length:Int)).bind fun t=>if 0≤t∧t≤(l1.length:Int) then stepsD l0 (l1.take t.toNat) else none else none
set_option maxHeartbeats 4000000 in
theorem impl_StepsDone.calls (A0:Option Addr) (c0:Nat) (l0:List S64) (A1:Option Addr) (c1:Nat) (l1:List ByteArray) (a2:Int) (r1:List S64) (r2:Bool) (w:World) (hr0:Kd.C k64 w A0 l0.length l0) (hc0:l0.length≤c0) (hr1:Kd.C Kd.string w A1 l1.length l1) (hc1:l1.length≤c1) (hTE:TabsE w) (hTP:TabsP w) (h:impl_StepsDone.f l0 l1 a2=some (r1,r2)) :
    Calls Tryz.prog 26 #[.slice A0 l0.length c0,.slice A1 l1.length c1,.int .i64 a2] w fun e w'=>∃ v0_:Value,e=.returned (.tuple #[v0_,.bool r2])∧Kd.R k64 64 w' w.heap.size (fun _=>True) v0_ r1∧Below w.heap.size w w':=by
  unfold impl_StepsDone.f at h
  by_cases hz:l0.length*24≤140737488355328
  case neg=>rw [if_neg hz] at h;cases h
  rw [if_pos hz] at h
  replace h:=Option.bind_eq_some_iff.mp h
  obtain ⟨t,ht,h⟩:=h
  by_cases hb:0≤t∧t≤(l1.length:Int)
  case neg=>rw [if_neg hb] at h;cases h
  rw [if_pos hb] at h
  obtain ⟨T,rfl⟩:∃ T:Nat,t=(T:Int):=⟨t.toNat,by omega⟩
  rw [Int.toNat_natCast] at h
  have hT:T≤l1.length:=by omega
  have hT0:(0:Int)≤(T:Int):=by omega
  have hTz:(T:Int)≤(l1.length:Int):=by omega
  have hTc:T≤c1:=by omega
  have hmx:=hr1.2.1
  have CC:=Aside0.mk (fun (w1:World) (hb:Below w.heap.size w w1)=>cloneE A0 c0 l0 w1 (Kd.C_below hr0 hb) hz)
  have CB:=Aside0.mk (fun (w1:World)=>impl_Brought.calls a2 0 (l1.length:Int) (T:Int) w1 ht)
  have H0:=Aside0.mk h
  have HR:=Aside0.mk hr1
  have HE:=Aside0.mk hTE
  have HP:=Aside0.mk hTP
  clear h ht hb hz hr0 hr1 hTE hTP
  have BL:=Aside0.mk (Below.refl w.heap.size w)
  go_enter Tryz.func26,Tryz.ntmps26
  go_wp2_with (first | (go_at_call 41;(with_reducible refine (CC.out _ BL.out).mono ?_);rintro e w1 ⟨v5,rfl,hR5,hb⟩;obtain ⟨An,cn,rfl⟩:=Kd.R_slice hR5;have RQ:=Aside0.mk (Kd.R_lower hR5 BL.out.size);replace BL:=Aside0.mk (BL.out.trans (hb.mono BL.out.size));clear hR5 hb) | (go_at_call 65;(with_reducible refine (CB.out _).mono ?_);rintro e w1 ⟨rfl,hb⟩;replace RQ:=Aside0.mk (Kd.R_step RQ.out fun k hk hl=>hb.block k hl);replace BL:=Aside0.mk (BL.out.trans (hb.mono BL.out.size));clear hb))
  go_loopg [8,22] T (fun gg s8 s22 wr=>∃ (now:List S64) (Ab:Option Addr) (cb:Nat) (i:Nat),i≤T∧T-i≤gg∧s8=.slice Ab now.length cb∧s22=.int .i64 i∧Aside0 (stepsD now ((l1.take T).drop i)=some (r1,r2))∧Aside0 (Kd.R k64 64 wr w.heap.size (fun _=>True) (.slice Ab now.length cb) now)∧Aside0 (Below w.heap.size w wr))
  case atStart=>exact ⟨l0,An,cn,0,by omega,by omega,rfl,rfl,H0,RQ,BL⟩
  case round=>
    obtain ⟨now,Ab,cb,i,hiT,hgg,rfl,rfl,HH,RQ,BL⟩:=hrel
    by_cases hlt:i<T
    · have hltz:(i:Int)<(T:Int):=by omega
      have hi0:(0:Int)≤(i:Int):=by omega
      obtain ⟨ad,rfl,hx⟩:=sd_str (Kd.C_below HR.out BL.out) i (by omega)
      have hd:(l1.take T).drop i=l1[i] :: (l1.take T).drop (i+1):=by
        rw [List.drop_eq_getElem_cons (by rw [List.length_take];omega),List.getElem_take]
      have hH:=HH.out
      rw [hd,stepsD] at hH
      replace hH:=Option.bind_eq_some_iff.mp hH
      obtain ⟨q,hq,hH⟩:=hH
      clear HH hd
      generalize l1[i]=s at hx hq
      have hcn:=(Kd.R_reads' RQ.out).2.1
      have CS:=Aside0.mk (impl_stepDone.calls Ab cb now s q.1 q.2 wr (Kd.R_reads' RQ.out).2.2 hcn (HE.out.below BL.out) (HP.out.below BL.out) hq)
      obtain ⟨q1,q2⟩:=q
      have BS:=BL.out.size
      cases q2
      · rw [if_neg (fun e:false=true=>by cases e)] at hH
        simp only [Option.some.injEq,Prod.mk.injEq] at hH
        obtain ⟨rfl,rfl⟩:=hH
        go_wp2_with (first | (go_at_call 44;(with_reducible refine CS.out.mono ?_);rintro e w1 ⟨v5,rfl,hR5,hb⟩;replace BL:=Aside0.mk (BL.out.trans (hb.mono BL.out.size));clear hR5 hb))
        refine bodyPost_ret (results_tmp2 rfl _ _ _) rfl ?_
        exact ⟨_,rfl,Kd.R_nil _ _ _ _ _,BL.out⟩
      · rw [if_pos rfl] at hH
        have HH:=Aside0.mk hH
        clear hH
        go_wp2_with (first | (go_at_call 44;(with_reducible refine CS.out.mono ?_);rintro e w1 ⟨v5,rfl,hR5,hb⟩;obtain ⟨A5,c5,rfl⟩:=Kd.R_slice hR5;replace RQ:=Aside0.mk (Kd.R_lower hR5 BS);replace BL:=Aside0.mk (BL.out.trans (hb.mono BL.out.size));clear hR5 hb))
        go_roundg (T-(i+1))
        case measure=>omega
        case rel=>exact ⟨q1,A5,c5,i+1,by omega,by omega,rfl,by go_num,HH,RQ,BL⟩
    · have hltz:¬ (i:Int)<(T:Int):=by omega
      have hH:=HH.out
      rw [List.drop_eq_nil_of_le (by rw [List.length_take];omega),stepsD] at hH
      simp only [Option.some.injEq,Prod.mk.injEq] at hH
      obtain ⟨rfl,rfl⟩:=hH
      clear HH
      go_wp2
      refine bodyPost_ret (results_tmp2 rfl _ _ _) rfl ?_
      exact ⟨_,rfl,RQ.out,BL.out⟩

/-! ### impl_SyncNames: function 29 -/
theorem set2_calls {w:World} {g i j:Nat} {cs:Array Value} {t:TypeId} {u v:Value} {P:Program} {F:FuncId} {args:Array Value} {Q:Ending→World→Prop} (h:w.heap[g]? = some (.cells cs t (0,0)))
    (k:∀ W,W.heap[g]? = some (.cells ((cs.setIfInBounds i u).setIfInBounds j v) t (0,0))→(∀ {w0:World} {S:Nat→Prop},Turned w0 w S→(S g∨w0.heap.size≤g)→Turned w0 W S)→(∀ j,j≠g→W.heap[j]? = w.heap[j]?)→W.heap.size=w.heap.size→Calls P F args W Q):Calls P F args ((w.setCell ⟨g,i,none⟩ u).setCell ⟨g,j,none⟩ v) Q:=
  k _ (blk_set (blk_set h i u) j v) (fun hT hg=>(hT.set (p:=⟨g,i,none⟩) hg u).set (p:=⟨g,j,none⟩) hg v) (fun q hq=>(Below.heap_setCell _ ⟨g,j,none⟩ v q hq).trans (Below.heap_setCell w ⟨g,i,none⟩ u q hq)) (by simp)
theorem sync_has {w0 w W:World} {g base:Nat} {v0 v1 v2 v3 v2':Value} {a:List S38} {b c c':List S64} {d:List ByteArray} {cs:Array Value} {p:Nat→Prop} (h0:HasD w0 base v0 v1 v2 v3 a b c d) (h:HasD w base v0 v1 v2 v3 a b c d) (hb:base≤w0.heap.size) (hR:Kd.R k64 64 w w0.heap.size p v2' c')
    (hg:w.heap[g]? = some (.cells cs 28 (0,0))) (hs:∀ j,j≠g→W.heap[j]? = w.heap[j]?):HasD W base v0 v1 v2' (.slice none 0 0) a b c' []:=by
  have nb:=h.nobox hg (by decide) (by decide) (by decide)
  refine ⟨Kd.R_step h.r0 fun k hk _=>hs k fun e=>nb (.inl (e▸hk)),Kd.R_step h.r1 fun k hk _=>hs k fun e=>nb (.inr (.inl (e▸hk))),Kd.R_step (Kd.R_tight rfl (Kd.R_lower hR hb)) fun k hk _=>hs k fun e=>Kd.R_ne hR hg (by decide) (e▸hk),Kd.R_nil _ _ _ _ _,fun k hk hk2=>?_⟩
  have:=Kd.R_base hR k hk2.symm
  have:=Kd.R_lt h0.r1 k hk.symm
  omega
def impl_SyncNames.f (k:Nat) (l0_0:List S38) (l0_1:List S64) (l0_2:List S64) (l0_3:List ByteArray) (a0_4:Int) (a0_5:Int):Option (List (S38)×List (S64)×List (S64)×List ByteArray×Int×Int):=(impl_copyDisk.f l0_0 l0_1 l0_2 l0_3 a0_4 a0_5).bind fun o=>(impl_DiskOk.f k l0_0 l0_1 l0_2 l0_3 a0_4 a0_5).bind fun b=>if b=true then (if l0_1.length*24≤140737488355328 then some (o.1.filter fun x=>(l0_1.map fun z=>z.f1).contains x.f0,o.2.1,l0_1,[],o.2.2.2.2.1,o.2.2.2.2.2) else none) else some (o.1,o.2.1,o.2.2.1,o.2.2.2.1,o.2.2.2.2.1,o.2.2.2.2.2)
theorem impl_SyncNames.mono:∀ l0_0 l0_1 l0_2 l0_3 a0_4 a0_5 k,LeO (impl_SyncNames.f k l0_0 l0_1 l0_2 l0_3 a0_4 a0_5) (impl_SyncNames.f (k+1) l0_0 l0_1 l0_2 l0_3 a0_4 a0_5):=by
  intro l0_0 l0_1 l0_2 l0_3 a0_4 a0_5 k
  unfold impl_SyncNames.f
  repeat' first | (with_reducible exact LeO.refl _) | (with_reducible exact impl_DiskOk.mono _ _ _ _ _ _ _) | (with_reducible refine LeO.ite ?_ ?_) | (with_reducible refine LeO.bind ?_ (fun _=>?_))
set_option maxHeartbeats 4000000 in
set_option maxRecDepth 100000 in
theorem impl_SyncNames.calls (k:Nat) (A0_0:Option Addr) (c0_0:Nat) (l0_0:List (S38)) (A0_1:Option Addr) (c0_1:Nat) (l0_1:List (S64)) (A0_2:Option Addr) (c0_2:Nat) (l0_2:List (S64)) (A0_3:Option Addr) (c0_3:Nat) (l0_3:List ByteArray) (a0_4:Int) (a0_5:Int)  (r1:List S38) (r2:List S64) (r3:List S64) (r4:List ByteArray) (r5:Int) (r6:Int) (w:World) (hr0_0:Kd.C k38 w A0_0 l0_0.length l0_0) (hc0_0:l0_0.length≤c0_0) (hr0_1:Kd.C k64 w A0_1 l0_1.length l0_1) (hc0_1:l0_1.length≤c0_1) (hr0_2:Kd.C k64 w A0_2 l0_2.length l0_2) (hc0_2:l0_2.length≤c0_2) (hr0_3:Kd.C Kd.string w A0_3 l0_3.length l0_3) (hc0_3:l0_3.length≤c0_3) (hTE:TabsE w) (hTP:TabsP w) (h:impl_SyncNames.f k l0_0 l0_1 l0_2 l0_3 a0_4 a0_5=some (r1,r2,r3,r4,r5,r6)) :
    Calls Tryz.prog 29 #[.agg #[.slice A0_0 l0_0.length c0_0,.slice A0_1 l0_1.length c0_1,.slice A0_2 l0_2.length c0_2,.slice A0_3 l0_3.length c0_3,.int .i64 a0_4,.int .i64 a0_5]] w fun e w'=>∃ v0_ v1_ v2_ v3_:Value,e=.returned (.agg #[v0_,v1_,v2_,v3_,.int .i64 r5,.int .i64 r6])∧Kd.R k38 38 w' w.heap.size (fun _=>True) v0_ r1∧Kd.R k64 64 w' w.heap.size (fun k_=>some k_≠(v2_:Value).ownBlock) v1_ r2∧Kd.R k64 64 w' w.heap.size (fun k_=>some k_≠(v1_:Value).ownBlock) v2_ r3∧Kd.R Kd.string 9 w' w.heap.size (fun _=>True) v3_ r4∧Below w.heap.size w w':=by
  unfold impl_SyncNames.f at h
  replace h:=Option.bind_eq_some_iff.mp h
  obtain ⟨⟨o1,o2,o3,o4,o5,o6⟩,ho,h⟩:=h
  replace h:=Option.bind_eq_some_iff.mp h
  obtain ⟨b,hbk,h⟩:=h
  dsimp only at h
  have CC:=Aside0.mk (fun (w1:World) (hb:Below w.heap.size w w1)=>impl_copyDisk.calls A0_0 c0_0 l0_0 A0_1 c0_1 l0_1 A0_2 c0_2 l0_2 A0_3 c0_3 l0_3 a0_4 a0_5 o1 o2 o3 o4 o5 o6 w1 (Kd.C_below hr0_0 hb) hc0_0 (Kd.C_below hr0_1 hb) hc0_1 (Kd.C_below hr0_2 hb) hc0_2 (Kd.C_below hr0_3 hb) hc0_3 ho)
  have CD:=Aside0.mk (fun (w1:World) (hb:Below w.heap.size w w1)=>impl_DiskOk.calls k A0_0 c0_0 l0_0 A0_1 c0_1 l0_1 A0_2 c0_2 l0_2 A0_3 c0_3 l0_3 a0_4 a0_5 b w1 (Kd.C_below hr0_0 hb) hc0_0 (Kd.C_below hr0_1 hb) hc0_1 (Kd.C_below hr0_2 hb) hc0_2 (Kd.C_below hr0_3 hb) hc0_3 (hTE.below hb) (hTP.below hb) hbk)
  have HE:=Aside0.mk hTE
  have HP:=Aside0.mk hTP
  cases b with
  | false=>
    rw [if_neg (by decide)] at h
    simp only [Option.some.injEq,Prod.mk.injEq] at h
    obtain ⟨rfl,rfl,rfl,rfl,rfl,rfl⟩:=h
    clear ho hbk hr0_0 hc0_0 hr0_1 hc0_1 hr0_2 hc0_2 hr0_3 hc0_3 hTE hTP
    go_enter Tryz.func29,Tryz.ntmps29
    go_wp2_with (first | ((with_reducible refine gate_dst (N:=1) rfl ?_);refine box_event ?hg (N:=1) ?hd (cs:=#[.slice A0_0 l0_0.length c0_0,.slice A0_1 l0_1.length c0_1,.slice A0_2 l0_2.length c0_2,.slice A0_3 l0_3.length c0_3,.int .i64 a0_4,.int .i64 a0_5]) (t:=28) ?hr ?_;(case hd=>rfl);(case hg=>rfl);(case hr=>first | (go_simp;done) | (go_simp;rfl));intro gD hg w1 hbox hb;have BL:=Aside0.mk hb;have BD:=Aside0.mk hbox;clear hb;replace iD:=blk6 BD.out;clear hg hbox) | ((with_reducible refine gate_dst (N:=2) rfl ?_);refine box_event ?hg (N:=2) ?hd (cs:=#[.slice none 0 0,.slice none 0 0,.slice none 0 0,.slice none 0 0,.int .i64 0,.int .i64 0]) (t:=28) ?hr ?_;(case hd=>rfl);(case hg=>rfl);(case hr=>first | (go_simp;done) | (go_simp;rfl));intro gR hg w1 hbox hb;have GR:=Aside0.mk (show w.heap.size≤gR by rw [hg];exact BL.out.size);replace BL:=Aside0.mk (BL.out.trans (hb.mono BL.out.size));(try replace BD:=Aside0.mk ((hb.block gD (blk_lt BD.out)).trans BD.out));(try replace BR:=Aside0.mk ((hb.block gR (blk_lt BR.out)).trans BR.out));(try replace BO:=Aside0.mk ((hb.block gO (blk_lt BO.out)).trans BO.out));(try replace Do:=Aside0.mk (Do.out.on hb));have BR:=Aside0.mk hbox;clear hb;replace iD:=blk6 BD.out;clear hg hbox) | (go_at_call 53;have hbs:=BL.out.size;(with_reducible refine (CC.out _ BL.out).mono ?_);rintro e w1 ⟨v0,v1,v2,v3,rfl,p0,p1,p2,p3,hb⟩;have hD:=HasD.of p0 p1 p2 p3;replace BL:=Aside0.mk (BL.out.trans (hb.mono BL.out.size));(try replace BD:=Aside0.mk ((hb.block gD (blk_lt BD.out)).trans BD.out));(try replace BR:=Aside0.mk ((hb.block gR (blk_lt BR.out)).trans BR.out));(try replace BO:=Aside0.mk ((hb.block gO (blk_lt BO.out)).trans BO.out));(try replace Do:=Aside0.mk (Do.out.on hb));have Do:=Aside0.mk (hD.lower hbs);obtain ⟨A0,c0,rfl⟩:=Kd.R_slice p0;obtain ⟨A1,c1,rfl⟩:=Kd.R_slice p1;obtain ⟨A2,c2,rfl⟩:=Kd.R_slice p2;obtain ⟨A3,c3,rfl⟩:=Kd.R_slice p3;clear hD hb hbs p0 p1 p2 p3;replace iD:=blk6 BD.out) | ((with_reducible refine gate_store (t:=28) (p:=3) rfl ?_);refine store_event (t:=28) (p:=3) (v:=?voO) (w1:=w1.alloc (.cells #[.slice A0 o1.length c0,.slice A1 o2.length c1,.slice A2 o3.length c2,.slice A3 o4.length c3,.int .i64 o5,.int .i64 o6] 28 (0,0))) ?hg ?ho ?hn ?hr ?_;(case ho=>rfl);(case hg=>rfl);(case hn=>rfl);(case hr=>first | (go_simp;done) | (go_simp;rfl));intro wz hw;have hb:Below w1.heap.size w1 wz:=(by rw [hw];exact below_alloc (Below.refl _ _) _);have hbox:=(by rw [hw];exact blk_new w1 _:wz.heap[w1.heap.size]? = some (.cells #[.slice A0 o1.length c0,.slice A1 o2.length c1,.slice A2 o3.length c2,.slice A3 o4.length c3,.int .i64 o5,.int .i64 o6] 28 (0,0)));clear hw;obtain ⟨gO,hg⟩:∃ g,g=w1.heap.size:=⟨_,rfl⟩;rw [← hg] at hbox ⊢;have GO:=Aside0.mk (show w.heap.size≤gO by rw [hg];exact BL.out.size);have DO:=Aside0.mk (show gD≠gO by rw [hg];exact Nat.ne_of_lt (blk_lt BD.out));have RO:=Aside0.mk (show gR≠gO by rw [hg];exact Nat.ne_of_lt (blk_lt BR.out));clear hg;replace BL:=Aside0.mk (BL.out.trans (hb.mono BL.out.size));(try replace BD:=Aside0.mk ((hb.block gD (blk_lt BD.out)).trans BD.out));(try replace BR:=Aside0.mk ((hb.block gR (blk_lt BR.out)).trans BR.out));(try replace BO:=Aside0.mk ((hb.block gO (blk_lt BO.out)).trans BO.out));(try replace Do:=Aside0.mk (Do.out.on hb));have BO:=Aside0.mk hbox;clear hb hbox;replace iD:=blk6 BD.out;replace iO:=blk6 BO.out;replace iR:=blk6 BR.out;replace zO:=z6of BO.out;replace zR:=z6of BR.out) | (go_at_call 8;(with_reducible refine (CD.out _ BL.out).mono ?_);rintro e w1 ⟨rfl,hb⟩;replace BL:=Aside0.mk (BL.out.trans (hb.mono BL.out.size));(try replace BD:=Aside0.mk ((hb.block gD (blk_lt BD.out)).trans BD.out));(try replace BR:=Aside0.mk ((hb.block gR (blk_lt BR.out)).trans BR.out));(try replace BO:=Aside0.mk ((hb.block gO (blk_lt BO.out)).trans BO.out));(try replace Do:=Aside0.mk (Do.out.on hb));clear hb;replace iD:=blk6 BD.out;replace iO:=blk6 BO.out;replace iR:=blk6 BR.out;replace zO:=z6of BO.out;replace zR:=z6of BR.out) | (go_at_call 41;have hb0:=BL.out;(with_reducible refine (CL.out _ BL.out).mono ?_);rintro e wq ⟨vC,rfl,hC,hb⟩;obtain ⟨AC,cC,rfl⟩:=Kd.R_slice hC;replace BL:=Aside0.mk (BL.out.trans (hb.mono BL.out.size));(try replace BD:=Aside0.mk ((hb.block gD (blk_lt BD.out)).trans BD.out));(try replace BR:=Aside0.mk ((hb.block gR (blk_lt BR.out)).trans BR.out));(try replace BO:=Aside0.mk ((hb.block gO (blk_lt BO.out)).trans BO.out));have DP:=Do;replace Do:=Aside0.mk (Do.out.on hb);have RC:=Aside0.mk hC;have LC:=Aside0.mk (hb0.size);clear hC hb hb0;replace iD:=blk6 BD.out;replace iO:=blk6 BO.out;replace iR:=blk6 BR.out;replace zO:=z6of BO.out;replace zR:=z6of BR.out) | (go_at_call 68;refine set2_calls BO.out (fun W hG hT hs hz=>?_);have DW:=sync_has DP.out Do.out LC.out RC.out BO.out hs;have TW:=Aside0.mk (hT (Turned.refl _ (fun k=>k=gO)) (.inl rfl));have BLW:=TW.out.below BL.out (fun k hk=>by rw [hk];exact GO.out) BL.out.size;refine (cleanD gO w.heap.size A0 A1 AC none c0 c1 cC 0 o1 o2 l0_1 [] o5 o6 W hG DW (HE.out.below BLW) (HP.out.below BLW) (l0_1.map fun x=>x.f1) F rfl HF.out).mono ?_;rintro e w2 ⟨rfl,hG2,hD2,hT2⟩;have nbR:=DW.nobox (show W.heap[gR]? = _ from (TW.out.block gR (blk_lt BR.out) RO.out).trans BR.out) (by decide) (by decide) (by decide);have BR2:=Aside0.mk ((hT2.block gR (by rw [hz];exact blk_lt BR.out) (by rintro (h | h);exact RO.out h;exact nbR (.inl h))).trans ((TW.out.block gR (blk_lt BR.out) RO.out).trans BR.out));have BL2:=Aside0.mk (hT2.below BLW (fun k hk=>by rcases hk with rfl | hk;exact GO.out;exact DW.ge k (.inl hk)) BLW.size);clear BR BL BD BO Do DP BLW;have BR:=BR2;have BL:=BL2;have BO:=Aside0.mk hG2;have Do:=Aside0.mk hD2;clear BR2 BL2 hG2 hD2 hT2 nbR hG hT hs hz DW TW;clear iD;replace iO:=blk6 BO.out;replace iR:=blk6 BR.out;replace zR:=z6of BR.out))
    refine bodyPost_ret (results_cell_row rfl _ _ gR 28 #[.slice A0 o1.length c0,.slice A1 o2.length c1,.slice A2 o3.length c2,.slice A3 o4.length c3,.int .i64 o5,.int .i64 o6] (0,0) _ rfl (fill6_at BR.out) Tryz.underlying28 rfl (by kernel_rfl)) rfl ?_
    have hT:=filled_told (.int .i64 o5) (.int .i64 o6) Do.out BR.out
    exact ⟨_,_,_,_,rfl,hT.1,hT.2.1,hT.2.2.1,hT.2.2.2,fill6_below BL.out GR.out⟩
  | true=>
    rw [if_pos rfl] at h
    split at h
    case isFalse=>cases h
    rename_i hl
    have CL:=Aside0.mk (fun (w1:World) (hb:Below w.heap.size w w1)=>cloneE A0_1 c0_1 l0_1 w1 (Kd.C_below hr0_1 hb) hl)
    clear ho hbk hr0_0 hc0_0 hr0_1 hc0_1 hr0_2 hc0_2 hr0_3 hc0_3 hTE hTP
    simp only [Option.some.injEq,Prod.mk.injEq] at h
    obtain ⟨rfl,rfl,rfl,rfl,rfl,rfl⟩:=h
    generalize hF:(List.filter (fun x=>(List.map (fun z=>z.f1) l0_1).contains x.f0) o1)=F
    have HF:=Aside0.mk hF
    clear hF
    go_enter Tryz.func29,Tryz.ntmps29
    go_wp2_with (first | ((with_reducible refine gate_dst (N:=1) rfl ?_);refine box_event ?hg (N:=1) ?hd (cs:=#[.slice A0_0 l0_0.length c0_0,.slice A0_1 l0_1.length c0_1,.slice A0_2 l0_2.length c0_2,.slice A0_3 l0_3.length c0_3,.int .i64 a0_4,.int .i64 a0_5]) (t:=28) ?hr ?_;(case hd=>rfl);(case hg=>rfl);(case hr=>first | (go_simp;done) | (go_simp;rfl));intro gD hg w1 hbox hb;have BL:=Aside0.mk hb;have BD:=Aside0.mk hbox;clear hb;replace iD:=blk6 BD.out;clear hg hbox) | ((with_reducible refine gate_dst (N:=2) rfl ?_);refine box_event ?hg (N:=2) ?hd (cs:=#[.slice none 0 0,.slice none 0 0,.slice none 0 0,.slice none 0 0,.int .i64 0,.int .i64 0]) (t:=28) ?hr ?_;(case hd=>rfl);(case hg=>rfl);(case hr=>first | (go_simp;done) | (go_simp;rfl));intro gR hg w1 hbox hb;have GR:=Aside0.mk (show w.heap.size≤gR by rw [hg];exact BL.out.size);replace BL:=Aside0.mk (BL.out.trans (hb.mono BL.out.size));(try replace BD:=Aside0.mk ((hb.block gD (blk_lt BD.out)).trans BD.out));(try replace BR:=Aside0.mk ((hb.block gR (blk_lt BR.out)).trans BR.out));(try replace BO:=Aside0.mk ((hb.block gO (blk_lt BO.out)).trans BO.out));(try replace Do:=Aside0.mk (Do.out.on hb));have BR:=Aside0.mk hbox;clear hb;replace iD:=blk6 BD.out;clear hg hbox) | (go_at_call 53;have hbs:=BL.out.size;(with_reducible refine (CC.out _ BL.out).mono ?_);rintro e w1 ⟨v0,v1,v2,v3,rfl,p0,p1,p2,p3,hb⟩;have hD:=HasD.of p0 p1 p2 p3;replace BL:=Aside0.mk (BL.out.trans (hb.mono BL.out.size));(try replace BD:=Aside0.mk ((hb.block gD (blk_lt BD.out)).trans BD.out));(try replace BR:=Aside0.mk ((hb.block gR (blk_lt BR.out)).trans BR.out));(try replace BO:=Aside0.mk ((hb.block gO (blk_lt BO.out)).trans BO.out));(try replace Do:=Aside0.mk (Do.out.on hb));have Do:=Aside0.mk (hD.lower hbs);obtain ⟨A0,c0,rfl⟩:=Kd.R_slice p0;obtain ⟨A1,c1,rfl⟩:=Kd.R_slice p1;obtain ⟨A2,c2,rfl⟩:=Kd.R_slice p2;obtain ⟨A3,c3,rfl⟩:=Kd.R_slice p3;clear hD hb hbs p0 p1 p2 p3;replace iD:=blk6 BD.out) | ((with_reducible refine gate_store (t:=28) (p:=3) rfl ?_);refine store_event (t:=28) (p:=3) (v:=?voO) (w1:=w1.alloc (.cells #[.slice A0 o1.length c0,.slice A1 o2.length c1,.slice A2 o3.length c2,.slice A3 o4.length c3,.int .i64 o5,.int .i64 o6] 28 (0,0))) ?hg ?ho ?hn ?hr ?_;(case ho=>rfl);(case hg=>rfl);(case hn=>rfl);(case hr=>first | (go_simp;done) | (go_simp;rfl));intro wz hw;have hb:Below w1.heap.size w1 wz:=(by rw [hw];exact below_alloc (Below.refl _ _) _);have hbox:=(by rw [hw];exact blk_new w1 _:wz.heap[w1.heap.size]? = some (.cells #[.slice A0 o1.length c0,.slice A1 o2.length c1,.slice A2 o3.length c2,.slice A3 o4.length c3,.int .i64 o5,.int .i64 o6] 28 (0,0)));clear hw;obtain ⟨gO,hg⟩:∃ g,g=w1.heap.size:=⟨_,rfl⟩;rw [← hg] at hbox ⊢;have GO:=Aside0.mk (show w.heap.size≤gO by rw [hg];exact BL.out.size);have DO:=Aside0.mk (show gD≠gO by rw [hg];exact Nat.ne_of_lt (blk_lt BD.out));have RO:=Aside0.mk (show gR≠gO by rw [hg];exact Nat.ne_of_lt (blk_lt BR.out));clear hg;replace BL:=Aside0.mk (BL.out.trans (hb.mono BL.out.size));(try replace BD:=Aside0.mk ((hb.block gD (blk_lt BD.out)).trans BD.out));(try replace BR:=Aside0.mk ((hb.block gR (blk_lt BR.out)).trans BR.out));(try replace BO:=Aside0.mk ((hb.block gO (blk_lt BO.out)).trans BO.out));(try replace Do:=Aside0.mk (Do.out.on hb));have BO:=Aside0.mk hbox;clear hb hbox;replace iD:=blk6 BD.out;replace iO:=blk6 BO.out;replace iR:=blk6 BR.out;replace zO:=z6of BO.out;replace zR:=z6of BR.out) | (go_at_call 8;(with_reducible refine (CD.out _ BL.out).mono ?_);rintro e w1 ⟨rfl,hb⟩;replace BL:=Aside0.mk (BL.out.trans (hb.mono BL.out.size));(try replace BD:=Aside0.mk ((hb.block gD (blk_lt BD.out)).trans BD.out));(try replace BR:=Aside0.mk ((hb.block gR (blk_lt BR.out)).trans BR.out));(try replace BO:=Aside0.mk ((hb.block gO (blk_lt BO.out)).trans BO.out));(try replace Do:=Aside0.mk (Do.out.on hb));clear hb;replace iD:=blk6 BD.out;replace iO:=blk6 BO.out;replace iR:=blk6 BR.out;replace zO:=z6of BO.out;replace zR:=z6of BR.out) | (go_at_call 41;have hb0:=BL.out;(with_reducible refine (CL.out _ BL.out).mono ?_);rintro e wq ⟨vC,rfl,hC,hb⟩;obtain ⟨AC,cC,rfl⟩:=Kd.R_slice hC;replace BL:=Aside0.mk (BL.out.trans (hb.mono BL.out.size));(try replace BD:=Aside0.mk ((hb.block gD (blk_lt BD.out)).trans BD.out));(try replace BR:=Aside0.mk ((hb.block gR (blk_lt BR.out)).trans BR.out));(try replace BO:=Aside0.mk ((hb.block gO (blk_lt BO.out)).trans BO.out));have DP:=Do;replace Do:=Aside0.mk (Do.out.on hb);have RC:=Aside0.mk hC;have LC:=Aside0.mk (hb0.size);clear hC hb hb0;replace iD:=blk6 BD.out;replace iO:=blk6 BO.out;replace iR:=blk6 BR.out;replace zO:=z6of BO.out;replace zR:=z6of BR.out) | (go_at_call 68;refine set2_calls BO.out (fun W hG hT hs hz=>?_);have DW:=sync_has DP.out Do.out LC.out RC.out BO.out hs;have TW:=Aside0.mk (hT (Turned.refl _ (fun k=>k=gO)) (.inl rfl));have BLW:=TW.out.below BL.out (fun k hk=>by rw [hk];exact GO.out) BL.out.size;refine (cleanD gO w.heap.size A0 A1 AC none c0 c1 cC 0 o1 o2 l0_1 [] o5 o6 W hG DW (HE.out.below BLW) (HP.out.below BLW) (l0_1.map fun x=>x.f1) F rfl HF.out).mono ?_;rintro e w2 ⟨rfl,hG2,hD2,hT2⟩;have nbR:=DW.nobox (show W.heap[gR]? = _ from (TW.out.block gR (blk_lt BR.out) RO.out).trans BR.out) (by decide) (by decide) (by decide);have BR2:=Aside0.mk ((hT2.block gR (by rw [hz];exact blk_lt BR.out) (by rintro (h | h);exact RO.out h;exact nbR (.inl h))).trans ((TW.out.block gR (blk_lt BR.out) RO.out).trans BR.out));have BL2:=Aside0.mk (hT2.below BLW (fun k hk=>by rcases hk with rfl | hk;exact GO.out;exact DW.ge k (.inl hk)) BLW.size);clear BR BL BD BO Do DP BLW;have BR:=BR2;have BL:=BL2;have BO:=Aside0.mk hG2;have Do:=Aside0.mk hD2;clear BR2 BL2 hG2 hD2 hT2 nbR hG hT hs hz DW TW;clear iD;replace iO:=blk6 BO.out;replace iR:=blk6 BR.out;replace zR:=z6of BR.out))
    refine bodyPost_ret (results_cell_row rfl _ _ gR 28 #[.slice A0 F.length c0,.slice A1 o2.length c1,.slice AC l0_1.length cC,.slice none 0 0,.int .i64 o5,.int .i64 o6] (0,0) _ rfl (fill6_at BR.out) Tryz.underlying28 rfl (by kernel_rfl)) rfl ?_
    have hT:=filled_told (.int .i64 o5) (.int .i64 o6) Do.out BR.out
    exact ⟨_,_,_,_,rfl,hT.1,hT.2.1,hT.2.2.1,hT.2.2.2,fill6_below BL.out GR.out⟩

end Go.Proofs.YthbffdjjmapaaaaGreatDoor.MFnRenamed
