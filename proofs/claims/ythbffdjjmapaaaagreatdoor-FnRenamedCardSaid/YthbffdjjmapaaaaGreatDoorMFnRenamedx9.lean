/- Each theorem here says that a call of one Go function answers what the Lean function beside it answers; its conditions stand in it. Written by a program of this session. -/
import Derived.Test.YthbffdjjmapaaaaGreatDoorMFnRenamedx0
import Derived.Test.YthbffdjjmapaaaaGreatDoorMFnRenamedx3
import Derived.Test.YthbffdjjmapaaaaGreatDoorMFnRenamedx7
import Derived.Test.YthbffdjjmapaaaaGreatDoorMFnRenamedx8
namespace Go.Proofs.YthbffdjjmapaaaaGreatDoor.MFnRenamed
open Go.RowKit Go.Proofs.YthbffdjjmapaaaaGreatDoorW.PrintWords Go.Proofs.YthbffdjjmapaaaaGreatDoorW.PrintLast Go.Proofs.YthbffdjjmapaaaaGreatDoorW.PrintMore
attribute [local go_sem] max2_int min2_int max_two min_two max_three min_three max_four min_four   -- for this text's walks alone
set_option linter.unusedVariables false
set_option linter.unusedSimpArgs false

/-! ### impl_Disk_nodeAt: function 50 -/
def impl_Disk_nodeAt.f (l0_0:List (S38)) (l0_1:List (S64)) (l0_2:List (S64)) (l0_3:List ByteArray) (a0_4:Int) (a0_5:Int) (a1:ByteArray):Option (Int):=(impl_placeOf.f l0_1 a1).bind fun t188=>(if t188<0 then (some (-1)) else (if 0≤t188 then (if t188<(l0_1.length:Int) then ((impl_Disk_nodeOf.f l0_0 l0_1 l0_2 l0_3 a0_4 a0_5 ((rd_T64 l0_1 t188).f1)).bind fun t190=>(some t190)) else (none)) else (none)))
def impl_Disk_nodeAt.T4:Bool×List (List Nat×List Nat):=(true,[([],[]),([],[]),([1],[1]),([],[]),([2,3],[2,3]),([4],[4]),([5],[5]),([0,6],[0,6]),([7,7,0,1,2,3,4,5,6,7],[7])])
def impl_Disk_nodeAt.B4:List Nat:=[0,0,2,0,14,30,62,127,255]
set_option maxHeartbeats 8000000 in
set_option maxRecDepth 100000 in
theorem impl_Disk_nodeAt.calls (A0_0:Option Addr) (c0_0:Nat) (l0_0:List (S38)) (A0_1:Option Addr) (c0_1:Nat) (l0_1:List (S64)) (A0_2:Option Addr) (c0_2:Nat) (l0_2:List (S64)) (A0_3:Option Addr) (c0_3:Nat) (l0_3:List ByteArray) (a0_4:Int) (a0_5:Int) (a1:ByteArray) (r:Int) (w:World) (hr0_0:Kd.C k38 w A0_0 l0_0.length l0_0) (hc0_0:l0_0.length≤c0_0) (hr0_1:Kd.C k64 w A0_1 l0_1.length l0_1) (hc0_1:l0_1.length≤c0_1) (hr0_2:Kd.C k64 w A0_2 l0_2.length l0_2) (hc0_2:l0_2.length≤c0_2) (hr0_3:Kd.C Kd.string w A0_3 l0_3.length l0_3) (hc0_3:l0_3.length≤c0_3) (h:impl_Disk_nodeAt.f l0_0 l0_1 l0_2 l0_3 a0_4 a0_5 a1=some r) :
  Calls Tryz.prog 50 #[.agg #[.slice A0_0 l0_0.length c0_0,.slice A0_1 l0_1.length c0_1,.slice A0_2 l0_2.length c0_2,.slice A0_3 l0_3.length c0_3,.int .i64 a0_4,.int .i64 a0_5],.string a1] w fun e w'=>e=.returned (.int .i64 r)∧Below w.heap.size w w':=by
 have HR0_0:=Aside0.mk hr0_0
 have HC0_0:=Aside0.mk hc0_0
 clear hr0_0 hc0_0
 have HR0_1:=Aside0.mk hr0_1
 have HC0_1:=Aside0.mk hc0_1
 clear hr0_1 hc0_1
 have HR0_2:=Aside0.mk hr0_2
 have HC0_2:=Aside0.mk hc0_2
 clear hr0_2 hc0_2
 have HR0_3:=Aside0.mk hr0_3
 have HC0_3:=Aside0.mk hc0_3
 clear hr0_3 hc0_3
 have HB:=Aside0.mk (Below.refl w.heap.size w)
 have H:((impl_placeOf.f l0_1 a1).bind fun t188=>(if t188<0 then (some (-1)) else (if 0≤t188 then (if t188<(l0_1.length:Int) then ((impl_Disk_nodeOf.f l0_0 l0_1 l0_2 l0_3 a0_4 a0_5 ((rd_T64 l0_1 t188).f1)).bind fun t190=>(some t190)) else (none)) else (none))))=some r:=h
 clear h
 obtain ⟨t188,A3,H⟩:=bA H
 replace H:(if t188<0 then (some (-1)) else (if 0≤t188 then (if t188<(l0_1.length:Int) then ((impl_Disk_nodeOf.f l0_0 l0_1 l0_2 l0_3 a0_4 a0_5 ((rd_T64 l0_1 t188).f1)).bind fun t190=>(some t190)) else (none)) else (none)))=some r:=H
 by_cases c4:t188<0
 ·rw [if_pos c4] at H
  have c4b0:decide (t188<0)=true:=decide_eq_true c4
  clear c4
  obtain rfl:=Option.some.inj H
  go_enter Tryz.func50,Tryz.ntmps50
  go_wp2_with (first | ((with_reducible refine gate_dst (N:=2) rfl ?_);refine box_event ?hg (N:=2) ?hd (cs:=#[.slice A0_0 l0_0.length c0_0,.slice A0_1 l0_1.length c0_1,.slice A0_2 l0_2.length c0_2,.slice A0_3 l0_3.length c0_3,.int .i64 a0_4,.int .i64 a0_5]) (t:=28) ?hr ?_;(case hd=>rfl);(case hg=>rfl);(case hr=>(go_simp;done));intro gb187 hg w5 hbox hb;have BK187:=Aside0.mk (hbox);replace HB:=Aside0.mk (below_step HB.out hb);clear hb hbox hg;obtain ⟨hcz6_0,hcz6_1,hcz6_2,hcz6_3,hcz6_4,hcz6_5⟩:=b6of BK187.out;obtain ⟨hfz6_0,hfz6_1,hfz6_2,hfz6_3,hfz6_4,hfz6_5⟩:=z6of BK187.out) | ((with_reducible refine gate_callee (f:=51) rfl ?_);refine goesL_ (some 9) rfl rfl Tryz.func51 (by kernel_rfl) rfl #[.slice A0_1 l0_1.length c0_1,.string a1] rfl (by (try simp only [List.map_toArray,List.map_cons,List.map_nil]);rfl) ?_;(with_reducible refine (impl_placeOf.calls _ _ l0_1 a1 t188 _ ?side1 ?side2 A3.out).mono ?_);(case side1=>repeat (exact (Kd.C_below HR0_1.out HB.out)));(case side2=>exact HC0_1.out);rintro e w7 ⟨rfl,hb⟩;refine ⟨_,rfl,?_⟩;replace BK187:=Aside0.mk (bB hb BK187.out);replace HB:=Aside0.mk (below_step HB.out hb);(try clear hb)))
  all_goals (go_ret)
  all_goals exact ⟨by rfl,by repeat (with_reducible exact HB.out)⟩
 ·rw [if_neg c4] at H
  have c4b0:decide (t188<0)=false:=decide_eq_false c4
  clear c4
  by_cases c8:0≤t188
  ·rw [if_pos c8] at H
   have c8b0:decide (0≤t188)=true:=decide_eq_true c8
   clear c8
   by_cases c9:t188<(l0_1.length:Int)
   ·rw [if_pos c9] at H
    have c9b0:decide (t188<(l0_1.length:Int))=true:=decide_eq_true c9
    clear c9
    obtain ⟨t190,A10,H⟩:=bA H
    replace H:(some t190)=some r:=H
    obtain rfl:=Option.some.inj H
    go_enter Tryz.func50,Tryz.ntmps50
    try go_wp2_with (first | ((with_reducible refine gate_dst (N:=2) rfl ?_);refine box_event ?hg (N:=2) ?hd (cs:=#[.slice A0_0 l0_0.length c0_0,.slice A0_1 l0_1.length c0_1,.slice A0_2 l0_2.length c0_2,.slice A0_3 l0_3.length c0_3,.int .i64 a0_4,.int .i64 a0_5]) (t:=28) ?hr ?_;(case hd=>rfl);(case hg=>rfl);(case hr=>(go_simp;done));intro gb187 hg w11 hbox hb;have BK187:=Aside0.mk (hbox);replace HB:=Aside0.mk (below_step HB.out hb);clear hb hbox hg;obtain ⟨hcz12_0,hcz12_1,hcz12_2,hcz12_3,hcz12_4,hcz12_5⟩:=b6of BK187.out;obtain ⟨hfz12_0,hfz12_1,hfz12_2,hfz12_3,hfz12_4,hfz12_5⟩:=z6of BK187.out) | ((with_reducible refine gate_callee (f:=51) rfl ?_);refine goesL_ (some 9) rfl rfl Tryz.func51 (by kernel_rfl) rfl #[.slice A0_1 l0_1.length c0_1,.string a1] rfl (by (try simp only [List.map_toArray,List.map_cons,List.map_nil]);rfl) ?_;(with_reducible refine (impl_placeOf.calls _ _ l0_1 a1 t188 _ ?side1 ?side2 A3.out).mono ?_);(case side1=>repeat (exact (Kd.C_below HR0_1.out HB.out)));(case side2=>exact HC0_1.out);rintro e w13 ⟨rfl,hb⟩;refine ⟨_,rfl,?_⟩;replace BK187:=Aside0.mk (bB hb BK187.out);replace HB:=Aside0.mk (below_step HB.out hb);(try clear hb)))
    have p189:0≤(t188:Int):=of_decide_eq_true (by (with_reducible assumption))
    have q189:t188<(l0_1.length:Int):=of_decide_eq_true (by (with_reducible assumption))
    obtain ⟨ad189,e189,hx189_0,hx189_1⟩:=at_T64 HR0_1.out t188 p189 q189
    have hw189_1:=hx189_1
    cases e189
    replace hx189_0:=(HB.out.cell (World.block_lt_of_cell? w _ hx189_0)).trans hx189_0
    replace hx189_1:=(HB.out.cell (World.block_lt_of_cell? w _ hx189_1)).trans hx189_1
    replace p189:=eq_true p189
    replace q189:=eq_true q189
    have sq0_:∀ p_:LaidBy w13,p_.W.cell? ⟨gb187,0,none⟩=some (.slice A0_0 l0_0.length c0_0):=fun p_=>p_.cell ((blk_cell BK187.out 0).trans rfl)
    have sq1_:∀ p_:LaidBy w13,p_.W.cell? ⟨gb187,1,none⟩=some (.slice (some ad189) l0_1.length c0_1):=fun p_=>p_.cell ((blk_cell BK187.out 1).trans rfl)
    have sq2_:∀ p_:LaidBy w13,p_.W.cell? ⟨gb187,2,none⟩=some (.slice A0_2 l0_2.length c0_2):=fun p_=>p_.cell ((blk_cell BK187.out 2).trans rfl)
    have sq3_:∀ p_:LaidBy w13,p_.W.cell? ⟨gb187,3,none⟩=some (.slice A0_3 l0_3.length c0_3):=fun p_=>p_.cell ((blk_cell BK187.out 3).trans rfl)
    have sq4_:∀ p_:LaidBy w13,p_.W.cell? ⟨gb187,4,none⟩=some (.int .i64 a0_4):=fun p_=>p_.cell ((blk_cell BK187.out 4).trans rfl)
    have sq5_:∀ p_:LaidBy w13,p_.W.cell? ⟨gb187,5,none⟩=some (.int .i64 a0_5):=fun p_=>p_.cell ((blk_cell BK187.out 5).trans rfl)
    have sq7_:∀ p_:LaidBy w13,p_.W.cell? ⟨(ad189.add ((t188).toNat*2)).block,(ad189.add ((t188).toNat*2)).off+1,none⟩=some (.int .i64 ((rd_T64 l0_1 t188).f1)):=fun p_=>p_.cell ((HB.out.cell (World.block_lt_of_cell? w _ hw189_1)).trans hw189_1)
    refine wp_region_laid (by kernel_rfl) (by kernel_rfl) ?_
    repeat (go_big_quiet_step ((go_at_call 77;with_reducible exact laid_of _ (impl_Disk_nodeOf.calls _ _ l0_0 _ _ l0_1 _ _ l0_2 _ _ l0_3 a0_4 a0_5 ((rd_T64 l0_1 t188).f1) t190 _ (Kd.C_below HR0_0.out (LaidBy.below _ HB.out)) HC0_0.out (Kd.C_below HR0_1.out (LaidBy.below _ HB.out)) HC0_1.out (Kd.C_below HR0_2.out (LaidBy.below _ HB.out)) HC0_2.out (Kd.C_below HR0_3.out (LaidBy.below _ HB.out)) HC0_3.out A10.out))))
    refine wpQuiet_nil ?_
    rintro w15 ⟨p_,hp_⟩
    have hq_:Below w13.heap.size w13 w15:=hp_▸p_.ok
    clear hp_ p_ sq0_ sq1_ sq2_ sq3_ sq4_ sq5_ sq7_
    have n0_:=Aside0.mk ((hq_.block gb187 (blk_lt BK187.out)).trans BK187.out)
    have n1_:=Aside0.mk (HB.out.trans (hq_.mono HB.out.size))
    clear BK187 HB
    have BK187:=n0_
    have HB:=n1_
    clear hq_ n0_ n1_
    try go_wp2
    all_goals (go_ret)
    all_goals exact ⟨by rfl,by repeat (with_reducible exact HB.out)⟩
   ·rw [if_neg c9] at H
    exact absurd H (by simp)
  ·rw [if_neg c8] at H
   exact absurd H (by simp)

/-! ### impl_NodeAt: function 15 -/
def impl_NodeAt.f (l0_0:List (S38)) (l0_1:List (S64)) (l0_2:List (S64)) (l0_3:List ByteArray) (a0_4:Int) (a0_5:Int) (a1:ByteArray):Option (Int×ByteArray×Int×Bool):=(impl_Disk_nodeAt.f l0_0 l0_1 l0_2 l0_3 a0_4 a0_5 a1).bind fun t193=>(if t193<0 then (some (0,(⟨#[]⟩:ByteArray),0,false)) else (if 0≤t193 then (if t193<(l0_0.length:Int) then (some ((rd_T38 l0_0 t193).f0,(rd_T38 l0_0 t193).f1,(rd_T38 l0_0 t193).f2,true)) else (none)) else (none)))
set_option maxHeartbeats 8000000 in
set_option maxRecDepth 100000 in
theorem impl_NodeAt.calls (A0_0:Option Addr) (c0_0:Nat) (l0_0:List (S38)) (A0_1:Option Addr) (c0_1:Nat) (l0_1:List (S64)) (A0_2:Option Addr) (c0_2:Nat) (l0_2:List (S64)) (A0_3:Option Addr) (c0_3:Nat) (l0_3:List ByteArray) (a0_4:Int) (a0_5:Int) (a1:ByteArray) (r1:Int) (r2:ByteArray) (r3:Int) (r4:Bool) (w:World) (hr0_0:Kd.C k38 w A0_0 l0_0.length l0_0) (hc0_0:l0_0.length≤c0_0) (hr0_1:Kd.C k64 w A0_1 l0_1.length l0_1) (hc0_1:l0_1.length≤c0_1) (hr0_2:Kd.C k64 w A0_2 l0_2.length l0_2) (hc0_2:l0_2.length≤c0_2) (hr0_3:Kd.C Kd.string w A0_3 l0_3.length l0_3) (hc0_3:l0_3.length≤c0_3) (h:impl_NodeAt.f l0_0 l0_1 l0_2 l0_3 a0_4 a0_5 a1=some (r1,r2,r3,r4)) :
  Calls Tryz.prog 15 #[.agg #[.slice A0_0 l0_0.length c0_0,.slice A0_1 l0_1.length c0_1,.slice A0_2 l0_2.length c0_2,.slice A0_3 l0_3.length c0_3,.int .i64 a0_4,.int .i64 a0_5],.string a1] w fun e w'=>e=.returned (.tuple #[.agg #[.int .i64 r1,.string r2,.int .i64 r3],.bool r4])∧Below w.heap.size w w':=by
 have HR0_0:=Aside0.mk hr0_0
 have HC0_0:=Aside0.mk hc0_0
 clear hr0_0 hc0_0
 have HR0_1:=Aside0.mk hr0_1
 have HC0_1:=Aside0.mk hc0_1
 clear hr0_1 hc0_1
 have HR0_2:=Aside0.mk hr0_2
 have HC0_2:=Aside0.mk hc0_2
 clear hr0_2 hc0_2
 have HR0_3:=Aside0.mk hr0_3
 have HC0_3:=Aside0.mk hc0_3
 clear hr0_3 hc0_3
 have HB:=Aside0.mk (Below.refl w.heap.size w)
 have H:((impl_Disk_nodeAt.f l0_0 l0_1 l0_2 l0_3 a0_4 a0_5 a1).bind fun t193=>(if t193<0 then (some (0,(⟨#[]⟩:ByteArray),0,false)) else (if 0≤t193 then (if t193<(l0_0.length:Int) then (some ((rd_T38 l0_0 t193).f0,(rd_T38 l0_0 t193).f1,(rd_T38 l0_0 t193).f2,true)) else (none)) else (none))))=some (r1,r2,r3,r4):=h
 clear h
 obtain ⟨t193,A3,H⟩:=bA H
 replace H:(if t193<0 then (some (0,(⟨#[]⟩:ByteArray),0,false)) else (if 0≤t193 then (if t193<(l0_0.length:Int) then (some ((rd_T38 l0_0 t193).f0,(rd_T38 l0_0 t193).f1,(rd_T38 l0_0 t193).f2,true)) else (none)) else (none)))=some (r1,r2,r3,r4):=H
 by_cases c4:t193<0
 ·rw [if_pos c4] at H
  have c4b0:decide (t193<0)=true:=decide_eq_true c4
  clear c4
  simp only [Option.some.injEq,Prod.mk.injEq] at H
  obtain ⟨rfl,rfl,rfl,rfl⟩:=H
  go_enter Tryz.func15,Tryz.ntmps15
  go_wp2_with (first | ((with_reducible refine gate_dst (N:=2) rfl ?_);refine box_event ?hg (N:=2) ?hd (cs:=#[.slice A0_0 l0_0.length c0_0,.slice A0_1 l0_1.length c0_1,.slice A0_2 l0_2.length c0_2,.slice A0_3 l0_3.length c0_3,.int .i64 a0_4,.int .i64 a0_5]) (t:=28) ?hr ?_;(case hd=>rfl);(case hg=>rfl);(case hr=>(go_simp;done));intro gb191 hg w5 hbox hb;have BK191:=Aside0.mk (hbox);replace HB:=Aside0.mk (below_step HB.out hb);clear hb hbox hg) | ((with_reducible refine gate_dst (N:=4) rfl ?_);refine box_event ?hg (N:=4) ?hd (cs:=#[.int .i64 0,.string (⟨#[]⟩:ByteArray),.int .i64 0]) (t:=38) ?hr ?_;(case hd=>rfl);(case hg=>rfl);(case hr=>(go_simp;done));intro gb192 hg w6 hbox hb;have BK192:=Aside0.mk (hbox);have GE192:=Aside0.mk ((by rw [hg];exact (below_size HB.out):w.heap.size≤gb192));replace BK191:=Aside0.mk (bB hb BK191.out);replace HB:=Aside0.mk (below_step HB.out hb);clear hb hbox hg;obtain ⟨hcz8_0,hcz8_1,hcz8_2,hcz8_3,hcz8_4,hcz8_5⟩:=b6of BK191.out;obtain ⟨hfz8_0,hfz8_1,hfz8_2,hfz8_3,hfz8_4,hfz8_5⟩:=z6of BK191.out) | ((with_reducible refine gate_callee (f:=50) rfl ?_);refine goesL_ (some 9) rfl rfl Tryz.func50 (by kernel_rfl) rfl #[.agg #[.slice A0_0 l0_0.length c0_0,.slice A0_1 l0_1.length c0_1,.slice A0_2 l0_2.length c0_2,.slice A0_3 l0_3.length c0_3,.int .i64 a0_4,.int .i64 a0_5],.string a1] rfl (by (try simp only [List.map_toArray,List.map_cons,List.map_nil]);rfl) ?_;(with_reducible refine (impl_Disk_nodeAt.calls _ _ l0_0 _ _ l0_1 _ _ l0_2 _ _ l0_3 a0_4 a0_5 a1 t193 _ ?side1 ?side2 ?side3 ?side4 ?side5 ?side6 ?side7 ?side8 A3.out).mono ?_);(case side1=>repeat (exact (Kd.C_below HR0_0.out HB.out)));(case side2=>exact HC0_0.out);(case side3=>repeat (exact (Kd.C_below HR0_1.out HB.out)));(case side4=>exact HC0_1.out);(case side5=>repeat (exact (Kd.C_below HR0_2.out HB.out)));(case side6=>exact HC0_2.out);(case side7=>repeat (exact (Kd.C_below HR0_3.out HB.out)));(case side8=>exact HC0_3.out);rintro e w9 ⟨rfl,hb⟩;refine ⟨_,rfl,?_⟩;replace BK191:=Aside0.mk (bB hb BK191.out);replace BK192:=Aside0.mk (bB hb BK192.out);replace HB:=Aside0.mk (below_step HB.out hb);(try clear hb);have hcz10_0:w9.cell? ⟨gb192,0,none⟩=some (.int .i64 0):=(blk_cell BK192.out 0).trans rfl;have hcz10_1:w9.cell? ⟨gb192,1,none⟩=some (.string (⟨#[]⟩:ByteArray)):=(blk_cell BK192.out 1).trans rfl;have hcz10_2:w9.cell? ⟨gb192,2,none⟩=some (.int .i64 0):=(blk_cell BK192.out 2).trans rfl;have hfz10_0:=blk_frozen BK192.out 0;have hfz10_1:=blk_frozen BK192.out 1;have hfz10_2:=blk_frozen BK192.out 2))
  refine bodyPost_ret (results_ct rfl _ _ gb192 38 #[.int .i64 0,.string (⟨#[]⟩:ByteArray),.int .i64 0] (0,0) _ rfl (by refine blk_put (cs:=#[.int .i64 0,.string (⟨#[]⟩:ByteArray),.int .i64 0]) ?_ 2 _ rfl;refine blk_put (cs:=#[.int .i64 0,.string (⟨#[]⟩:ByteArray),.int .i64 0]) ?_ 1 _ rfl;refine blk_put (cs:=#[.int .i64 0,.string (⟨#[]⟩:ByteArray),.int .i64 0]) ?_ 0 _ rfl;exact BK192.out) Tryz.underlying38 rfl (by kernel_rfl)) rfl ?_
  all_goals exact ⟨by rfl,by repeat (with_reducible first | exact HB.out | refine below_set ?_ GE192.out)⟩
 ·rw [if_neg c4] at H
  have c4b0:decide (t193<0)=false:=decide_eq_false c4
  clear c4
  by_cases c11:0≤t193
  ·rw [if_pos c11] at H
   have c11b0:decide (0≤t193)=true:=decide_eq_true c11
   clear c11
   by_cases c12:t193<(l0_0.length:Int)
   ·rw [if_pos c12] at H
    have c12b0:decide (t193<(l0_0.length:Int))=true:=decide_eq_true c12
    clear c12
    simp only [Option.some.injEq,Prod.mk.injEq] at H
    obtain ⟨rfl,rfl,rfl,rfl⟩:=H
    go_enter Tryz.func15,Tryz.ntmps15
    go_wp2_with (first | ((with_reducible refine gate_dst (N:=2) rfl ?_);refine box_event ?hg (N:=2) ?hd (cs:=#[.slice A0_0 l0_0.length c0_0,.slice A0_1 l0_1.length c0_1,.slice A0_2 l0_2.length c0_2,.slice A0_3 l0_3.length c0_3,.int .i64 a0_4,.int .i64 a0_5]) (t:=28) ?hr ?_;(case hd=>rfl);(case hg=>rfl);(case hr=>(go_simp;done));intro gb191 hg w13 hbox hb;have BK191:=Aside0.mk (hbox);replace HB:=Aside0.mk (below_step HB.out hb);clear hb hbox hg) | ((with_reducible refine gate_dst (N:=4) rfl ?_);refine box_event ?hg (N:=4) ?hd (cs:=#[.int .i64 0,.string (⟨#[]⟩:ByteArray),.int .i64 0]) (t:=38) ?hr ?_;(case hd=>rfl);(case hg=>rfl);(case hr=>(go_simp;done));intro gb192 hg w14 hbox hb;have BK192:=Aside0.mk (hbox);have GE192:=Aside0.mk ((by rw [hg];exact (below_size HB.out):w.heap.size≤gb192));replace BK191:=Aside0.mk (bB hb BK191.out);replace HB:=Aside0.mk (below_step HB.out hb);clear hb hbox hg;obtain ⟨hcz16_0,hcz16_1,hcz16_2,hcz16_3,hcz16_4,hcz16_5⟩:=b6of BK191.out;obtain ⟨hfz16_0,hfz16_1,hfz16_2,hfz16_3,hfz16_4,hfz16_5⟩:=z6of BK191.out) | ((with_reducible refine gate_callee (f:=50) rfl ?_);refine goesL_ (some 9) rfl rfl Tryz.func50 (by kernel_rfl) rfl #[.agg #[.slice A0_0 l0_0.length c0_0,.slice A0_1 l0_1.length c0_1,.slice A0_2 l0_2.length c0_2,.slice A0_3 l0_3.length c0_3,.int .i64 a0_4,.int .i64 a0_5],.string a1] rfl (by (try simp only [List.map_toArray,List.map_cons,List.map_nil]);rfl) ?_;(with_reducible refine (impl_Disk_nodeAt.calls _ _ l0_0 _ _ l0_1 _ _ l0_2 _ _ l0_3 a0_4 a0_5 a1 t193 _ ?side1 ?side2 ?side3 ?side4 ?side5 ?side6 ?side7 ?side8 A3.out).mono ?_);(case side1=>repeat (exact (Kd.C_below HR0_0.out HB.out)));(case side2=>exact HC0_0.out);(case side3=>repeat (exact (Kd.C_below HR0_1.out HB.out)));(case side4=>exact HC0_1.out);(case side5=>repeat (exact (Kd.C_below HR0_2.out HB.out)));(case side6=>exact HC0_2.out);(case side7=>repeat (exact (Kd.C_below HR0_3.out HB.out)));(case side8=>exact HC0_3.out);rintro e w17 ⟨rfl,hb⟩;refine ⟨_,rfl,?_⟩;replace BK191:=Aside0.mk (bB hb BK191.out);replace BK192:=Aside0.mk (bB hb BK192.out);replace HB:=Aside0.mk (below_step HB.out hb);(try clear hb);obtain ⟨hcz18_0,hcz18_1,hcz18_2,hcz18_3,hcz18_4,hcz18_5⟩:=b6of BK191.out;obtain ⟨hfz18_0,hfz18_1,hfz18_2,hfz18_3,hfz18_4,hfz18_5⟩:=z6of BK191.out;have p194:0≤(t193:Int):=of_decide_eq_true (by (with_reducible assumption));have q194:t193<(l0_0.length:Int):=of_decide_eq_true (by (with_reducible assumption));obtain ⟨ad194,e194,hx194_0,hx194_1,hx194_2⟩:=at_T38 HR0_0.out t193 p194 q194;cases e194;replace hx194_0:=(HB.out.cell (World.block_lt_of_cell? w _ hx194_0)).trans hx194_0;replace hx194_1:=(HB.out.cell (World.block_lt_of_cell? w _ hx194_1)).trans hx194_1;replace hx194_2:=(HB.out.cell (World.block_lt_of_cell? w _ hx194_2)).trans hx194_2;replace p194:=eq_true p194;replace q194:=eq_true q194;have hcz19_0:w17.cell? ⟨gb192,0,none⟩=some (.int .i64 0):=(blk_cell BK192.out 0).trans rfl;have hcz19_1:w17.cell? ⟨gb192,1,none⟩=some (.string (⟨#[]⟩:ByteArray)):=(blk_cell BK192.out 1).trans rfl;have hcz19_2:w17.cell? ⟨gb192,2,none⟩=some (.int .i64 0):=(blk_cell BK192.out 2).trans rfl;have hfz19_0:=blk_frozen BK192.out 0;have hfz19_1:=blk_frozen BK192.out 1;have hfz19_2:=blk_frozen BK192.out 2))
    refine bodyPost_ret (results_ct rfl _ _ gb192 38 #[.int .i64 ((rd_T38 l0_0 t193).f0),.string ((rd_T38 l0_0 t193).f1),.int .i64 ((rd_T38 l0_0 t193).f2)] (0,0) _ rfl (by refine blk_put (cs:=#[.int .i64 ((rd_T38 l0_0 t193).f0),.string ((rd_T38 l0_0 t193).f1),.int .i64 0]) ?_ 2 _ rfl;refine blk_put (cs:=#[.int .i64 ((rd_T38 l0_0 t193).f0),.string (⟨#[]⟩:ByteArray),.int .i64 0]) ?_ 1 _ rfl;refine blk_put (cs:=#[.int .i64 0,.string (⟨#[]⟩:ByteArray),.int .i64 0]) ?_ 0 _ rfl;exact BK192.out) Tryz.underlying38 rfl (by kernel_rfl)) rfl ?_
    all_goals exact ⟨by rfl,by repeat (with_reducible first | exact HB.out | refine below_set ?_ GE192.out)⟩
   ·rw [if_neg c12] at H
    exact absurd H (by simp)
  ·rw [if_neg c11] at H
   exact absurd H (by simp)

/-! ### impl_ReadFile: function 12 -/
def impl_ReadFile.f (l0_0:List (S38)) (l0_1:List (S64)) (l0_2:List (S64)) (l0_3:List ByteArray) (a0_4:Int) (a0_5:Int) (a1:ByteArray):Option (ByteArray×Bool):=(impl_NodeAt.f l0_0 l0_1 l0_2 l0_3 a0_4 a0_5 a1).bind fun bt196=>(some (bt196.2.1,bt196.2.2.2))
set_option maxHeartbeats 8000000 in
set_option maxRecDepth 100000 in
theorem impl_ReadFile.calls (A0_0:Option Addr) (c0_0:Nat) (l0_0:List (S38)) (A0_1:Option Addr) (c0_1:Nat) (l0_1:List (S64)) (A0_2:Option Addr) (c0_2:Nat) (l0_2:List (S64)) (A0_3:Option Addr) (c0_3:Nat) (l0_3:List ByteArray) (a0_4:Int) (a0_5:Int) (a1:ByteArray) (r1:ByteArray) (r2:Bool) (w:World) (hr0_0:Kd.C k38 w A0_0 l0_0.length l0_0) (hc0_0:l0_0.length≤c0_0) (hr0_1:Kd.C k64 w A0_1 l0_1.length l0_1) (hc0_1:l0_1.length≤c0_1) (hr0_2:Kd.C k64 w A0_2 l0_2.length l0_2) (hc0_2:l0_2.length≤c0_2) (hr0_3:Kd.C Kd.string w A0_3 l0_3.length l0_3) (hc0_3:l0_3.length≤c0_3) (h:impl_ReadFile.f l0_0 l0_1 l0_2 l0_3 a0_4 a0_5 a1=some (r1,r2)) :
  Calls Tryz.prog 12 #[.agg #[.slice A0_0 l0_0.length c0_0,.slice A0_1 l0_1.length c0_1,.slice A0_2 l0_2.length c0_2,.slice A0_3 l0_3.length c0_3,.int .i64 a0_4,.int .i64 a0_5],.string a1] w fun e w'=>e=.returned (.tuple #[.string r1,.bool r2])∧Below w.heap.size w w':=by
 have HR0_0:=Aside0.mk hr0_0
 have HC0_0:=Aside0.mk hc0_0
 clear hr0_0 hc0_0
 have HR0_1:=Aside0.mk hr0_1
 have HC0_1:=Aside0.mk hc0_1
 clear hr0_1 hc0_1
 have HR0_2:=Aside0.mk hr0_2
 have HC0_2:=Aside0.mk hc0_2
 clear hr0_2 hc0_2
 have HR0_3:=Aside0.mk hr0_3
 have HC0_3:=Aside0.mk hc0_3
 clear hr0_3 hc0_3
 have HB:=Aside0.mk (Below.refl w.heap.size w)
 have H:((impl_NodeAt.f l0_0 l0_1 l0_2 l0_3 a0_4 a0_5 a1).bind fun bt196=>(some (bt196.2.1,bt196.2.2.2)))=some (r1,r2):=h
 clear h
 obtain ⟨⟨t196,t197,t198,t199⟩,A3,H⟩:=bA H
 replace H:(some (t197,t199))=some (r1,r2):=H
 simp only [Option.some.injEq,Prod.mk.injEq] at H
 obtain ⟨rfl,rfl⟩:=H
 go_enter Tryz.func12,Tryz.ntmps12
 go_wp2_with (first | ((with_reducible refine gate_dst (N:=2) rfl ?_);refine box_event ?hg (N:=2) ?hd (cs:=#[.slice A0_0 l0_0.length c0_0,.slice A0_1 l0_1.length c0_1,.slice A0_2 l0_2.length c0_2,.slice A0_3 l0_3.length c0_3,.int .i64 a0_4,.int .i64 a0_5]) (t:=28) ?hr ?_;(case hd=>rfl);(case hg=>rfl);(case hr=>(go_simp;done));intro gb195 hg w4 hbox hb;have BK195:=Aside0.mk (hbox);replace HB:=Aside0.mk (below_step HB.out hb);clear hb hbox hg;obtain ⟨hcz5_0,hcz5_1,hcz5_2,hcz5_3,hcz5_4,hcz5_5⟩:=b6of BK195.out;obtain ⟨hfz5_0,hfz5_1,hfz5_2,hfz5_3,hfz5_4,hfz5_5⟩:=z6of BK195.out) | ((with_reducible refine gate_callee (f:=15) rfl ?_);refine goesL_ (some 11) rfl rfl Tryz.func15 (by kernel_rfl) rfl #[.agg #[.slice A0_0 l0_0.length c0_0,.slice A0_1 l0_1.length c0_1,.slice A0_2 l0_2.length c0_2,.slice A0_3 l0_3.length c0_3,.int .i64 a0_4,.int .i64 a0_5],.string a1] rfl (by (try simp only [List.map_toArray,List.map_cons,List.map_nil]);rfl) ?_;(with_reducible refine (impl_NodeAt.calls _ _ l0_0 _ _ l0_1 _ _ l0_2 _ _ l0_3 a0_4 a0_5 a1 t196 t197 t198 t199 _ ?side1 ?side2 ?side3 ?side4 ?side5 ?side6 ?side7 ?side8 A3.out).mono ?_);(case side1=>repeat (exact (Kd.C_below HR0_0.out HB.out)));(case side2=>exact HC0_0.out);(case side3=>repeat (exact (Kd.C_below HR0_1.out HB.out)));(case side4=>exact HC0_1.out);(case side5=>repeat (exact (Kd.C_below HR0_2.out HB.out)));(case side6=>exact HC0_2.out);(case side7=>repeat (exact (Kd.C_below HR0_3.out HB.out)));(case side8=>exact HC0_3.out);rintro e w6 ⟨rfl,hb⟩;refine ⟨_,rfl,?_⟩;replace BK195:=Aside0.mk (bB hb BK195.out);replace HB:=Aside0.mk (below_step HB.out hb);(try clear hb)) | ((with_reducible refine gate_dst (N:=6) rfl ?_);refine box_event ?hg (N:=6) ?hd (cs:=#[.int .i64 0,.string (⟨#[]⟩:ByteArray),.int .i64 0]) (t:=38) ?hr ?_;(case hd=>rfl);(case hg=>rfl);(case hr=>(go_simp;done));intro gb200 hg w7 hbox hb;have BK200:=Aside0.mk (hbox);have GE200:=Aside0.mk ((by rw [hg];exact (below_size HB.out):w.heap.size≤gb200));replace BK195:=Aside0.mk (bB hb BK195.out);replace HB:=Aside0.mk (below_step HB.out hb);clear hb hbox hg;have hcz9_0:w7.cell? ⟨gb200,0,none⟩=some (.int .i64 0):=(blk_cell BK200.out 0).trans rfl;have hcz9_1:w7.cell? ⟨gb200,1,none⟩=some (.string (⟨#[]⟩:ByteArray)):=(blk_cell BK200.out 1).trans rfl;have hcz9_2:w7.cell? ⟨gb200,2,none⟩=some (.int .i64 0):=(blk_cell BK200.out 2).trans rfl;have hfz9_0:=blk_frozen BK200.out 0;have hfz9_1:=blk_frozen BK200.out 1;have hfz9_2:=blk_frozen BK200.out 2))
 all_goals (go_ret2)
 all_goals exact ⟨by rfl,by repeat (with_reducible first | exact HB.out | refine below_set ?_ GE200.out)⟩

/-! ### spec_NodeAt: function 49 -/
def spec_NodeAt.f (k:Nat) (l0_0:List S38) (l0_1:List S64) (l0_2:List S64) (l0_3:List ByteArray) (a0_4:Int) (a0_5:Int) (a1:ByteArray):Option (Int×ByteArray×Int×Bool):=(spec_EntryAt.f k l0_1 a1).bind fun i=>(spec_l05Node.f k l0_0 l0_1 l0_2 l0_3 a0_4 a0_5 i).bind fun n=>if n<0 then some (0,(⟨#[]⟩:ByteArray),0,false) else (spec_l06Has.f k l0_1 a1).bind fun t=>if t=true then (if 0≤n then (if n<(l0_0.length:Int) then some ((rd_T38 l0_0 n).f0,(rd_T38 l0_0 n).f1,(rd_T38 l0_0 n).f2,true) else none) else none) else some (0,(⟨#[]⟩:ByteArray),0,false)
theorem spec_NodeAt.mono:∀ l0_0 l0_1 l0_2 l0_3 a0_4 a0_5 a1 k,LeO (spec_NodeAt.f k l0_0 l0_1 l0_2 l0_3 a0_4 a0_5 a1) (spec_NodeAt.f (k+1) l0_0 l0_1 l0_2 l0_3 a0_4 a0_5 a1):=by
  intro l0_0 l0_1 l0_2 l0_3 a0_4 a0_5 a1 k
  unfold spec_NodeAt.f
  repeat' first | (with_reducible exact LeO.refl _) | (with_reducible exact spec_EntryAt.mono _ _ _) | (with_reducible exact spec_l05Node.mono _ _ _ _ _ _ _ _) | (with_reducible exact spec_l06Has.mono _ _ _) | (with_reducible refine LeO.ite ?_ ?_) | (with_reducible refine LeO.bind ?_ (fun _=>?_))
theorem blk3_ {w:World} {g:Nat} {t:TypeId} {a b c:Value} (h:w.heap[g]? = some (.cells #[a,b,c] t (0,0))):(w.cell? ⟨g,0,none⟩=some a∧w.cell? ⟨g,1,none⟩=some b∧w.cell? ⟨g,2,none⟩=some c)∧w.frozen? ⟨g,0,none⟩=false∧w.frozen? ⟨g,1,none⟩=false∧w.frozen? ⟨g,2,none⟩=false:=
  ⟨⟨(blk_cell h 0).trans rfl,(blk_cell h 1).trans rfl,(blk_cell h 2).trans rfl⟩,blk_frozen h 0,blk_frozen h 1,blk_frozen h 2⟩
theorem put3_ {w:World} {g:Nat} {t:TypeId} {x0 x1 x2:Value} (h:w.heap[g]? = some (.cells #[x0,x1,x2] t (0,0))) (a b c:Value):(((w.setCell ⟨g,0,none⟩ a).setCell ⟨g,1,none⟩ b).setCell ⟨g,2,none⟩ c).heap[g]? = some (.cells #[a,b,c] t (0,0)):=blk_put (cs:=#[a,b,x2]) (blk_put (cs:=#[a,x1,x2]) (blk_put (cs:=#[x0,x1,x2]) h 0 _ rfl) 1 _ rfl) 2 _ rfl
set_option maxHeartbeats 8000000 in
set_option maxRecDepth 100000 in
theorem spec_NodeAt.calls (k:Nat) (A0_0:Option Addr) (c0_0:Nat) (l0_0:List (S38)) (A0_1:Option Addr) (c0_1:Nat) (l0_1:List (S64)) (A0_2:Option Addr) (c0_2:Nat) (l0_2:List (S64)) (A0_3:Option Addr) (c0_3:Nat) (l0_3:List ByteArray) (a0_4:Int) (a0_5:Int) (a1:ByteArray) (r1:Int) (r2:ByteArray) (r3:Int) (r4:Bool) (w:World) (hr0_0:Kd.C k38 w A0_0 l0_0.length l0_0) (hc0_0:l0_0.length≤c0_0) (hr0_1:Kd.C k64 w A0_1 l0_1.length l0_1) (hc0_1:l0_1.length≤c0_1) (hr0_2:Kd.C k64 w A0_2 l0_2.length l0_2) (hc0_2:l0_2.length≤c0_2) (hr0_3:Kd.C Kd.string w A0_3 l0_3.length l0_3) (hc0_3:l0_3.length≤c0_3) (h:spec_NodeAt.f k l0_0 l0_1 l0_2 l0_3 a0_4 a0_5 a1=some (r1,r2,r3,r4)) :
    Calls Tryz.prog 49 #[.agg #[.slice A0_0 l0_0.length c0_0,.slice A0_1 l0_1.length c0_1,.slice A0_2 l0_2.length c0_2,.slice A0_3 l0_3.length c0_3,.int .i64 a0_4,.int .i64 a0_5],.string a1] w fun e w'=>e=.returned (.tuple #[.agg #[.int .i64 r1,.string r2,.int .i64 r3],.bool r4])∧Below w.heap.size w w':=by
  unfold spec_NodeAt.f at h
  replace h:=Option.bind_eq_some_iff.mp h
  obtain ⟨i,hi,h⟩:=h
  replace h:=Option.bind_eq_some_iff.mp h
  obtain ⟨n,hn,h⟩:=h
  have CI:=Aside0.mk (fun (w1:World) (hb:Below w.heap.size w w1)=>((spec_EntryAt.calls k A0_1 c0_1 l0_1 a1 i w1 (Kd.C_below hr0_1 hb) hc0_1 hi).mono (fun e w' q=>⟨q.1,by obtain ⟨nd,hnd⟩:=q.2;rw [hnd];exact pw_below_drewN (Below.refl _ _) nd⟩):Calls Tryz.prog 59 _ w1 fun e w'=>e=.returned (.int .i64 i)∧Below w1.heap.size w1 w'))
  have CN:=Aside0.mk (fun (w1:World) (hb:Below w.heap.size w w1)=>spec_l05Node.calls k A0_0 c0_0 l0_0 A0_1 c0_1 l0_1 A0_2 c0_2 l0_2 A0_3 c0_3 l0_3 a0_4 a0_5 i n w1 (Kd.C_below hr0_0 hb) hc0_0 (Kd.C_below hr0_1 hb) hc0_1 (Kd.C_below hr0_2 hb) hc0_2 (Kd.C_below hr0_3 hb) hc0_3 hn)
  have BL:=Aside0.mk (Below.refl w.heap.size w)
  have HR:=Aside0.mk hr0_0
  by_cases tn:n<0
  (rw [if_pos tn] at h;have t1:decide (n<0)=true:=decide_eq_true tn;(simp only [Option.some.injEq,Prod.mk.injEq] at h);obtain ⟨rfl,rfl,rfl,rfl⟩:=h)
  (rotate_left 1;(rw [if_neg tn] at h;have t1:decide (n<0)=false:=decide_eq_false tn;replace h:=Option.bind_eq_some_iff.mp h;obtain ⟨t,ht,h⟩:=h;have CH:=Aside0.mk (fun (w1:World) (hb:Below w.heap.size w w1)=>spec_l06Has.calls k A0_1 c0_1 l0_1 a1 t w1 (Kd.C_below hr0_1 hb) hc0_1 ht);clear ht;cases t);rotate_right 1)
  (rotate_left 1;(rw [if_neg (by decide)] at h;(simp only [Option.some.injEq,Prod.mk.injEq] at h);obtain ⟨rfl,rfl,rfl,rfl⟩:=h);rotate_right 1)
  (rotate_left 2;(rw [if_pos rfl] at h;by_cases n0:0≤n);rotate_right 2)
  (rotate_left 3;(rw [if_neg n0] at h;cases h);rotate_right 3)
  (rotate_left 2;(rw [if_pos n0] at h;by_cases n1:n<(l0_0.length:Int));rotate_right 2)
  (rotate_left 3;(rw [if_neg n1] at h;cases h);rotate_right 3)
  (rotate_left 2;(rw [if_pos n1] at h;(simp only [Option.some.injEq,Prod.mk.injEq] at h);obtain ⟨rfl,rfl,rfl,rfl⟩:=h);rotate_right 2)
  all_goals (clear hi hn hr0_0 hc0_0 hr0_1 hc0_1 hr0_2 hc0_2 hr0_3 hc0_3;go_enter Tryz.func49,Tryz.ntmps49;go_wp2_with (first | ((with_reducible refine gate_dst (N:=2) rfl ?_);refine box_event ?hg (N:=2) ?hd (cs:=#[.slice A0_0 l0_0.length c0_0,.slice A0_1 l0_1.length c0_1,.slice A0_2 l0_2.length c0_2,.slice A0_3 l0_3.length c0_3,.int .i64 a0_4,.int .i64 a0_5]) (t:=28) ?hr ?_;(case hd=>rfl);(case hg=>rfl);(case hr=>(go_simp;done));intro gD hg w1 hbox hb;replace BL:=Aside0.mk (BL.out.trans (hb.mono BL.out.size));have BD:=Aside0.mk hbox;clear hg hbox hb;(try replace iD:=b6of BD.out)) | ((with_reducible refine gate_dst (N:=4) rfl ?_);refine box_event ?hg (N:=4) ?hd (cs:=#[.int .i64 0,.string (⟨#[]⟩:ByteArray),.int .i64 0]) (t:=38) ?hr ?_;(case hd=>rfl);(case hg=>rfl);(case hr=>(go_simp;done));intro gR hg w1 hbox hb;(try (have GR:=Aside0.mk (show w.heap.size≤gR by rw [hg];exact BL.out.size)));replace BL:=Aside0.mk (BL.out.trans (hb.mono BL.out.size));(try replace BD:=Aside0.mk ((hb.block gD (blk_lt BD.out)).trans BD.out));have BR:=Aside0.mk hbox;clear hg hbox hb;(try replace iD:=b6of BD.out);(try replace iR:=blk3_ BR.out))))
  all_goals
    have BN:=Aside0.mk (Below.refl w1.heap.size w1)
    have CI2:=Aside0.mk (fun (W:World) (hb:Below w1.heap.size w1 W)=>CI.out W (BL.out.trans (hb.mono BL.out.size)))
    have CN2:=Aside0.mk (fun (W:World) (hb:Below w1.heap.size w1 W)=>CN.out W (BL.out.trans (hb.mono BL.out.size)))
    have sq0_:∀ p_:LaidBy w1,p_.W.cell? ⟨gD,0,none⟩=some (.slice A0_0 l0_0.length c0_0):=fun p_=>p_.cell (iD.1)
    have sq1_:∀ p_:LaidBy w1,p_.W.cell? ⟨gD,1,none⟩=some (.slice A0_1 l0_1.length c0_1):=fun p_=>p_.cell (iD.2.1)
    have sq2_:∀ p_:LaidBy w1,p_.W.cell? ⟨gD,2,none⟩=some (.slice A0_2 l0_2.length c0_2):=fun p_=>p_.cell (iD.2.2.1)
    have sq3_:∀ p_:LaidBy w1,p_.W.cell? ⟨gD,3,none⟩=some (.slice A0_3 l0_3.length c0_3):=fun p_=>p_.cell (iD.2.2.2.1)
    have sq4_:∀ p_:LaidBy w1,p_.W.cell? ⟨gD,4,none⟩=some (.int .i64 a0_4):=fun p_=>p_.cell (iD.2.2.2.2.1)
    have sq5_:∀ p_:LaidBy w1,p_.W.cell? ⟨gD,5,none⟩=some (.int .i64 a0_5):=fun p_=>p_.cell (iD.2.2.2.2.2)
    refine wp_region_laid (by kernel_rfl) (by kernel_rfl) ?_
    repeat (go_big_quiet_step (first | (go_at_call 59;with_reducible exact laid_of _ (CI2.out _ (LaidBy.below _ BN.out))) | (go_at_call 73;with_reducible exact laid_of _ (CN2.out _ (LaidBy.below _ BN.out)))))
    refine wpQuiet_nil ?_
    rintro w9 ⟨p_,hp_⟩
    have hq_:Below w1.heap.size w1 w9:=hp_▸p_.ok
    clear hp_ p_ sq0_ sq1_ sq2_ sq3_ sq4_ sq5_
    have hb:=hq_
    clear BN CI2 CN2 CI CN
    replace BL:=Aside0.mk (BL.out.trans (hb.mono BL.out.size));(try replace BD:=Aside0.mk ((hb.block gD (blk_lt BD.out)).trans BD.out));(try replace BR:=Aside0.mk ((hb.block gR (blk_lt BR.out)).trans BR.out))
    clear hb hq_
    obtain ⟨w1,hw1⟩:∃ x,x=w9:=⟨_,rfl⟩
    subst hw1
    (try replace iD:=b6of BD.out);(try replace iR:=blk3_ BR.out)
  (focus (go_wp2_with fail;refine bodyPost_ret (results_ct rfl _ _ gR 38 #[.int .i64 0,.string (⟨#[]⟩:ByteArray),.int .i64 0] (0,0) _ rfl (put3_ BR.out _ _ _) Tryz.underlying38 rfl (by kernel_rfl)) rfl ?_;exact ⟨rfl,below_set (below_set (below_set BL.out GR.out) GR.out) GR.out⟩))
  (focus (go_wp2_with ((go_at_call 57;(with_reducible refine (CH.out _ BL.out).mono ?_);rintro e wq ⟨rfl,hq⟩;have hb:Below w1.heap.size w1 wq:=(by obtain ⟨nd,hnd⟩:=hq;rw [hnd];exact pw_below_drewN (Below.refl _ _) nd);clear hq;replace BL:=Aside0.mk (BL.out.trans (hb.mono BL.out.size));(try replace BD:=Aside0.mk ((hb.block gD (blk_lt BD.out)).trans BD.out));(try replace BR:=Aside0.mk ((hb.block gR (blk_lt BR.out)).trans BR.out));clear hb;obtain ⟨w1,hw1⟩:∃ x,x=wq:=⟨_,rfl⟩;subst hw1;(try replace iD:=b6of BD.out);(try replace iR:=blk3_ BR.out)));refine bodyPost_ret (results_ct rfl _ _ gR 38 #[.int .i64 0,.string (⟨#[]⟩:ByteArray),.int .i64 0] (0,0) _ rfl (put3_ BR.out _ _ _) Tryz.underlying38 rfl (by kernel_rfl)) rfl ?_;exact ⟨rfl,below_set (below_set (below_set BL.out GR.out) GR.out) GR.out⟩))
  (focus (obtain ⟨ad,hA,x0,x1,x2⟩:=at_T38 (Kd.C_below HR.out BL.out) n n0 n1;subst hA;obtain ⟨kk,rfl⟩:∃ kk:Nat,n=(kk:Int):=⟨n.toNat,(by omega)⟩;rw [Int.toNat_natCast] at x0 x1 x2;go_wp2_with ((go_at_call 57;(with_reducible refine (CH.out _ BL.out).mono ?_);rintro e wq ⟨rfl,hq⟩;have hb:Below w1.heap.size w1 wq:=(by obtain ⟨nd,hnd⟩:=hq;rw [hnd];exact pw_below_drewN (Below.refl _ _) nd);clear hq;replace BL:=Aside0.mk (BL.out.trans (hb.mono BL.out.size));(try replace BD:=Aside0.mk ((hb.block gD (blk_lt BD.out)).trans BD.out));(try replace BR:=Aside0.mk ((hb.block gR (blk_lt BR.out)).trans BR.out));clear hb;obtain ⟨w1,hw1⟩:∃ x,x=wq:=⟨_,rfl⟩;subst hw1;(try replace iD:=b6of BD.out);(try replace iR:=blk3_ BR.out);clear x0 x1 x2;obtain ⟨ad2,e2,x0,x1,x2⟩:=at_T38 (Kd.C_below HR.out BL.out) (kk:Int) n0 n1;injection e2 with e2;subst e2;rw [Int.toNat_natCast] at x0 x1 x2));refine bodyPost_ret (results_ct rfl _ _ gR 38 #[.int .i64 (rd_T38 l0_0 kk).f0,.string (rd_T38 l0_0 kk).f1,.int .i64 (rd_T38 l0_0 kk).f2] (0,0) _ rfl (put3_ BR.out _ _ _) Tryz.underlying38 rfl (by kernel_rfl)) rfl ?_;exact ⟨rfl,below_set (below_set (below_set BL.out GR.out) GR.out) GR.out⟩))

/-! ### spec_ReadFile: function 13 -/
def spec_ReadFile.f (k:Nat) (l0_0:List S38) (l0_1:List S64) (l0_2:List S64) (l0_3:List ByteArray) (a0_4:Int) (a0_5:Int) (a1:ByteArray):Option (ByteArray×Bool):=(spec_NodeAt.f k l0_0 l0_1 l0_2 l0_3 a0_4 a0_5 a1).bind fun o=>some (o.2.1,o.2.2.2)
theorem spec_ReadFile.mono:∀ l0_0 l0_1 l0_2 l0_3 a0_4 a0_5 a1 k,LeO (spec_ReadFile.f k l0_0 l0_1 l0_2 l0_3 a0_4 a0_5 a1) (spec_ReadFile.f (k+1) l0_0 l0_1 l0_2 l0_3 a0_4 a0_5 a1):=by
  intro l0_0 l0_1 l0_2 l0_3 a0_4 a0_5 a1 k
  unfold spec_ReadFile.f
  repeat' first | (with_reducible exact LeO.refl _) | (with_reducible exact spec_NodeAt.mono _ _ _ _ _ _ _ _) | (with_reducible refine LeO.bind ?_ (fun _=>?_))
set_option maxHeartbeats 8000000 in
set_option maxRecDepth 100000 in
theorem spec_ReadFile.calls (k:Nat) (A0_0:Option Addr) (c0_0:Nat) (l0_0:List (S38)) (A0_1:Option Addr) (c0_1:Nat) (l0_1:List (S64)) (A0_2:Option Addr) (c0_2:Nat) (l0_2:List (S64)) (A0_3:Option Addr) (c0_3:Nat) (l0_3:List ByteArray) (a0_4:Int) (a0_5:Int) (a1:ByteArray) (r1:ByteArray) (r2:Bool) (w:World) (hr0_0:Kd.C k38 w A0_0 l0_0.length l0_0) (hc0_0:l0_0.length≤c0_0) (hr0_1:Kd.C k64 w A0_1 l0_1.length l0_1) (hc0_1:l0_1.length≤c0_1) (hr0_2:Kd.C k64 w A0_2 l0_2.length l0_2) (hc0_2:l0_2.length≤c0_2) (hr0_3:Kd.C Kd.string w A0_3 l0_3.length l0_3) (hc0_3:l0_3.length≤c0_3) (h:spec_ReadFile.f k l0_0 l0_1 l0_2 l0_3 a0_4 a0_5 a1=some (r1,r2)) :
    Calls Tryz.prog 13 #[.agg #[.slice A0_0 l0_0.length c0_0,.slice A0_1 l0_1.length c0_1,.slice A0_2 l0_2.length c0_2,.slice A0_3 l0_3.length c0_3,.int .i64 a0_4,.int .i64 a0_5],.string a1] w fun e w'=>e=.returned (.tuple #[.string r1,.bool r2])∧Below w.heap.size w w':=by
  unfold spec_ReadFile.f at h
  replace h:=Option.bind_eq_some_iff.mp h
  obtain ⟨⟨m1,m2,m3,m4⟩,hm,h⟩:=h
  simp only [Option.some.injEq,Prod.mk.injEq] at h
  obtain ⟨rfl,rfl⟩:=h
  have C:=Aside0.mk (fun (w1:World) (hb:Below w.heap.size w w1)=>spec_NodeAt.calls k A0_0 c0_0 l0_0 A0_1 c0_1 l0_1 A0_2 c0_2 l0_2 A0_3 c0_3 l0_3 a0_4 a0_5 a1 m1 m2 m3 m4 w1 (Kd.C_below hr0_0 hb) hc0_0 (Kd.C_below hr0_1 hb) hc0_1 (Kd.C_below hr0_2 hb) hc0_2 (Kd.C_below hr0_3 hb) hc0_3 hm)
  have BL:=Aside0.mk (Below.refl w.heap.size w)
  clear hm hr0_0 hc0_0 hr0_1 hc0_1 hr0_2 hc0_2 hr0_3 hc0_3
  go_enter Tryz.func13,Tryz.ntmps13
  go_wp2_with (first | ((with_reducible refine gate_dst (N:=2) rfl ?_);refine box_event ?hg (N:=2) ?hd (cs:=#[.slice A0_0 l0_0.length c0_0,.slice A0_1 l0_1.length c0_1,.slice A0_2 l0_2.length c0_2,.slice A0_3 l0_3.length c0_3,.int .i64 a0_4,.int .i64 a0_5]) (t:=28) ?hr ?_;(case hd=>rfl);(case hg=>rfl);(case hr=>(go_simp;done));intro gD hg w1 hbox hb;replace BL:=Aside0.mk (BL.out.trans (hb.mono BL.out.size));have BD:=Aside0.mk hbox;clear hg hbox hb;(try replace iD:=b6of BD.out)) | (go_at_call 49;(with_reducible refine (C.out _ BL.out).mono ?_);rintro e w1 ⟨rfl,hb⟩;replace BL:=Aside0.mk (BL.out.trans (hb.mono BL.out.size));(try replace BD:=Aside0.mk ((hb.block gD (blk_lt BD.out)).trans BD.out));clear hb;(try replace iD:=b6of BD.out)) | ((with_reducible refine gate_store (t:=38) (p:=6) rfl ?_);refine store_event (t:=38) (p:=6) (w1:=w1.alloc (.cells #[.int .i64 m1,.string m2,.int .i64 m3] 38 (0,0))) rfl rfl rfl ?hr ?_;(case hr=>(go_simp;done));intro wz hw;have hb:Below w1.heap.size w1 wz:=(by rw [hw];exact below_alloc (Below.refl _ _) _);have hbox:=(by rw [hw];exact blk_new w1 _:wz.heap[w1.heap.size]? = some (.cells #[.int .i64 m1,.string m2,.int .i64 m3] 38 (0,0)));clear hw;obtain ⟨gR,hg⟩:∃ g,g=w1.heap.size:=⟨_,rfl⟩;rw [← hg] at hbox;(try rw [← hg]);clear hg;replace BL:=Aside0.mk (BL.out.trans (hb.mono BL.out.size));(try replace BD:=Aside0.mk ((hb.block gD (blk_lt BD.out)).trans BD.out));have BR:=Aside0.mk hbox;clear hb hbox;have i3:wz.cell? ⟨gR,1,none⟩=some (.string m2):=(blk_cell BR.out 1).trans rfl;obtain ⟨w1,hw1⟩:∃ x,x=wz:=⟨_,rfl⟩;subst hw1))
  go_ret2
  exact ⟨rfl,BL.out⟩

/-- A state of type 89 at block g of W; what its slices lead to came in by w0. -/
def IsS89 (w0 W:World) (g:Nat) (f0:List Int) (f1:Int) (f2:Int):Prop:=∃ A0 c0,W.heap[g]? = some (.cells #[.slice A0 f0.length c0,.int .i64 f1,.int .i64 f2] 89 (0,0))∧w0.heap.size≤g∧Kd.C (Kd.int .u8) w0 A0 f0.length f0
theorem IsS89.grown {w0 W:World} {g:Nat} {f0:List Int} {f1:Int} {f2:Int} {W1:World} {row:Option Nat} (h:IsS89 w0 W g f0 f1 f2) (hw:W.grownBy W1 row) (hne:some g≠row):IsS89 w0 W1 g f0 f1 f2:=by
 obtain ⟨A0,c0,hb,hg,hr0⟩:=h
 exact ⟨A0,c0,blk_grown hb hw hne,hg,hr0⟩
theorem IsS89.kept {w0 W:World} {g:Nat} {f0:List Int} {f1:Int} {f2:Int} {W1:World} {S:Nat→Prop} (h:IsS89 w0 W g f0 f1 f2) (hk:Kept W W1 S) (hne:¬ S g):IsS89 w0 W1 g f0 f1 f2:=by
 obtain ⟨A0,c0,hb,hg,hr0⟩:=h
 exact ⟨A0,c0,blk_kept hb hk hne,hg,hr0⟩
theorem IsS89.below {w0 W:World} {g:Nat} {f0:List Int} {f1:Int} {f2:Int} {W1:World} (h:IsS89 w0 W g f0 f1 f2) (hw:Below W.heap.size W W1):IsS89 w0 W1 g f0 f1 f2:=h.grown (grown_of_below hw none) (by simp)
theorem IsS89.alloc {w0 W:World} {g:Nat} {f0:List Int} {f1:Int} {f2:Int} (h:IsS89 w0 W g f0 f1 f2) (o:Obj):IsS89 w0 (W.alloc o) g f0 f1 f2:=h.below (below_alloc (Below.refl _ _) o)
theorem IsS89.drewN {w0 W:World} {g:Nat} {f0:List Int} {f1:Int} {f2:Int} (h:IsS89 w0 W g f0 f1 f2) (m:Nat):IsS89 w0 (W.drewN m) g f0 f1 f2:=h
theorem IsS89.drew {w0 W:World} {g:Nat} {f0:List Int} {f1:Int} {f2:Int} (h:IsS89 w0 W g f0 f1 f2):IsS89 w0 W.drew g f0 f1 f2:=h
theorem IsS89.at_ {w0 W:World} {g:Nat} {f0:List Int} {f1:Int} {f2:Int} {w':World} {m:Nat} (hq:W.drewN m=w') (h:IsS89 w0 W g f0 f1 f2):IsS89 w0 w' g f0 f1 f2:=by subst hq;exact IsS89.drewN h m
theorem IsS89.apart {w0 W:World} {g:Nat} {f0:List Int} {f1:Int} {f2:Int} {α:Type} {d:Kd α} {e:Nat} {base:Nat} {ok:Nat→Prop} {v:Value} {xs:List α} (h:IsS89 w0 W g f0 f1 f2) (ho:d.R e W base ok v xs) (ht:∀ q,q∈e :: d.E→q≠89):d.R e W base (fun k=>ok k∧k≠g) v xs:=by
 obtain ⟨A0,c0,hb,hg,hr0⟩:=h
 exact Kd.R_types ho hb ht
theorem IsS89.own_ne {w0 W:World} {g:Nat} {f0:List Int} {f1:Int} {f2:Int} {α:Type} {d:Kd α} {e:Nat} {base:Nat} {ok:Nat→Prop} {v:Value} {xs:List α} (h:IsS89 w0 W g f0 f1 f2) (ho:d.R e W base ok v xs) (ht:e≠89):some g≠v.ownBlock:=by
 obtain ⟨A0,c0,hb,hg,hr0⟩:=h
 exact Kd.R_ne ho hb ht
theorem IsS89.lt {w0 W:World} {g:Nat} {f0:List Int} {f1:Int} {f2:Int} (h:IsS89 w0 W g f0 f1 f2):g<W.heap.size:=by
 obtain ⟨A0,c0,hb,hg,hr0⟩:=h
 exact blk_lt hb
theorem IsS89.ge {w0 W:World} {g:Nat} {f0:List Int} {f1:Int} {f2:Int} (h:IsS89 w0 W g f0 f1 f2):w0.heap.size≤g:=by
 obtain ⟨A0,c0,hb,hg,hr0⟩:=h
 exact hg
theorem IsS89.ne_blk {w0 W:World} {g:Nat} {f0:List Int} {f1:Int} {f2:Int} {a:Nat} {cs:Array Value} {t:TypeId} {fr:Nat×Nat} (h:IsS89 w0 W g f0 f1 f2) (hb2:W.heap[a]? = some (.cells cs t fr)) (ht:t≠89):g≠a:=by
 obtain ⟨A0,c0,hb,hg,hr0⟩:=h
 rintro rfl
 rw [hb] at hb2
 injection hb2 with hb2
 injection hb2 with _ ht2
 exact ht ht2.symm
theorem IsS89.far {w0 W:World} {g:Nat} {f0:List Int} {f1:Int} {f2:Int} {p:Addr} (h:IsS89 w0 W g f0 f1 f2) (hne:g≠p.block) (u:Value):IsS89 w0 (W.setCell p u) g f0 f1 f2:=by
 obtain ⟨A0,c0,hb,hg,hr0⟩:=h
 exact ⟨A0,c0,blk_far hb hne u,hg,hr0⟩
theorem cellS89_0 {W:World} {g:Nat} {A0:Option Addr} {c0:Nat} {f0:List Int} {f1:Int} {f2:Int} (h:W.heap[g]? = some (.cells #[.slice A0 f0.length c0,.int .i64 f1,.int .i64 f2] 89 (0,0))):W.cell? ⟨g,0,none⟩=some (.slice A0 f0.length c0):=(blk_cell h 0).trans rfl
theorem cellS89_1 {W:World} {g:Nat} {A0:Option Addr} {c0:Nat} {f0:List Int} {f1:Int} {f2:Int} (h:W.heap[g]? = some (.cells #[.slice A0 f0.length c0,.int .i64 f1,.int .i64 f2] 89 (0,0))):W.cell? ⟨g,1,none⟩=some (.int .i64 f1):=(blk_cell h 1).trans rfl
theorem IsS89.set_1 {w0 W:World} {g:Nat} {f0:List Int} {f1:Int} {f2:Int} (h:IsS89 w0 W g f0 f1 f2) (x:Int):IsS89 w0 (W.setCell ⟨g,1,none⟩ (.int .i64 x)) g f0 x f2:=by
 obtain ⟨A0,c0,hb,hg,hr0⟩:=h
 exact ⟨A0,c0,by simpa using blk_set hb 1 (.int .i64 x),hg,hr0⟩
theorem cellS89_2 {W:World} {g:Nat} {A0:Option Addr} {c0:Nat} {f0:List Int} {f1:Int} {f2:Int} (h:W.heap[g]? = some (.cells #[.slice A0 f0.length c0,.int .i64 f1,.int .i64 f2] 89 (0,0))):W.cell? ⟨g,2,none⟩=some (.int .i64 f2):=(blk_cell h 2).trans rfl
theorem IsS89.set_2 {w0 W:World} {g:Nat} {f0:List Int} {f1:Int} {f2:Int} (h:IsS89 w0 W g f0 f1 f2) (x:Int):IsS89 w0 (W.setCell ⟨g,2,none⟩ (.int .i64 x)) g f0 f1 x:=by
 obtain ⟨A0,c0,hb,hg,hr0⟩:=h
 exact ⟨A0,c0,by simpa using blk_set hb 2 (.int .i64 x),hg,hr0⟩
/-! ### spec_l01Byte: function 89 -/
def spec_l01Byte.f (s0_0:List Int) (s0_1:Int) (s0_2:Int):Option (Int×Int×Int):=if s0_1<(s0_0.length:Int) then (if 0≤s0_1 then (some (Go.bits .and .i64 (wrap64 ((Go.bits .and .i64 (Go.bits .xor .i64 ((wrap64 ((wrap64 (s0_2*6364136223846793005))+1442695040888963407)) / 8589934592) ((wrap64 ((wrap64 (s0_2*6364136223846793005))+1442695040888963407)) / 35184372088832)) 255)+(wrap64 (rd s0_0 s0_1)))) 255,wrap64 (s0_1+1),wrap64 ((wrap64 (s0_2*6364136223846793005))+1442695040888963407))) else (none)) else (some (Go.bits .and .i64 (Go.bits .xor .i64 ((wrap64 ((wrap64 (s0_2*6364136223846793005))+1442695040888963407)) / 8589934592) ((wrap64 ((wrap64 (s0_2*6364136223846793005))+1442695040888963407)) / 35184372088832)) 255,s0_1,wrap64 ((wrap64 (s0_2*6364136223846793005))+1442695040888963407)))
set_option maxHeartbeats 8000000 in
set_option maxRecDepth 100000 in
theorem spec_l01Byte.calls (g:Nat) (s0_0:List Int) (s0_1:Int) (s0_2:Int) (r1:Int) (r2:Int) (r3:Int) (w0 w:World) (hI:IsS89 w0 w g s0_0 s0_1 s0_2) (hB:Below w0.heap.size w0 w) (h:spec_l01Byte.f s0_0 s0_1 s0_2=some (r1,r2,r3)) :
  Calls Tryz.prog 89 #[.pointer (some ⟨g,0,none⟩)] w fun e w'=>e=.returned (.int .i64 r1)∧IsS89 w0 w' g s0_0 r2 r3∧Below w0.heap.size w0 w'∧KeepBut w w' g none:=by
 have HI0:=Aside0.mk hI
 have HK:=Aside0.mk (KeepBut.refl w g none)
 clear hI
 have HB:=Aside0.mk hB
 clear hB
 have H:(if s0_1<(s0_0.length:Int) then (if 0≤s0_1 then (some (Go.bits .and .i64 (wrap64 ((Go.bits .and .i64 (Go.bits .xor .i64 ((wrap64 ((wrap64 (s0_2*6364136223846793005))+1442695040888963407)) / 8589934592) ((wrap64 ((wrap64 (s0_2*6364136223846793005))+1442695040888963407)) / 35184372088832)) 255)+(wrap64 (rd s0_0 s0_1)))) 255,wrap64 (s0_1+1),wrap64 ((wrap64 (s0_2*6364136223846793005))+1442695040888963407))) else (none)) else (some (Go.bits .and .i64 (Go.bits .xor .i64 ((wrap64 ((wrap64 (s0_2*6364136223846793005))+1442695040888963407)) / 8589934592) ((wrap64 ((wrap64 (s0_2*6364136223846793005))+1442695040888963407)) / 35184372088832)) 255,s0_1,wrap64 ((wrap64 (s0_2*6364136223846793005))+1442695040888963407))))=some (r1,r2,r3):=h
 clear h
 by_cases c2:s0_1<(s0_0.length:Int)
 ·rw [if_pos c2] at H
  have c2b0:decide (s0_1<(s0_0.length:Int))=true:=decide_eq_true c2
  clear c2
  by_cases c3:0≤s0_1
  ·rw [if_pos c3] at H
   have c3b0:decide (0≤s0_1)=true:=decide_eq_true c3
   clear c3
   simp only [Option.some.injEq,Prod.mk.injEq] at H
   obtain ⟨rfl,rfl,rfl⟩:=H
   obtain ⟨ASz4_0,cSz4_0,HGz4,hgz4,HSz4_0⟩:=HI0.out
   have hcz4_0:=cellS89_0 HGz4
   have hcz4_1:=cellS89_1 HGz4
   have hcz4_2:=cellS89_2 HGz4
   have hfz4_1:=blk_frozen HGz4 1
   have hfz4_2:=blk_frozen HGz4 2
   clear HGz4 hgz4
   have p201:0≤(s0_1:Int):=of_decide_eq_true (by (with_reducible assumption))
   have q201:s0_1<(s0_0.length:Int):=of_decide_eq_true (by (with_reducible assumption))
   obtain ⟨ad201,e201,hx201_0⟩:=Kd.at_int HSz4_0 s0_1 p201 q201
   cases e201
   have hn201_0:ad201.block≠g:=Nat.ne_of_lt (Nat.lt_of_lt_of_le (by have:=World.block_lt_of_cell? _ _ hx201_0;rwa [add_block] at this) (IsS89.ge HI0.out))
   replace hx201_0:=pw_cell_below HB.out hx201_0
   replace hx201_0:=(cell_far (p:=⟨g,2,none⟩) (by (rw [add_block];exact hn201_0)) (.int .i64 (wrap64 ((wrap64 (s0_2*6364136223846793005))+1442695040888963407)))).trans hx201_0
   (try have hy201_0:=fun (n_:Nat)=>(show (((w.drewN n_).setCell ⟨g,2,none⟩ (.int .i64 (wrap64 ((wrap64 (s0_2*6364136223846793005))+1442695040888963407))))).cell? _=some _ from hx201_0))
   clear hn201_0
   replace p201:=eq_true p201
   replace q201:=eq_true q201
   go_enter Tryz.func89,Tryz.ntmps89
   go_wp2
   repeat (go_quiet (fail);try go_wp2)
   all_goals (go_ret)
   all_goals exact ⟨by rfl,by repeat (with_reducible first | exact HI0.out | apply IsS89.drewN | apply IsS89.set_1 | apply IsS89.set_2),by repeat ((with_reducible first | exact HB.out | apply pw_below_drewN | refine below_set ?_ (IsS89.ge HI0.out))),by repeat (with_reducible first | exact HK.out | apply KeepBut.set_ | apply keep_drewN)⟩
  ·rw [if_neg c3] at H
   exact absurd H (by simp)
 ·rw [if_neg c2] at H
  have c2b0:decide (s0_1<(s0_0.length:Int))=false:=decide_eq_false c2
  clear c2
  simp only [Option.some.injEq,Prod.mk.injEq] at H
  obtain ⟨rfl,rfl,rfl⟩:=H
  obtain ⟨ASz5_0,cSz5_0,HGz5,hgz5,HSz5_0⟩:=HI0.out
  have hcz5_0:=cellS89_0 HGz5
  have hcz5_1:=cellS89_1 HGz5
  have hcz5_2:=cellS89_2 HGz5
  have hfz5_2:=blk_frozen HGz5 2
  clear HGz5 hgz5
  go_enter Tryz.func89,Tryz.ntmps89
  go_wp2
  repeat (go_quiet (fail);try go_wp2)
  all_goals (go_ret)
  all_goals exact ⟨by rfl,by repeat (with_reducible first | exact HI0.out | apply IsS89.drewN | apply IsS89.set_2),by repeat ((with_reducible first | exact HB.out | apply pw_below_drewN | refine below_set ?_ (IsS89.ge HI0.out))),by repeat (with_reducible first | exact HK.out | apply KeepBut.set_ | apply keep_drewN)⟩

/-! ### spec_l01Below: function 71 -/
def spec_l01Below.f (s0_0:List Int) (s0_1:Int) (s0_2:Int) (a1:Int):Option (Int×Int×Int):=if a1≤0 then (some (0,s0_1,s0_2)) else (if a1≤256 then ((spec_l01Byte.f s0_0 s0_1 s0_2).bind fun bt202=>(if a1=0 then (none) else (some (Int.tmod bt202.1 a1,bt202.2.1,bt202.2.2)))) else ((spec_l01Byte.f s0_0 s0_1 s0_2).bind fun bt205=>((spec_l01Byte.f s0_0 bt205.2.1 bt205.2.2).bind fun bt208=>((spec_l01Byte.f s0_0 bt208.2.1 bt208.2.2).bind fun bt211=>((spec_l01Byte.f s0_0 bt211.2.1 bt211.2.2).bind fun bt214=>(if a1=0 then (none) else (some (Int.tmod (wrap64 ((wrap64 ((wrap64 ((wrap64 (bt205.1*16777216))+(wrap64 (bt208.1*65536))))+(wrap64 (bt211.1*256))))+bt214.1)) a1,bt214.2.1,bt214.2.2))))))))
set_option maxHeartbeats 8000000 in
set_option maxRecDepth 100000 in
theorem spec_l01Below.calls (g:Nat) (s0_0:List Int) (s0_1:Int) (s0_2:Int) (a1:Int) (r1:Int) (r2:Int) (r3:Int) (w0 w:World) (hI:IsS89 w0 w g s0_0 s0_1 s0_2) (hB:Below w0.heap.size w0 w) (h:spec_l01Below.f s0_0 s0_1 s0_2 a1=some (r1,r2,r3)) :
  Calls Tryz.prog 71 #[.pointer (some ⟨g,0,none⟩),.int .i64 a1] w fun e w'=>e=.returned (.int .i64 r1)∧IsS89 w0 w' g s0_0 r2 r3∧Below w0.heap.size w0 w'∧KeepBut w w' g none:=by
 have HI0:=Aside0.mk hI
 have HK:=Aside0.mk (KeepBut.refl w g none)
 clear hI
 have HB:=Aside0.mk hB
 clear hB
 have H:(if a1≤0 then (some (0,s0_1,s0_2)) else (if a1≤256 then ((spec_l01Byte.f s0_0 s0_1 s0_2).bind fun bt202=>(if a1=0 then (none) else (some (Int.tmod bt202.1 a1,bt202.2.1,bt202.2.2)))) else ((spec_l01Byte.f s0_0 s0_1 s0_2).bind fun bt205=>((spec_l01Byte.f s0_0 bt205.2.1 bt205.2.2).bind fun bt208=>((spec_l01Byte.f s0_0 bt208.2.1 bt208.2.2).bind fun bt211=>((spec_l01Byte.f s0_0 bt211.2.1 bt211.2.2).bind fun bt214=>(if a1=0 then (none) else (some (Int.tmod (wrap64 ((wrap64 ((wrap64 ((wrap64 (bt205.1*16777216))+(wrap64 (bt208.1*65536))))+(wrap64 (bt211.1*256))))+bt214.1)) a1,bt214.2.1,bt214.2.2)))))))))=some (r1,r2,r3):=h
 clear h
 by_cases c3:a1≤0
 ·rw [if_pos c3] at H
  have c3b0:decide (a1≤0)=true:=decide_eq_true c3
  clear c3
  simp only [Option.some.injEq,Prod.mk.injEq] at H
  obtain ⟨rfl,rfl,rfl⟩:=H
  go_enter Tryz.func71,Tryz.ntmps71
  go_wp2
  all_goals (go_ret)
  all_goals exact ⟨by rfl,by repeat (with_reducible exact HI0.out),by repeat (with_reducible exact HB.out),by repeat (with_reducible exact HK.out)⟩
 ·rw [if_neg c3] at H
  have c3b0:decide (a1≤0)=false:=decide_eq_false c3
  clear c3
  by_cases c4:a1≤256
  ·rw [if_pos c4] at H
   have c4b0:decide (a1≤256)=true:=decide_eq_true c4
   clear c4
   obtain ⟨⟨t202,t203,t204⟩,A5,H⟩:=bA H
   replace H:(if a1=0 then (none) else (some (Int.tmod t202 a1,t203,t204)))=some (r1,r2,r3):=H
   by_cases c6:a1=0
   ·rw [if_pos c6] at H
    exact absurd H (by simp)
   ·rw [if_neg c6] at H
    simp only [Option.some.injEq,Prod.mk.injEq] at H
    obtain ⟨rfl,rfl,rfl⟩:=H
    go_enter Tryz.func71,Tryz.ntmps71
    go_wp2_with (((with_reducible refine gate_callee (f:=89) rfl ?_);refine goesL_ (some 14) rfl rfl Tryz.func89 (by kernel_rfl) rfl #[.pointer (some ⟨g,0,none⟩)] rfl (by (try simp only [List.map_toArray,List.map_cons,List.map_nil]);rfl) ?_;(with_reducible refine (spec_l01Byte.calls g s0_0 s0_1 s0_2 t202 t203 t204 w0 _ ?side1 ?side2 A5.out).mono ?_);(case side1=>repeat (with_reducible exact HI0.out));(case side2=>repeat (with_reducible exact HB.out));rintro e w7 ⟨rfl,hi,hb,hk⟩;refine ⟨_,rfl,?_⟩;replace HK:=Aside0.mk (KeepBut.trans HK.out hk (.inl rfl));replace HB:=Aside0.mk (hb);replace HI0:=Aside0.mk (hi);(try clear hb);(try clear hk);(try clear hi)))
    all_goals (go_ret)
    all_goals exact ⟨by rfl,by repeat (with_reducible exact HI0.out),by repeat (with_reducible exact HB.out),by repeat (with_reducible exact HK.out)⟩
  ·rw [if_neg c4] at H
   have c4b0:decide (a1≤256)=false:=decide_eq_false c4
   clear c4
   obtain ⟨⟨t205,t206,t207⟩,A8,H⟩:=bA H
   replace H:((spec_l01Byte.f s0_0 t206 t207).bind fun bt208=>((spec_l01Byte.f s0_0 bt208.2.1 bt208.2.2).bind fun bt211=>((spec_l01Byte.f s0_0 bt211.2.1 bt211.2.2).bind fun bt214=>(if a1=0 then (none) else (some (Int.tmod (wrap64 ((wrap64 ((wrap64 ((wrap64 (t205*16777216))+(wrap64 (bt208.1*65536))))+(wrap64 (bt211.1*256))))+bt214.1)) a1,bt214.2.1,bt214.2.2))))))=some (r1,r2,r3):=H
   obtain ⟨⟨t208,t209,t210⟩,A9,H⟩:=bA H
   replace H:((spec_l01Byte.f s0_0 t209 t210).bind fun bt211=>((spec_l01Byte.f s0_0 bt211.2.1 bt211.2.2).bind fun bt214=>(if a1=0 then (none) else (some (Int.tmod (wrap64 ((wrap64 ((wrap64 ((wrap64 (t205*16777216))+(wrap64 (t208*65536))))+(wrap64 (bt211.1*256))))+bt214.1)) a1,bt214.2.1,bt214.2.2)))))=some (r1,r2,r3):=H
   obtain ⟨⟨t211,t212,t213⟩,A10,H⟩:=bA H
   replace H:((spec_l01Byte.f s0_0 t212 t213).bind fun bt214=>(if a1=0 then (none) else (some (Int.tmod (wrap64 ((wrap64 ((wrap64 ((wrap64 (t205*16777216))+(wrap64 (t208*65536))))+(wrap64 (t211*256))))+bt214.1)) a1,bt214.2.1,bt214.2.2))))=some (r1,r2,r3):=H
   obtain ⟨⟨t214,t215,t216⟩,A11,H⟩:=bA H
   replace H:(if a1=0 then (none) else (some (Int.tmod (wrap64 ((wrap64 ((wrap64 ((wrap64 (t205*16777216))+(wrap64 (t208*65536))))+(wrap64 (t211*256))))+t214)) a1,t215,t216)))=some (r1,r2,r3):=H
   by_cases c12:a1=0
   ·rw [if_pos c12] at H
    exact absurd H (by simp)
   ·rw [if_neg c12] at H
    simp only [Option.some.injEq,Prod.mk.injEq] at H
    obtain ⟨rfl,rfl,rfl⟩:=H
    go_enter Tryz.func71,Tryz.ntmps71
    go_wp2_with (first | ((with_reducible refine gate_callee (f:=89) rfl ?_);refine goesL_ (some 18) rfl rfl Tryz.func89 (by kernel_rfl) rfl #[.pointer (some ⟨g,0,none⟩)] rfl (by (try simp only [List.map_toArray,List.map_cons,List.map_nil]);rfl) ?_;(with_reducible refine (spec_l01Byte.calls g s0_0 s0_1 s0_2 t205 t206 t207 w0 _ ?side1 ?side2 A8.out).mono ?_);(case side1=>repeat (with_reducible exact HI0.out));(case side2=>repeat (with_reducible exact HB.out));rintro e w13 ⟨rfl,hi,hb,hk⟩;refine ⟨_,rfl,?_⟩;replace HK:=Aside0.mk (KeepBut.trans HK.out hk (.inl rfl));replace HB:=Aside0.mk (hb);replace HI0:=Aside0.mk (hi);(try clear hb);(try clear hk);(try clear hi)) | ((with_reducible refine gate_callee (f:=89) rfl ?_);refine goesL_ (some 20) rfl rfl Tryz.func89 (by kernel_rfl) rfl #[.pointer (some ⟨g,0,none⟩)] rfl (by (try simp only [List.map_toArray,List.map_cons,List.map_nil]);rfl) ?_;(with_reducible refine (spec_l01Byte.calls g s0_0 t206 t207 t208 t209 t210 w0 _ ?side1 ?side2 A9.out).mono ?_);(case side1=>repeat (with_reducible exact HI0.out));(case side2=>repeat (with_reducible exact HB.out));rintro e w14 ⟨rfl,hi,hb,hk⟩;refine ⟨_,rfl,?_⟩;replace HK:=Aside0.mk (KeepBut.trans HK.out hk (.inl rfl));replace HB:=Aside0.mk (hb);replace HI0:=Aside0.mk (hi);(try clear hb);(try clear hk);(try clear hi)) | ((with_reducible refine gate_callee (f:=89) rfl ?_);refine goesL_ (some 22) rfl rfl Tryz.func89 (by kernel_rfl) rfl #[.pointer (some ⟨g,0,none⟩)] rfl (by (try simp only [List.map_toArray,List.map_cons,List.map_nil]);rfl) ?_;(with_reducible refine (spec_l01Byte.calls g s0_0 t209 t210 t211 t212 t213 w0 _ ?side1 ?side2 A10.out).mono ?_);(case side1=>repeat (with_reducible exact HI0.out));(case side2=>repeat (with_reducible exact HB.out));rintro e w15 ⟨rfl,hi,hb,hk⟩;refine ⟨_,rfl,?_⟩;replace HK:=Aside0.mk (KeepBut.trans HK.out hk (.inl rfl));replace HB:=Aside0.mk (hb);replace HI0:=Aside0.mk (hi);(try clear hb);(try clear hk);(try clear hi)) | ((with_reducible refine gate_callee (f:=89) rfl ?_);refine goesL_ (some 24) rfl rfl Tryz.func89 (by kernel_rfl) rfl #[.pointer (some ⟨g,0,none⟩)] rfl (by (try simp only [List.map_toArray,List.map_cons,List.map_nil]);rfl) ?_;(with_reducible refine (spec_l01Byte.calls g s0_0 t212 t213 t214 t215 t216 w0 _ ?side1 ?side2 A11.out).mono ?_);(case side1=>repeat (with_reducible exact HI0.out));(case side2=>repeat (with_reducible exact HB.out));rintro e w16 ⟨rfl,hi,hb,hk⟩;refine ⟨_,rfl,?_⟩;replace HK:=Aside0.mk (KeepBut.trans HK.out hk (.inl rfl));replace HB:=Aside0.mk (hb);replace HI0:=Aside0.mk (hi);(try clear hb);(try clear hk);(try clear hi)))
    all_goals (go_ret)
    all_goals exact ⟨by rfl,by repeat (with_reducible exact HI0.out),by repeat (with_reducible exact HB.out),by repeat (with_reducible exact HK.out)⟩

/-! ### spec_l01PickInt: function 64 -/
def spec_l01PickInt.f (s0_0:List Int) (s0_1:Int) (s0_2:Int) (l1:List Int):Option (Int×Int×Int):=(spec_l01Below.f s0_0 s0_1 s0_2 (l1.length:Int)).bind fun bt217=>(if 0≤bt217.1 then (if bt217.1<(l1.length:Int) then (some (rd l1 bt217.1,bt217.2.1,bt217.2.2)) else (none)) else (none))
set_option maxHeartbeats 8000000 in
set_option maxRecDepth 100000 in
theorem spec_l01PickInt.calls (g:Nat) (s0_0:List Int) (s0_1:Int) (s0_2:Int) (A1:Option Addr) (c1:Nat) (l1:List Int) (r1:Int) (r2:Int) (r3:Int) (w0 w:World) (hI:IsS89 w0 w g s0_0 s0_1 s0_2) (hB:Below w0.heap.size w0 w) (hr1:Kd.C (Kd.int .i64) w A1 l1.length l1) (hc1:l1.length≤c1) (hf1:∀ ad,A1=some ad→0<l1.length→ad.block≠g) (h:spec_l01PickInt.f s0_0 s0_1 s0_2 l1=some (r1,r2,r3)) :
  Calls Tryz.prog 64 #[.pointer (some ⟨g,0,none⟩),.slice A1 l1.length c1] w fun e w'=>e=.returned (.int .i64 r1)∧IsS89 w0 w' g s0_0 r2 r3∧Below w0.heap.size w0 w'∧KeepBut w w' g none:=by
 have HR1:=Aside0.mk hr1
 clear hr1 hc1
 have HI0:=Aside0.mk hI
 have HK:=Aside0.mk (KeepBut.refl w g none)
 clear hI
 have HB:=Aside0.mk hB
 clear hB
 have H:((spec_l01Below.f s0_0 s0_1 s0_2 (l1.length:Int)).bind fun bt217=>(if 0≤bt217.1 then (if bt217.1<(l1.length:Int) then (some (rd l1 bt217.1,bt217.2.1,bt217.2.2)) else (none)) else (none)))=some (r1,r2,r3):=h
 clear h
 obtain ⟨⟨t217,t218,t219⟩,A3,H⟩:=bA H
 replace H:(if 0≤t217 then (if t217<(l1.length:Int) then (some (rd l1 t217,t218,t219)) else (none)) else (none))=some (r1,r2,r3):=H
 by_cases c4:0≤t217
 ·rw [if_pos c4] at H
  have c4b0:decide (0≤t217)=true:=decide_eq_true c4
  clear c4
  by_cases c5:t217<(l1.length:Int)
  ·rw [if_pos c5] at H
   have c5b0:decide (t217<(l1.length:Int))=true:=decide_eq_true c5
   clear c5
   simp only [Option.some.injEq,Prod.mk.injEq] at H
   obtain ⟨rfl,rfl,rfl⟩:=H
   go_enter Tryz.func64,Tryz.ntmps64
   go_wp2_with (((with_reducible refine gate_callee (f:=71) rfl ?_);refine goesL_ (some 9) rfl rfl Tryz.func71 (by kernel_rfl) rfl #[.pointer (some ⟨g,0,none⟩),.int .i64 (l1.length:Int)] rfl (by (try simp only [List.map_toArray,List.map_cons,List.map_nil]);rfl) ?_;(with_reducible refine (spec_l01Below.calls g s0_0 s0_1 s0_2 (l1.length:Int) t217 t218 t219 w0 _ ?side1 ?side2 A3.out).mono ?_);(case side1=>repeat (with_reducible exact HI0.out));(case side2=>repeat (with_reducible exact HB.out));rintro e w6 ⟨rfl,hi,hb,hk⟩;refine ⟨_,rfl,?_⟩;replace HK:=Aside0.mk (KeepBut.trans HK.out hk (.inl rfl));replace HB:=Aside0.mk (hb);replace HI0:=Aside0.mk (hi);(try clear hb);(try clear hk);(try clear hi);have p220:0≤(t217:Int):=of_decide_eq_true (by (with_reducible assumption));have q220:t217<(l1.length:Int):=of_decide_eq_true (by (with_reducible assumption));obtain ⟨ad220,e220,hx220_0⟩:=Kd.at_int HR1.out t217 p220 q220;cases e220;replace hx220_0:=keep_cell HK.out hx220_0 (by (rw [add_block];exact hf1 _ rfl (by omega)));replace p220:=eq_true p220;replace q220:=eq_true q220))
   all_goals (go_ret)
   all_goals exact ⟨by rfl,by repeat (with_reducible exact HI0.out),by repeat (with_reducible exact HB.out),by repeat (with_reducible exact HK.out)⟩
  ·rw [if_neg c5] at H
   exact absurd H (by simp)
 ·rw [if_neg c4] at H
  exact absurd H (by simp)

/-! ### spec_l05Copy: function 56 -/
def spec_l05Copy.f (l0_0:List (S38)) (l0_1:List (S64)) (l0_2:List (S64)) (l0_3:List ByteArray) (a0_4:Int) (a0_5:Int):Option ((List (S38))×(List (S64))×(List (S64))×List ByteArray×Int×Int):=(some (([]:List (S38)):List (S38))).bind fun y223=>(if y223.length+l0_0.length<4398046511104 then ((some (([]:List (S64)):List (S64))).bind fun y229=>(if y229.length+l0_1.length<5864062014805 then ((some (([]:List (S64)):List (S64))).bind fun y235=>(if y235.length+l0_2.length<5864062014805 then ((some (([]:List ByteArray):List ByteArray)).bind fun y241=>(if y241.length+l0_3.length<8796093022208 then (some ((y223++l0_0),(y229++l0_1),(y235++l0_2),(y241++l0_3),a0_4,a0_5)) else (none))) else (none))) else (none))) else (none))
set_option maxHeartbeats 8000000 in
set_option maxRecDepth 100000 in
theorem spec_l05Copy.calls (A0_0:Option Addr) (c0_0:Nat) (l0_0:List (S38)) (A0_1:Option Addr) (c0_1:Nat) (l0_1:List (S64)) (A0_2:Option Addr) (c0_2:Nat) (l0_2:List (S64)) (A0_3:Option Addr) (c0_3:Nat) (l0_3:List ByteArray) (a0_4:Int) (a0_5:Int) (r1:List (S38)) (r2:List (S64)) (r3:List (S64)) (r4:List ByteArray) (r5:Int) (r6:Int) (w:World) (hr0_0:Kd.C k38 w A0_0 l0_0.length l0_0) (hc0_0:l0_0.length≤c0_0) (hr0_1:Kd.C k64 w A0_1 l0_1.length l0_1) (hc0_1:l0_1.length≤c0_1) (hr0_2:Kd.C k64 w A0_2 l0_2.length l0_2) (hc0_2:l0_2.length≤c0_2) (hr0_3:Kd.C Kd.string w A0_3 l0_3.length l0_3) (hc0_3:l0_3.length≤c0_3) (h:spec_l05Copy.f l0_0 l0_1 l0_2 l0_3 a0_4 a0_5=some (r1,r2,r3,r4,r5,r6)) :
  Calls Tryz.prog 56 #[.agg #[.slice A0_0 l0_0.length c0_0,.slice A0_1 l0_1.length c0_1,.slice A0_2 l0_2.length c0_2,.slice A0_3 l0_3.length c0_3,.int .i64 a0_4,.int .i64 a0_5]] w fun e w'=>∃ v0_ v1_ v2_ v3_:Value,e=.returned (.agg #[v0_,v1_,v2_,v3_,.int .i64 r5,.int .i64 r6])∧Kd.R k38 38 w' w.heap.size (fun _=>True) v0_ r1∧Kd.R k64 64 w' w.heap.size (fun k_=>some k_≠(v2_:Value).ownBlock) v1_ r2∧Kd.R k64 64 w' w.heap.size (fun k_=>some k_≠(v1_:Value).ownBlock) v2_ r3∧Kd.R Kd.string 9 w' w.heap.size (fun _=>True) v3_ r4∧Below w.heap.size w w':=by
 have HR0_0:=Aside0.mk hr0_0
 clear hr0_0 hc0_0
 have HR0_1:=Aside0.mk hr0_1
 clear hr0_1 hc0_1
 have HR0_2:=Aside0.mk hr0_2
 clear hr0_2 hc0_2
 have HR0_3:=Aside0.mk hr0_3
 clear hr0_3 hc0_3
 have HB:=Aside0.mk (Below.refl w.heap.size w)
 have H:((some (([]:List (S38)):List (S38))).bind fun y223=>(if y223.length+l0_0.length<4398046511104 then ((some (([]:List (S64)):List (S64))).bind fun y229=>(if y229.length+l0_1.length<5864062014805 then ((some (([]:List (S64)):List (S64))).bind fun y235=>(if y235.length+l0_2.length<5864062014805 then ((some (([]:List ByteArray):List ByteArray)).bind fun y241=>(if y241.length+l0_3.length<8796093022208 then (some ((y223++l0_0),(y229++l0_1),(y235++l0_2),(y241++l0_3),a0_4,a0_5)) else (none))) else (none))) else (none))) else (none)))=some (r1,r2,r3,r4,r5,r6):=h
 clear h
 obtain ⟨y223,hy223⟩:∃ y_:List (S38),y_=(([]:List (S38))):=⟨_,rfl⟩
 replace H:(if y223.length+l0_0.length<4398046511104 then ((some (([]:List (S64)):List (S64))).bind fun y229=>(if y229.length+l0_1.length<5864062014805 then ((some (([]:List (S64)):List (S64))).bind fun y235=>(if y235.length+l0_2.length<5864062014805 then ((some (([]:List ByteArray):List ByteArray)).bind fun y241=>(if y241.length+l0_3.length<8796093022208 then (some ((y223++l0_0),(y229++l0_1),(y235++l0_2),(y241++l0_3),a0_4,a0_5)) else (none))) else (none))) else (none))) else (none))=some (r1,r2,r3,r4,r5,r6):=by (have H2_:=(Option.bind_some _ _).symm.trans H;rw [hy223];with_reducible exact H2_)
 have Ny223:=Aside0.mk hy223
 clear hy223
 by_cases c2:y223.length+l0_0.length<4398046511104
 ·rw [if_pos c2] at H
  have LMc2:=Aside0.mk c2
  clear c2
  obtain ⟨y226,hy226⟩:∃ y_:List (S38),y_=(y223++l0_0):=⟨_,rfl⟩
  replace H:((some (([]:List (S64)):List (S64))).bind fun y229=>(if y229.length+l0_1.length<5864062014805 then ((some (([]:List (S64)):List (S64))).bind fun y235=>(if y235.length+l0_2.length<5864062014805 then ((some (([]:List ByteArray):List ByteArray)).bind fun y241=>(if y241.length+l0_3.length<8796093022208 then (some (y226,(y229++l0_1),(y235++l0_2),(y241++l0_3),a0_4,a0_5)) else (none))) else (none))) else (none)))=some (r1,r2,r3,r4,r5,r6):=by (rw [hy226];with_reducible exact H)
  have Ny226:=Aside0.mk hy226
  clear hy226
  obtain ⟨y229,hy229⟩:∃ y_:List (S64),y_=(([]:List (S64))):=⟨_,rfl⟩
  replace H:(if y229.length+l0_1.length<5864062014805 then ((some (([]:List (S64)):List (S64))).bind fun y235=>(if y235.length+l0_2.length<5864062014805 then ((some (([]:List ByteArray):List ByteArray)).bind fun y241=>(if y241.length+l0_3.length<8796093022208 then (some (y226,(y229++l0_1),(y235++l0_2),(y241++l0_3),a0_4,a0_5)) else (none))) else (none))) else (none))=some (r1,r2,r3,r4,r5,r6):=by (have H2_:=(Option.bind_some _ _).symm.trans H;rw [hy229];with_reducible exact H2_)
  have Ny229:=Aside0.mk hy229
  clear hy229
  by_cases c3:y229.length+l0_1.length<5864062014805
  ·rw [if_pos c3] at H
   have LMc3:=Aside0.mk c3
   clear c3
   obtain ⟨y232,hy232⟩:∃ y_:List (S64),y_=(y229++l0_1):=⟨_,rfl⟩
   replace H:((some (([]:List (S64)):List (S64))).bind fun y235=>(if y235.length+l0_2.length<5864062014805 then ((some (([]:List ByteArray):List ByteArray)).bind fun y241=>(if y241.length+l0_3.length<8796093022208 then (some (y226,y232,(y235++l0_2),(y241++l0_3),a0_4,a0_5)) else (none))) else (none)))=some (r1,r2,r3,r4,r5,r6):=by (rw [hy232];with_reducible exact H)
   have Ny232:=Aside0.mk hy232
   clear hy232
   obtain ⟨y235,hy235⟩:∃ y_:List (S64),y_=(([]:List (S64))):=⟨_,rfl⟩
   replace H:(if y235.length+l0_2.length<5864062014805 then ((some (([]:List ByteArray):List ByteArray)).bind fun y241=>(if y241.length+l0_3.length<8796093022208 then (some (y226,y232,(y235++l0_2),(y241++l0_3),a0_4,a0_5)) else (none))) else (none))=some (r1,r2,r3,r4,r5,r6):=by (have H2_:=(Option.bind_some _ _).symm.trans H;rw [hy235];with_reducible exact H2_)
   have Ny235:=Aside0.mk hy235
   clear hy235
   by_cases c4:y235.length+l0_2.length<5864062014805
   ·rw [if_pos c4] at H
    have LMc4:=Aside0.mk c4
    clear c4
    obtain ⟨y238,hy238⟩:∃ y_:List (S64),y_=(y235++l0_2):=⟨_,rfl⟩
    replace H:((some (([]:List ByteArray):List ByteArray)).bind fun y241=>(if y241.length+l0_3.length<8796093022208 then (some (y226,y232,y238,(y241++l0_3),a0_4,a0_5)) else (none)))=some (r1,r2,r3,r4,r5,r6):=by (rw [hy238];with_reducible exact H)
    have Ny238:=Aside0.mk hy238
    clear hy238
    obtain ⟨y241,hy241⟩:∃ y_:List ByteArray,y_=([]:List ByteArray):=⟨_,rfl⟩
    replace H:(if y241.length+l0_3.length<8796093022208 then (some (y226,y232,y238,(y241++l0_3),a0_4,a0_5)) else (none))=some (r1,r2,r3,r4,r5,r6):=by (have H2_:=(Option.bind_some _ _).symm.trans H;rw [hy241];with_reducible exact H2_)
    have Ny241:=Aside0.mk hy241
    clear hy241
    by_cases c5:y241.length+l0_3.length<8796093022208
    ·rw [if_pos c5] at H
     have LMc5:=Aside0.mk c5
     clear c5
     obtain ⟨y244,hy244⟩:∃ y_:List ByteArray,y_=(y241++l0_3):=⟨_,rfl⟩
     replace H:(some (y226,y232,y238,y244,a0_4,a0_5))=some (r1,r2,r3,r4,r5,r6):=by (rw [hy244];with_reducible exact H)
     have Ny244:=Aside0.mk hy244
     clear hy244
     simp only [Option.some.injEq,Prod.mk.injEq] at H
     obtain ⟨rfl,rfl,rfl,rfl,rfl,rfl⟩:=H
     go_enter Tryz.func56,Tryz.ntmps56
     go_wp2_with (first | ((with_reducible refine gate_dst (N:=1) rfl ?_);refine box_event ?hg (N:=1) ?hd (cs:=#[.slice A0_0 l0_0.length c0_0,.slice A0_1 l0_1.length c0_1,.slice A0_2 l0_2.length c0_2,.slice A0_3 l0_3.length c0_3,.int .i64 a0_4,.int .i64 a0_5]) (t:=28) ?hr ?_;(case hd=>rfl);(case hg=>rfl);(case hr=>(go_simp;done));intro gb221 hg w6 hbox hb;have BK221:=Aside0.mk (hbox);have GE221:=Aside0.mk ((by rw [hg];exact (below_size HB.out):w.heap.size≤gb221));replace HB:=Aside0.mk (below_step HB.out hb);clear hb hbox hg) | ((with_reducible refine gate_dst (N:=2) rfl ?_);refine box_event ?hg (N:=2) ?hd (cs:=#[.slice none 0 0,.slice none 0 0,.slice none 0 0,.slice none 0 0,.int .i64 0,.int .i64 0]) (t:=28) ?hr ?_;(case hd=>rfl);(case hg=>rfl);(case hr=>(go_simp;done));intro gb222 hg w7 hbox hb;have BK222:=Aside0.mk (hbox);have GE222:=Aside0.mk ((by rw [hg];exact (below_size HB.out):w.heap.size≤gb222));have NB222_221:=Aside0.mk ((by rw [hg];exact Nat.ne_of_gt (blk_lt BK221.out):gb222≠gb221));replace BK221:=Aside0.mk (bB hb BK221.out);replace HB:=Aside0.mk (below_step HB.out hb);clear hb hbox hg) | ((with_reducible refine gate_dst (N:=3) rfl ?_);refine Kd.R_lit k38 _ 38 ?hg (N:=3) ?hd (xs:=([]:List (S38))) (inner:=[]) (ok:=fun _=>True) (okp:=fun _=>True) ?hr ?hp (fun _ hk=>hk) trivial (Below.refl _ _) (Nat.le_refl _) (by simp) ?_;(case hd=>rfl);(case hg=>rfl);(case hr=>(go_simp;done));(case hp=>exact (Reps.none _ _));intro v224 w8 ho9 hb hg_ hnew_;clear hg_ hnew_;(rw [← Ny223.out] at ho9);have HO225:=Aside0.mk (Kd.R_lower ho9 (below_size HB.out));replace BK221:=Aside0.mk (bB hb BK221.out);replace BK222:=Aside0.mk (bB hb BK222.out);replace HB:=Aside0.mk (below_step HB.out hb);clear hb ho9;have hnc10:=NB222_221.out;obtain ⟨hcz11_0,hcz11_1,hcz11_2,hcz11_3,hcz11_4,hcz11_5⟩:=b6of BK221.out;obtain ⟨hfz11_0,hfz11_1,hfz11_2,hfz11_3,hfz11_4,hfz11_5⟩:=z6of BK221.out) | ((with_reducible refine gate_builtin (b:=.append) (xs:=#[.tmp 3,.tmp 5]) rfl ?_);at_builtin;refine Kd.R_append_rows k38 (w0:=w) w.heap.size rfl (.tmp 3) (.tmp 5) 24 38 (.agg #[(.int .i64 0),(.string ⟨#[]⟩),(.int .i64 0)]) 32 rfl Tryz.underlying24 info38 rfl (by decide) (by omega) v224 y223 l0_0 _ _ _ (fun _=>True) (fun _=>False) rfl rfl ?aO ?aR (fun _ _ h=>h) (fun _ h=>h.elim) ?aF ?aB ?aS ?aL ?_;(case aR=>repeat (exact (Kd.C_below HR0_0.out HB.out)));(case aB=>exact HB.out);(case aF=>exact (fun _ _=>trivial));(case aO=>exact HO225.out);(case aS=>exact (below_size HB.out));(case aL=>have:=LMc2.out;omega);intro v227 w12 ho hb hg hat;rw [← Ny226.out] at ho;have HO228:=Aside0.mk (ho);replace BK221:=Aside0.mk (blk_grown (g:=gb221) (o:=.cells #[.slice A0_0 l0_0.length c0_0,.slice A0_1 l0_1.length c0_1,.slice A0_2 l0_2.length c0_2,.slice A0_3 l0_3.length c0_3,.int .i64 a0_4,.int .i64 a0_5] 28 (0,0)) BK221.out hg (Kd.R_ne HO225.out BK221.out (by decide)));replace BK222:=Aside0.mk (blk_grown (g:=gb222) (o:=.cells #[.slice none 0 0,.slice none 0 0,.slice none 0 0,.slice none 0 0,.int .i64 0,.int .i64 0] 28 (0,0)) BK222.out hg (Kd.R_ne HO225.out BK222.out (by decide)));replace HB:=Aside0.mk (hb);clear HO225;clear ho hb hg hat;obtain ⟨Ao13,co13,eo13⟩:=Kd.R_slice HO228.out;subst eo13;obtain ⟨hcz14_0,hcz14_1,hcz14_2,hcz14_3,hcz14_4,hcz14_5⟩:=b6of BK221.out;obtain ⟨hfz14_0,hfz14_1,hfz14_2,hfz14_3,hfz14_4,hfz14_5⟩:=z6of BK221.out) | ((with_reducible refine gate_dst (N:=8) rfl ?_);refine Kd.R_lit k64 _ 64 ?hg (N:=8) ?hd (xs:=([]:List (S64))) (inner:=[]) (ok:=fun _=>True) (okp:=fun _=>True) ?hr ?hp (fun _ hk=>hk) trivial (Below.refl _ _) (Nat.le_refl _) (by simp) ?_;(case hd=>rfl);(case hg=>rfl);(case hr=>(go_simp;done));(case hp=>exact (Reps.none _ _));intro v230 w15 ho16 hb hg_ hnew_;clear hg_ hnew_;(rw [← Ny229.out] at ho16);have HO231:=Aside0.mk (Kd.R_lower ho16 (below_size (by repeat (with_reducible first | exact HB.out | refine below_set ?_ GE221.out))));replace HO228:=Aside0.mk (Kd.R_below (by exact (Kd.R_mono (Kd.R_far (p:=⟨gb221,0,none⟩) (Kd.R_types HO228.out BK221.out (by decide)) (fun _ hk=>hk.2) (.slice Ao13 y226.length co13)) (fun _ h_=>h_.1))) hb);replace BK221:=Aside0.mk (blk_below (g:=gb221) (o:=.cells #[.slice Ao13 y226.length co13,.slice A0_1 l0_1.length c0_1,.slice A0_2 l0_2.length c0_2,.slice A0_3 l0_3.length c0_3,.int .i64 a0_4,.int .i64 a0_5] 28 (0,0)) (by refine blk_put (cs:=#[.slice A0_0 l0_0.length c0_0,.slice A0_1 l0_1.length c0_1,.slice A0_2 l0_2.length c0_2,.slice A0_3 l0_3.length c0_3,.int .i64 a0_4,.int .i64 a0_5]) ?_ 0 _ rfl;exact BK221.out) hb);replace BK222:=Aside0.mk (bB hb (blk_far BK222.out NB222_221.out _));replace HB:=Aside0.mk (below_step (by repeat (with_reducible first | exact HB.out | refine below_set ?_ GE221.out)) hb);clear hb ho16;obtain ⟨hcz17_0,hcz17_1,hcz17_2,hcz17_3,hcz17_4,hcz17_5⟩:=b6of BK221.out;obtain ⟨hfz17_0,hfz17_1,hfz17_2,hfz17_3,hfz17_4,hfz17_5⟩:=z6of BK221.out) | ((with_reducible refine gate_builtin (b:=.append) (xs:=#[.tmp 8,.tmp 10]) rfl ?_);at_builtin;refine Kd.R_append_rows k64 (w0:=w) w.heap.size rfl (.tmp 8) (.tmp 10) 25 64 (.agg #[(.string ⟨#[]⟩),(.int .i64 0)]) 24 rfl Tryz.underlying25 info64 rfl (by decide) (by omega) v230 y229 l0_1 _ _ _ (fun _=>True) (fun _=>False) rfl rfl ?aO ?aR (fun _ _ h=>h) (fun _ h=>h.elim) ?aF ?aB ?aS ?aL ?_;(case aR=>repeat (exact (Kd.C_below HR0_1.out HB.out)));(case aB=>exact HB.out);(case aF=>exact (fun _ _=>trivial));(case aO=>exact HO231.out);(case aS=>exact (below_size HB.out));(case aL=>have:=LMc3.out;omega);intro v233 w18 ho hb hg hat;rw [← Ny232.out] at ho;have HO234:=Aside0.mk (ho);replace BK221:=Aside0.mk (blk_grown (g:=gb221) (o:=.cells #[.slice Ao13 y226.length co13,.slice A0_1 l0_1.length c0_1,.slice A0_2 l0_2.length c0_2,.slice A0_3 l0_3.length c0_3,.int .i64 a0_4,.int .i64 a0_5] 28 (0,0)) BK221.out hg (Kd.R_ne HO231.out BK221.out (by decide)));replace BK222:=Aside0.mk (blk_grown (g:=gb222) (o:=.cells #[.slice none 0 0,.slice none 0 0,.slice none 0 0,.slice none 0 0,.int .i64 0,.int .i64 0] 28 (0,0)) BK222.out hg (Kd.R_ne HO231.out BK222.out (by decide)));replace HO228:=Aside0.mk (Kd.R_over' HO228.out (Kd.R_typed HO231.out) (by decide) hg);replace HB:=Aside0.mk (hb);clear HO231;clear ho hb hg hat;obtain ⟨Ao19,co19,eo19⟩:=Kd.R_slice HO234.out;subst eo19;obtain ⟨hcz20_0,hcz20_1,hcz20_2,hcz20_3,hcz20_4,hcz20_5⟩:=b6of BK221.out;obtain ⟨hfz20_0,hfz20_1,hfz20_2,hfz20_3,hfz20_4,hfz20_5⟩:=z6of BK221.out) | ((with_reducible refine gate_dst (N:=13) rfl ?_);refine Kd.R_lit k64 _ 64 ?hg (N:=13) ?hd (xs:=([]:List (S64))) (inner:=[]) (ok:=fun _=>True) (okp:=fun _=>True) ?hr ?hp (fun _ hk=>hk) trivial (Below.refl _ _) (Nat.le_refl _) (by simp) ?_;(case hd=>rfl);(case hg=>rfl);(case hr=>(go_simp;done));(case hp=>exact (Reps.none _ _));intro v236 w21 ho22 hb hg_ hnew_;clear hg_ hnew_;(rw [← Ny235.out] at ho22);have HO237:=Aside0.mk (Kd.R_lower (Kd.R_new' ho22 (Kd.R_lt (by exact (Kd.R_mono (Kd.R_far (p:=⟨gb221,1,none⟩) (Kd.R_types HO234.out BK221.out (by decide)) (fun _ hk=>hk.2) (.slice Ao19 y232.length co19)) (fun _ h_=>h_.1))))) (below_size (by repeat (with_reducible first | exact HB.out | refine below_set ?_ GE221.out))));replace HO228:=Aside0.mk (Kd.R_below (by exact (Kd.R_mono (Kd.R_far (p:=⟨gb221,1,none⟩) (Kd.R_types HO228.out BK221.out (by decide)) (fun _ hk=>hk.2) (.slice Ao19 y232.length co19)) (fun _ h_=>h_.1))) hb);replace HO234:=Aside0.mk (Kd.R_elder' (by exact (Kd.R_mono (Kd.R_far (p:=⟨gb221,1,none⟩) (Kd.R_types HO234.out BK221.out (by decide)) (fun _ hk=>hk.2) (.slice Ao19 y232.length co19)) (fun _ h_=>h_.1))) (Kd.R_base ho22) hb);replace BK221:=Aside0.mk (blk_below (g:=gb221) (o:=.cells #[.slice Ao13 y226.length co13,.slice Ao19 y232.length co19,.slice A0_2 l0_2.length c0_2,.slice A0_3 l0_3.length c0_3,.int .i64 a0_4,.int .i64 a0_5] 28 (0,0)) (by refine blk_put (cs:=#[.slice Ao13 y226.length co13,.slice A0_1 l0_1.length c0_1,.slice A0_2 l0_2.length c0_2,.slice A0_3 l0_3.length c0_3,.int .i64 a0_4,.int .i64 a0_5]) ?_ 1 _ rfl;exact BK221.out) hb);replace BK222:=Aside0.mk (bB hb (blk_far BK222.out NB222_221.out _));replace HB:=Aside0.mk (below_step (by repeat (with_reducible first | exact HB.out | refine below_set ?_ GE221.out)) hb);clear hb ho22;obtain ⟨hcz23_0,hcz23_1,hcz23_2,hcz23_3,hcz23_4,hcz23_5⟩:=b6of BK221.out;obtain ⟨hfz23_0,hfz23_1,hfz23_2,hfz23_3,hfz23_4,hfz23_5⟩:=z6of BK221.out) | ((with_reducible refine gate_builtin (b:=.append) (xs:=#[.tmp 13,.tmp 15]) rfl ?_);at_builtin;refine Kd.R_append_rows k64 (w0:=w) w.heap.size rfl (.tmp 13) (.tmp 15) 25 64 (.agg #[(.string ⟨#[]⟩),(.int .i64 0)]) 24 rfl Tryz.underlying25 info64 rfl (by decide) (by omega) v236 y235 l0_2 _ _ _ (fun k_=>some k_≠(.slice Ao19 y232.length co19:Value).ownBlock) (fun _=>False) rfl rfl ?aO ?aR (fun _ _ h=>h) (fun _ h=>h.elim) ?aF ?aB ?aS ?aL ?_;(case aR=>repeat (exact (Kd.C_below HR0_2.out HB.out)));(case aB=>exact HB.out);(case aF=>exact (fun k_ hk=>Kd.fresh' (Kd.R_lt HO234.out) k_ hk));(case aO=>exact (by exact Kd.R_mono HO237.out (fun _ hk=>hk.2)));(case aS=>exact (below_size HB.out));(case aL=>have:=LMc4.out;omega);intro v239 w24 ho hb hg hat;rw [← Ny238.out] at ho;have HO240:=Aside0.mk (ho);replace BK221:=Aside0.mk (blk_grown (g:=gb221) (o:=.cells #[.slice Ao13 y226.length co13,.slice Ao19 y232.length co19,.slice A0_2 l0_2.length c0_2,.slice A0_3 l0_3.length c0_3,.int .i64 a0_4,.int .i64 a0_5] 28 (0,0)) BK221.out hg (Kd.R_ne HO237.out BK221.out (by decide)));replace BK222:=Aside0.mk (blk_grown (g:=gb222) (o:=.cells #[.slice none 0 0,.slice none 0 0,.slice none 0 0,.slice none 0 0,.int .i64 0,.int .i64 0] 28 (0,0)) BK222.out hg (Kd.R_ne HO237.out BK222.out (by decide)));replace HO228:=Aside0.mk (Kd.R_over' HO228.out (Kd.R_typed HO237.out) (by decide) hg);replace HO234:=Aside0.mk (Kd.R_after (ok:=(fun _=>True)) HO234.out hg hat);replace HB:=Aside0.mk (hb);clear HO237;clear ho hb hg hat;obtain ⟨Ao25,co25,eo25⟩:=Kd.R_slice HO240.out;subst eo25;obtain ⟨hcz26_0,hcz26_1,hcz26_2,hcz26_3,hcz26_4,hcz26_5⟩:=b6of BK221.out;obtain ⟨hfz26_0,hfz26_1,hfz26_2,hfz26_3,hfz26_4,hfz26_5⟩:=z6of BK221.out) | ((with_reducible refine gate_dst (N:=18) rfl ?_);refine Kd.R_lit Kd.string _ 9 ?hg (N:=18) ?hd (xs:=([]:List ByteArray)) (inner:=[]) (ok:=fun _=>True) (okp:=fun _=>True) ?hr ?hp (fun _ hk=>hk) trivial (Below.refl _ _) (Nat.le_refl _) (by simp) ?_;(case hd=>rfl);(case hg=>rfl);(case hr=>(go_simp;done));(case hp=>exact (Reps.none _ _));intro v242 w27 ho28 hb hg_ hnew_;clear hg_ hnew_;(rw [← Ny241.out] at ho28);have HO243:=Aside0.mk (Kd.R_lower ho28 (below_size (by repeat (with_reducible first | exact HB.out | refine below_set ?_ GE221.out))));replace HO228:=Aside0.mk (Kd.R_below (by exact (Kd.R_mono (Kd.R_far (p:=⟨gb221,2,none⟩) (Kd.R_types HO228.out BK221.out (by decide)) (fun _ hk=>hk.2) (.slice Ao25 y238.length co25)) (fun _ h_=>h_.1))) hb);replace HO234:=Aside0.mk (Kd.R_below (by exact (Kd.R_mono (Kd.R_far (p:=⟨gb221,2,none⟩) (Kd.R_types HO234.out BK221.out (by decide)) (fun _ hk=>hk.2) (.slice Ao25 y238.length co25)) (fun _ h_=>h_.1))) hb);replace HO240:=Aside0.mk (Kd.R_below (by exact (Kd.R_mono (Kd.R_far (p:=⟨gb221,2,none⟩) (Kd.R_types HO240.out BK221.out (by decide)) (fun _ hk=>hk.2) (.slice Ao25 y238.length co25)) (fun _ h_=>h_.1))) hb);replace BK221:=Aside0.mk (blk_below (g:=gb221) (o:=.cells #[.slice Ao13 y226.length co13,.slice Ao19 y232.length co19,.slice Ao25 y238.length co25,.slice A0_3 l0_3.length c0_3,.int .i64 a0_4,.int .i64 a0_5] 28 (0,0)) (by refine blk_put (cs:=#[.slice Ao13 y226.length co13,.slice Ao19 y232.length co19,.slice A0_2 l0_2.length c0_2,.slice A0_3 l0_3.length c0_3,.int .i64 a0_4,.int .i64 a0_5]) ?_ 2 _ rfl;exact BK221.out) hb);replace BK222:=Aside0.mk (bB hb (blk_far BK222.out NB222_221.out _));replace HB:=Aside0.mk (below_step (by repeat (with_reducible first | exact HB.out | refine below_set ?_ GE221.out)) hb);clear hb ho28;obtain ⟨hcz29_0,hcz29_1,hcz29_2,hcz29_3,hcz29_4,hcz29_5⟩:=b6of BK221.out;obtain ⟨hfz29_0,hfz29_1,hfz29_2,hfz29_3,hfz29_4,hfz29_5⟩:=z6of BK221.out) | ((with_reducible refine gate_builtin (b:=.append) (xs:=#[.tmp 18,.tmp 20]) rfl ?_);at_builtin;refine Kd.R_append_rows Kd.string (w0:=w) w.heap.size rfl (.tmp 18) (.tmp 20) 26 9 (.string ⟨#[]⟩) 16 rfl Tryz.underlying26 info9 rfl (by decide) (by omega) v242 y241 l0_3 _ _ _ (fun _=>True) (fun _=>False) rfl rfl ?aO ?aR (fun _ _ h=>h) (fun _ h=>h.elim) ?aF ?aB ?aS ?aL ?_;(case aR=>repeat (exact (Kd.C_below HR0_3.out HB.out)));(case aB=>exact HB.out);(case aF=>exact (fun _ _=>trivial));(case aO=>exact HO243.out);(case aS=>exact (below_size HB.out));(case aL=>have:=LMc5.out;omega);intro v245 w30 ho hb hg hat;rw [← Ny244.out] at ho;have HO246:=Aside0.mk (ho);replace BK221:=Aside0.mk (blk_grown (g:=gb221) (o:=.cells #[.slice Ao13 y226.length co13,.slice Ao19 y232.length co19,.slice Ao25 y238.length co25,.slice A0_3 l0_3.length c0_3,.int .i64 a0_4,.int .i64 a0_5] 28 (0,0)) BK221.out hg (Kd.R_ne HO243.out BK221.out (by decide)));replace BK222:=Aside0.mk (blk_grown (g:=gb222) (o:=.cells #[.slice none 0 0,.slice none 0 0,.slice none 0 0,.slice none 0 0,.int .i64 0,.int .i64 0] 28 (0,0)) BK222.out hg (Kd.R_ne HO243.out BK222.out (by decide)));replace HO228:=Aside0.mk (Kd.R_over' HO228.out (Kd.R_typed HO243.out) (by decide) hg);replace HO234:=Aside0.mk (Kd.R_over' HO234.out (Kd.R_typed HO243.out) (by decide) hg);replace HO240:=Aside0.mk (Kd.R_over' HO240.out (Kd.R_typed HO243.out) (by decide) hg);replace HB:=Aside0.mk (hb);clear HO243;clear ho hb hg hat;obtain ⟨Ao31,co31,eo31⟩:=Kd.R_slice HO246.out;subst eo31;obtain ⟨hcz32_0,hcz32_1,hcz32_2,hcz32_3,hcz32_4,hcz32_5⟩:=b6of BK221.out;obtain ⟨hfz32_0,hfz32_1,hfz32_2,hfz32_3,hfz32_4,hfz32_5⟩:=z6of BK221.out;obtain ⟨hcz33_0,hcz33_1,hcz33_2,hcz33_3,hcz33_4,hcz33_5⟩:=b6of BK222.out;obtain ⟨hfz33_0,hfz33_1,hfz33_2,hfz33_3,hfz33_4,hfz33_5⟩:=z6of BK222.out))
     refine bodyPost_ret (results_cell_row rfl _ _ gb222 28 #[.slice Ao13 y226.length co13,.slice Ao19 y232.length co19,.slice Ao25 y238.length co25,.slice Ao31 y244.length co31,.int .i64 a0_4,.int .i64 a0_5] (0,0) _ rfl (by refine blk_put (cs:=#[.slice Ao13 y226.length co13,.slice Ao19 y232.length co19,.slice Ao25 y238.length co25,.slice Ao31 y244.length co31,.int .i64 a0_4,.int .i64 0]) ?_ 5 _ rfl;refine blk_put (cs:=#[.slice Ao13 y226.length co13,.slice Ao19 y232.length co19,.slice Ao25 y238.length co25,.slice Ao31 y244.length co31,.int .i64 0,.int .i64 0]) ?_ 4 _ rfl;refine blk_put (cs:=#[.slice Ao13 y226.length co13,.slice Ao19 y232.length co19,.slice Ao25 y238.length co25,.slice none 0 0,.int .i64 0,.int .i64 0]) ?_ 3 _ rfl;refine blk_put (cs:=#[.slice Ao13 y226.length co13,.slice Ao19 y232.length co19,.slice none 0 0,.slice none 0 0,.int .i64 0,.int .i64 0]) ?_ 2 _ rfl;refine blk_put (cs:=#[.slice Ao13 y226.length co13,.slice none 0 0,.slice none 0 0,.slice none 0 0,.int .i64 0,.int .i64 0]) ?_ 1 _ rfl;refine blk_put (cs:=#[.slice none 0 0,.slice none 0 0,.slice none 0 0,.slice none 0 0,.int .i64 0,.int .i64 0]) ?_ 0 _ rfl;refine blk_far ?_ NB222_221.out _;exact BK222.out) Tryz.underlying28 rfl (by kernel_rfl)) rfl ?_
     all_goals exact ⟨_,_,_,_,by rfl,by exact Kd.R_mono (R6 (Kd.R_far (p:=⟨gb221,3,none⟩) (Kd.R_types (Kd.R_types HO228.out BK221.out (by decide)) BK222.out (by decide)) (fun _ hk=>hk.1.2) (.slice Ao31 y244.length co31)) (.slice Ao13 y226.length co13) (.slice Ao19 y232.length co19) (.slice Ao25 y238.length co25) (.slice Ao31 y244.length co31) (.int .i64 a0_4) (.int .i64 a0_5)) (fun _ hk=>trivial),by exact Kd.R_mono (R6 (Kd.R_far (p:=⟨gb221,3,none⟩) (Kd.R_types (Kd.R_types HO234.out BK221.out (by decide)) BK222.out (by decide)) (fun _ hk=>hk.1.2) (.slice Ao31 y244.length co31)) (.slice Ao13 y226.length co13) (.slice Ao19 y232.length co19) (.slice Ao25 y238.length co25) (.slice Ao31 y244.length co31) (.int .i64 a0_4) (.int .i64 a0_5)) (fun _ hk=>hk.1.1.2),by exact Kd.R_mono (R6 (Kd.R_far (p:=⟨gb221,3,none⟩) (Kd.R_types (Kd.R_types HO240.out BK221.out (by decide)) BK222.out (by decide)) (fun _ hk=>hk.1.2) (.slice Ao31 y244.length co31)) (.slice Ao13 y226.length co13) (.slice Ao19 y232.length co19) (.slice Ao25 y238.length co25) (.slice Ao31 y244.length co31) (.int .i64 a0_4) (.int .i64 a0_5)) (fun _ hk=>hk.1.1),by exact Kd.R_mono (R6 (Kd.R_far (p:=⟨gb221,3,none⟩) (Kd.R_types (Kd.R_types HO246.out BK221.out (by decide)) BK222.out (by decide)) (fun _ hk=>hk.1.2) (.slice Ao31 y244.length co31)) (.slice Ao13 y226.length co13) (.slice Ao19 y232.length co19) (.slice Ao25 y238.length co25) (.slice Ao31 y244.length co31) (.int .i64 a0_4) (.int .i64 a0_5)) (fun _ hk=>trivial),by repeat (with_reducible first | exact HB.out | refine below_set ?_ GE221.out | refine below_set ?_ GE222.out)⟩
    ·rw [if_neg c5] at H
     exact absurd H (by simp)
   ·rw [if_neg c4] at H
    exact absurd H (by simp)
  ·rw [if_neg c3] at H
   exact absurd H (by simp)
 ·rw [if_neg c2] at H
  exact absurd H (by simp)

end Go.Proofs.YthbffdjjmapaaaaGreatDoor.MFnRenamed
