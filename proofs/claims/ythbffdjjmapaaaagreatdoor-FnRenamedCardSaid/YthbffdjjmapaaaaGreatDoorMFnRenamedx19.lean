/- Each theorem here says that a call of one Go function answers what the Lean function beside it answers; its conditions stand in it. Written by a program of this session. -/
import Derived.Test.YthbffdjjmapaaaaGreatDoorMFnRenamedx0
import Derived.Test.YthbffdjjmapaaaaGreatDoorMFnRenamedx15
namespace Go.Proofs.YthbffdjjmapaaaaGreatDoor.MFnRenamed
open Go.RowKit Go.Proofs.YthbffdjjmapaaaaGreatDoorW.PrintWords Go.Proofs.YthbffdjjmapaaaaGreatDoorW.PrintLast Go.Proofs.YthbffdjjmapaaaaGreatDoorW.PrintMore
attribute [local go_sem] max2_int min2_int max_two min_two max_three min_three max_four min_four   -- for this text's walks alone
set_option linter.unusedVariables false
set_option linter.unusedSimpArgs false

/-! ### impl_Node: function 84 -/
set_option maxHeartbeats 2000000 in
theorem cloneN (A0:Option Addr) (c0:Nat) (l0:List S38) (w:World) (hr:Kd.C k38 w A0 l0.length l0) (hb:l0.length*32≤140737488355328) :
    Calls Tryz.prog 84 #[.slice A0 l0.length c0] w fun e w'=>∃ v,e=.returned v∧Kd.R k38 38 w' w.heap.size (fun _=>True) v l0∧Below w.heap.size w w':=by
  have q22:∀ (w:World) (a:Option Addr) (n c n' c':Nat),(binOp .eql 24 (.slice a n c) (.slice none n' c')).run Tryz.prog w=.ok (.bool a.isNone) w:=fun w a n c n' c'=>Lib.run_eql_slice_nil w _ _ a n c n' c' Tryz.underlying24
  have HR:=Aside0.mk hr
  cases A0 with
  | none=>
    have h0:l0=[]:=by
      rcases Nat.eq_zero_or_pos l0.length with h | h
      · exact List.eq_nil_of_length_eq_zero h
      · obtain ⟨ad,e,_⟩:=hr.2.2 h
        cases e
    subst h0
    clear hr
    go_enter Tryz.func84,Tryz.ntmps84
    go_wp2
    go_ret
    exact ⟨_,rfl,Kd.R_nil _ _ _ _ _,Below.refl _ _⟩
  | some ad=>
    clear hr
    go_enter Tryz.func84,Tryz.ntmps84
    go_wp2_with (at_builtin;refine Kd.R_append_rows k38 (w0:=w) w.heap.size rfl _ _ 24 38 (.agg #[(.int .i64 0),(.string ⟨#[]⟩),(.int .i64 0)]) 32 rfl Tryz.underlying24 info38 rfl (by decide) (by decide) (.slice (some ⟨w.heap.size,0,none⟩) 0 0) [] l0 (some ad) l0.length c0 (fun _=>True) (fun _=>False) rfl rfl ⟨fun _ _=>trivial,[],World.ownsRow_made w #[] 0 (Nat.le_refl _) (Nat.zero_le _) (by simp),Reps.none _ _⟩ (Kd.C_alloc HR.out _) (fun x cs h=>by obtain rfl:=k38_open h;exact k38_mkM _ _ _ x) (fun _ h=>h.elim) (fun _ _=>trivial) (below_alloc (Below.refl _ _) _) (by simp) (by simpa using hb) ?_;intro v1 w1 hO hb1 hg hat)
    go_wp2
    go_ret
    exact ⟨v1,rfl,by simpa using hO,hb1⟩
def impl_Node.f (l0:List (S38)):Option (List (S38)):=if l0.length*32≤140737488355328 then some l0 else none
theorem impl_Node.calls (A0:Option Addr) (c0:Nat) (l0:List (S38)) (r:List (S38)) (w:World) (hr0:Kd.C k38 w A0 l0.length l0) (hc0:l0.length≤c0) (h:impl_Node.f l0=some r) :
    Calls Tryz.prog 84 #[.slice A0 l0.length c0] w fun e w'=>∃ v0_:Value,e=.returned v0_∧Kd.R k38 38 w' w.heap.size (fun _=>True) v0_ r∧Below w.heap.size w w':=by
  unfold impl_Node.f at h
  by_cases hz:l0.length*32≤140737488355328
  · rw [if_pos hz] at h
    obtain rfl:=Option.some.inj h
    exact cloneN A0 c0 l0 w hr0 hz
  · rw [if_neg hz] at h;cases h

/-! ### slices_Clone_string_string: function 85 -/
set_option maxHeartbeats 2000000 in
theorem cloneS (A0:Option Addr) (c0:Nat) (l0:List ByteArray) (w:World) (hr:Kd.C Kd.string w A0 l0.length l0) (hb:l0.length*16≤140737488355328) :
    Calls Tryz.prog 85 #[.slice A0 l0.length c0] w fun e w'=>∃ v,e=.returned v∧Kd.R Kd.string 9 w' w.heap.size (fun _=>True) v l0∧Below w.heap.size w w':=by
  have q22:∀ (w:World) (a:Option Addr) (n c n' c':Nat),(binOp .eql 26 (.slice a n c) (.slice none n' c')).run Tryz.prog w=.ok (.bool a.isNone) w:=fun w a n c n' c'=>Lib.run_eql_slice_nil w _ _ a n c n' c' Tryz.underlying26
  have HR:=Aside0.mk hr
  cases A0 with
  | none=>
    have h0:l0=[]:=by
      rcases Nat.eq_zero_or_pos l0.length with h | h
      · exact List.eq_nil_of_length_eq_zero h
      · obtain ⟨ad,e,_⟩:=hr.2.2 h
        cases e
    subst h0
    clear hr
    go_enter Tryz.func85,Tryz.ntmps85
    go_wp2
    go_ret
    exact ⟨_,rfl,Kd.R_nil _ _ _ _ _,Below.refl _ _⟩
  | some ad=>
    clear hr
    go_enter Tryz.func85,Tryz.ntmps85
    go_wp2_with (at_builtin;refine Kd.R_append_rows Kd.string (w0:=w) w.heap.size rfl _ _ 26 9 (.string ⟨#[]⟩) 16 rfl Tryz.underlying26 info9 rfl (by decide) (by decide) (.slice (some ⟨w.heap.size,0,none⟩) 0 0) [] l0 (some ad) l0.length c0 (fun _=>True) (fun _=>False) rfl rfl ⟨fun _ _=>trivial,[],World.ownsRow_made w #[] 0 (Nat.le_refl _) (Nat.zero_le _) (by simp),Reps.none _ _⟩ (Kd.C_alloc HR.out _) (fun _ _ h=>h) (fun _ h=>h.elim) (fun _ _=>trivial) (below_alloc (Below.refl _ _) _) (by simp) (by simpa using hb) ?_;intro v1 w1 hO hb1 hg hat)
    go_wp2
    go_ret
    exact ⟨v1,rfl,by simpa using hO,hb1⟩
def slices_Clone_string_string.f (l0:List (ByteArray)):Option (List (ByteArray)):=if l0.length*16≤140737488355328 then some l0 else none
theorem slices_Clone_string_string.calls (A0:Option Addr) (c0:Nat) (l0:List (ByteArray)) (r:List (ByteArray)) (w:World) (hr0:Kd.C Kd.string w A0 l0.length l0) (hc0:l0.length≤c0) (h:slices_Clone_string_string.f l0=some r) :
    Calls Tryz.prog 85 #[.slice A0 l0.length c0] w fun e w'=>∃ v0_:Value,e=.returned v0_∧Kd.R Kd.string 9 w' w.heap.size (fun _=>True) v0_ r∧Below w.heap.size w w':=by
  unfold slices_Clone_string_string.f at h
  by_cases hz:l0.length*16≤140737488355328
  · rw [if_pos hz] at h
    obtain rfl:=Option.some.inj h
    exact cloneS A0 c0 l0 w hr0 hz
  · rw [if_neg hz] at h;cases h

/-! ### impl_copyDisk: function 53 -/
def impl_copyDisk.f (l0_0:List (S38)) (l0_1:List (S64)) (l0_2:List (S64)) (l0_3:List ByteArray) (a0_4:Int) (a0_5:Int):Option ((List (S38))×(List (S64))×(List (S64))×List ByteArray×Int×Int):=(impl_Node.f l0_0).bind fun t308=>((impl_Entry_41.f l0_1).bind fun t311=>((impl_Entry_41.f l0_2).bind fun t314=>((slices_Clone_string_string.f l0_3).bind fun t317=>(some (t308,t311,t314,t317,a0_4,a0_5)))))
def impl_copyDisk.T1:Bool×List (List Nat×List Nat):=(true,[([],[]),([0],[0]),([1],[1]),([],[]),([3],[3]),([4,2],[4]),([],[]),([6],[6]),([7,5],[7]),([],[]),([9],[9]),([10,8],[10]),([0,1,2,3,4,6,7,9,10],[]),([12,2,11,0,1,2,3,4,6,7,9,10],[2,12]),([0,1,2,3,4,5,6,7,9,10,12,13],[]),([14,5,13,0,1,2,3,4,5,6,7,9,10,12,13],[5,14]),([0,1,2,3,4,5,6,7,8,9,10,12,13,14,15],[]),([16,8,15,0,1,2,3,4,5,6,7,8,9,10,12,13,14,15],[8,16]),([0,1,2,3,4,5,6,7,8,9,10,11,12,13,14,15,16,17],[]),([18,11,17,0,1,2,3,4,5,6,7,8,9,10,11,12,13,14,15,16,17],[11,18])])
def impl_copyDisk.B1:List Nat:=[0,1,3,0,8,31,0,64,255,0,512,2047,1759,8191,16383,32767,65535,131071,262143,524287]
theorem impl_copyDisk.tab1:rtab .any (opsOf Tryz.f53 1)=impl_copyDisk.T1:=by kernel_rfl
theorem impl_copyDisk.bits1:waitsOk impl_copyDisk.T1.2 impl_copyDisk.B1=true:=by kernel_rfl
set_option maxHeartbeats 8000000 in
set_option maxRecDepth 100000 in
theorem impl_copyDisk.calls (A0_0:Option Addr) (c0_0:Nat) (l0_0:List (S38)) (A0_1:Option Addr) (c0_1:Nat) (l0_1:List (S64)) (A0_2:Option Addr) (c0_2:Nat) (l0_2:List (S64)) (A0_3:Option Addr) (c0_3:Nat) (l0_3:List ByteArray) (a0_4:Int) (a0_5:Int) (r1:List (S38)) (r2:List (S64)) (r3:List (S64)) (r4:List ByteArray) (r5:Int) (r6:Int) (w:World) (hr0_0:Kd.C k38 w A0_0 l0_0.length l0_0) (hc0_0:l0_0.length≤c0_0) (hr0_1:Kd.C k64 w A0_1 l0_1.length l0_1) (hc0_1:l0_1.length≤c0_1) (hr0_2:Kd.C k64 w A0_2 l0_2.length l0_2) (hc0_2:l0_2.length≤c0_2) (hr0_3:Kd.C Kd.string w A0_3 l0_3.length l0_3) (hc0_3:l0_3.length≤c0_3) (h:impl_copyDisk.f l0_0 l0_1 l0_2 l0_3 a0_4 a0_5=some (r1,r2,r3,r4,r5,r6)) :
  Calls Tryz.prog 53 #[.agg #[.slice A0_0 l0_0.length c0_0,.slice A0_1 l0_1.length c0_1,.slice A0_2 l0_2.length c0_2,.slice A0_3 l0_3.length c0_3,.int .i64 a0_4,.int .i64 a0_5]] w fun e w'=>∃ v0_ v1_ v2_ v3_:Value,e=.returned (.agg #[v0_,v1_,v2_,v3_,.int .i64 r5,.int .i64 r6])∧Kd.R k38 38 w' w.heap.size (fun _=>True) v0_ r1∧Kd.R k64 64 w' w.heap.size (fun k_=>some k_≠(v2_:Value).ownBlock) v1_ r2∧Kd.R k64 64 w' w.heap.size (fun k_=>some k_≠(v1_:Value).ownBlock) v2_ r3∧Kd.R Kd.string 9 w' w.heap.size (fun _=>True) v3_ r4∧Below w.heap.size w w':=by
 have hu28:=Tryz.underlying28
 have HR0_0:=Aside0.mk hr0_0
 have HC0_0:=Aside0.mk hc0_0
 clear hr0_0 hc0_0
 have HR0_1:=Aside0.mk hr0_1
 have HC0_1:=Aside0.mk hc0_1
 clear hr0_1 hc0_1
 have HR0_2:=Aside0.mk hr0_2
 have HC0_2:=Aside0.mk hc0_2
 clear hr0_2 hc0_2
 have HR0_3:=Aside0.mk hr0_3
 have HC0_3:=Aside0.mk hc0_3
 clear hr0_3 hc0_3
 have HB:=Aside0.mk (Below.refl w.heap.size w)
 have H:((impl_Node.f l0_0).bind fun t308=>((impl_Entry_41.f l0_1).bind fun t311=>((impl_Entry_41.f l0_2).bind fun t314=>((slices_Clone_string_string.f l0_3).bind fun t317=>(some (t308,t311,t314,t317,a0_4,a0_5))))))=some (r1,r2,r3,r4,r5,r6):=h
 clear h
 obtain ⟨t308,A2,H⟩:=bA H
 replace H:((impl_Entry_41.f l0_1).bind fun t311=>((impl_Entry_41.f l0_2).bind fun t314=>((slices_Clone_string_string.f l0_3).bind fun t317=>(some (t308,t311,t314,t317,a0_4,a0_5)))))=some (r1,r2,r3,r4,r5,r6):=H
 obtain ⟨t311,A3,H⟩:=bA H
 replace H:((impl_Entry_41.f l0_2).bind fun t314=>((slices_Clone_string_string.f l0_3).bind fun t317=>(some (t308,t311,t314,t317,a0_4,a0_5))))=some (r1,r2,r3,r4,r5,r6):=H
 obtain ⟨t314,A4,H⟩:=bA H
 replace H:((slices_Clone_string_string.f l0_3).bind fun t317=>(some (t308,t311,t314,t317,a0_4,a0_5)))=some (r1,r2,r3,r4,r5,r6):=H
 obtain ⟨t317,A5,H⟩:=bA H
 replace H:(some (t308,t311,t314,t317,a0_4,a0_5))=some (r1,r2,r3,r4,r5,r6):=H
 simp only [Option.some.injEq,Prod.mk.injEq] at H
 obtain ⟨rfl,rfl,rfl,rfl,rfl,rfl⟩:=H
 go_enter Tryz.func53,Tryz.ntmps53
 try go_wp2_with (first | ((with_reducible refine gate_dst (N:=1) rfl ?_);refine box_event ?hg (N:=1) ?hd (cs:=#[.slice A0_0 l0_0.length c0_0,.slice A0_1 l0_1.length c0_1,.slice A0_2 l0_2.length c0_2,.slice A0_3 l0_3.length c0_3,.int .i64 a0_4,.int .i64 a0_5]) (t:=28) ?hr ?_;(case hd=>rfl);(case hg=>rfl);(case hr=>first | (go_simp;done) | (go_simp;rfl));intro gb306 hg w6 hbox hb;have n0_:=Aside0.mk (below_step (by repeat (first | (with_reducible first | exact HB.out | apply below_alloc | apply pw_below_drewN | apply below_drew1) | exact HB.out)) hb);have n1_:=Aside0.mk (hbox);have n2_:=Aside0.mk ((by rw [hg];exact (below_size (by repeat (first | (with_reducible first | exact HB.out | apply below_alloc | apply pw_below_drewN | apply below_drew1) | exact HB.out))):w.heap.size≤gb306));have n3_:=Aside0.mk ((by rw [hg];exact (below_size (by repeat (first | (with_reducible first | exact HB.out | apply below_alloc | apply pw_below_drewN | apply below_drew1) | exact HB.out))):w.heap.size≤gb306));clear HB;have HB:=n0_;have BK306:=n1_;have GW306:=n2_;have GE306:=n3_;clear n0_ n1_ n2_ n3_;clear hb hbox hg) | ((with_reducible refine gate_dst (N:=2) rfl ?_);refine box_event ?hg (N:=2) ?hd (cs:=#[.slice none 0 0,.slice none 0 0,.slice none 0 0,.slice none 0 0,.int .i64 0,.int .i64 0]) (t:=28) ?hr ?_;(case hd=>rfl);(case hg=>rfl);(case hr=>first | (go_simp;done) | (go_simp;rfl));intro gb307 hg w7 hbox hb;have n0_:=Aside0.mk (blk_below (g:=gb306) (o:=.cells #[.slice A0_0 l0_0.length c0_0,.slice A0_1 l0_1.length c0_1,.slice A0_2 l0_2.length c0_2,.slice A0_3 l0_3.length c0_3,.int .i64 a0_4,.int .i64 a0_5] 28 (0,0)) (by (with_reducible repeat (first | refine blk_drewN ?_ _ | refine blk_drew ?_ | refine blk_alloc ?_ _));exact BK306.out) hb);have n1_:=Aside0.mk (below_step (by repeat (first | (with_reducible first | exact HB.out | apply below_alloc | apply pw_below_drewN | apply below_drew1 | refine below_set ?_ GE306.out) | exact HB.out)) hb);have n2_:=Aside0.mk (hbox);have n3_:=Aside0.mk ((by rw [hg];exact (below_size (by repeat (first | (with_reducible first | exact HB.out | apply below_alloc | apply pw_below_drewN | apply below_drew1 | refine below_set ?_ GE306.out) | exact HB.out))):w.heap.size≤gb307));have n4_:=Aside0.mk ((by rw [hg];exact (below_size (by repeat (first | (with_reducible first | exact HB.out | apply below_alloc | apply pw_below_drewN | apply below_drew1 | refine below_set ?_ GE306.out) | exact HB.out))):w.heap.size≤gb307));have n5_:=Aside0.mk ((by rw [hg];exact Nat.ne_of_lt (blk_lt (g:=gb306) (o:=.cells #[.slice A0_0 l0_0.length c0_0,.slice A0_1 l0_1.length c0_1,.slice A0_2 l0_2.length c0_2,.slice A0_3 l0_3.length c0_3,.int .i64 a0_4,.int .i64 a0_5] 28 (0,0)) (by (with_reducible repeat (first | refine blk_drewN ?_ _ | refine blk_drew ?_ | refine blk_alloc ?_ _));exact BK306.out)):gb306≠gb307));have n6_:=Aside0.mk ((by rw [hg];exact Nat.ne_of_gt (blk_lt (g:=gb306) (o:=.cells #[.slice A0_0 l0_0.length c0_0,.slice A0_1 l0_1.length c0_1,.slice A0_2 l0_2.length c0_2,.slice A0_3 l0_3.length c0_3,.int .i64 a0_4,.int .i64 a0_5] 28 (0,0)) (by (with_reducible repeat (first | refine blk_drewN ?_ _ | refine blk_drew ?_ | refine blk_alloc ?_ _));exact BK306.out)):gb307≠gb306));clear BK306;clear HB;have BK306:=n0_;have HB:=n1_;have BK307:=n2_;have GW307:=n3_;have GE307:=n4_;have NB306_307:=n5_;have NB307_306:=n6_;clear n0_ n1_ n2_ n3_ n4_ n5_ n6_;clear hb hbox hg))
 have n0_:=Aside0.mk (blk_drew BK306.out)
 have n1_:=Aside0.mk (blk_drew BK307.out)
 have n2_:=Aside0.mk (below_drew1 HB.out)
 clear BK306 BK307 HB
 have BK306:=n0_
 have BK307:=n1_
 have HB:=n2_
 clear n0_ n1_ n2_
 refine start_ (n:=20) (S:=fun w'=>w'.cell? ⟨gb306,0,none⟩=some (.slice A0_0 l0_0.length c0_0)∧w'.cell? ⟨gb306,1,none⟩=some (.slice A0_1 l0_1.length c0_1)∧w'.cell? ⟨gb306,2,none⟩=some (.slice A0_2 l0_2.length c0_2)∧w'.cell? ⟨gb306,3,none⟩=some (.slice A0_3 l0_3.length c0_3)∧w'.cell? ⟨gb306,4,none⟩=some (.int .i64 a0_4)∧w'.cell? ⟨gb306,5,none⟩=some (.int .i64 a0_5)) (ds:=[13,15,17,19]) (marks 20 0) (by kernel_rfl) rfl rfl ⟨(blk_cell BK306.out 0).trans rfl,(blk_cell BK306.out 1).trans rfl,(blk_cell BK306.out 2).trans rfl,(blk_cell BK306.out 3).trans rfl,(blk_cell BK306.out 4).trans rfl,(blk_cell BK306.out 5).trans rfl⟩ (fun hHeld=>?_);refine with_tabW impl_copyDisk.tab1 impl_copyDisk.bits1 (fun HT_ HW_=>?_)
 generalize w7.drew=w8 at BK306 BK307 HB hHeld ⊢
 refine pure_ (i:=0) (N:=some 3) (v:=?_) (a':=?_) (marks 20 1) rfl rfl (any_of HT_.out (by kernel_rfl)) (fun _ _ _ h=>h) (Or.inl ⟨by rfl,?_⟩) ?_ ?_
 rotate_left
 ·intro w'
  go_simp
  with_reducible rfl
 rotate_left
 ·simp only [Act.put,List.setIfInBounds_toArray,List.set_cons_zero,List.set_cons_succ,i64_w,i32_w]
  rfl
 refine pure_ (i:=3) (N:=some 6) (v:=?_) (a':=?_) (marks 20 9) rfl rfl (any_of HT_.out (by kernel_rfl)) (fun _ _ _ h=>h) (Or.inl ⟨by rfl,?_⟩) ?_ ?_
 rotate_left
 ·intro w'
  go_simp
  with_reducible rfl
 rotate_left
 ·simp only [Act.put,List.setIfInBounds_toArray,List.set_cons_zero,List.set_cons_succ,i64_w,i32_w]
  rfl
 refine pure_ (i:=6) (N:=some 9) (v:=?_) (a':=?_) (marks 20 73) rfl rfl (any_of HT_.out (by kernel_rfl)) (fun _ _ _ h=>h) (Or.inl ⟨by rfl,?_⟩) ?_ ?_
 rotate_left
 ·intro w'
  go_simp
  with_reducible rfl
 rotate_left
 ·simp only [Act.put,List.setIfInBounds_toArray,List.set_cons_zero,List.set_cons_succ,i64_w,i32_w]
  rfl
 refine pure_ (i:=9) (N:=some 12) (v:=?_) (a':=?_) (marks 20 585) rfl rfl (any_of HT_.out (by kernel_rfl)) (fun _ _ _ h=>h) (Or.inl ⟨by rfl,?_⟩) ?_ ?_
 rotate_left
 ·intro w'
  go_simp
  with_reducible rfl
 rotate_left
 ·simp only [Act.put,List.setIfInBounds_toArray,List.set_cons_zero,List.set_cons_succ,i64_w,i32_w]
  rfl
 refine take_ (i:=1) (N:=some 4) (v:=?_) (a':=?_) (marks 20 587) rfl rfl (take_ofW HT_.out HW_.out (by kernel_rfl)) (fun _ _ _ h=>h) (Or.inl ⟨by rfl,?_⟩) hHeld ?_ ?_
 rotate_left
 ·rintro w' ⟨s0,s1,s2,s3,s4,s5⟩
  go_simp
  with_reducible rfl
 rotate_left
 ·simp only [Act.put,List.setIfInBounds_toArray,List.set_cons_zero,List.set_cons_succ,i64_w,i32_w]
  rfl
 refine take_ (i:=4) (N:=some 7) (v:=?_) (a':=?_) (marks 20 603) rfl rfl (take_ofW HT_.out HW_.out (by kernel_rfl)) (fun _ _ _ h=>h) (Or.inl ⟨by rfl,?_⟩) hHeld ?_ ?_
 rotate_left
 ·rintro w' ⟨s0,s1,s2,s3,s4,s5⟩
  go_simp
  with_reducible rfl
 rotate_left
 ·simp only [Act.put,List.setIfInBounds_toArray,List.set_cons_zero,List.set_cons_succ,i64_w,i32_w]
  rfl
 refine take_ (i:=7) (N:=some 10) (v:=?_) (a':=?_) (marks 20 731) rfl rfl (take_ofW HT_.out HW_.out (by kernel_rfl)) (fun _ _ _ h=>h) (Or.inl ⟨by rfl,?_⟩) hHeld ?_ ?_
 rotate_left
 ·rintro w' ⟨s0,s1,s2,s3,s4,s5⟩
  go_simp
  with_reducible rfl
 rotate_left
 ·simp only [Act.put,List.setIfInBounds_toArray,List.set_cons_zero,List.set_cons_succ,i64_w,i32_w]
  rfl
 refine take_ (i:=10) (N:=some 13) (v:=?_) (a':=?_) (marks 20 1755) rfl rfl (take_ofW HT_.out HW_.out (by kernel_rfl)) (fun _ _ _ h=>h) (Or.inl ⟨by rfl,?_⟩) hHeld ?_ ?_
 rotate_left
 ·rintro w' ⟨s0,s1,s2,s3,s4,s5⟩
  go_simp
  with_reducible rfl
 rotate_left
 ·simp only [Act.put,List.setIfInBounds_toArray,List.set_cons_zero,List.set_cons_succ,i64_w,i32_w]
  rfl
 refine one_ (i:=2) (N:=some 5) (marks 20 1759) rfl rfl (one_of HT_.out (by kernel_rfl)) (by decide) (fun K hK=>?_)
 refine goes_ Tryz.func84 (by kernel_rfl) rfl #[.slice A0_0 l0_0.length c0_0] (by rfl) rfl rfl (by (try simp only [List.map_toArray,List.map_cons,List.map_nil]);first | done | rfl | (simp only [List.length_drop,List.length_take];rfl) | (go_simp;done) | (go_simp;unfold wrap64;(repeat (first | with_reducible rfl | omega | with_reducible congr 1));done)) ?_
 with_reducible refine (impl_Node.calls _ _ l0_0 t308 _ ?side1 ?side2 A2.out).mono ?_
 (case side1=>repeat (first | exact (Kd.C_below HR0_0.out HB.out) | (with_reducible refine Kd.C_alloc ?_ _) | (with_reducible refine Kd.C_drewN ?_ _) | (with_reducible refine Kd.C_drew ?_)))
 (case side2=>exact HC0_0.out)
 rintro e w9 ⟨v309,rfl,ho0,hb⟩
 refine ⟨_,rfl,?_⟩
 have n0_:=Aside0.mk (Kd.R_lower ho0 (below_size (by repeat (first | (with_reducible first | exact HB.out | apply below_alloc | apply pw_below_drewN | apply below_drew1 | refine below_set ?_ GE306.out | refine below_set ?_ GE307.out) | exact HB.out))))
 have n1_:=Aside0.mk (blk_below (g:=gb306) (o:=.cells #[.slice A0_0 l0_0.length c0_0,.slice A0_1 l0_1.length c0_1,.slice A0_2 l0_2.length c0_2,.slice A0_3 l0_3.length c0_3,.int .i64 a0_4,.int .i64 a0_5] 28 (0,0)) (by (with_reducible repeat (first | refine blk_drewN ?_ _ | refine blk_drew ?_ | refine blk_alloc ?_ _));exact BK306.out) hb)
 have n2_:=Aside0.mk (blk_below (g:=gb307) (o:=.cells #[.slice none 0 0,.slice none 0 0,.slice none 0 0,.slice none 0 0,.int .i64 0,.int .i64 0] 28 (0,0)) (by (with_reducible repeat (first | refine blk_drewN ?_ _ | refine blk_drew ?_ | refine blk_alloc ?_ _));exact BK307.out) hb)
 have n3_:=Aside0.mk (below_step (by repeat (first | (with_reducible first | exact HB.out | apply below_alloc | apply pw_below_drewN | apply below_drew1 | refine below_set ?_ GE306.out | refine below_set ?_ GE307.out) | exact HB.out)) hb)
 clear BK306 BK307 HB
 have HO310:=n0_
 have BK306:=n1_
 have BK307:=n2_
 have HB:=n3_
 clear n0_ n1_ n2_ n3_
 (try clear hb)
 (try clear hb2)
 (try clear hk)
 (try clear hi)
 (try clear ho0)
 refine hK.out _ _ ⟨(blk_cell BK306.out 0).trans rfl,(blk_cell BK306.out 1).trans rfl,(blk_cell BK306.out 2).trans rfl,(blk_cell BK306.out 3).trans rfl,(blk_cell BK306.out 4).trans rfl,(blk_cell BK306.out 5).trans rfl⟩ (fun hHeld=>?_)
 clear hK K
 refine norm_ (a':=?_) ?_ ?_
 rotate_left
 ·show Act.put _ (some 5) _=_
  simp only [Act.put,List.setIfInBounds_toArray,List.set_cons_zero,List.set_cons_succ,i64_w,i32_w]
  rfl
 refine pure_ (i:=12) (N:=some 15) (v:=?_) (a':=?_) (marks 20 5855) rfl rfl (any_of HT_.out (by kernel_rfl)) (fun _ _ _ h=>h) (Or.inl ⟨by rfl,?_⟩) ?_ ?_
 rotate_left
 ·intro w'
  go_simp
  with_reducible rfl
 rotate_left
 ·simp only [Act.put,List.setIfInBounds_toArray,List.set_cons_zero,List.set_cons_succ,i64_w,i32_w]
  rfl
 refine one_ (i:=5) (N:=some 8) (marks 20 5887) rfl rfl (one_of HT_.out (by kernel_rfl)) (by decide) (fun K hK=>?_)
 refine goes_ Tryz.func41 (by kernel_rfl) rfl #[.slice A0_1 l0_1.length c0_1] (by rfl) rfl rfl (by (try simp only [List.map_toArray,List.map_cons,List.map_nil]);first | done | rfl | (simp only [List.length_drop,List.length_take];rfl) | (go_simp;done) | (go_simp;unfold wrap64;(repeat (first | with_reducible rfl | omega | with_reducible congr 1));done)) ?_
 with_reducible refine (impl_Entry_41.calls _ _ l0_1 t311 _ ?side1 ?side2 A3.out).mono ?_
 (case side1=>repeat (first | exact (Kd.C_below HR0_1.out HB.out) | (with_reducible refine Kd.C_alloc ?_ _) | (with_reducible refine Kd.C_drewN ?_ _) | (with_reducible refine Kd.C_drew ?_)))
 (case side2=>exact HC0_1.out)
 rintro e w10 ⟨v312,rfl,ho0,hb⟩
 refine ⟨_,rfl,?_⟩
 have n0_:=Aside0.mk (Kd.R_below (by (with_reducible repeat (first | apply Kd.R_alloc | apply Kd.R_drewN | apply Kd.R_drew));exact HO310.out) hb)
 have n1_:=Aside0.mk (Kd.R_lower ho0 (below_size (by repeat (first | (with_reducible first | exact HB.out | apply below_alloc | apply pw_below_drewN | apply below_drew1 | refine below_set ?_ GE306.out | refine below_set ?_ GE307.out) | exact HB.out))))
 have n2_:=Aside0.mk (blk_below (g:=gb306) (o:=.cells #[.slice A0_0 l0_0.length c0_0,.slice A0_1 l0_1.length c0_1,.slice A0_2 l0_2.length c0_2,.slice A0_3 l0_3.length c0_3,.int .i64 a0_4,.int .i64 a0_5] 28 (0,0)) (by (with_reducible repeat (first | refine blk_drewN ?_ _ | refine blk_drew ?_ | refine blk_alloc ?_ _));exact BK306.out) hb)
 have n3_:=Aside0.mk (blk_below (g:=gb307) (o:=.cells #[.slice none 0 0,.slice none 0 0,.slice none 0 0,.slice none 0 0,.int .i64 0,.int .i64 0] 28 (0,0)) (by (with_reducible repeat (first | refine blk_drewN ?_ _ | refine blk_drew ?_ | refine blk_alloc ?_ _));exact BK307.out) hb)
 have n4_:=Aside0.mk (below_step (by repeat (first | (with_reducible first | exact HB.out | apply below_alloc | apply pw_below_drewN | apply below_drew1 | refine below_set ?_ GE306.out | refine below_set ?_ GE307.out) | exact HB.out)) hb)
 clear HO310 BK306 BK307 HB
 have HO310:=n0_
 have HO313:=n1_
 have BK306:=n2_
 have BK307:=n3_
 have HB:=n4_
 clear n0_ n1_ n2_ n3_ n4_
 (try clear hb)
 (try clear hb2)
 (try clear hk)
 (try clear hi)
 (try clear ho0)
 refine hK.out _ _ ⟨(blk_cell BK306.out 0).trans rfl,(blk_cell BK306.out 1).trans rfl,(blk_cell BK306.out 2).trans rfl,(blk_cell BK306.out 3).trans rfl,(blk_cell BK306.out 4).trans rfl,(blk_cell BK306.out 5).trans rfl⟩ (fun hHeld=>?_)
 clear hK K
 refine norm_ (a':=?_) ?_ ?_
 rotate_left
 ·show Act.put _ (some 8) _=_
  simp only [Act.put,List.setIfInBounds_toArray,List.set_cons_zero,List.set_cons_succ,i64_w,i32_w]
  rfl
 refine one_ (i:=8) (N:=some 11) (marks 20 6143) rfl rfl (one_of HT_.out (by kernel_rfl)) (by decide) (fun K hK=>?_)
 refine goes_ Tryz.func41 (by kernel_rfl) rfl #[.slice A0_2 l0_2.length c0_2] (by rfl) rfl rfl (by (try simp only [List.map_toArray,List.map_cons,List.map_nil]);first | done | rfl | (simp only [List.length_drop,List.length_take];rfl) | (go_simp;done) | (go_simp;unfold wrap64;(repeat (first | with_reducible rfl | omega | with_reducible congr 1));done)) ?_
 with_reducible refine (impl_Entry_41.calls _ _ l0_2 t314 _ ?side1 ?side2 A4.out).mono ?_
 (case side1=>repeat (first | exact (Kd.C_below HR0_2.out HB.out) | (with_reducible refine Kd.C_alloc ?_ _) | (with_reducible refine Kd.C_drewN ?_ _) | (with_reducible refine Kd.C_drew ?_)))
 (case side2=>exact HC0_2.out)
 rintro e w11 ⟨v315,rfl,ho0,hb⟩
 refine ⟨_,rfl,?_⟩
 have n0_:=Aside0.mk (Kd.R_below (by (with_reducible repeat (first | apply Kd.R_alloc | apply Kd.R_drewN | apply Kd.R_drew));exact HO310.out) hb)
 have n1_:=Aside0.mk (Kd.R_elder' (by (with_reducible repeat (first | apply Kd.R_alloc | apply Kd.R_drewN | apply Kd.R_drew));exact HO313.out) (Kd.R_base ho0) hb)
 have n2_:=Aside0.mk (Kd.R_lower (Kd.R_new' ho0 (Kd.R_lt (by (with_reducible repeat (first | apply Kd.R_alloc | apply Kd.R_drewN | apply Kd.R_drew));exact HO313.out))) (below_size (by repeat (first | (with_reducible first | exact HB.out | apply below_alloc | apply pw_below_drewN | apply below_drew1 | refine below_set ?_ GE306.out | refine below_set ?_ GE307.out) | exact HB.out))))
 have n3_:=Aside0.mk (blk_below (g:=gb306) (o:=.cells #[.slice A0_0 l0_0.length c0_0,.slice A0_1 l0_1.length c0_1,.slice A0_2 l0_2.length c0_2,.slice A0_3 l0_3.length c0_3,.int .i64 a0_4,.int .i64 a0_5] 28 (0,0)) (by (with_reducible repeat (first | refine blk_drewN ?_ _ | refine blk_drew ?_ | refine blk_alloc ?_ _));exact BK306.out) hb)
 have n4_:=Aside0.mk (blk_below (g:=gb307) (o:=.cells #[.slice none 0 0,.slice none 0 0,.slice none 0 0,.slice none 0 0,.int .i64 0,.int .i64 0] 28 (0,0)) (by (with_reducible repeat (first | refine blk_drewN ?_ _ | refine blk_drew ?_ | refine blk_alloc ?_ _));exact BK307.out) hb)
 have n5_:=Aside0.mk (below_step (by repeat (first | (with_reducible first | exact HB.out | apply below_alloc | apply pw_below_drewN | apply below_drew1 | refine below_set ?_ GE306.out | refine below_set ?_ GE307.out) | exact HB.out)) hb)
 clear HO310 HO313 BK306 BK307 HB
 have HO310:=n0_
 have HO313:=n1_
 have HO316:=n2_
 have BK306:=n3_
 have BK307:=n4_
 have HB:=n5_
 clear n0_ n1_ n2_ n3_ n4_ n5_
 (try clear hb)
 (try clear hb2)
 (try clear hk)
 (try clear hi)
 (try clear ho0)
 refine hK.out _ _ ⟨(blk_cell BK306.out 0).trans rfl,(blk_cell BK306.out 1).trans rfl,(blk_cell BK306.out 2).trans rfl,(blk_cell BK306.out 3).trans rfl,(blk_cell BK306.out 4).trans rfl,(blk_cell BK306.out 5).trans rfl⟩ (fun hHeld=>?_)
 clear hK K
 refine norm_ (a':=?_) ?_ ?_
 rotate_left
 ·show Act.put _ (some 11) _=_
  simp only [Act.put,List.setIfInBounds_toArray,List.set_cons_zero,List.set_cons_succ,i64_w,i32_w]
  rfl
 refine one_ (i:=11) (N:=some 14) (marks 20 8191) rfl rfl (one_of HT_.out (by kernel_rfl)) (by decide) (fun K hK=>?_)
 refine goes_ Tryz.func85 (by kernel_rfl) rfl #[.slice A0_3 l0_3.length c0_3] (by rfl) rfl rfl (by (try simp only [List.map_toArray,List.map_cons,List.map_nil]);first | done | rfl | (simp only [List.length_drop,List.length_take];rfl) | (go_simp;done) | (go_simp;unfold wrap64;(repeat (first | with_reducible rfl | omega | with_reducible congr 1));done)) ?_
 with_reducible refine (slices_Clone_string_string.calls _ _ l0_3 t317 _ ?side1 ?side2 A5.out).mono ?_
 (case side1=>repeat (first | exact (Kd.C_below HR0_3.out HB.out) | (with_reducible refine Kd.C_alloc ?_ _) | (with_reducible refine Kd.C_drewN ?_ _) | (with_reducible refine Kd.C_drew ?_)))
 (case side2=>exact HC0_3.out)
 rintro e w12 ⟨v318,rfl,ho0,hb⟩
 refine ⟨_,rfl,?_⟩
 have n0_:=Aside0.mk (Kd.R_below (by (with_reducible repeat (first | apply Kd.R_alloc | apply Kd.R_drewN | apply Kd.R_drew));exact HO310.out) hb)
 have n1_:=Aside0.mk (Kd.R_below (by (with_reducible repeat (first | apply Kd.R_alloc | apply Kd.R_drewN | apply Kd.R_drew));exact HO313.out) hb)
 have n2_:=Aside0.mk (Kd.R_below (by (with_reducible repeat (first | apply Kd.R_alloc | apply Kd.R_drewN | apply Kd.R_drew));exact HO316.out) hb)
 have n3_:=Aside0.mk (Kd.R_lower ho0 (below_size (by repeat (first | (with_reducible first | exact HB.out | apply below_alloc | apply pw_below_drewN | apply below_drew1 | refine below_set ?_ GE306.out | refine below_set ?_ GE307.out) | exact HB.out))))
 have n4_:=Aside0.mk (blk_below (g:=gb306) (o:=.cells #[.slice A0_0 l0_0.length c0_0,.slice A0_1 l0_1.length c0_1,.slice A0_2 l0_2.length c0_2,.slice A0_3 l0_3.length c0_3,.int .i64 a0_4,.int .i64 a0_5] 28 (0,0)) (by (with_reducible repeat (first | refine blk_drewN ?_ _ | refine blk_drew ?_ | refine blk_alloc ?_ _));exact BK306.out) hb)
 have n5_:=Aside0.mk (blk_below (g:=gb307) (o:=.cells #[.slice none 0 0,.slice none 0 0,.slice none 0 0,.slice none 0 0,.int .i64 0,.int .i64 0] 28 (0,0)) (by (with_reducible repeat (first | refine blk_drewN ?_ _ | refine blk_drew ?_ | refine blk_alloc ?_ _));exact BK307.out) hb)
 have n6_:=Aside0.mk (below_step (by repeat (first | (with_reducible first | exact HB.out | apply below_alloc | apply pw_below_drewN | apply below_drew1 | refine below_set ?_ GE306.out | refine below_set ?_ GE307.out) | exact HB.out)) hb)
 clear HO310 HO313 HO316 BK306 BK307 HB
 have HO310:=n0_
 have HO313:=n1_
 have HO316:=n2_
 have HO319:=n3_
 have BK306:=n4_
 have BK307:=n5_
 have HB:=n6_
 clear n0_ n1_ n2_ n3_ n4_ n5_ n6_
 (try clear hb)
 (try clear hb2)
 (try clear hk)
 (try clear hi)
 (try clear ho0)
 obtain ⟨Ao13,co13,eo13⟩:=Kd.R_slice HO310.out
 (first | subst eo13 | (injection eo13 with f1_ f2_ f3_;have f4_:=f1_.symm;have f5_:=f3_.symm;clear f1_ f2_ f3_;subst f4_;subst f5_))
 obtain ⟨Ao15,co15,eo15⟩:=Kd.R_slice HO313.out
 (first | subst eo15 | (injection eo15 with f1_ f2_ f3_;have f4_:=f1_.symm;have f5_:=f3_.symm;clear f1_ f2_ f3_;subst f4_;subst f5_))
 obtain ⟨Ao17,co17,eo17⟩:=Kd.R_slice HO316.out
 (first | subst eo17 | (injection eo17 with f1_ f2_ f3_;have f4_:=f1_.symm;have f5_:=f3_.symm;clear f1_ f2_ f3_;subst f4_;subst f5_))
 obtain ⟨Ao19,co19,eo19⟩:=Kd.R_slice HO319.out
 (first | subst eo19 | (injection eo19 with f1_ f2_ f3_;have f4_:=f1_.symm;have f5_:=f3_.symm;clear f1_ f2_ f3_;subst f4_;subst f5_))
 refine hK.out _ _ ⟨(blk_cell BK306.out 0).trans rfl,(blk_cell BK306.out 1).trans rfl,(blk_cell BK306.out 2).trans rfl,(blk_cell BK306.out 3).trans rfl,(blk_cell BK306.out 4).trans rfl,(blk_cell BK306.out 5).trans rfl⟩ (fun hHeld=>?_)
 clear hK K
 refine norm_ (a':=?_) ?_ ?_
 rotate_left
 ·show Act.put _ (some 14) _=_
  simp only [Act.put,List.setIfInBounds_toArray,List.set_cons_zero,List.set_cons_succ,i64_w,i32_w]
  rfl
 refine last_ (i:=13) (N:=none) (marks 20 16383) rfl rfl (one_of HT_.out (by kernel_rfl)) (by decide) (fun K hK=>?_)
 have hs14:w12.cell? ⟨gb306,0,none⟩=some (.slice A0_0 l0_0.length c0_0):=(blk_cell BK306.out 0).trans rfl
 have hfs14:=blk_frozen BK306.out 0
 have hns14_1:=NB307_306.out
 have hms14_1:=NB306_307.out
 refine skip_ (w1:=?_) (by rfl) rfl ?_ ?_
 rotate_left
 ·go_simp
  rfl
 refine hK.out _ _ ?_
 clear hK K
 refine pure_ (i:=14) (N:=some 16) (v:=?_) (a':=?_) (marks 20 32767) rfl rfl (any_of HT_.out (by kernel_rfl)) (fun _ _ _ h=>h) (Or.inl ⟨by rfl,?_⟩) ?_ ?_
 rotate_left
 ·intro w'
  go_simp
  with_reducible rfl
 rotate_left
 ·simp only [Act.put,List.setIfInBounds_toArray,List.set_cons_zero,List.set_cons_succ,i64_w,i32_w]
  rfl
 refine last_ (i:=15) (N:=none) (marks 20 65535) rfl rfl (one_of HT_.out (by kernel_rfl)) (by decide) (fun K hK=>?_)
 have hs16:w12.cell? ⟨gb306,1,none⟩=some (.slice A0_1 l0_1.length c0_1):=(blk_cell BK306.out 1).trans rfl
 have hfs16:=blk_frozen BK306.out 1
 have hns16_1:=NB307_306.out
 have hms16_1:=NB306_307.out
 refine skip_ (w1:=?_) (by rfl) rfl ?_ ?_
 rotate_left
 ·go_simp
  rfl
 refine hK.out _ _ ?_
 clear hK K
 refine pure_ (i:=16) (N:=some 17) (v:=?_) (a':=?_) (marks 20 131071) rfl rfl (any_of HT_.out (by kernel_rfl)) (fun _ _ _ h=>h) (Or.inl ⟨by rfl,?_⟩) ?_ ?_
 rotate_left
 ·intro w'
  go_simp
  with_reducible rfl
 rotate_left
 ·simp only [Act.put,List.setIfInBounds_toArray,List.set_cons_zero,List.set_cons_succ,i64_w,i32_w]
  rfl
 refine last_ (i:=17) (N:=none) (marks 20 262143) rfl rfl (one_of HT_.out (by kernel_rfl)) (by decide) (fun K hK=>?_)
 have hs18:w12.cell? ⟨gb306,2,none⟩=some (.slice A0_2 l0_2.length c0_2):=(blk_cell BK306.out 2).trans rfl
 have hfs18:=blk_frozen BK306.out 2
 have hns18_1:=NB307_306.out
 have hms18_1:=NB306_307.out
 refine skip_ (w1:=?_) (by rfl) rfl ?_ ?_
 rotate_left
 ·go_simp
  rfl
 refine hK.out _ _ ?_
 clear hK K
 refine pure_ (i:=18) (N:=some 18) (v:=?_) (a':=?_) (marks 20 524287) rfl rfl (any_of HT_.out (by kernel_rfl)) (fun _ _ _ h=>h) (Or.inl ⟨by rfl,?_⟩) ?_ ?_
 rotate_left
 ·intro w'
  go_simp
  with_reducible rfl
 rotate_left
 ·simp only [Act.put,List.setIfInBounds_toArray,List.set_cons_zero,List.set_cons_succ,i64_w,i32_w]
  rfl
 refine last_ (i:=19) (N:=none) (marks 20 1048575) rfl rfl (one_of HT_.out (by kernel_rfl)) (by decide) (fun K hK=>?_)
 have hs20:w12.cell? ⟨gb306,3,none⟩=some (.slice A0_3 l0_3.length c0_3):=(blk_cell BK306.out 3).trans rfl
 have hfs20:=blk_frozen BK306.out 3
 have hns20_1:=NB307_306.out
 have hms20_1:=NB306_307.out
 refine skip_ (w1:=?_) (by rfl) rfl ?_ ?_
 rotate_left
 ·go_simp
  rfl
 refine hK.out _ _ ?_
 clear hK K
 refine done_ (done_of HT_.out (by kernel_rfl)) ?_
 have hnb21:=NB306_307.out
 have hnc21:=NB307_306.out
 obtain ⟨hcz22_0,hcz22_1,hcz22_2,hcz22_3,hcz22_4,hcz22_5⟩:=b6of BK306.out
 obtain ⟨hfz22_0,hfz22_1,hfz22_2,hfz22_3,hfz22_4,hfz22_5⟩:=z6of BK306.out
 obtain ⟨hcz23_0,hcz23_1,hcz23_2,hcz23_3,hcz23_4,hcz23_5⟩:=b6of BK307.out
 obtain ⟨hfz23_0,hfz23_1,hfz23_2,hfz23_3,hfz23_4,hfz23_5⟩:=z6of BK307.out
 try go_wp2
 refine bodyPost_ret (results_cell_row rfl _ _ gb307 28 #[.slice Ao13 t308.length co13,.slice Ao15 t311.length co15,.slice Ao17 t314.length co17,.slice Ao19 t317.length co19,.int .i64 a0_4,.int .i64 a0_5] (0,0) _ rfl (by (with_reducible repeat (first | refine blk_drewN ?_ _ | refine blk_drew ?_ | refine blk_alloc ?_ _));refine blk_put (cs:=#[.slice Ao13 t308.length co13,.slice Ao15 t311.length co15,.slice Ao17 t314.length co17,.slice Ao19 t317.length co19,.int .i64 a0_4,.int .i64 0]) ?_ 5 _ rfl;(with_reducible repeat (first | refine blk_drewN ?_ _ | refine blk_drew ?_ | refine blk_alloc ?_ _));refine blk_put (cs:=#[.slice Ao13 t308.length co13,.slice Ao15 t311.length co15,.slice Ao17 t314.length co17,.slice Ao19 t317.length co19,.int .i64 0,.int .i64 0]) ?_ 4 _ rfl;(with_reducible repeat (first | refine blk_drewN ?_ _ | refine blk_drew ?_ | refine blk_alloc ?_ _));refine blk_put (cs:=#[.slice Ao13 t308.length co13,.slice Ao15 t311.length co15,.slice Ao17 t314.length co17,.slice none 0 0,.int .i64 0,.int .i64 0]) ?_ 3 _ rfl;(with_reducible repeat (first | refine blk_drewN ?_ _ | refine blk_drew ?_ | refine blk_alloc ?_ _));refine blk_put (cs:=#[.slice Ao13 t308.length co13,.slice Ao15 t311.length co15,.slice none 0 0,.slice none 0 0,.int .i64 0,.int .i64 0]) ?_ 2 _ rfl;(with_reducible repeat (first | refine blk_drewN ?_ _ | refine blk_drew ?_ | refine blk_alloc ?_ _));refine blk_put (cs:=#[.slice Ao13 t308.length co13,.slice none 0 0,.slice none 0 0,.slice none 0 0,.int .i64 0,.int .i64 0]) ?_ 1 _ rfl;(with_reducible repeat (first | refine blk_drewN ?_ _ | refine blk_drew ?_ | refine blk_alloc ?_ _));refine blk_put (cs:=#[.slice none 0 0,.slice none 0 0,.slice none 0 0,.slice none 0 0,.int .i64 0,.int .i64 0]) ?_ 0 _ rfl;(with_reducible repeat (first | refine blk_drewN ?_ _ | refine blk_drew ?_ | refine blk_alloc ?_ _));refine blk_far ?_ NB307_306.out _;(with_reducible repeat (first | refine blk_drewN ?_ _ | refine blk_drew ?_ | refine blk_alloc ?_ _));refine blk_far ?_ NB307_306.out _;(with_reducible repeat (first | refine blk_drewN ?_ _ | refine blk_drew ?_ | refine blk_alloc ?_ _));refine blk_far ?_ NB307_306.out _;(with_reducible repeat (first | refine blk_drewN ?_ _ | refine blk_drew ?_ | refine blk_alloc ?_ _));refine blk_far ?_ NB307_306.out _;(with_reducible repeat (first | refine blk_drewN ?_ _ | refine blk_drew ?_ | refine blk_alloc ?_ _));exact BK307.out) Tryz.underlying28 rfl (by kernel_rfl)) rfl ?_
 all_goals exact ⟨_,_,_,_,by rfl,by (with_reducible repeat (first | apply Kd.R_alloc | apply Kd.R_drewN | apply Kd.R_drew));exact Kd.R_mono (R6 (Kd.R_far (p:=⟨gb306,3,none⟩) (Kd.R_far (p:=⟨gb306,2,none⟩) (Kd.R_far (p:=⟨gb306,1,none⟩) (Kd.R_far (p:=⟨gb306,0,none⟩) (Kd.R_types (Kd.R_types HO310.out BK306.out (by decide)) BK307.out (by decide)) (fun _ hk=>hk.1.2) (.slice Ao13 t308.length co13)) (fun _ hk=>hk.1.2) (.slice Ao15 t311.length co15)) (fun _ hk=>hk.1.2) (.slice Ao17 t314.length co17)) (fun _ hk=>hk.1.2) (.slice Ao19 t317.length co19)) (.slice Ao13 t308.length co13) (.slice Ao15 t311.length co15) (.slice Ao17 t314.length co17) (.slice Ao19 t317.length co19) (.int .i64 a0_4) (.int .i64 a0_5)) (fun _ hk=>trivial),by (with_reducible repeat (first | apply Kd.R_alloc | apply Kd.R_drewN | apply Kd.R_drew));exact Kd.R_mono (R6 (Kd.R_far (p:=⟨gb306,3,none⟩) (Kd.R_far (p:=⟨gb306,2,none⟩) (Kd.R_far (p:=⟨gb306,1,none⟩) (Kd.R_far (p:=⟨gb306,0,none⟩) (Kd.R_types (Kd.R_types HO313.out BK306.out (by decide)) BK307.out (by decide)) (fun _ hk=>hk.1.2) (.slice Ao13 t308.length co13)) (fun _ hk=>hk.1.2) (.slice Ao15 t311.length co15)) (fun _ hk=>hk.1.2) (.slice Ao17 t314.length co17)) (fun _ hk=>hk.1.2) (.slice Ao19 t317.length co19)) (.slice Ao13 t308.length co13) (.slice Ao15 t311.length co15) (.slice Ao17 t314.length co17) (.slice Ao19 t317.length co19) (.int .i64 a0_4) (.int .i64 a0_5)) (fun _ hk=>hk.1.1.2),by (with_reducible repeat (first | apply Kd.R_alloc | apply Kd.R_drewN | apply Kd.R_drew));exact Kd.R_mono (R6 (Kd.R_far (p:=⟨gb306,3,none⟩) (Kd.R_far (p:=⟨gb306,2,none⟩) (Kd.R_far (p:=⟨gb306,1,none⟩) (Kd.R_far (p:=⟨gb306,0,none⟩) (Kd.R_types (Kd.R_types HO316.out BK306.out (by decide)) BK307.out (by decide)) (fun _ hk=>hk.1.2) (.slice Ao13 t308.length co13)) (fun _ hk=>hk.1.2) (.slice Ao15 t311.length co15)) (fun _ hk=>hk.1.2) (.slice Ao17 t314.length co17)) (fun _ hk=>hk.1.2) (.slice Ao19 t317.length co19)) (.slice Ao13 t308.length co13) (.slice Ao15 t311.length co15) (.slice Ao17 t314.length co17) (.slice Ao19 t317.length co19) (.int .i64 a0_4) (.int .i64 a0_5)) (fun _ hk=>hk.1.1.2),by (with_reducible repeat (first | apply Kd.R_alloc | apply Kd.R_drewN | apply Kd.R_drew));exact Kd.R_mono (R6 (Kd.R_far (p:=⟨gb306,3,none⟩) (Kd.R_far (p:=⟨gb306,2,none⟩) (Kd.R_far (p:=⟨gb306,1,none⟩) (Kd.R_far (p:=⟨gb306,0,none⟩) (Kd.R_types (Kd.R_types HO319.out BK306.out (by decide)) BK307.out (by decide)) (fun _ hk=>hk.1.2) (.slice Ao13 t308.length co13)) (fun _ hk=>hk.1.2) (.slice Ao15 t311.length co15)) (fun _ hk=>hk.1.2) (.slice Ao17 t314.length co17)) (fun _ hk=>hk.1.2) (.slice Ao19 t317.length co19)) (.slice Ao13 t308.length co13) (.slice Ao15 t311.length co15) (.slice Ao17 t314.length co17) (.slice Ao19 t317.length co19) (.int .i64 a0_4) (.int .i64 a0_5)) (fun _ hk=>trivial),by repeat (first | (with_reducible first | exact HB.out | apply below_alloc | apply pw_below_drewN | apply below_drew1 | refine below_set ?_ GE306.out | refine below_set ?_ GE307.out) | exact HB.out)⟩

end Go.Proofs.YthbffdjjmapaaaaGreatDoor.MFnRenamed
