/- Each theorem here says that a call of one Go function answers what the Lean function beside it answers; its conditions stand in it. Written by a program of this session. -/
import Derived.Test.YthbffdjjmapaaaaGreatDoorMFnRenamedx0
import Derived.Test.YthbffdjjmapaaaaGreatDoorMFnRenamedx7
namespace Go.Proofs.YthbffdjjmapaaaaGreatDoor.MFnRenamed
open Go.RowKit Go.Proofs.YthbffdjjmapaaaaGreatDoorW.PrintWords Go.Proofs.YthbffdjjmapaaaaGreatDoorW.PrintLast Go.Proofs.YthbffdjjmapaaaaGreatDoorW.PrintMore
attribute [local go_sem] max2_int min2_int max_two min_two max_three min_three max_four min_four   -- for this text's walks alone
set_option linter.unusedVariables false
set_option linter.unusedSimpArgs false

/-! ### spec_l06Clean: function 62 -/
mutual
def spec_l06Clean.l0:Nat→List (S38)→Int→List (S38)→List (S64)→List (S64)→List ByteArray→Int→Int→Option ((List (S38))×(List (S64))×(List (S64))×List ByteArray×Int×Int)
 | 0,_,_,_,_,_,_,_,_=>none
 | k+1,x3,x4,x248000,x248001,x248002,x248003,x248004,x248005=>if x4<(x248000.length:Int) then (spec_l06Clean.l1 k x3 x4 false 0 x248000 x248001 x248002 x248003 x248004 x248005) else (some (x3,x248001,x248002,x248003,x248004,x248005))
def spec_l06Clean.l1:Nat→List (S38)→Int→Bool→Int→List (S38)→List (S64)→List (S64)→List ByteArray→Int→Int→Option ((List (S38))×(List (S64))×(List (S64))×List ByteArray×Int×Int)
 | 0,_,_,_,_,_,_,_,_,_,_=>none
 | k+1,x3,x4,x5,x6,x248000,x248001,x248002,x248003,x248004,x248005=>if x6≤(x248003.length:Int) then (spec_l06Clean.j2 k x3 x4 x5 x6 (!x5) x248000 x248001 x248002 x248003 x248004 x248005) else (spec_l06Clean.j2 k x3 x4 x5 x6 false x248000 x248001 x248002 x248003 x248004 x248005)
def spec_l06Clean.j2:Nat→List (S38)→Int→Bool→Int→Bool→List (S38)→List (S64)→List (S64)→List ByteArray→Int→Int→Option ((List (S38))×(List (S64))×(List (S64))×List ByteArray×Int×Int)
 | 0,_,_,_,_,_,_,_,_,_,_,_=>none
 | k+1,x3,x4,x5,x6,x26,x248000,x248001,x248002,x248003,x248004,x248005=>if x26=true then ((spec_StepsDone.f k x248002 x248003 x6).bind fun bt256=>(spec_l06Clean.l2 k x3 x4 x5 x6 bt256.1 0 x248000 x248001 x248002 x248003 x248004 x248005)) else (if x5=true then (if 0≤x4 then (if x4<(x248000.length:Int) then (if x3.length<4398046511104 then (spec_l06Clean.l0 k (x3++[(⟨(rd_T38 x248000 x4).f0,(rd_T38 x248000 x4).f1,(rd_T38 x248000 x4).f2⟩:S38)]) (wrap64 (x4+1)) x248000 x248001 x248002 x248003 x248004 x248005) else (none)) else (none)) else (none)) else (spec_l06Clean.l0 k x3 (wrap64 (x4+1)) x248000 x248001 x248002 x248003 x248004 x248005))
def spec_l06Clean.l2:Nat→List (S38)→Int→Bool→Int→List (S64)→Int→List (S38)→List (S64)→List (S64)→List ByteArray→Int→Int→Option ((List (S38))×(List (S64))×(List (S64))×List ByteArray×Int×Int)
 | 0,_,_,_,_,_,_,_,_,_,_,_,_=>none
 | k+1,x3,x4,x5,x6,x7,x9,x248000,x248001,x248002,x248003,x248004,x248005=>if x9<(x7.length:Int) then (if x5=true then (spec_l06Clean.l2 k x3 x4 true x6 x7 (wrap64 (x9+1)) x248000 x248001 x248002 x248003 x248004 x248005) else (if 0≤x9 then (if 0≤x4 then (if x4<(x248000.length:Int) then (spec_l06Clean.l2 k x3 x4 (((rd_T64 x7 x9).f1) == ((rd_T38 x248000 x4).f0)) x6 x7 (wrap64 (x9+1)) x248000 x248001 x248002 x248003 x248004 x248005) else (none)) else (none)) else (none))) else (spec_l06Clean.l1 k x3 x4 x5 (wrap64 (x6+1)) x248000 x248001 x248002 x248003 x248004 x248005)
end
def spec_l06Clean.f (k:Nat) (l0_0:List (S38)) (l0_1:List (S64)) (l0_2:List (S64)) (l0_3:List ByteArray) (a0_4:Int) (a0_5:Int):Option ((List (S38))×(List (S64))×(List (S64))×List ByteArray×Int×Int):=spec_l06Clean.l0 k (([]:List (S38))) 0 l0_0 l0_1 l0_2 l0_3 a0_4 a0_5
theorem spec_l06Clean.mono_l:∀ k,(∀ y0 y1 y2 y3 y4 y5 y6 y7,LeO (spec_l06Clean.l0 k y0 y1 y2 y3 y4 y5 y6 y7) (spec_l06Clean.l0 (k+1) y0 y1 y2 y3 y4 y5 y6 y7))∧(∀ y0 y1 y2 y3 y4 y5 y6 y7 y8 y9,LeO (spec_l06Clean.l1 k y0 y1 y2 y3 y4 y5 y6 y7 y8 y9) (spec_l06Clean.l1 (k+1) y0 y1 y2 y3 y4 y5 y6 y7 y8 y9))∧(∀ y0 y1 y2 y3 y4 y5 y6 y7 y8 y9 y10,LeO (spec_l06Clean.j2 k y0 y1 y2 y3 y4 y5 y6 y7 y8 y9 y10) (spec_l06Clean.j2 (k+1) y0 y1 y2 y3 y4 y5 y6 y7 y8 y9 y10))∧(∀ y0 y1 y2 y3 y4 y5 y6 y7 y8 y9 y10 y11,LeO (spec_l06Clean.l2 k y0 y1 y2 y3 y4 y5 y6 y7 y8 y9 y10 y11) (spec_l06Clean.l2 (k+1) y0 y1 y2 y3 y4 y5 y6 y7 y8 y9 y10 y11))
 | 0=>⟨fun _ _ _ _ _ _ _ _ r h=>by simp [spec_l06Clean.l0] at h,fun _ _ _ _ _ _ _ _ _ _ r h=>by simp [spec_l06Clean.l1] at h,fun _ _ _ _ _ _ _ _ _ _ _ r h=>by simp [spec_l06Clean.j2] at h,fun _ _ _ _ _ _ _ _ _ _ _ _ r h=>by simp [spec_l06Clean.l2] at h⟩
 | k+1=>by
  obtain ⟨ih0,ih1,ih2,ih3⟩:=spec_l06Clean.mono_l k
  refine ⟨?_,?_,?_,?_⟩
  ·intro y0 y1 y2 y3 y4 y5 y6 y7
   unfold spec_l06Clean.l0
   repeat' first | (with_reducible exact ih1 _ _ _ _ _ _ _ _ _ _) | (with_reducible exact LeO.refl _) | (with_reducible refine LeO.ite ?_ ?_)
  ·intro y0 y1 y2 y3 y4 y5 y6 y7 y8 y9
   unfold spec_l06Clean.l1
   repeat' first | (with_reducible exact ih2 _ _ _ _ _ _ _ _ _ _ _) | (with_reducible refine LeO.ite ?_ ?_)
  ·intro y0 y1 y2 y3 y4 y5 y6 y7 y8 y9 y10
   unfold spec_l06Clean.j2
   repeat' first | (with_reducible exact ih0 _ _ _ _ _ _ _ _) | (with_reducible exact ih3 _ _ _ _ _ _ _ _ _ _ _ _) | (with_reducible exact spec_StepsDone.mono _ _ _ _) | (with_reducible exact LeO.refl _) | (with_reducible refine LeO.ite ?_ ?_) | (with_reducible refine LeO.bind ?_ (fun _=>?_))
  ·intro y0 y1 y2 y3 y4 y5 y6 y7 y8 y9 y10 y11
   unfold spec_l06Clean.l2
   repeat' first | (with_reducible exact ih1 _ _ _ _ _ _ _ _ _ _) | (with_reducible exact ih3 _ _ _ _ _ _ _ _ _ _ _ _) | (with_reducible exact LeO.refl _) | (with_reducible refine LeO.ite ?_ ?_)
theorem spec_l06Clean.mono:∀ a0 a1 a2 a3 a4 a5 k,LeO (spec_l06Clean.f k a0 a1 a2 a3 a4 a5) (spec_l06Clean.f (k+1) a0 a1 a2 a3 a4 a5):=by
 intro a0 a1 a2 a3 a4 a5 k
 obtain ⟨ih0,ih1,ih2,ih3⟩:=spec_l06Clean.mono_l k
 unfold spec_l06Clean.f
 repeat' (with_reducible exact ih0 _ _ _ _ _ _ _ _)
set_option maxHeartbeats 8000000 in
set_option maxRecDepth 100000 in
theorem spec_l06Clean.calls (k:Nat) (A0_0:Option Addr) (c0_0:Nat) (l0_0:List (S38)) (P0_1_:Nat→Prop) (u9000_:Value) (l0_1:List (S64)) (P0_2_:Nat→Prop) (u9001_:Value) (l0_2:List (S64)) (P0_3_:Nat→Prop) (u9002_:Value) (l0_3:List ByteArray) (a0_4:Int) (a0_5:Int) (r1:List (S38)) (r2:List (S64)) (r3:List (S64)) (r4:List ByteArray) (r5:Int) (r6:Int) (w0 w:World) (hB:Below w0.heap.size w0 w) (hr0_0:∀ W_,Kept w W_ (fun k_=>P0_1_ k_∨P0_2_ k_∨P0_3_ k_)→Kd.C k38 W_ A0_0 l0_0.length l0_0) (hc0_0:l0_0.length≤c0_0) (ho0_1:Kd.R k64 64 w w0.heap.size P0_1_ u9000_ l0_1) (hp0_1_0_2:∀ k_,P0_1_ k_→¬ P0_2_ k_) (ho0_2:Kd.R k64 64 w w0.heap.size P0_2_ u9001_ l0_2) (hp0_2_0_1:∀ k_,P0_2_ k_→¬ P0_1_ k_) (ho0_3:Kd.R Kd.string 9 w w0.heap.size P0_3_ u9002_ l0_3) (h:spec_l06Clean.f k l0_0 l0_1 l0_2 l0_3 a0_4 a0_5=some (r1,r2,r3,r4,r5,r6)) :
  Calls Tryz.prog 62 #[.agg #[.slice A0_0 l0_0.length c0_0,u9000_,u9001_,u9002_,.int .i64 a0_4,.int .i64 a0_5]] w fun e w'=>∃ v0_ v1_ v2_ v3_:Value,e=.returned (.agg #[v0_,v1_,v2_,v3_,.int .i64 r5,.int .i64 r6])∧Kd.R k38 38 w' w0.heap.size (fun k_=>((P0_1_ k_∨P0_2_ k_∨P0_3_ k_)∨w.heap.size≤k_)) v0_ r1∧Kd.R k64 64 w' w0.heap.size (fun k_=>((P0_1_ k_∨P0_2_ k_∨P0_3_ k_)∨w.heap.size≤k_)∧some k_≠(v2_:Value).ownBlock) v1_ r2∧Kd.R k64 64 w' w0.heap.size (fun k_=>((P0_1_ k_∨P0_2_ k_∨P0_3_ k_)∨w.heap.size≤k_)∧some k_≠(v1_:Value).ownBlock) v2_ r3∧Kd.R Kd.string 9 w' w0.heap.size (fun k_=>((P0_1_ k_∨P0_2_ k_∨P0_3_ k_)∨w.heap.size≤k_)) v3_ r4∧Below w0.heap.size w0 w'∧Kept w w' (fun k_=>P0_1_ k_∨P0_2_ k_∨P0_3_ k_):=by
 have HR0_0:=Aside0.mk hr0_0
 clear hr0_0 hc0_0
 have HO0_1:=Aside0.mk (show Kd.R k64 64 w w0.heap.size (fun k_=>((P0_1_ k_∨P0_2_ k_∨P0_3_ k_)∨w.heap.size≤k_)∧some k_≠(u9001_:Value).ownBlock) u9000_ l0_1 from Kd.R_mono ho0_1 (fun k_ hk=>⟨(.inl (.inl hk)),fun e_=>hp0_1_0_2 k_ hk (ho0_2.1 k_ e_.symm)⟩))
 have HO0_2:=Aside0.mk (show Kd.R k64 64 w w0.heap.size (fun k_=>((P0_1_ k_∨P0_2_ k_∨P0_3_ k_)∨w.heap.size≤k_)∧some k_≠(u9000_:Value).ownBlock) u9001_ l0_2 from Kd.R_mono ho0_2 (fun k_ hk=>⟨(.inl (.inr (.inl hk))),fun e_=>hp0_2_0_1 k_ hk (ho0_1.1 k_ e_.symm)⟩))
 have HO0_3:=Aside0.mk (show Kd.R Kd.string 9 w w0.heap.size (fun k_=>((P0_1_ k_∨P0_2_ k_∨P0_3_ k_)∨w.heap.size≤k_)) u9002_ l0_3 from Kd.R_mono ho0_3 (fun k_ hk=>(.inl (.inr (.inr hk)))))
 have HK:=Aside0.mk (Kept.refl w (fun k_=>P0_1_ k_∨P0_2_ k_∨P0_3_ k_))
 have HB:=Aside0.mk hB
 clear hB
 have H:(spec_l06Clean.l0 k (([]:List (S38))) 0 l0_0 l0_1 l0_2 l0_3 a0_4 a0_5)=some (r1,r2,r3,r4,r5,r6):=h
 clear h
 obtain ⟨y249,hy249⟩:∃ y_:List (S38),y_=(([]:List (S38))):=⟨_,rfl⟩
 replace H:(spec_l06Clean.l0 k y249 0 l0_0 l0_1 l0_2 l0_3 a0_4 a0_5)=some (r1,r2,r3,r4,r5,r6):=by (rw [hy249];with_reducible exact H)
 have Ny249:=Aside0.mk hy249
 clear hy249
 have H':=Aside0.mk H
 clear H
 obtain ⟨Ao2,co2,eo2⟩:=Kd.R_slice HO0_1.out
 subst eo2
 obtain ⟨Ao3,co3,eo3⟩:=Kd.R_slice HO0_2.out
 subst eo3
 obtain ⟨Ao4,co4,eo4⟩:=Kd.R_slice HO0_3.out
 subst eo4
 go_enter Tryz.func62,Tryz.ntmps62
 go_wp2_with (first | ((with_reducible refine gate_dst (N:=1) rfl ?_);refine box_event ?hg (N:=1) ?hd (cs:=#[.slice A0_0 l0_0.length c0_0,.slice Ao2 l0_1.length co2,.slice Ao3 l0_2.length co3,.slice Ao4 l0_3.length co4,.int .i64 a0_4,.int .i64 a0_5]) (t:=28) ?hr ?_;(case hd=>rfl);(case hg=>rfl);(case hr=>(go_simp;done));intro gb247 hg w5 hbox hb;have BK247:=Aside0.mk (hbox);have GW247:=Aside0.mk (by rw [hg];exact HK.out.1:w.heap.size≤gb247);have GE247:=Aside0.mk ((by rw [hg];exact (below_size HB.out):w0.heap.size≤gb247));replace HO0_1:=Aside0.mk (Kd.R_below HO0_1.out hb);replace HO0_2:=Aside0.mk (Kd.R_below HO0_2.out hb);replace HO0_3:=Aside0.mk (Kd.R_below HO0_3.out hb);replace HK:=Aside0.mk (Kept.below (S:=(fun k_=>P0_1_ k_∨P0_2_ k_∨P0_3_ k_)) HK.out hb);replace HB:=Aside0.mk (below_step HB.out hb);clear hb hbox hg) | ((with_reducible refine gate_dst (N:=2) rfl ?_);refine box_event ?hg (N:=2) ?hd (cs:=#[.slice none 0 0,.slice none 0 0,.slice none 0 0,.slice none 0 0,.int .i64 0,.int .i64 0]) (t:=28) ?hr ?_;(case hd=>rfl);(case hg=>rfl);(case hr=>(go_simp;done));intro gb248 hg w6 hbox hb;have BK248:=Aside0.mk (hbox);have GW248:=Aside0.mk (by rw [hg];exact HK.out.1:w.heap.size≤gb248);have GE248:=Aside0.mk ((by rw [hg];exact (below_size HB.out):w0.heap.size≤gb248));have NB248_247:=Aside0.mk ((by rw [hg];exact Nat.ne_of_gt (blk_lt BK247.out):gb248≠gb247));replace HO0_1:=Aside0.mk (Kd.R_below HO0_1.out hb);replace HO0_2:=Aside0.mk (Kd.R_below HO0_2.out hb);replace HO0_3:=Aside0.mk (Kd.R_below HO0_3.out hb);replace BK247:=Aside0.mk (bB hb BK247.out);replace HK:=Aside0.mk (Kept.below (S:=(fun k_=>P0_1_ k_∨P0_2_ k_∨P0_3_ k_)) HK.out hb);replace HB:=Aside0.mk (below_step HB.out hb);clear hb hbox hg) | ((with_reducible refine gate_dst (N:=10) rfl ?_);refine Kd.R_lit k38 _ 38 ?hg (N:=10) ?hd (xs:=([]:List (S38))) (inner:=[]) (ok:=fun _=>True) (okp:=fun _=>True) ?hr ?hp (fun _ hk=>hk) trivial (Below.refl _ _) (Nat.le_refl _) (by simp) ?_;(case hd=>rfl);(case hg=>rfl);(case hr=>(go_simp;done));(case hp=>exact (Reps.none _ _));intro v250 w7 ho8 hb hg_ hnew_;clear hg_ hnew_;(rw [← Ny249.out] at ho8);have HO251:=Aside0.mk (Kd.R_lower (Kd.R_newM (M:=fun k_=>((P0_1_ k_∨P0_2_ k_∨P0_3_ k_)∨w.heap.size≤k_)) ho8 HK.out.1 (fun k_ h_=>.inr h_)) (below_size HB.out));replace HO0_1:=Aside0.mk (Kd.R_below HO0_1.out hb);replace HO0_2:=Aside0.mk (Kd.R_below HO0_2.out hb);replace HO0_3:=Aside0.mk (Kd.R_below HO0_3.out hb);replace BK247:=Aside0.mk (bB hb BK247.out);replace BK248:=Aside0.mk (bB hb BK248.out);replace HK:=Aside0.mk (Kept.below (S:=(fun k_=>P0_1_ k_∨P0_2_ k_∨P0_3_ k_)) HK.out hb);replace HB:=Aside0.mk (below_step HB.out hb);clear hb ho8))
 repeat (go_quiet (fail);try go_wp2_with fail)
 go_loopg [3,4] k (fun kq v3 v4 w'=>∃ (x3_1:List (S38)) (x4_1:Int),v4=.int .i64 x4_1∧Aside0 (spec_l06Clean.l0 kq x3_1 x4_1 l0_0 l0_1 l0_2 l0_3 a0_4 a0_5=some (r1,r2,r3,r4,r5,r6))∧Aside0 (kq≤k)∧Aside0 (Kd.R k38 38 w' w0.heap.size (fun k_=>((P0_1_ k_∨P0_2_ k_∨P0_3_ k_)∨w.heap.size≤k_)) v3 x3_1)∧Aside0 (Kd.R k64 64 w' w0.heap.size (fun k_=>((P0_1_ k_∨P0_2_ k_∨P0_3_ k_)∨w.heap.size≤k_)∧some k_≠((.slice Ao3 l0_2.length co3):Value).ownBlock) (.slice Ao2 l0_1.length co2) l0_1)∧Aside0 (Kd.R k64 64 w' w0.heap.size (fun k_=>((P0_1_ k_∨P0_2_ k_∨P0_3_ k_)∨w.heap.size≤k_)∧some k_≠((.slice Ao2 l0_1.length co2):Value).ownBlock) (.slice Ao3 l0_2.length co3) l0_2)∧Aside0 (Kd.R Kd.string 9 w' w0.heap.size (fun k_=>((P0_1_ k_∨P0_2_ k_∨P0_3_ k_)∨w.heap.size≤k_)) (.slice Ao4 l0_3.length co4) l0_3)∧Aside0 (w'.heap[gb247]? = some (.cells #[(.slice A0_0 l0_0.length c0_0),(.slice Ao2 l0_1.length co2),(.slice Ao3 l0_2.length co3),(.slice Ao4 l0_3.length co4),.int .i64 a0_4,.int .i64 a0_5] 28 (0,0)))∧Aside0 (w'.heap[gb248]? = some (.cells #[(.slice none 0 0),(.slice none 0 0),(.slice none 0 0),(.slice none 0 0),.int .i64 0,.int .i64 0] 28 (0,0)))∧Aside0 (Kept w w' (fun k_=>P0_1_ k_∨P0_2_ k_∨P0_3_ k_))∧Aside0 (Below w0.heap.size w0 w'))
 case atStart=>exact ⟨(y249),(0),(by rfl),H',⟨Nat.le_refl _⟩,⟨by exact Kd.R_mono HO251.out (fun _ hk=>hk.1)⟩,⟨by exact HO0_1.out⟩,⟨by exact HO0_2.out⟩,⟨by exact HO0_3.out⟩,⟨by exact BK247.out⟩,⟨by exact BK248.out⟩,⟨by repeat (with_reducible exact HK.out)⟩,⟨by repeat (with_reducible exact HB.out)⟩⟩
 case round=>
  clear H'
  try clear p2
  try clear c6
  try clear p6
  obtain ⟨x3_1,x4_1,rfl,HA,HK1,HO_3,HO_248001,HO_248002,HO_248003,BK247,BK248,HK,HB⟩:=hrel
  cases gk with
  | zero=>exact absurd HA.out (by simp [spec_l06Clean.l0])
  | succ k1=>
   have H:=HA.out
   clear HA
   simp only [spec_l06Clean.l0] at H
   by_cases c9:x4_1<(l0_0.length:Int)
   ·rw [if_pos c9] at H
    have c9b0:decide (x4_1<(l0_0.length:Int))=true:=decide_eq_true c9
    clear c9
    have H':=Aside0.mk H
    clear H
    obtain ⟨hcz11_0,hcz11_1,hcz11_2,hcz11_3,hcz11_4,hcz11_5⟩:=b6of BK247.out
    obtain ⟨hfz11_0,hfz11_1,hfz11_2,hfz11_3,hfz11_4,hfz11_5⟩:=z6of BK247.out
    go_wp2
    repeat (go_quiet (fail);try go_wp2)
    go_loopg [5,6] k1 (fun kq v5 v6 w'=>∃ (x5_2:Bool) (x6_2:Int),v5=.bool x5_2∧v6=.int .i64 x6_2∧Aside0 (spec_l06Clean.l1 kq x3_1 x4_1 x5_2 x6_2 l0_0 l0_1 l0_2 l0_3 a0_4 a0_5=some (r1,r2,r3,r4,r5,r6))∧Aside0 (kq≤k1)∧Aside0 (Kd.R k38 38 w' w0.heap.size (fun k_=>((P0_1_ k_∨P0_2_ k_∨P0_3_ k_)∨w.heap.size≤k_)) u3 x3_1)∧Aside0 (Kd.R k64 64 w' w0.heap.size (fun k_=>((P0_1_ k_∨P0_2_ k_∨P0_3_ k_)∨w.heap.size≤k_)∧some k_≠((.slice Ao3 l0_2.length co3):Value).ownBlock) (.slice Ao2 l0_1.length co2) l0_1)∧Aside0 (Kd.R k64 64 w' w0.heap.size (fun k_=>((P0_1_ k_∨P0_2_ k_∨P0_3_ k_)∨w.heap.size≤k_)∧some k_≠((.slice Ao2 l0_1.length co2):Value).ownBlock) (.slice Ao3 l0_2.length co3) l0_2)∧Aside0 (Kd.R Kd.string 9 w' w0.heap.size (fun k_=>((P0_1_ k_∨P0_2_ k_∨P0_3_ k_)∨w.heap.size≤k_)) (.slice Ao4 l0_3.length co4) l0_3)∧Aside0 (w'.heap[gb247]? = some (.cells #[(.slice A0_0 l0_0.length c0_0),(.slice Ao2 l0_1.length co2),(.slice Ao3 l0_2.length co3),(.slice Ao4 l0_3.length co4),.int .i64 a0_4,.int .i64 a0_5] 28 (0,0)))∧Aside0 (w'.heap[gb248]? = some (.cells #[(.slice none 0 0),(.slice none 0 0),(.slice none 0 0),(.slice none 0 0),.int .i64 0,.int .i64 0] 28 (0,0)))∧Aside0 (Kept w w' (fun k_=>P0_1_ k_∨P0_2_ k_∨P0_3_ k_))∧Aside0 (Below w0.heap.size w0 w'))
    case atStart=>exact ⟨(false),(0),(by rfl),(by rfl),H',⟨Nat.le_refl _⟩,⟨by exact HO_3.out⟩,⟨by exact HO_248001.out⟩,⟨by exact HO_248002.out⟩,⟨by exact HO_248003.out⟩,⟨by exact BK247.out⟩,⟨by exact BK248.out⟩,⟨by repeat (with_reducible exact HK.out)⟩,⟨by repeat (with_reducible exact HB.out)⟩⟩
    case round=>
     clear H'
     try clear c1
     try clear p2
     try clear c6
     try clear p6
     try clear c9
     try clear c9b0
     try clear c10
     try clear hcz11_0
     try clear hcz11_1
     try clear hcz11_2
     try clear hcz11_3
     try clear hcz11_4
     try clear hcz11_5
     try clear hfz11_0
     try clear hfz11_1
     try clear hfz11_2
     try clear hfz11_3
     try clear hfz11_4
     try clear hfz11_5
     try clear p2
     try clear p6
     obtain ⟨x5_2,x6_2,rfl,rfl,HA,HK2,HO_3,HO_248001,HO_248002,HO_248003,BK247,BK248,HK,HB⟩:=hrel
     cases gk with
     | zero=>exact absurd HA.out (by simp [spec_l06Clean.l1])
     | succ k2=>
      have H:=HA.out
      clear HA
      simp only [spec_l06Clean.l1] at H
      have HC12:=Aside0.mk H
      clear H
      go_upto_region 7 with (fail)
      repeat (go_quiet (fail);go_upto_region 7 with (fail))
      go_cut [26] (fun v26 wc=>∃ (kq:Nat) (x26_11:Bool),v26=.bool x26_11∧Aside0 (spec_l06Clean.j2 kq x3_1 x4_1 x5_2 x6_2 x26_11 l0_0 l0_1 l0_2 l0_3 a0_4 a0_5=some (r1,r2,r3,r4,r5,r6))∧Aside0 (kq≤k2)∧Aside0 (Kd.R k38 38 wc w0.heap.size (fun k_=>((P0_1_ k_∨P0_2_ k_∨P0_3_ k_)∨w.heap.size≤k_)) u3 x3_1)∧Aside0 (Kd.R k64 64 wc w0.heap.size (fun k_=>((P0_1_ k_∨P0_2_ k_∨P0_3_ k_)∨w.heap.size≤k_)∧some k_≠((.slice Ao3 l0_2.length co3):Value).ownBlock) (.slice Ao2 l0_1.length co2) l0_1)∧Aside0 (Kd.R k64 64 wc w0.heap.size (fun k_=>((P0_1_ k_∨P0_2_ k_∨P0_3_ k_)∨w.heap.size≤k_)∧some k_≠((.slice Ao2 l0_1.length co2):Value).ownBlock) (.slice Ao3 l0_2.length co3) l0_2)∧Aside0 (Kd.R Kd.string 9 wc w0.heap.size (fun k_=>((P0_1_ k_∨P0_2_ k_∨P0_3_ k_)∨w.heap.size≤k_)) (.slice Ao4 l0_3.length co4) l0_3)∧Aside0 (wc.heap[gb247]? = some (.cells #[(.slice A0_0 l0_0.length c0_0),(.slice Ao2 l0_1.length co2),(.slice Ao3 l0_2.length co3),(.slice Ao4 l0_3.length co4),.int .i64 a0_4,.int .i64 a0_5] 28 (0,0)))∧Aside0 (wc.heap[gb248]? = some (.cells #[(.slice none 0 0),(.slice none 0 0),(.slice none 0 0),(.slice none 0 0),.int .i64 0,.int .i64 0] 28 (0,0)))∧Aside0 (Kept w wc (fun k_=>P0_1_ k_∨P0_2_ k_∨P0_3_ k_))∧Aside0 (Below w0.heap.size w0 wc))
      case first=>
       have H:=HC12.out
       clear HC12
       by_cases c13:x6_2≤(l0_3.length:Int)
       ·rw [if_pos c13] at H
        have c13b0:decide (x6_2≤(l0_3.length:Int))=true:=decide_eq_true c13
        clear c13
        (skip)
        have H':=Aside0.mk H
        clear H
        obtain ⟨hcz15_0,hcz15_1,hcz15_2,hcz15_3,hcz15_4,hcz15_5⟩:=b6of BK247.out
        obtain ⟨hfz15_0,hfz15_1,hfz15_2,hfz15_3,hfz15_4,hfz15_5⟩:=z6of BK247.out
        go_wp2
        repeat (go_quiet (fail);try go_wp2)
        go_meet
        case rel=>exact ⟨_,(!x5_2),(by rfl),H',⟨by have:=HK1.out;have:=HK2.out;omega⟩,⟨by exact HO_3.out⟩,⟨by exact HO_248001.out⟩,⟨by exact HO_248002.out⟩,⟨by exact HO_248003.out⟩,⟨by exact BK247.out⟩,⟨by exact BK248.out⟩,⟨by repeat (with_reducible exact HK.out)⟩,⟨by repeat (with_reducible exact HB.out)⟩⟩
       ·rw [if_neg c13] at H
        have c13b0:decide (x6_2≤(l0_3.length:Int))=false:=decide_eq_false c13
        clear c13
        (skip)
        have H':=Aside0.mk H
        clear H
        obtain ⟨hcz17_0,hcz17_1,hcz17_2,hcz17_3,hcz17_4,hcz17_5⟩:=b6of BK247.out
        obtain ⟨hfz17_0,hfz17_1,hfz17_2,hfz17_3,hfz17_4,hfz17_5⟩:=z6of BK247.out
        go_wp2
        repeat (go_quiet (fail);try go_wp2)
        go_meet
        case rel=>exact ⟨_,(false),(by rfl),H',⟨by have:=HK1.out;have:=HK2.out;omega⟩,⟨by exact HO_3.out⟩,⟨by exact HO_248001.out⟩,⟨by exact HO_248002.out⟩,⟨by exact HO_248003.out⟩,⟨by exact BK247.out⟩,⟨by exact BK248.out⟩,⟨by repeat (with_reducible exact HK.out)⟩,⟨by repeat (with_reducible exact HB.out)⟩⟩
      case rest=>
       clear HC12
       try clear c1
       try clear p2
       try clear c6
       try clear p6
       try clear c9
       try clear c9b0
       try clear c10
       try clear c13
       try clear c13b0
       try clear c14
       try clear c16
       try clear hcz11_0
       try clear hcz11_1
       try clear hcz11_2
       try clear hcz11_3
       try clear hcz11_4
       try clear hcz11_5
       try clear hcz15_0
       try clear hcz15_1
       try clear hcz15_2
       try clear hcz15_3
       try clear hcz15_4
       try clear hcz15_5
       try clear hcz17_0
       try clear hcz17_1
       try clear hcz17_2
       try clear hcz17_3
       try clear hcz17_4
       try clear hcz17_5
       try clear hfz11_0
       try clear hfz11_1
       try clear hfz11_2
       try clear hfz11_3
       try clear hfz11_4
       try clear hfz11_5
       try clear hfz15_0
       try clear hfz15_1
       try clear hfz15_2
       try clear hfz15_3
       try clear hfz15_4
       try clear hfz15_5
       try clear hfz17_0
       try clear hfz17_1
       try clear hfz17_2
       try clear hfz17_3
       try clear hfz17_4
       try clear hfz17_5
       try clear p2
       try clear p6
       obtain ⟨kq,x26_11,rfl,HA,HJ11,HO_3,HO_248001,HO_248002,HO_248003,BK247,BK248,HK,HB⟩:=hcut
       cases kq with
       | zero=>exact absurd HA.out (by simp [spec_l06Clean.j2])
       | succ kj11=>
        have H:=HA.out
        clear HA
        simp only [spec_l06Clean.j2] at H
        by_cases c18:x26_11=true
        ·subst c18
         have H1:((spec_StepsDone.f kj11 l0_2 l0_3 x6_2).bind fun bt256=>(spec_l06Clean.l2 kj11 x3_1 x4_1 x5_2 x6_2 bt256.1 0 l0_0 l0_1 l0_2 l0_3 a0_4 a0_5))=some (r1,r2,r3,r4,r5,r6):=by rw [if_pos rfl] at H;exact H
         clear H
         have H:=H1
         clear H1
         obtain ⟨⟨t256,t257⟩,A19,H⟩:=bA H
         replace H:(spec_l06Clean.l2 kj11 x3_1 x4_1 x5_2 x6_2 t256 0 l0_0 l0_1 l0_2 l0_3 a0_4 a0_5)=some (r1,r2,r3,r4,r5,r6):=H
         have H':=Aside0.mk H
         clear H
         obtain ⟨hcz21_0,hcz21_1,hcz21_2,hcz21_3,hcz21_4,hcz21_5⟩:=b6of BK247.out
         obtain ⟨hfz21_0,hfz21_1,hfz21_2,hfz21_3,hfz21_4,hfz21_5⟩:=z6of BK247.out
         go_wp2_with ((go_at_call 27;(with_reducible refine (spec_StepsDone.calls kj11 _ _ l0_2 _ _ l0_3 x6_2 t256 t257 _ ?side1 ?side2 ?side3 ?side4 A19.out).mono ?_);(case side1=>repeat (exact (Kd.R_reads' HO_248002.out).2.2));(case side2=>exact (Kd.R_reads' HO_248002.out).2.1);(case side3=>repeat (exact (Kd.R_reads' HO_248003.out).2.2));(case side4=>exact (Kd.R_reads' HO_248003.out).2.1);rintro e w22 ⟨v258,rfl,ho0,hb⟩;have HO259:=Aside0.mk (Kd.R_lower (Kd.R_new' (Kd.R_new' (Kd.R_newM (M:=fun k_=>((P0_1_ k_∨P0_2_ k_∨P0_3_ k_)∨w.heap.size≤k_)) ho0 HK.out.1 (fun k_ h_=>.inr h_)) (Kd.R_lt HO_248001.out)) (Kd.R_lt HO_248002.out)) (below_size HB.out));replace HO_3:=Aside0.mk (Kd.R_below HO_3.out hb);replace HO_248001:=Aside0.mk (Kd.R_elder' HO_248001.out (Kd.R_base ho0) hb);replace HO_248002:=Aside0.mk (Kd.R_elder' HO_248002.out (Kd.R_base ho0) hb);replace HO_248003:=Aside0.mk (Kd.R_below HO_248003.out hb);replace BK247:=Aside0.mk (bB hb BK247.out);replace BK248:=Aside0.mk (bB hb BK248.out);replace HK:=Aside0.mk (Kept.below (S:=(fun k_=>P0_1_ k_∨P0_2_ k_∨P0_3_ k_)) HK.out hb);replace HB:=Aside0.mk (below_step HB.out hb);(try clear hb);(try clear ho0)))
         repeat (go_quiet (fail);try go_wp2_with fail)
         go_loopg [5,9] kj11 (fun kq v5 v9 w'=>∃ (x5_4:Bool) (x9_4:Int),v5=.bool x5_4∧v9=.int .i64 x9_4∧Aside0 (spec_l06Clean.l2 kq x3_1 x4_1 x5_4 x6_2 t256 x9_4 l0_0 l0_1 l0_2 l0_3 a0_4 a0_5=some (r1,r2,r3,r4,r5,r6))∧Aside0 (kq≤kj11)∧Aside0 (Kd.R k38 38 w' w0.heap.size (fun k_=>((P0_1_ k_∨P0_2_ k_∨P0_3_ k_)∨w.heap.size≤k_)) u3 x3_1)∧Aside0 (Kd.R k64 64 w' w0.heap.size (fun k_=>((P0_1_ k_∨P0_2_ k_∨P0_3_ k_)∨w.heap.size≤k_)∧some k_≠((.slice Ao2 l0_1.length co2):Value).ownBlock∧some k_≠((.slice Ao3 l0_2.length co3):Value).ownBlock) v258 t256)∧Aside0 (Kd.R k64 64 w' w0.heap.size (fun k_=>((P0_1_ k_∨P0_2_ k_∨P0_3_ k_)∨w.heap.size≤k_)∧some k_≠(v258:Value).ownBlock∧some k_≠((.slice Ao3 l0_2.length co3):Value).ownBlock) (.slice Ao2 l0_1.length co2) l0_1)∧Aside0 (Kd.R k64 64 w' w0.heap.size (fun k_=>((P0_1_ k_∨P0_2_ k_∨P0_3_ k_)∨w.heap.size≤k_)∧some k_≠(v258:Value).ownBlock∧some k_≠((.slice Ao2 l0_1.length co2):Value).ownBlock) (.slice Ao3 l0_2.length co3) l0_2)∧Aside0 (Kd.R Kd.string 9 w' w0.heap.size (fun k_=>((P0_1_ k_∨P0_2_ k_∨P0_3_ k_)∨w.heap.size≤k_)) (.slice Ao4 l0_3.length co4) l0_3)∧Aside0 (w'.heap[gb247]? = some (.cells #[(.slice A0_0 l0_0.length c0_0),(.slice Ao2 l0_1.length co2),(.slice Ao3 l0_2.length co3),(.slice Ao4 l0_3.length co4),.int .i64 a0_4,.int .i64 a0_5] 28 (0,0)))∧Aside0 (w'.heap[gb248]? = some (.cells #[(.slice none 0 0),(.slice none 0 0),(.slice none 0 0),(.slice none 0 0),.int .i64 0,.int .i64 0] 28 (0,0)))∧Aside0 (Kept w w' (fun k_=>P0_1_ k_∨P0_2_ k_∨P0_3_ k_))∧Aside0 (Below w0.heap.size w0 w'))
         case atStart=>exact ⟨(x5_2),(0),(by rfl),(by rfl),H',⟨Nat.le_refl _⟩,⟨by exact HO_3.out⟩,⟨by exact Kd.R_mono HO259.out (fun _ hk=>⟨hk.1.1.1,⟨hk.1.2,hk.2⟩⟩)⟩,⟨by exact Kd.R_mono HO_248001.out (fun _ hk=>⟨hk.1.1,⟨hk.2,hk.1.2⟩⟩)⟩,⟨by exact Kd.R_mono HO_248002.out (fun _ hk=>⟨hk.1.1,⟨hk.2,hk.1.2⟩⟩)⟩,⟨by exact HO_248003.out⟩,⟨by exact BK247.out⟩,⟨by exact BK248.out⟩,⟨by repeat (with_reducible exact HK.out)⟩,⟨by repeat (with_reducible exact HB.out)⟩⟩
         case round=>
          clear H'
          try clear c1
          try clear c2
          try clear p2
          try clear c6
          try clear p6
          try clear c9
          try clear c9b0
          try clear c10
          try clear c13
          try clear c13b0
          try clear c14
          try clear c16
          try clear c18
          try clear c20
          try clear hcz11_0
          try clear hcz11_1
          try clear hcz11_2
          try clear hcz11_3
          try clear hcz11_4
          try clear hcz11_5
          try clear hcz15_0
          try clear hcz15_1
          try clear hcz15_2
          try clear hcz15_3
          try clear hcz15_4
          try clear hcz15_5
          try clear hcz17_0
          try clear hcz17_1
          try clear hcz17_2
          try clear hcz17_3
          try clear hcz17_4
          try clear hcz17_5
          try clear hcz21_0
          try clear hcz21_1
          try clear hcz21_2
          try clear hcz21_3
          try clear hcz21_4
          try clear hcz21_5
          try clear hfz11_0
          try clear hfz11_1
          try clear hfz11_2
          try clear hfz11_3
          try clear hfz11_4
          try clear hfz11_5
          try clear hfz15_0
          try clear hfz15_1
          try clear hfz15_2
          try clear hfz15_3
          try clear hfz15_4
          try clear hfz15_5
          try clear hfz17_0
          try clear hfz17_1
          try clear hfz17_2
          try clear hfz17_3
          try clear hfz17_4
          try clear hfz17_5
          try clear hfz21_0
          try clear hfz21_1
          try clear hfz21_2
          try clear hfz21_3
          try clear hfz21_4
          try clear hfz21_5
          try clear p2
          try clear p6
          obtain ⟨x5_4,x9_4,rfl,rfl,HA,HK4,HO_3,HO_7,HO_248001,HO_248002,HO_248003,BK247,BK248,HK,HB⟩:=hrel
          cases gk with
          | zero=>exact absurd HA.out (by simp [spec_l06Clean.l2])
          | succ k4=>
           have H:=HA.out
           clear HA
           simp only [spec_l06Clean.l2] at H
           by_cases c23:x9_4<(t256.length:Int)
           ·rw [if_pos c23] at H
            have c23b0:decide (x9_4<(t256.length:Int))=true:=decide_eq_true c23
            clear c23
            by_cases c24:x5_4=true
            ·subst c24
             have H1:(spec_l06Clean.l2 k4 x3_1 x4_1 true x6_2 t256 (wrap64 (x9_4+1)) l0_0 l0_1 l0_2 l0_3 a0_4 a0_5)=some (r1,r2,r3,r4,r5,r6):=by rw [if_pos rfl] at H;exact H
             clear H
             have H:=H1
             clear H1
             have H':=Aside0.mk H
             clear H
             obtain ⟨Ao25,co25,eo25⟩:=Kd.R_slice HO_7.out
             subst eo25
             go_wp2
             repeat (go_quiet (fail);try go_wp2)
             go_roundg k4
             case measure=>have:=HK1.out;have:=HK2.out;have:=HJ11.out;have:=HK4.out;omega
             case rel=>exact ⟨(true),(wrap64 (x9_4+1)),(by rfl),(by rfl),H',⟨by have:=HK1.out;have:=HK2.out;have:=HJ11.out;have:=HK4.out;omega⟩,⟨by (with_reducible repeat (apply Kd.R_drewN));exact HO_3.out⟩,⟨by (with_reducible repeat (apply Kd.R_drewN));exact HO_7.out⟩,⟨by (with_reducible repeat (apply Kd.R_drewN));exact HO_248001.out⟩,⟨by (with_reducible repeat (apply Kd.R_drewN));exact HO_248002.out⟩,⟨by (with_reducible repeat (apply Kd.R_drewN));exact HO_248003.out⟩,⟨by (with_reducible repeat (refine blk_drewN ?_ _));exact BK247.out⟩,⟨by (with_reducible repeat (refine blk_drewN ?_ _));exact BK248.out⟩,⟨by repeat (with_reducible first | exact HK.out | apply Kept.drewN)⟩,⟨by repeat (with_reducible first | exact HB.out | apply pw_below_drewN)⟩⟩
            ·replace c24:=Bool.eq_false_iff.mpr c24
             subst c24
             have H1:(if 0≤x9_4 then (if 0≤x4_1 then (if x4_1<(l0_0.length:Int) then (spec_l06Clean.l2 k4 x3_1 x4_1 (((rd_T64 t256 x9_4).f1) == ((rd_T38 l0_0 x4_1).f0)) x6_2 t256 (wrap64 (x9_4+1)) l0_0 l0_1 l0_2 l0_3 a0_4 a0_5) else (none)) else (none)) else (none))=some (r1,r2,r3,r4,r5,r6):=by rw [if_neg (show ¬ (false=true) by decide)] at H;exact H
             clear H
             have H:=H1
             clear H1
             by_cases c26:0≤x9_4
             ·rw [if_pos c26] at H
              have c26b0:decide (0≤x9_4)=true:=decide_eq_true c26
              clear c26
              by_cases c27:0≤x4_1
              ·rw [if_pos c27] at H
               have c27b0:decide (0≤x4_1)=true:=decide_eq_true c27
               clear c27
               by_cases c28:x4_1<(l0_0.length:Int)
               ·rw [if_pos c28] at H
                have c28b0:decide (x4_1<(l0_0.length:Int))=true:=decide_eq_true c28
                clear c28
                have H':=Aside0.mk H
                clear H
                obtain ⟨Ao29,co29,eo29⟩:=Kd.R_slice HO_7.out
                subst eo29
                have p260:0≤(x9_4:Int):=of_decide_eq_true (by (with_reducible assumption))
                have q260:x9_4<(t256.length:Int):=of_decide_eq_true (by (with_reducible assumption))
                obtain ⟨ad260,e260,hx260_0,hx260_1⟩:=at_T64 (Kd.R_reads' HO_7.out).2.2 x9_4 p260 q260
                cases e260
                replace p260:=eq_true p260
                replace q260:=eq_true q260
                obtain ⟨hcz31_0,hcz31_1,hcz31_2,hcz31_3,hcz31_4,hcz31_5⟩:=b6of BK247.out
                obtain ⟨hfz31_0,hfz31_1,hfz31_2,hfz31_3,hfz31_4,hfz31_5⟩:=z6of BK247.out
                have p261:0≤(x4_1:Int):=of_decide_eq_true (by (with_reducible assumption))
                have q261:x4_1<(l0_0.length:Int):=of_decide_eq_true (by (with_reducible assumption))
                obtain ⟨ad261,e261,hx261_0,hx261_1,hx261_2⟩:=at_T38 (Kd.C_kept_now HR0_0.out HK.out) x4_1 p261 q261
                cases e261
                replace p261:=eq_true p261
                replace q261:=eq_true q261
                go_wp2
                repeat (go_quiet (fail);try go_wp2)
                go_roundg k4
                case measure=>have:=HK1.out;have:=HK2.out;have:=HJ11.out;have:=HK4.out;omega
                case rel=>exact ⟨((((rd_T64 t256 x9_4).f1) == ((rd_T38 l0_0 x4_1).f0))),(wrap64 (x9_4+1)),(by rfl),(by rfl),H',⟨by have:=HK1.out;have:=HK2.out;have:=HJ11.out;have:=HK4.out;omega⟩,⟨by (with_reducible repeat (apply Kd.R_drewN));exact HO_3.out⟩,⟨by (with_reducible repeat (apply Kd.R_drewN));exact HO_7.out⟩,⟨by (with_reducible repeat (apply Kd.R_drewN));exact HO_248001.out⟩,⟨by (with_reducible repeat (apply Kd.R_drewN));exact HO_248002.out⟩,⟨by (with_reducible repeat (apply Kd.R_drewN));exact HO_248003.out⟩,⟨by (with_reducible repeat (refine blk_drewN ?_ _));exact BK247.out⟩,⟨by (with_reducible repeat (refine blk_drewN ?_ _));exact BK248.out⟩,⟨by repeat (with_reducible first | exact HK.out | apply Kept.drewN)⟩,⟨by repeat (with_reducible first | exact HB.out | apply pw_below_drewN)⟩⟩
               ·rw [if_neg c28] at H
                exact absurd H (by simp)
              ·rw [if_neg c27] at H
               exact absurd H (by simp)
             ·rw [if_neg c26] at H
              exact absurd H (by simp)
           ·rw [if_neg c23] at H
            have c23b0:decide (x9_4<(t256.length:Int))=false:=decide_eq_false c23
            clear c23
            have H':=Aside0.mk H
            clear H
            obtain ⟨Ao32,co32,eo32⟩:=Kd.R_slice HO_7.out
            subst eo32
            go_wp2
            repeat (go_quiet (fail);try go_wp2)
            go_roundg k4
            case measure=>have:=HK1.out;have:=HK2.out;have:=HJ11.out;have:=HK4.out;omega
            case rel=>exact ⟨(x5_4),(wrap64 (x6_2+1)),(by rfl),(by rfl),H',⟨by have:=HK1.out;have:=HK2.out;have:=HJ11.out;have:=HK4.out;omega⟩,⟨by exact HO_3.out⟩,⟨by exact Kd.R_mono HO_248001.out (fun _ hk=>⟨hk.1,hk.2.2⟩)⟩,⟨by exact Kd.R_mono HO_248002.out (fun _ hk=>⟨hk.1,hk.2.2⟩)⟩,⟨by exact HO_248003.out⟩,⟨by exact BK247.out⟩,⟨by exact BK248.out⟩,⟨by repeat (with_reducible exact HK.out)⟩,⟨by repeat (with_reducible exact HB.out)⟩⟩
        ·replace c18:=Bool.eq_false_iff.mpr c18
         subst c18
         have H1:(if x5_2=true then (if 0≤x4_1 then (if x4_1<(l0_0.length:Int) then (if x3_1.length<4398046511104 then (spec_l06Clean.l0 kj11 (x3_1++[(⟨(rd_T38 l0_0 x4_1).f0,(rd_T38 l0_0 x4_1).f1,(rd_T38 l0_0 x4_1).f2⟩:S38)]) (wrap64 (x4_1+1)) l0_0 l0_1 l0_2 l0_3 a0_4 a0_5) else (none)) else (none)) else (none)) else (spec_l06Clean.l0 kj11 x3_1 (wrap64 (x4_1+1)) l0_0 l0_1 l0_2 l0_3 a0_4 a0_5))=some (r1,r2,r3,r4,r5,r6):=by rw [if_neg (show ¬ (false=true) by decide)] at H;exact H
         clear H
         have H:=H1
         clear H1
         by_cases c33:x5_2=true
         ·subst c33
          have H1:(if 0≤x4_1 then (if x4_1<(l0_0.length:Int) then (if x3_1.length<4398046511104 then (spec_l06Clean.l0 kj11 (x3_1++[(⟨(rd_T38 l0_0 x4_1).f0,(rd_T38 l0_0 x4_1).f1,(rd_T38 l0_0 x4_1).f2⟩:S38)]) (wrap64 (x4_1+1)) l0_0 l0_1 l0_2 l0_3 a0_4 a0_5) else (none)) else (none)) else (none))=some (r1,r2,r3,r4,r5,r6):=by rw [if_pos rfl] at H;exact H
          clear H
          have H:=H1
          clear H1
          by_cases c34:0≤x4_1
          ·rw [if_pos c34] at H
           have c34b0:decide (0≤x4_1)=true:=decide_eq_true c34
           clear c34
           by_cases c35:x4_1<(l0_0.length:Int)
           ·rw [if_pos c35] at H
            have c35b0:decide (x4_1<(l0_0.length:Int))=true:=decide_eq_true c35
            clear c35
            by_cases c36:x3_1.length<4398046511104
            ·rw [if_pos c36] at H
             have LMc36:=Aside0.mk c36
             clear c36
             obtain ⟨y253,hy253⟩:∃ y_:List (S38),y_=(x3_1++[(⟨(rd_T38 l0_0 x4_1).f0,(rd_T38 l0_0 x4_1).f1,(rd_T38 l0_0 x4_1).f2⟩:S38)]):=⟨_,rfl⟩
             replace H:(spec_l06Clean.l0 kj11 y253 (wrap64 (x4_1+1)) l0_0 l0_1 l0_2 l0_3 a0_4 a0_5)=some (r1,r2,r3,r4,r5,r6):=by (rw [hy253];with_reducible exact H)
             have Ny253:=Aside0.mk hy253
             clear hy253
             have H':=Aside0.mk H
             clear H
             obtain ⟨hcz38_0,hcz38_1,hcz38_2,hcz38_3,hcz38_4,hcz38_5⟩:=b6of BK247.out
             obtain ⟨hfz38_0,hfz38_1,hfz38_2,hfz38_3,hfz38_4,hfz38_5⟩:=z6of BK247.out
             have p252:0≤(x4_1:Int):=of_decide_eq_true (by (with_reducible assumption))
             have q252:x4_1<(l0_0.length:Int):=of_decide_eq_true (by (with_reducible assumption))
             obtain ⟨ad252,e252,hx252_0,hx252_1,hx252_2⟩:=at_T38 (Kd.C_kept_now HR0_0.out HK.out) x4_1 p252 q252
             cases e252
             replace p252:=eq_true p252
             replace q252:=eq_true q252
             go_wp2_with (((with_reducible refine gate_builtin (b:=.append) (xs:=#[.tmp 60,.tmp 66]) rfl ?_);at_builtin;refine Kd.R_append k38 (w0:=w0) w0.heap.size rfl (.tmp 60) (.tmp 66) 24 38 (.agg #[(.int .i64 0),(.string ⟨#[]⟩),(.int .i64 0)]) 32 rfl Tryz.underlying24 info38 rfl (by decide) (by omega) u3 x3_1 (⟨(rd_T38 l0_0 x4_1).f0,(rd_T38 l0_0 x4_1).f1,(rd_T38 l0_0 x4_1).f2⟩:S38) [.int .i64 ((rd_T38 l0_0 x4_1).f0),.string ((rd_T38 l0_0 x4_1).f1),.int .i64 ((rd_T38 l0_0 x4_1).f2)] (fun k_=>((P0_1_ k_∨P0_2_ k_∨P0_3_ k_)∨w.heap.size≤k_)) (fun _=>False) rfl rfl ?aP (fun _ hk=>hk.elim) ?aF ?aO ?aB ?aS ?aL ?_;(case aP=>exact k38_mkM _ _ _ (⟨(rd_T38 l0_0 x4_1).f0,(rd_T38 l0_0 x4_1).f1,(rd_T38 l0_0 x4_1).f2⟩:S38));(case aB=>exact HB.out);(case aF=>exact (fun k_ hk=>(.inr (Nat.le_trans HK.out.1 hk))));(case aO=>exact HO_3.out);(case aS=>exact (below_size HB.out));(case aL=>have:=LMc36.out;omega);intro v254 w39 ho hb hg hat;rw [← Ny253.out] at ho;have HO255:=Aside0.mk (ho);replace HO_248001:=Aside0.mk (Kd.R_over' HO_248001.out (Kd.R_typed HO_3.out) (by decide) hg);replace HO_248002:=Aside0.mk (Kd.R_over' HO_248002.out (Kd.R_typed HO_3.out) (by decide) hg);replace HO_248003:=Aside0.mk (Kd.R_over' HO_248003.out (Kd.R_typed HO_3.out) (by decide) hg);replace BK247:=Aside0.mk (blk_grown (g:=gb247) (o:=.cells #[.slice (some ad252) l0_0.length c0_0,.slice Ao2 l0_1.length co2,.slice Ao3 l0_2.length co3,.slice Ao4 l0_3.length co4,.int .i64 a0_4,.int .i64 a0_5] 28 (0,0)) BK247.out hg (Kd.R_ne HO_3.out BK247.out (by decide)));replace BK248:=Aside0.mk (blk_grown (g:=gb248) (o:=.cells #[.slice none 0 0,.slice none 0 0,.slice none 0 0,.slice none 0 0,.int .i64 0,.int .i64 0] 28 (0,0)) BK248.out hg (Kd.R_ne HO_3.out BK248.out (by decide)));replace HB:=Aside0.mk (hb);replace HK:=Aside0.mk (Kept.of_grown (S:=(fun k_=>P0_1_ k_∨P0_2_ k_∨P0_3_ k_)) hg HK.out (fun k_ e_=>(HO_3.out.1 k_ e_)));clear HO_3;clear ho hb hg hat))
             repeat (go_quiet (fail);try go_wp2_with fail)
             go_roundg kj11
             case measure=>have:=HK1.out;have:=HK2.out;have:=HJ11.out;omega
             case rel=>exact ⟨(y253),(wrap64 (x4_1+1)),(by rfl),H',⟨by have:=HK1.out;have:=HK2.out;have:=HJ11.out;omega⟩,⟨by exact HO255.out⟩,⟨by exact HO_248001.out⟩,⟨by exact HO_248002.out⟩,⟨by exact HO_248003.out⟩,⟨by exact BK247.out⟩,⟨by exact BK248.out⟩,⟨by repeat (with_reducible exact HK.out)⟩,⟨by repeat (with_reducible exact HB.out)⟩⟩
            ·rw [if_neg c36] at H
             exact absurd H (by simp)
           ·rw [if_neg c35] at H
            exact absurd H (by simp)
          ·rw [if_neg c34] at H
           exact absurd H (by simp)
         ·replace c33:=Bool.eq_false_iff.mpr c33
          subst c33
          have H1:(spec_l06Clean.l0 kj11 x3_1 (wrap64 (x4_1+1)) l0_0 l0_1 l0_2 l0_3 a0_4 a0_5)=some (r1,r2,r3,r4,r5,r6):=by rw [if_neg (show ¬ (false=true) by decide)] at H;exact H
          clear H
          have H:=H1
          clear H1
          have H':=Aside0.mk H
          clear H
          go_wp2
          repeat (go_quiet (fail);try go_wp2)
          go_roundg kj11
          case measure=>have:=HK1.out;have:=HK2.out;have:=HJ11.out;omega
          case rel=>exact ⟨(x3_1),(wrap64 (x4_1+1)),(by rfl),H',⟨by have:=HK1.out;have:=HK2.out;have:=HJ11.out;omega⟩,⟨by exact HO_3.out⟩,⟨by exact HO_248001.out⟩,⟨by exact HO_248002.out⟩,⟨by exact HO_248003.out⟩,⟨by exact BK247.out⟩,⟨by exact BK248.out⟩,⟨by repeat (with_reducible exact HK.out)⟩,⟨by repeat (with_reducible exact HB.out)⟩⟩
   ·rw [if_neg c9] at H
    have c9b0:decide (x4_1<(l0_0.length:Int))=false:=decide_eq_false c9
    clear c9
    simp only [Option.some.injEq,Prod.mk.injEq] at H
    obtain ⟨rfl,rfl,rfl,rfl,rfl,rfl⟩:=H
    have hnc40:=NB248_247.out
    obtain ⟨hcz41_0,hcz41_1,hcz41_2,hcz41_3,hcz41_4,hcz41_5⟩:=b6of BK247.out
    obtain ⟨hfz41_0,hfz41_1,hfz41_2,hfz41_3,hfz41_4,hfz41_5⟩:=z6of BK247.out
    obtain ⟨Ao42,co42,eo42⟩:=Kd.R_slice HO_3.out
    subst eo42
    obtain ⟨hcz43_0,hcz43_1,hcz43_2,hcz43_3,hcz43_4,hcz43_5⟩:=b6of BK248.out
    obtain ⟨hfz43_0,hfz43_1,hfz43_2,hfz43_3,hfz43_4,hfz43_5⟩:=z6of BK248.out
    go_wp2
    repeat (go_quiet (fail);try go_wp2)
    refine bodyPost_ret (results_cell_row rfl _ _ gb248 28 #[.slice Ao42 x3_1.length co42,.slice Ao2 l0_1.length co2,.slice Ao3 l0_2.length co3,.slice Ao4 l0_3.length co4,.int .i64 a0_4,.int .i64 a0_5] (0,0) _ rfl (by refine blk_put (cs:=#[.slice Ao42 x3_1.length co42,.slice Ao2 l0_1.length co2,.slice Ao3 l0_2.length co3,.slice Ao4 l0_3.length co4,.int .i64 a0_4,.int .i64 0]) ?_ 5 _ rfl;refine blk_put (cs:=#[.slice Ao42 x3_1.length co42,.slice Ao2 l0_1.length co2,.slice Ao3 l0_2.length co3,.slice Ao4 l0_3.length co4,.int .i64 0,.int .i64 0]) ?_ 4 _ rfl;refine blk_put (cs:=#[.slice Ao42 x3_1.length co42,.slice Ao2 l0_1.length co2,.slice Ao3 l0_2.length co3,.slice none 0 0,.int .i64 0,.int .i64 0]) ?_ 3 _ rfl;refine blk_put (cs:=#[.slice Ao42 x3_1.length co42,.slice Ao2 l0_1.length co2,.slice none 0 0,.slice none 0 0,.int .i64 0,.int .i64 0]) ?_ 2 _ rfl;refine blk_put (cs:=#[.slice Ao42 x3_1.length co42,.slice none 0 0,.slice none 0 0,.slice none 0 0,.int .i64 0,.int .i64 0]) ?_ 1 _ rfl;refine blk_put (cs:=#[.slice none 0 0,.slice none 0 0,.slice none 0 0,.slice none 0 0,.int .i64 0,.int .i64 0]) ?_ 0 _ rfl;refine blk_far ?_ NB248_247.out _;exact BK248.out) Tryz.underlying28 rfl (by kernel_rfl)) rfl ?_
    all_goals exact ⟨_,_,_,_,by rfl,by exact Kd.R_mono (R6 (Kd.R_far (p:=⟨gb247,0,none⟩) (Kd.R_types (Kd.R_types HO_3.out BK247.out (by decide)) BK248.out (by decide)) (fun _ hk=>hk.1.2) (.slice Ao42 x3_1.length co42)) (.slice Ao42 x3_1.length co42) (.slice Ao2 l0_1.length co2) (.slice Ao3 l0_2.length co3) (.slice Ao4 l0_3.length co4) (.int .i64 a0_4) (.int .i64 a0_5)) (fun _ hk=>hk.1.1),by exact Kd.R_mono (R6 (Kd.R_far (p:=⟨gb247,0,none⟩) (Kd.R_types (Kd.R_types HO_248001.out BK247.out (by decide)) BK248.out (by decide)) (fun _ hk=>hk.1.2) (.slice Ao42 x3_1.length co42)) (.slice Ao42 x3_1.length co42) (.slice Ao2 l0_1.length co2) (.slice Ao3 l0_2.length co3) (.slice Ao4 l0_3.length co4) (.int .i64 a0_4) (.int .i64 a0_5)) (fun _ hk=>⟨hk.1.1.1,hk.1.1.2⟩),by exact Kd.R_mono (R6 (Kd.R_far (p:=⟨gb247,0,none⟩) (Kd.R_types (Kd.R_types HO_248002.out BK247.out (by decide)) BK248.out (by decide)) (fun _ hk=>hk.1.2) (.slice Ao42 x3_1.length co42)) (.slice Ao42 x3_1.length co42) (.slice Ao2 l0_1.length co2) (.slice Ao3 l0_2.length co3) (.slice Ao4 l0_3.length co4) (.int .i64 a0_4) (.int .i64 a0_5)) (fun _ hk=>⟨hk.1.1.1,hk.1.1.2⟩),by exact Kd.R_mono (R6 (Kd.R_far (p:=⟨gb247,0,none⟩) (Kd.R_types (Kd.R_types HO_248003.out BK247.out (by decide)) BK248.out (by decide)) (fun _ hk=>hk.1.2) (.slice Ao42 x3_1.length co42)) (.slice Ao42 x3_1.length co42) (.slice Ao2 l0_1.length co2) (.slice Ao3 l0_2.length co3) (.slice Ao4 l0_3.length co4) (.int .i64 a0_4) (.int .i64 a0_5)) (fun _ hk=>hk.1.1),by repeat (with_reducible first | exact HB.out | refine below_set ?_ GE247.out | refine below_set ?_ GE248.out),by repeat ((with_reducible first | exact HK.out | refine Kept.setCell ?_ (.inr GW247.out) _ | refine Kept.setCell ?_ (.inr GW248.out) _))⟩

end Go.Proofs.YthbffdjjmapaaaaGreatDoor.MFnRenamed
