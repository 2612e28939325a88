/- Each theorem here says that a call of one Go function answers what the Lean function beside it answers; its conditions stand in it. Written by a program of this session. -/
import Derived.Test.YthbffdjjmapaaaaGreatDoorMFnRenamedx0
import Derived.Test.YthbffdjjmapaaaaGreatDoorMFnRenamedx3
import Derived.Test.YthbffdjjmapaaaaGreatDoorMFnRenamedx4
import Derived.Test.YthbffdjjmapaaaaGreatDoorMFnRenamedx6
namespace Go.Proofs.YthbffdjjmapaaaaGreatDoor.MFnRenamed
open Go.RowKit Go.Proofs.YthbffdjjmapaaaaGreatDoorW.PrintWords Go.Proofs.YthbffdjjmapaaaaGreatDoorW.PrintLast Go.Proofs.YthbffdjjmapaaaaGreatDoorW.PrintMore
attribute [local go_sem] max2_int min2_int max_two min_two max_three min_three max_four min_four   -- for this text's walks alone
set_option linter.unusedVariables false
set_option linter.unusedSimpArgs false

/-! ### spec_StepsDone: function 27 -/
mutual
def spec_StepsDone.l0:Nat→List ByteArray→Int→List (S64)→Int→Option ((List (S64))×Bool)
 | 0,_,_,_,_=>none
 | k+1,x1,x2,x8,x9=>if x9<x2 then (if 0≤x9 then (if x9<(x1.length:Int) then ((spec_l06Step.f k (rdOf ByteArray.empty x1 x9)).bind fun bt159=>(if bt159.2.2.2=true then ((spec_NameOk.f k bt159.1).bind fun t163=>(if t163=true then (if 0<((rdOf ByteArray.empty x1 x9).size:Int) then (if (bt (rdOf ByteArray.empty x1 x9) 0)=43 then (spec_StepsDone.j1 k x1 x2 x8 x9 bt159.1 bt159.2.1 bt159.2.2.1 false) else ((spec_l06Has.f k x8 bt159.1).bind fun t165=>(spec_StepsDone.j1 k x1 x2 x8 x9 bt159.1 bt159.2.1 bt159.2.2.1 (!t165)))) else (none)) else (spec_StepsDone.j1 k x1 x2 x8 x9 bt159.1 bt159.2.1 bt159.2.2.1 true))) else (spec_StepsDone.j1 k x1 x2 x8 x9 bt159.1 bt159.2.1 bt159.2.2.1 true))) else (none)) else (none)) else (some (x8,true))
def spec_StepsDone.j1:Nat→List ByteArray→Int→List (S64)→Int→ByteArray→ByteArray→Int→Bool→Option ((List (S64))×Bool)
 | 0,_,_,_,_,_,_,_,_=>none
 | k+1,x1,x2,x8,x9,x10,x11,x12,x56=>if x56=true then (some ((([]:List (S64))),false)) else (if 0≤x9 then (if x9<(x1.length:Int) then (if 0<((rdOf ByteArray.empty x1 x9).size:Int) then (if (bt (rdOf ByteArray.empty x1 x9) 0)=62 then ((spec_EntryAt.f k x8 x10).bind fun t170=>(spec_StepsDone.j2 k x1 x2 x8 x9 x10 x11 t170)) else (spec_StepsDone.j2 k x1 x2 x8 x9 x10 x11 x12)) else (none)) else (none)) else (none))
def spec_StepsDone.j2:Nat→List ByteArray→Int→List (S64)→Int→ByteArray→ByteArray→Int→Option ((List (S64))×Bool)
 | 0,_,_,_,_,_,_,_=>none
 | k+1,x1,x2,x8,x9,x10,x11,x12=>if 0≤x9 then (if x9<(x1.length:Int) then (if 0<((rdOf ByteArray.empty x1 x9).size:Int) then (if (bt (rdOf ByteArray.empty x1 x9) 0)=43 then (if (bt (rdOf ByteArray.empty x1 x9) 0)=45 then (spec_StepsDone.l0 k x1 x2 x8 (wrap64 (x9+1))) else ((spec_l06Put.f k x8 x10 x12).bind fun t173=>(spec_StepsDone.l0 k x1 x2 t173 (wrap64 (x9+1))))) else ((spec_l06Drop.f k x8 x10).bind fun t176=>(if (bt (rdOf ByteArray.empty x1 x9) 0)=45 then (spec_StepsDone.l0 k x1 x2 t176 (wrap64 (x9+1))) else ((spec_l06Put.f k t176 x11 x12).bind fun t180=>(spec_StepsDone.l0 k x1 x2 t180 (wrap64 (x9+1))))))) else (none)) else (none)) else (none)
end
def spec_StepsDone.f (k:Nat) (l0:List (S64)) (l1:List ByteArray) (a2:Int):Option ((List (S64))×Bool):=(some (([]:List (S64)):List (S64))).bind fun y151=>(if y151.length+l0.length<5864062014805 then ((spec_Brought.f k a2 0 (l1.length:Int)).bind fun t157=>(spec_StepsDone.l0 k l1 t157 (y151++l0) 0)) else (none))
theorem spec_StepsDone.mono_l:∀ k,(∀ y0 y1 y2 y3,LeO (spec_StepsDone.l0 k y0 y1 y2 y3) (spec_StepsDone.l0 (k+1) y0 y1 y2 y3))∧(∀ y0 y1 y2 y3 y4 y5 y6 y7,LeO (spec_StepsDone.j1 k y0 y1 y2 y3 y4 y5 y6 y7) (spec_StepsDone.j1 (k+1) y0 y1 y2 y3 y4 y5 y6 y7))∧(∀ y0 y1 y2 y3 y4 y5 y6,LeO (spec_StepsDone.j2 k y0 y1 y2 y3 y4 y5 y6) (spec_StepsDone.j2 (k+1) y0 y1 y2 y3 y4 y5 y6))
 | 0=>⟨fun _ _ _ _ r h=>by simp [spec_StepsDone.l0] at h,fun _ _ _ _ _ _ _ _ r h=>by simp [spec_StepsDone.j1] at h,fun _ _ _ _ _ _ _ r h=>by simp [spec_StepsDone.j2] at h⟩
 | k+1=>by
  obtain ⟨ih0,ih1,ih2⟩:=spec_StepsDone.mono_l k
  refine ⟨?_,?_,?_⟩
  ·intro y0 y1 y2 y3
   unfold spec_StepsDone.l0
   repeat' first | (with_reducible exact ih1 _ _ _ _ _ _ _ _) | (with_reducible exact spec_NameOk.mono _ _) | (with_reducible exact spec_l06Has.mono _ _ _) | (with_reducible exact spec_l06Step.mono _ _) | (with_reducible exact LeO.refl _) | (with_reducible refine LeO.ite ?_ ?_) | (with_reducible refine LeO.bind ?_ (fun _=>?_))
  ·intro y0 y1 y2 y3 y4 y5 y6 y7
   unfold spec_StepsDone.j1
   repeat' first | (with_reducible exact ih2 _ _ _ _ _ _ _) | (with_reducible exact spec_EntryAt.mono _ _ _) | (with_reducible exact LeO.refl _) | (with_reducible refine LeO.ite ?_ ?_) | (with_reducible refine LeO.bind ?_ (fun _=>?_))
  ·intro y0 y1 y2 y3 y4 y5 y6
   unfold spec_StepsDone.j2
   repeat' first | (with_reducible exact ih0 _ _ _ _) | (with_reducible exact spec_l06Drop.mono _ _ _) | (with_reducible exact spec_l06Put.mono _ _ _ _) | (with_reducible exact LeO.refl _) | (with_reducible refine LeO.ite ?_ ?_) | (with_reducible refine LeO.bind ?_ (fun _=>?_))
theorem spec_StepsDone.mono:∀ a0 a1 a2 k,LeO (spec_StepsDone.f k a0 a1 a2) (spec_StepsDone.f (k+1) a0 a1 a2):=by
 intro a0 a1 a2 k
 obtain ⟨ih0,ih1,ih2⟩:=spec_StepsDone.mono_l k
 unfold spec_StepsDone.f
 repeat' first | (with_reducible exact ih0 _ _ _ _) | (with_reducible exact spec_Brought.mono _ _ _ _) | (with_reducible exact LeO.refl _) | (with_reducible refine LeO.ite ?_ ?_) | (with_reducible refine LeO.bind ?_ (fun _=>?_))
set_option maxHeartbeats 8000000 in
set_option maxRecDepth 100000 in
theorem spec_StepsDone.calls (k:Nat) (A0:Option Addr) (c0:Nat) (l0:List (S64)) (A1:Option Addr) (c1:Nat) (l1:List ByteArray) (a2:Int) (r1:List (S64)) (r2:Bool) (w:World) (hr0:Kd.C k64 w A0 l0.length l0) (hc0:l0.length≤c0) (hr1:Kd.C Kd.string w A1 l1.length l1) (hc1:l1.length≤c1) (h:spec_StepsDone.f k l0 l1 a2=some (r1,r2)) :
  Calls Tryz.prog 27 #[.slice A0 l0.length c0,.slice A1 l1.length c1,.int .i64 a2] w fun e w'=>∃ v0_:Value,e=.returned (.tuple #[v0_,.bool r2])∧Kd.R k64 64 w' w.heap.size (fun _=>True) v0_ r1∧Below w.heap.size w w':=by
 have HR0:=Aside0.mk hr0
 clear hr0 hc0
 have HR1:=Aside0.mk hr1
 clear hr1 hc1
 have HB:=Aside0.mk (Below.refl w.heap.size w)
 have H:((some (([]:List (S64)):List (S64))).bind fun y151=>(if y151.length+l0.length<5864062014805 then ((spec_Brought.f k a2 0 (l1.length:Int)).bind fun t157=>(spec_StepsDone.l0 k l1 t157 (y151++l0) 0)) else (none)))=some (r1,r2):=h
 clear h
 obtain ⟨y151,hy151⟩:∃ y_:List (S64),y_=(([]:List (S64))):=⟨_,rfl⟩
 replace H:(if y151.length+l0.length<5864062014805 then ((spec_Brought.f k a2 0 (l1.length:Int)).bind fun t157=>(spec_StepsDone.l0 k l1 t157 (y151++l0) 0)) else (none))=some (r1,r2):=by (have H2_:=(Option.bind_some _ _).symm.trans H;rw [hy151];with_reducible exact H2_)
 have Ny151:=Aside0.mk hy151
 clear hy151
 by_cases c4:y151.length+l0.length<5864062014805
 ·rw [if_pos c4] at H
  have LMc4:=Aside0.mk c4
  clear c4
  obtain ⟨y154,hy154⟩:∃ y_:List (S64),y_=(y151++l0):=⟨_,rfl⟩
  replace H:((spec_Brought.f k a2 0 (l1.length:Int)).bind fun t157=>(spec_StepsDone.l0 k l1 t157 y154 0))=some (r1,r2):=by (rw [hy154];with_reducible exact H)
  have Ny154:=Aside0.mk hy154
  clear hy154
  obtain ⟨t157,A5,H⟩:=bA H
  replace H:(spec_StepsDone.l0 k l1 t157 y154 0)=some (r1,r2):=H
  have H':=Aside0.mk H
  clear H
  go_enter Tryz.func27,Tryz.ntmps27
  go_wp2_with (first | ((with_reducible refine gate_dst (N:=14) rfl ?_);refine Kd.R_lit k64 _ 64 ?hg (N:=14) ?hd (xs:=([]:List (S64))) (inner:=[]) (ok:=fun _=>True) (okp:=fun _=>True) ?hr ?hp (fun _ hk=>hk) trivial (Below.refl _ _) (Nat.le_refl _) (by simp) ?_;(case hd=>rfl);(case hg=>rfl);(case hr=>(go_simp;done));(case hp=>exact (Reps.none _ _));intro v152 w6 ho7 hb hg_ hnew_;clear hg_ hnew_;(rw [← Ny151.out] at ho7);have HO153:=Aside0.mk (Kd.R_lower ho7 (below_size HB.out));replace HB:=Aside0.mk (below_step HB.out hb);clear hb ho7) | ((with_reducible refine gate_builtin (b:=.append) (xs:=#[.tmp 14,.tmp 15]) rfl ?_);at_builtin;refine Kd.R_append_rows k64 (w0:=w) w.heap.size rfl (.tmp 14) (.tmp 15) 25 64 (.agg #[(.string ⟨#[]⟩),(.int .i64 0)]) 24 rfl Tryz.underlying25 info64 rfl (by decide) (by omega) v152 y151 l0 _ _ _ (fun _=>True) (fun _=>False) rfl rfl ?aO ?aR (fun _ _ h=>h) (fun _ h=>h.elim) ?aF ?aB ?aS ?aL ?_;(case aR=>repeat (exact (Kd.C_below HR0.out HB.out)));(case aB=>exact HB.out);(case aF=>exact (fun _ _=>trivial));(case aO=>exact HO153.out);(case aS=>exact (below_size HB.out));(case aL=>have:=LMc4.out;omega);intro v155 w8 ho hb hg hat;rw [← Ny154.out] at ho;have HO156:=Aside0.mk (ho);replace HB:=Aside0.mk (hb);clear HO153;clear ho hb hg hat) | ((with_reducible refine gate_callee (f:=66) rfl ?_);refine goesL_ (some 20) rfl rfl Tryz.func66 (by kernel_rfl) rfl #[.int .i64 a2,.int .i64 0,.int .i64 (l1.length:Int)] rfl (by (try simp only [List.map_toArray,List.map_cons,List.map_nil]);rfl) ?_;(with_reducible refine (spec_Brought.calls k a2 0 (l1.length:Int) t157 _ A5.out).mono ?_);rintro e w' ⟨rfl,⟨nd,rfl⟩⟩;refine ⟨_,rfl,?_⟩))
  go_loopg [8,9] k (fun kq v8 v9 w'=>∃ (x8_1:List (S64)) (x9_1:Int),v9=.int .i64 x9_1∧Aside0 (spec_StepsDone.l0 kq l1 t157 x8_1 x9_1=some (r1,r2))∧Aside0 (kq≤k)∧Aside0 (Kd.R k64 64 w' w.heap.size (fun _=>True) v8 x8_1)∧Aside0 (Below w.heap.size w w'))
  case atStart=>exact ⟨(y154),(0),(by rfl),H',⟨Nat.le_refl _⟩,⟨by (with_reducible repeat (apply Kd.R_drewN));exact HO156.out⟩,⟨by repeat (with_reducible first | exact HB.out | apply pw_below_drewN)⟩⟩
  case round=>
   clear H'
   try clear c1
   try clear c2
   try clear p2
   try clear c4
   try clear c6
   try clear p6
   obtain ⟨x8_1,x9_1,rfl,HA,HK1,HO_8,HB⟩:=hrel
   cases gk with
   | zero=>exact absurd HA.out (by simp [spec_StepsDone.l0])
   | succ k1=>
    have H:=HA.out
    clear HA
    simp only [spec_StepsDone.l0] at H
    by_cases c9:x9_1<t157
    ·rw [if_pos c9] at H
     have c9b0:decide (x9_1<t157)=true:=decide_eq_true c9
     clear c9
     by_cases c10:0≤x9_1
     ·rw [if_pos c10] at H
      have c10b0:decide (0≤x9_1)=true:=decide_eq_true c10
      clear c10
      by_cases c11:x9_1<(l1.length:Int)
      ·rw [if_pos c11] at H
       have c11b0:decide (x9_1<(l1.length:Int))=true:=decide_eq_true c11
       clear c11
       obtain ⟨⟨t159,t160,t161,t162⟩,A12,H⟩:=bA H
       replace H:(if t162=true then ((spec_NameOk.f k1 t159).bind fun t163=>(if t163=true then (if 0<((rdOf ByteArray.empty l1 x9_1).size:Int) then (if (bt (rdOf ByteArray.empty l1 x9_1) 0)=43 then (spec_StepsDone.j1 k1 l1 t157 x8_1 x9_1 t159 t160 t161 false) else ((spec_l06Has.f k1 x8_1 t159).bind fun t165=>(spec_StepsDone.j1 k1 l1 t157 x8_1 x9_1 t159 t160 t161 (!t165)))) else (none)) else (spec_StepsDone.j1 k1 l1 t157 x8_1 x9_1 t159 t160 t161 true))) else (spec_StepsDone.j1 k1 l1 t157 x8_1 x9_1 t159 t160 t161 true))=some (r1,r2):=H
       have HC13:=Aside0.mk H
       clear H
       have p158:0≤(x9_1:Int):=of_decide_eq_true (by (with_reducible assumption))
       have q158:x9_1<(l1.length:Int):=of_decide_eq_true (by (with_reducible assumption))
       obtain ⟨ad158,e158,hx158_0⟩:=Kd.at_string HR1.out x9_1 p158 q158
       cases e158
       replace hx158_0:=(HB.out.cell (World.block_lt_of_cell? w _ hx158_0)).trans hx158_0
       replace p158:=eq_true p158
       replace q158:=eq_true q158
       go_upto_region 7 with (((with_reducible refine gate_callee (f:=67) rfl ?_);refine goesL_ (some 31) rfl rfl Tryz.func67 (by kernel_rfl) rfl #[.string (rdOf ByteArray.empty l1 x9_1)] rfl (by (try simp only [List.map_toArray,List.map_cons,List.map_nil]);rfl) ?_;(with_reducible refine (spec_l06Step.calls k1 (rdOf ByteArray.empty l1 x9_1) t159 t160 t161 t162 _ A12.out).mono ?_);rintro e w14 ⟨rfl,hb⟩;refine ⟨_,rfl,?_⟩;replace HO_8:=Aside0.mk (Kd.R_below HO_8.out hb);replace HB:=Aside0.mk (below_step HB.out hb);(try clear hb)))
       (try simp only [Act.put,List.setIfInBounds_toArray,List.set_cons_zero,List.set_cons_succ])
       go_cut [56] (fun v56 wc=>∃ (kq:Nat) (x56_12:Bool),v56=.bool x56_12∧Aside0 (spec_StepsDone.j1 kq l1 t157 x8_1 x9_1 t159 t160 t161 x56_12=some (r1,r2))∧Aside0 (kq≤k1)∧Aside0 (Kd.R k64 64 wc w.heap.size (fun _=>True) u8 x8_1)∧Aside0 (Below w.heap.size w wc))
       case first=>
        have H:=HC13.out
        clear HC13
        by_cases c15:t162=true
        ·subst c15
         have H1:((spec_NameOk.f k1 t159).bind fun t163=>(if t163=true then (if 0<((rdOf ByteArray.empty l1 x9_1).size:Int) then (if (bt (rdOf ByteArray.empty l1 x9_1) 0)=43 then (spec_StepsDone.j1 k1 l1 t157 x8_1 x9_1 t159 t160 t161 false) else ((spec_l06Has.f k1 x8_1 t159).bind fun t165=>(spec_StepsDone.j1 k1 l1 t157 x8_1 x9_1 t159 t160 t161 (!t165)))) else (none)) else (spec_StepsDone.j1 k1 l1 t157 x8_1 x9_1 t159 t160 t161 true)))=some (r1,r2):=by rw [if_pos rfl] at H;exact H
         clear H
         have H:=H1
         clear H1
         obtain ⟨t163,A16,H⟩:=bA H
         replace H:(if t163=true then (if 0<((rdOf ByteArray.empty l1 x9_1).size:Int) then (if (bt (rdOf ByteArray.empty l1 x9_1) 0)=43 then (spec_StepsDone.j1 k1 l1 t157 x8_1 x9_1 t159 t160 t161 false) else ((spec_l06Has.f k1 x8_1 t159).bind fun t165=>(spec_StepsDone.j1 k1 l1 t157 x8_1 x9_1 t159 t160 t161 (!t165)))) else (none)) else (spec_StepsDone.j1 k1 l1 t157 x8_1 x9_1 t159 t160 t161 true))=some (r1,r2):=H
         by_cases c17:t163=true
         ·subst c17
          have H1:(if 0<((rdOf ByteArray.empty l1 x9_1).size:Int) then (if (bt (rdOf ByteArray.empty l1 x9_1) 0)=43 then (spec_StepsDone.j1 k1 l1 t157 x8_1 x9_1 t159 t160 t161 false) else ((spec_l06Has.f k1 x8_1 t159).bind fun t165=>(spec_StepsDone.j1 k1 l1 t157 x8_1 x9_1 t159 t160 t161 (!t165)))) else (none))=some (r1,r2):=by rw [if_pos rfl] at H;exact H
          clear H
          have H:=H1
          clear H1
          by_cases c18:0<((rdOf ByteArray.empty l1 x9_1).size:Int)
          ·rw [if_pos c18] at H
           have c18b0:decide (0<((rdOf ByteArray.empty l1 x9_1).size:Int))=true:=decide_eq_true c18
           clear c18
           (skip)
           by_cases c20:(bt (rdOf ByteArray.empty l1 x9_1) 0)=43
           ·rw [if_pos c20] at H
            have c20b1:((bt (rdOf ByteArray.empty l1 x9_1) 0) != 43)=false:=bne_eq_false_iff_eq.mpr c20
            clear c20
            have H':=Aside0.mk H
            clear H
            go_wp2_with ((go_at_call 58;(with_reducible refine (spec_NameOk.calls k1 t159 true _ A16.out).mono ?_);rintro e w' ⟨rfl,⟨nd,rfl⟩⟩;have p164:0≤(x9_1:Int):=of_decide_eq_true (by (with_reducible assumption));have q164:x9_1<(l1.length:Int):=of_decide_eq_true (by (with_reducible assumption));obtain ⟨ad164,e164,hx164_0⟩:=Kd.at_string HR1.out x9_1 p164 q164;obtain rfl:ad158=ad164:=(by injection e164);replace hx164_0:=(HB.out.cell (World.block_lt_of_cell? w _ hx164_0)).trans hx164_0;replace p164:=eq_true p164;replace q164:=eq_true q164;have q19:0<(rdOf ByteArray.empty l1 x9_1).size:=(by have:(0:Int)<((rdOf ByteArray.empty l1 x9_1).size:Int):=of_decide_eq_true (by (with_reducible assumption));omega);have hx19:∀ h:0<(rdOf ByteArray.empty l1 x9_1).size,(((rdOf ByteArray.empty l1 x9_1)[0]'h).toNat:Int)=bt (rdOf ByteArray.empty l1 x9_1) 0:=bt_at (rdOf ByteArray.empty l1 x9_1) 0;replace q19:=eq_true q19))
            go_meet
            case rel=>exact ⟨_,(false),(by rfl),H',⟨by have:=HK1.out;omega⟩,⟨by (with_reducible repeat (apply Kd.R_drewN));exact HO_8.out⟩,⟨by repeat (with_reducible first | exact HB.out | apply pw_below_drewN)⟩⟩
           ·rw [if_neg c20] at H
            have c20b1:((bt (rdOf ByteArray.empty l1 x9_1) 0) != 43)=true:=bne_iff_ne.mpr c20
            obtain ⟨t165,A21,H⟩:=bA H
            replace H:(spec_StepsDone.j1 k1 l1 t157 x8_1 x9_1 t159 t160 t161 (!t165))=some (r1,r2):=H
            have H':=Aside0.mk H
            clear H
            go_wp2_with (first | (go_at_call 58;(with_reducible refine (spec_NameOk.calls k1 t159 true _ A16.out).mono ?_);rintro e w' ⟨rfl,⟨nd,rfl⟩⟩;have p164:0≤(x9_1:Int):=of_decide_eq_true (by (with_reducible assumption));have q164:x9_1<(l1.length:Int):=of_decide_eq_true (by (with_reducible assumption));obtain ⟨ad164,e164,hx164_0⟩:=Kd.at_string HR1.out x9_1 p164 q164;obtain rfl:ad158=ad164:=(by injection e164);replace hx164_0:=(HB.out.cell (World.block_lt_of_cell? w _ hx164_0)).trans hx164_0;replace p164:=eq_true p164;replace q164:=eq_true q164;have q19:0<(rdOf ByteArray.empty l1 x9_1).size:=(by have:(0:Int)<((rdOf ByteArray.empty l1 x9_1).size:Int):=of_decide_eq_true (by (with_reducible assumption));omega);have hx19:∀ h:0<(rdOf ByteArray.empty l1 x9_1).size,(((rdOf ByteArray.empty l1 x9_1)[0]'h).toNat:Int)=bt (rdOf ByteArray.empty l1 x9_1) 0:=bt_at (rdOf ByteArray.empty l1 x9_1) 0;replace q19:=eq_true q19;obtain ⟨Ao22,co22,eo22⟩:=Kd.R_slice HO_8.out;subst eo22) | (go_at_call 57;(with_reducible refine (spec_l06Has.calls k1 _ _ x8_1 t159 t165 _ ?side1 ?side2 A21.out).mono ?_);(case side1=>repeat (exact (Kd.R_reads' HO_8.out).2.2));(case side2=>exact (Kd.R_reads' HO_8.out).2.1);rintro e w' ⟨rfl,⟨nd,rfl⟩⟩))
            go_meet
            case rel=>exact ⟨_,(!t165),(by rfl),H',⟨by have:=HK1.out;omega⟩,⟨by (with_reducible repeat (apply Kd.R_drewN));exact HO_8.out⟩,⟨by repeat (with_reducible first | exact HB.out | apply pw_below_drewN)⟩⟩
          ·rw [if_neg c18] at H
           exact absurd H (by simp)
         ·replace c17:=Bool.eq_false_iff.mpr c17
          subst c17
          have H1:(spec_StepsDone.j1 k1 l1 t157 x8_1 x9_1 t159 t160 t161 true)=some (r1,r2):=by rw [if_neg (show ¬ (false=true) by decide)] at H;exact H
          clear H
          have H:=H1
          clear H1
          have H':=Aside0.mk H
          clear H
          go_wp2_with ((go_at_call 58;(with_reducible refine (spec_NameOk.calls k1 t159 false _ A16.out).mono ?_);rintro e w' ⟨rfl,⟨nd,rfl⟩⟩))
          go_meet
          case rel=>exact ⟨_,(true),(by rfl),H',⟨by have:=HK1.out;omega⟩,⟨by (with_reducible repeat (apply Kd.R_drewN));exact HO_8.out⟩,⟨by repeat (with_reducible first | exact HB.out | apply pw_below_drewN)⟩⟩
        ·replace c15:=Bool.eq_false_iff.mpr c15
         subst c15
         have H1:(spec_StepsDone.j1 k1 l1 t157 x8_1 x9_1 t159 t160 t161 true)=some (r1,r2):=by rw [if_neg (show ¬ (false=true) by decide)] at H;exact H
         clear H
         have H:=H1
         clear H1
         have H':=Aside0.mk H
         clear H
         go_wp2
         go_meet
         case rel=>exact ⟨_,(true),(by rfl),H',⟨by have:=HK1.out;omega⟩,⟨by exact HO_8.out⟩,⟨by repeat (with_reducible exact HB.out)⟩⟩
       case rest=>
        clear HC13
        try clear c1
        try clear p1
        try clear q1
        try clear hx1
        try clear qi1
        try clear c2
        try clear p2
        try clear c4
        try clear c6
        try clear p6
        try clear c9
        try clear c9b0
        try clear c10
        try clear c10b0
        try clear c11
        try clear c11b0
        try clear c15
        try clear p15
        try clear q15
        try clear hx15
        try clear p16
        try clear q16
        try clear hx16
        try clear c17
        try clear c18
        try clear c18b0
        try skip
        try skip
        try clear q19
        try clear hx19
        try skip
        try clear c20
        try skip
        try clear c20b1
        try clear hx158_0
        try clear hx164_0
        try clear p158
        try clear p164
        try skip
        try clear p2
        try clear p6
        try clear q158
        try clear q164
        try clear q19
        obtain ⟨kq,x56_12,rfl,HA,HJ12,HO_8,HB⟩:=hcut
        cases kq with
        | zero=>exact absurd HA.out (by simp [spec_StepsDone.j1])
        | succ kj12=>
         have H:=HA.out
         clear HA
         simp only [spec_StepsDone.j1] at H
         by_cases c23:x56_12=true
         ·subst c23
          have H1:(some ((([]:List (S64))),false))=some (r1,r2):=by rw [if_pos rfl] at H;exact H
          clear H
          have H:=H1
          clear H1
          obtain ⟨y166,hy166⟩:∃ y_:List (S64),y_=(([]:List (S64))):=⟨_,rfl⟩
          replace H:(some (y166,false))=some (r1,r2):=by (rw [hy166];with_reducible exact H)
          have Ny166:=Aside0.mk hy166
          clear hy166
          simp only [Option.some.injEq,Prod.mk.injEq] at H
          obtain ⟨rfl,rfl⟩:=H
          go_wp2_with (((with_reducible refine gate_dst (N:=57) rfl ?_);refine Kd.R_lit k64 _ 64 ?hg (N:=57) ?hd (xs:=([]:List (S64))) (inner:=[]) (ok:=fun _=>True) (okp:=fun _=>True) ?hr ?hp (fun _ hk=>hk) trivial (Below.refl _ _) (Nat.le_refl _) (by simp) ?_;(case hd=>rfl);(case hg=>rfl);(case hr=>(go_simp;done));(case hp=>exact (Reps.none _ _));intro v167 w24 ho25 hb hg_ hnew_;clear hg_ hnew_;(rw [← Ny166.out] at ho25);have HO168:=Aside0.mk (Kd.R_lower (Kd.R_new' ho25 (Kd.R_lt HO_8.out)) (below_size HB.out));replace HO_8:=Aside0.mk (Kd.R_elder' HO_8.out (Kd.R_base ho25) hb);replace HB:=Aside0.mk (below_step HB.out hb);clear hb ho25))
          all_goals (go_ret2)
          all_goals exact ⟨_,by rfl,by exact Kd.R_mono HO168.out (fun _ hk=>trivial),by repeat (with_reducible exact HB.out)⟩
         ·replace c23:=Bool.eq_false_iff.mpr c23
          subst c23
          have H1:(if 0≤x9_1 then (if x9_1<(l1.length:Int) then (if 0<((rdOf ByteArray.empty l1 x9_1).size:Int) then (if (bt (rdOf ByteArray.empty l1 x9_1) 0)=62 then ((spec_EntryAt.f kj12 x8_1 t159).bind fun t170=>(spec_StepsDone.j2 kj12 l1 t157 x8_1 x9_1 t159 t160 t170)) else (spec_StepsDone.j2 kj12 l1 t157 x8_1 x9_1 t159 t160 t161)) else (none)) else (none)) else (none))=some (r1,r2):=by rw [if_neg (show ¬ (false=true) by decide)] at H;exact H
          clear H
          have H:=H1
          clear H1
          by_cases c26:0≤x9_1
          ·rw [if_pos c26] at H
           have c26b0:decide (0≤x9_1)=true:=decide_eq_true c26
           clear c26
           by_cases c27:x9_1<(l1.length:Int)
           ·rw [if_pos c27] at H
            have c27b0:decide (x9_1<(l1.length:Int))=true:=decide_eq_true c27
            clear c27
            by_cases c28:0<((rdOf ByteArray.empty l1 x9_1).size:Int)
            ·rw [if_pos c28] at H
             have c28b0:decide (0<((rdOf ByteArray.empty l1 x9_1).size:Int))=true:=decide_eq_true c28
             clear c28
             have HC30:=Aside0.mk H
             clear H
             have p169:0≤(x9_1:Int):=of_decide_eq_true (by (with_reducible assumption))
             have q169:x9_1<(l1.length:Int):=of_decide_eq_true (by (with_reducible assumption))
             obtain ⟨ad169,e169,hx169_0⟩:=Kd.at_string HR1.out x9_1 p169 q169
             obtain rfl:ad158=ad169:=(by injection e169)
             replace hx169_0:=(HB.out.cell (World.block_lt_of_cell? w _ hx169_0)).trans hx169_0
             replace p169:=eq_true p169
             replace q169:=eq_true q169
             have q29:0<(rdOf ByteArray.empty l1 x9_1).size:=(by have:(0:Int)<((rdOf ByteArray.empty l1 x9_1).size:Int):=of_decide_eq_true (by (with_reducible assumption));omega)
             have hx29:∀ h:0<(rdOf ByteArray.empty l1 x9_1).size,(((rdOf ByteArray.empty l1 x9_1)[0]'h).toNat:Int)=bt (rdOf ByteArray.empty l1 x9_1) 0:=bt_at (rdOf ByteArray.empty l1 x9_1) 0
             replace q29:=eq_true q29
             go_upto_if 63 with (fail)
             go_cut [12] (fun v12 wc=>∃ (kq:Nat) (x12_29:Int),v12=.int .i64 x12_29∧Aside0 (spec_StepsDone.j2 kq l1 t157 x8_1 x9_1 t159 t160 x12_29=some (r1,r2))∧Aside0 (kq≤kj12)∧Aside0 (Kd.R k64 64 wc w.heap.size (fun _=>True) u8 x8_1)∧Aside0 (Below w.heap.size w wc))
             case first=>
              have H:=HC30.out
              clear HC30
              by_cases c31:(bt (rdOf ByteArray.empty l1 x9_1) 0)=62
              ·rw [if_pos c31] at H
               have c31b0:((bt (rdOf ByteArray.empty l1 x9_1) 0) == 62)=true:=beq_iff_eq.mpr c31
               clear c31
               (rw [c31b0])
               obtain ⟨t170,A32,H⟩:=bA H
               replace H:(spec_StepsDone.j2 kj12 l1 t157 x8_1 x9_1 t159 t160 t170)=some (r1,r2):=H
               have H':=Aside0.mk H
               clear H
               obtain ⟨Ao33,co33,eo33⟩:=Kd.R_slice HO_8.out
               subst eo33
               go_wp2_with (((with_reducible refine gate_callee (f:=59) rfl ?_);refine goesL_ (some 66) rfl rfl Tryz.func59 (by kernel_rfl) rfl #[.slice Ao33 x8_1.length co33,.string t159] rfl (by (try simp only [List.map_toArray,List.map_cons,List.map_nil]);rfl) ?_;(with_reducible refine (spec_EntryAt.calls kj12 _ _ x8_1 t159 t170 _ ?side1 ?side2 A32.out).mono ?_);(case side1=>repeat (exact (Kd.R_reads' HO_8.out).2.2));(case side2=>exact (Kd.R_reads' HO_8.out).2.1);rintro e w' ⟨rfl,⟨nd,rfl⟩⟩;refine ⟨_,rfl,?_⟩))
               go_meet
               case rel=>exact ⟨_,(t170),(by rfl),H',⟨by have:=HK1.out;have:=HJ12.out;omega⟩,⟨by (with_reducible repeat (apply Kd.R_drewN));exact HO_8.out⟩,⟨by repeat (with_reducible first | exact HB.out | apply pw_below_drewN)⟩⟩
              ·rw [if_neg c31] at H
               have c31b0:((bt (rdOf ByteArray.empty l1 x9_1) 0) == 62)=false:=beq_eq_false_iff_ne.mpr c31
               (rw [c31b0])
               have H':=Aside0.mk H
               clear H
               go_wp2
               go_meet
               case rel=>exact ⟨_,(t161),(by rfl),H',⟨by have:=HK1.out;have:=HJ12.out;omega⟩,⟨by exact HO_8.out⟩,⟨by repeat (with_reducible exact HB.out)⟩⟩
             case rest=>
              clear HC30
              try clear c1
              try clear p1
              try clear q1
              try clear hx1
              try clear qi1
              try clear c2
              try clear p2
              try clear q2
              try clear hx2
              try clear qi2
              try clear c3
              try clear c4
              try clear c5
              try clear c6
              try clear p6
              try clear c9
              try clear c9b0
              try clear c10
              try clear c10b0
              try clear c11
              try clear c11b0
              try clear c15
              try clear p15
              try clear q15
              try clear hx15
              try clear p16
              try clear q16
              try clear hx16
              try clear c17
              try clear c18
              try clear c18b0
              try skip
              try skip
              try clear q19
              try clear hx19
              try skip
              try clear c20
              try skip
              try clear c20b1
              try clear c23
              try clear c26
              try clear c26b0
              try clear c27
              try clear c27b0
              try clear c28
              try clear c28b0
              try skip
              try skip
              try clear q29
              try clear hx29
              try skip
              try clear c31
              try clear c31b0
              try skip
              try clear hx158_0
              try clear hx164_0
              try clear hx169_0
              try clear p1
              try clear p15
              try clear p158
              try clear p16
              try clear p164
              try clear p169
              try skip
              try clear p2
              try skip
              try clear p6
              try clear q1
              try clear q15
              try clear q158
              try clear q16
              try clear q164
              try clear q169
              try clear q19
              try clear q29
              obtain ⟨kq,x12_29,rfl,HA,HJ29,HO_8,HB⟩:=hcut
              cases kq with
              | zero=>exact absurd HA.out (by simp [spec_StepsDone.j2])
              | succ kj29=>
               have H:=HA.out
               clear HA
               simp only [spec_StepsDone.j2] at H
               by_cases c34:0≤x9_1
               ·rw [if_pos c34] at H
                have c34b0:decide (0≤x9_1)=true:=decide_eq_true c34
                clear c34
                by_cases c35:x9_1<(l1.length:Int)
                ·rw [if_pos c35] at H
                 have c35b0:decide (x9_1<(l1.length:Int))=true:=decide_eq_true c35
                 clear c35
                 by_cases c36:0<((rdOf ByteArray.empty l1 x9_1).size:Int)
                 ·rw [if_pos c36] at H
                  have c36b0:decide (0<((rdOf ByteArray.empty l1 x9_1).size:Int))=true:=decide_eq_true c36
                  clear c36
                  by_cases c38:(bt (rdOf ByteArray.empty l1 x9_1) 0)=43
                  ·rw [if_pos c38] at H
                   have c38b1:((bt (rdOf ByteArray.empty l1 x9_1) 0) != 43)=false:=bne_eq_false_iff_eq.mpr c38
                   clear c38
                   by_cases c40:(bt (rdOf ByteArray.empty l1 x9_1) 0)=45
                   ·rw [if_pos c40] at H
                    have c40b1:((bt (rdOf ByteArray.empty l1 x9_1) 0) != 45)=false:=bne_eq_false_iff_eq.mpr c40
                    clear c40
                    have H':=Aside0.mk H
                    clear H
                    have p171:0≤(x9_1:Int):=of_decide_eq_true (by (with_reducible assumption))
                    have q171:x9_1<(l1.length:Int):=of_decide_eq_true (by (with_reducible assumption))
                    obtain ⟨ad171,e171,hx171_0⟩:=Kd.at_string HR1.out x9_1 p171 q171
                    obtain rfl:ad158=ad171:=(by injection e171)
                    replace hx171_0:=(HB.out.cell (World.block_lt_of_cell? w _ hx171_0)).trans hx171_0
                    replace p171:=eq_true p171
                    replace q171:=eq_true q171
                    have q37:0<(rdOf ByteArray.empty l1 x9_1).size:=(by have:(0:Int)<((rdOf ByteArray.empty l1 x9_1).size:Int):=of_decide_eq_true (by (with_reducible assumption));omega)
                    have hx37:∀ h:0<(rdOf ByteArray.empty l1 x9_1).size,(((rdOf ByteArray.empty l1 x9_1)[0]'h).toNat:Int)=bt (rdOf ByteArray.empty l1 x9_1) 0:=bt_at (rdOf ByteArray.empty l1 x9_1) 0
                    replace q37:=eq_true q37
                    have p172:0≤(x9_1:Int):=of_decide_eq_true (by (with_reducible assumption))
                    have q172:x9_1<(l1.length:Int):=of_decide_eq_true (by (with_reducible assumption))
                    obtain ⟨ad172,e172,hx172_0⟩:=Kd.at_string HR1.out x9_1 p172 q172
                    obtain rfl:ad158=ad172:=(by injection e172)
                    replace hx172_0:=(HB.out.cell (World.block_lt_of_cell? w _ hx172_0)).trans hx172_0
                    replace p172:=eq_true p172
                    replace q172:=eq_true q172
                    go_wp2
                    go_roundg kj29
                    case measure=>have:=HK1.out;have:=HJ12.out;have:=HJ29.out;omega
                    case rel=>exact ⟨(x8_1),(wrap64 (x9_1+1)),(by rfl),H',⟨by have:=HK1.out;have:=HJ12.out;have:=HJ29.out;omega⟩,⟨by exact HO_8.out⟩,⟨by repeat (with_reducible exact HB.out)⟩⟩
                   ·rw [if_neg c40] at H
                    have c40b1:((bt (rdOf ByteArray.empty l1 x9_1) 0) != 45)=true:=bne_iff_ne.mpr c40
                    obtain ⟨t173,A41,H⟩:=bA H
                    replace H:(spec_StepsDone.l0 kj29 l1 t157 t173 (wrap64 (x9_1+1)))=some (r1,r2):=H
                    have H':=Aside0.mk H
                    clear H
                    have p171:0≤(x9_1:Int):=of_decide_eq_true (by (with_reducible assumption))
                    have q171:x9_1<(l1.length:Int):=of_decide_eq_true (by (with_reducible assumption))
                    obtain ⟨ad171,e171,hx171_0⟩:=Kd.at_string HR1.out x9_1 p171 q171
                    obtain rfl:ad158=ad171:=(by injection e171)
                    replace hx171_0:=(HB.out.cell (World.block_lt_of_cell? w _ hx171_0)).trans hx171_0
                    replace p171:=eq_true p171
                    replace q171:=eq_true q171
                    have q37:0<(rdOf ByteArray.empty l1 x9_1).size:=(by have:(0:Int)<((rdOf ByteArray.empty l1 x9_1).size:Int):=of_decide_eq_true (by (with_reducible assumption));omega)
                    have hx37:∀ h:0<(rdOf ByteArray.empty l1 x9_1).size,(((rdOf ByteArray.empty l1 x9_1)[0]'h).toNat:Int)=bt (rdOf ByteArray.empty l1 x9_1) 0:=bt_at (rdOf ByteArray.empty l1 x9_1) 0
                    replace q37:=eq_true q37
                    have p172:0≤(x9_1:Int):=of_decide_eq_true (by (with_reducible assumption))
                    have q172:x9_1<(l1.length:Int):=of_decide_eq_true (by (with_reducible assumption))
                    obtain ⟨ad172,e172,hx172_0⟩:=Kd.at_string HR1.out x9_1 p172 q172
                    obtain rfl:ad158=ad172:=(by injection e172)
                    replace hx172_0:=(HB.out.cell (World.block_lt_of_cell? w _ hx172_0)).trans hx172_0
                    replace p172:=eq_true p172
                    replace q172:=eq_true q172
                    obtain ⟨Ao42,co42,eo42⟩:=Kd.R_slice HO_8.out
                    subst eo42
                    go_wp2_with (((with_reducible refine gate_callee (f:=60) rfl ?_);refine goesL_ (some 87) rfl rfl Tryz.func60 (by kernel_rfl) rfl #[.slice Ao42 x8_1.length co42,.agg #[.string t159,.int .i64 x12_29]] rfl (by (try simp only [List.map_toArray,List.map_cons,List.map_nil]);rfl) ?_;(with_reducible refine (spec_l06Put.calls kj29 _ _ x8_1 t159 x12_29 t173 _ ?side1 ?side2 A41.out).mono ?_);(case side1=>repeat (exact (Kd.R_reads' HO_8.out).2.2));(case side2=>exact (Kd.R_reads' HO_8.out).2.1);rintro e w43 ⟨v174,rfl,ho0,hb⟩;refine ⟨_,rfl,?_⟩;have HO175:=Aside0.mk (Kd.R_lower (Kd.R_new' ho0 (Kd.R_lt HO_8.out)) (below_size HB.out));replace HO_8:=Aside0.mk (Kd.R_elder' HO_8.out (Kd.R_base ho0) hb);replace HB:=Aside0.mk (below_step HB.out hb);(try clear hb);(try clear ho0)))
                    go_roundg kj29
                    case measure=>have:=HK1.out;have:=HJ12.out;have:=HJ29.out;omega
                    case rel=>exact ⟨(t173),(wrap64 (x9_1+1)),(by rfl),H',⟨by have:=HK1.out;have:=HJ12.out;have:=HJ29.out;omega⟩,⟨by exact Kd.R_mono HO175.out (fun _ hk=>trivial)⟩,⟨by repeat (with_reducible exact HB.out)⟩⟩
                  ·rw [if_neg c38] at H
                   have c38b1:((bt (rdOf ByteArray.empty l1 x9_1) 0) != 43)=true:=bne_iff_ne.mpr c38
                   obtain ⟨t176,A44,H⟩:=bA H
                   replace H:(if (bt (rdOf ByteArray.empty l1 x9_1) 0)=45 then (spec_StepsDone.l0 kj29 l1 t157 t176 (wrap64 (x9_1+1))) else ((spec_l06Put.f kj29 t176 t160 x12_29).bind fun t180=>(spec_StepsDone.l0 kj29 l1 t157 t180 (wrap64 (x9_1+1)))))=some (r1,r2):=H
                   by_cases c46:(bt (rdOf ByteArray.empty l1 x9_1) 0)=45
                   ·rw [if_pos c46] at H
                    have c46b1:((bt (rdOf ByteArray.empty l1 x9_1) 0) != 45)=false:=bne_eq_false_iff_eq.mpr c46
                    clear c46
                    have H':=Aside0.mk H
                    clear H
                    have p171:0≤(x9_1:Int):=of_decide_eq_true (by (with_reducible assumption))
                    have q171:x9_1<(l1.length:Int):=of_decide_eq_true (by (with_reducible assumption))
                    obtain ⟨ad171,e171,hx171_0⟩:=Kd.at_string HR1.out x9_1 p171 q171
                    obtain rfl:ad158=ad171:=(by injection e171)
                    replace hx171_0:=(HB.out.cell (World.block_lt_of_cell? w _ hx171_0)).trans hx171_0
                    replace p171:=eq_true p171
                    replace q171:=eq_true q171
                    have q37:0<(rdOf ByteArray.empty l1 x9_1).size:=(by have:(0:Int)<((rdOf ByteArray.empty l1 x9_1).size:Int):=of_decide_eq_true (by (with_reducible assumption));omega)
                    have hx37:∀ h:0<(rdOf ByteArray.empty l1 x9_1).size,(((rdOf ByteArray.empty l1 x9_1)[0]'h).toNat:Int)=bt (rdOf ByteArray.empty l1 x9_1) 0:=bt_at (rdOf ByteArray.empty l1 x9_1) 0
                    replace q37:=eq_true q37
                    obtain ⟨Ao47,co47,eo47⟩:=Kd.R_slice HO_8.out
                    subst eo47
                    go_wp2_with (((with_reducible refine gate_callee (f:=61) rfl ?_);refine goesL_ (some 75) rfl rfl Tryz.func61 (by kernel_rfl) rfl #[.slice Ao47 x8_1.length co47,.string t159] rfl (by (try simp only [List.map_toArray,List.map_cons,List.map_nil]);rfl) ?_;(with_reducible refine (spec_l06Drop.calls kj29 _ _ x8_1 t159 t176 _ ?side1 ?side2 A44.out).mono ?_);(case side1=>repeat (exact (Kd.R_reads' HO_8.out).2.2));(case side2=>exact (Kd.R_reads' HO_8.out).2.1);rintro e w48 ⟨v177,rfl,ho0,hb⟩;refine ⟨_,rfl,?_⟩;have HO178:=Aside0.mk (Kd.R_lower (Kd.R_new' ho0 (Kd.R_lt HO_8.out)) (below_size HB.out));replace HO_8:=Aside0.mk (Kd.R_elder' HO_8.out (Kd.R_base ho0) hb);replace HB:=Aside0.mk (below_step HB.out hb);(try clear hb);(try clear ho0);have p179:0≤(x9_1:Int):=of_decide_eq_true (by (with_reducible assumption));have q179:x9_1<(l1.length:Int):=of_decide_eq_true (by (with_reducible assumption));obtain ⟨ad179,e179,hx179_0⟩:=Kd.at_string HR1.out x9_1 p179 q179;obtain rfl:ad158=ad179:=(by injection e179);replace hx179_0:=(HB.out.cell (World.block_lt_of_cell? w _ hx179_0)).trans hx179_0;replace p179:=eq_true p179;replace q179:=eq_true q179;skip))
                    go_roundg kj29
                    case measure=>have:=HK1.out;have:=HJ12.out;have:=HJ29.out;omega
                    case rel=>exact ⟨(t176),(wrap64 (x9_1+1)),(by rfl),H',⟨by have:=HK1.out;have:=HJ12.out;have:=HJ29.out;omega⟩,⟨by exact Kd.R_mono HO178.out (fun _ hk=>trivial)⟩,⟨by repeat (with_reducible exact HB.out)⟩⟩
                   ·rw [if_neg c46] at H
                    have c46b1:((bt (rdOf ByteArray.empty l1 x9_1) 0) != 45)=true:=bne_iff_ne.mpr c46
                    obtain ⟨t180,A49,H⟩:=bA H
                    replace H:(spec_StepsDone.l0 kj29 l1 t157 t180 (wrap64 (x9_1+1)))=some (r1,r2):=H
                    have H':=Aside0.mk H
                    clear H
                    have p171:0≤(x9_1:Int):=of_decide_eq_true (by (with_reducible assumption))
                    have q171:x9_1<(l1.length:Int):=of_decide_eq_true (by (with_reducible assumption))
                    obtain ⟨ad171,e171,hx171_0⟩:=Kd.at_string HR1.out x9_1 p171 q171
                    obtain rfl:ad158=ad171:=(by injection e171)
                    replace hx171_0:=(HB.out.cell (World.block_lt_of_cell? w _ hx171_0)).trans hx171_0
                    replace p171:=eq_true p171
                    replace q171:=eq_true q171
                    have q37:0<(rdOf ByteArray.empty l1 x9_1).size:=(by have:(0:Int)<((rdOf ByteArray.empty l1 x9_1).size:Int):=of_decide_eq_true (by (with_reducible assumption));omega)
                    have hx37:∀ h:0<(rdOf ByteArray.empty l1 x9_1).size,(((rdOf ByteArray.empty l1 x9_1)[0]'h).toNat:Int)=bt (rdOf ByteArray.empty l1 x9_1) 0:=bt_at (rdOf ByteArray.empty l1 x9_1) 0
                    replace q37:=eq_true q37
                    obtain ⟨Ao50,co50,eo50⟩:=Kd.R_slice HO_8.out
                    subst eo50
                    go_wp2_with (first | ((with_reducible refine gate_callee (f:=61) rfl ?_);refine goesL_ (some 75) rfl rfl Tryz.func61 (by kernel_rfl) rfl #[.slice Ao50 x8_1.length co50,.string t159] rfl (by (try simp only [List.map_toArray,List.map_cons,List.map_nil]);rfl) ?_;(with_reducible refine (spec_l06Drop.calls kj29 _ _ x8_1 t159 t176 _ ?side1 ?side2 A44.out).mono ?_);(case side1=>repeat (exact (Kd.R_reads' HO_8.out).2.2));(case side2=>exact (Kd.R_reads' HO_8.out).2.1);rintro e w51 ⟨v177,rfl,ho0,hb⟩;refine ⟨_,rfl,?_⟩;have HO178:=Aside0.mk (Kd.R_lower (Kd.R_new' ho0 (Kd.R_lt HO_8.out)) (below_size HB.out));replace HO_8:=Aside0.mk (Kd.R_elder' HO_8.out (Kd.R_base ho0) hb);replace HB:=Aside0.mk (below_step HB.out hb);(try clear hb);(try clear ho0);have p179:0≤(x9_1:Int):=of_decide_eq_true (by (with_reducible assumption));have q179:x9_1<(l1.length:Int):=of_decide_eq_true (by (with_reducible assumption));obtain ⟨ad179,e179,hx179_0⟩:=Kd.at_string HR1.out x9_1 p179 q179;obtain rfl:ad158=ad179:=(by injection e179);replace hx179_0:=(HB.out.cell (World.block_lt_of_cell? w _ hx179_0)).trans hx179_0;replace p179:=eq_true p179;replace q179:=eq_true q179;obtain ⟨Ao52,co52,eo52⟩:=Kd.R_slice HO178.out;subst eo52) | ((with_reducible refine gate_callee (f:=60) rfl ?_);refine goesL_ (some 87) rfl rfl Tryz.func60 (by kernel_rfl) rfl #[.slice Ao52 t176.length co52,.agg #[.string t160,.int .i64 x12_29]] rfl (by (try simp only [List.map_toArray,List.map_cons,List.map_nil]);rfl) ?_;(with_reducible refine (spec_l06Put.calls kj29 _ _ t176 t160 x12_29 t180 _ ?side1 ?side2 A49.out).mono ?_);(case side1=>repeat (exact (Kd.R_reads' HO178.out).2.2));(case side2=>exact (Kd.R_reads' HO178.out).2.1);rintro e w53 ⟨v181,rfl,ho0,hb⟩;refine ⟨_,rfl,?_⟩;have HO182:=Aside0.mk (Kd.R_lower (Kd.R_new' (Kd.R_new' ho0 (Kd.R_lt HO_8.out)) (Kd.R_lt HO178.out)) (below_size HB.out));replace HO_8:=Aside0.mk (Kd.R_elder' HO_8.out (Kd.R_base ho0) hb);replace HO178:=Aside0.mk (Kd.R_elder' HO178.out (Kd.R_base ho0) hb);replace HB:=Aside0.mk (below_step HB.out hb);(try clear hb);(try clear ho0)))
                    go_roundg kj29
                    case measure=>have:=HK1.out;have:=HJ12.out;have:=HJ29.out;omega
                    case rel=>exact ⟨(t180),(wrap64 (x9_1+1)),(by rfl),H',⟨by have:=HK1.out;have:=HJ12.out;have:=HJ29.out;omega⟩,⟨by exact Kd.R_mono HO182.out (fun _ hk=>trivial)⟩,⟨by repeat (with_reducible exact HB.out)⟩⟩
                 ·rw [if_neg c36] at H
                  exact absurd H (by simp)
                ·rw [if_neg c35] at H
                 exact absurd H (by simp)
               ·rw [if_neg c34] at H
                exact absurd H (by simp)
            ·rw [if_neg c28] at H
             exact absurd H (by simp)
           ·rw [if_neg c27] at H
            exact absurd H (by simp)
          ·rw [if_neg c26] at H
           exact absurd H (by simp)
      ·rw [if_neg c11] at H
       exact absurd H (by simp)
     ·rw [if_neg c10] at H
      exact absurd H (by simp)
    ·rw [if_neg c9] at H
     have c9b0:decide (x9_1<t157)=false:=decide_eq_false c9
     clear c9
     simp only [Option.some.injEq,Prod.mk.injEq] at H
     obtain ⟨rfl,rfl⟩:=H
     go_wp2
     all_goals (go_ret2)
     all_goals exact ⟨_,by rfl,by exact HO_8.out,by repeat (with_reducible exact HB.out)⟩
 ·rw [if_neg c4] at H
  exact absurd H (by simp)

/-! ### spec_l05Node: function 73 -/
def spec_l05Node.l0:Nat→Int→Int→List (S38)→List (S64)→List (S64)→List ByteArray→Int→Int→Option (Int)
 | 0,_,_,_,_,_,_,_,_=>none
 | k+1,x1,x5,x184000,x184001,x184002,x184003,x184004,x184005=>if x5<(x184000.length:Int) then (if 0≤x5 then (if ((rd_T38 x184000 x5).f0)=x1 then (some x5) else (spec_l05Node.l0 k x1 (wrap64 (x5+1)) x184000 x184001 x184002 x184003 x184004 x184005)) else (none)) else (some (-1))
def spec_l05Node.f (k:Nat) (l0_0:List (S38)) (l0_1:List (S64)) (l0_2:List (S64)) (l0_3:List ByteArray) (a0_4:Int) (a0_5:Int) (a1:Int):Option (Int):=spec_l05Node.l0 k a1 0 l0_0 l0_1 l0_2 l0_3 a0_4 a0_5
theorem spec_l05Node.mono_l:∀ k,(∀ y0 y1 y2 y3 y4 y5 y6 y7,LeO (spec_l05Node.l0 k y0 y1 y2 y3 y4 y5 y6 y7) (spec_l05Node.l0 (k+1) y0 y1 y2 y3 y4 y5 y6 y7))
 | 0=>fun _ _ _ _ _ _ _ _ r h=>by simp [spec_l05Node.l0] at h
 | k+1=>by
  have ih0:=spec_l05Node.mono_l k
  ·intro y0 y1 y2 y3 y4 y5 y6 y7
   unfold spec_l05Node.l0
   repeat' first | (with_reducible exact ih0 _ _ _ _ _ _ _ _) | (with_reducible exact LeO.refl _) | (with_reducible refine LeO.ite ?_ ?_)
theorem spec_l05Node.mono:∀ a0 a1 a2 a3 a4 a5 a6 k,LeO (spec_l05Node.f k a0 a1 a2 a3 a4 a5 a6) (spec_l05Node.f (k+1) a0 a1 a2 a3 a4 a5 a6):=by
 intro a0 a1 a2 a3 a4 a5 a6 k
 have ih0:=spec_l05Node.mono_l k
 unfold spec_l05Node.f
 repeat' (with_reducible exact ih0 _ _ _ _ _ _ _ _)
set_option maxHeartbeats 8000000 in
set_option maxRecDepth 100000 in
theorem spec_l05Node.calls (k:Nat) (A0_0:Option Addr) (c0_0:Nat) (l0_0:List (S38)) (A0_1:Option Addr) (c0_1:Nat) (l0_1:List (S64)) (A0_2:Option Addr) (c0_2:Nat) (l0_2:List (S64)) (A0_3:Option Addr) (c0_3:Nat) (l0_3:List ByteArray) (a0_4:Int) (a0_5:Int) (a1:Int) (r:Int) (w:World) (hr0_0:Kd.C k38 w A0_0 l0_0.length l0_0) (hc0_0:l0_0.length≤c0_0) (hr0_1:Kd.C k64 w A0_1 l0_1.length l0_1) (hc0_1:l0_1.length≤c0_1) (hr0_2:Kd.C k64 w A0_2 l0_2.length l0_2) (hc0_2:l0_2.length≤c0_2) (hr0_3:Kd.C Kd.string w A0_3 l0_3.length l0_3) (hc0_3:l0_3.length≤c0_3) (h:spec_l05Node.f k l0_0 l0_1 l0_2 l0_3 a0_4 a0_5 a1=some r) :
  Calls Tryz.prog 73 #[.agg #[.slice A0_0 l0_0.length c0_0,.slice A0_1 l0_1.length c0_1,.slice A0_2 l0_2.length c0_2,.slice A0_3 l0_3.length c0_3,.int .i64 a0_4,.int .i64 a0_5],.int .i64 a1] w fun e w'=>e=.returned (.int .i64 r)∧Below w.heap.size w w':=by
 have HR0_0:=Aside0.mk hr0_0
 clear hr0_0 hc0_0
 clear hr0_1 hc0_1
 clear hr0_2 hc0_2
 clear hr0_3 hc0_3
 have HB:=Aside0.mk (Below.refl w.heap.size w)
 have H:(spec_l05Node.l0 k a1 0 l0_0 l0_1 l0_2 l0_3 a0_4 a0_5)=some r:=h
 clear h
 have H':=Aside0.mk H
 clear H
 go_enter Tryz.func73,Tryz.ntmps73
 go_wp2_with (((with_reducible refine gate_dst (N:=2) rfl ?_);refine box_event ?hg (N:=2) ?hd (cs:=#[.slice A0_0 l0_0.length c0_0,.slice A0_1 l0_1.length c0_1,.slice A0_2 l0_2.length c0_2,.slice A0_3 l0_3.length c0_3,.int .i64 a0_4,.int .i64 a0_5]) (t:=28) ?hr ?_;(case hd=>rfl);(case hg=>rfl);(case hr=>(go_simp;done));intro gb183 hg w3 hbox hb;have BK183:=Aside0.mk (hbox);replace HB:=Aside0.mk (below_step HB.out hb);clear hb hbox hg))
 go_loopg [5] k (fun kq v5 w'=>∃ (x5_1:Int),v5=.int .i64 x5_1∧Aside0 (spec_l05Node.l0 kq a1 x5_1 l0_0 l0_1 l0_2 l0_3 a0_4 a0_5=some r)∧Aside0 (kq≤k)∧Aside0 (w'.heap[gb183]? = some (.cells #[(.slice A0_0 l0_0.length c0_0),(.slice A0_1 l0_1.length c0_1),(.slice A0_2 l0_2.length c0_2),(.slice A0_3 l0_3.length c0_3),.int .i64 a0_4,.int .i64 a0_5] 28 (0,0)))∧Aside0 (Below w.heap.size w w'))
 case atStart=>exact ⟨(0),(by rfl),H',⟨Nat.le_refl _⟩,⟨by exact BK183.out⟩,⟨by repeat (with_reducible exact HB.out)⟩⟩
 case round=>
  clear H'
  try clear p2
  obtain ⟨x5_1,rfl,HA,HK1,BK183,HB⟩:=hrel
  cases gk with
  | zero=>exact absurd HA.out (by simp [spec_l05Node.l0])
  | succ k1=>
   have H:=HA.out
   clear HA
   simp only [spec_l05Node.l0] at H
   by_cases c4:x5_1<(l0_0.length:Int)
   ·rw [if_pos c4] at H
    have c4b0:decide (x5_1<(l0_0.length:Int))=true:=decide_eq_true c4
    clear c4
    by_cases c5:0≤x5_1
    ·rw [if_pos c5] at H
     have c5b0:decide (0≤x5_1)=true:=decide_eq_true c5
     clear c5
     by_cases c6:((rd_T38 l0_0 x5_1).f0)=a1
     ·rw [if_pos c6] at H
      have c6b0:(((rd_T38 l0_0 x5_1).f0) == a1)=true:=beq_iff_eq.mpr c6
      clear c6
      obtain rfl:=Option.some.inj H
      obtain ⟨hcz7_0,hcz7_1,hcz7_2,hcz7_3,hcz7_4,hcz7_5⟩:=b6of BK183.out
      obtain ⟨hfz7_0,hfz7_1,hfz7_2,hfz7_3,hfz7_4,hfz7_5⟩:=z6of BK183.out
      have p184:0≤(x5_1:Int):=of_decide_eq_true (by (with_reducible assumption))
      have q184:x5_1<(l0_0.length:Int):=of_decide_eq_true (by (with_reducible assumption))
      obtain ⟨ad184,e184,hx184_0,hx184_1,hx184_2⟩:=at_T38 HR0_0.out x5_1 p184 q184
      cases e184
      replace hx184_0:=(HB.out.cell (World.block_lt_of_cell? w _ hx184_0)).trans hx184_0
      replace hx184_1:=(HB.out.cell (World.block_lt_of_cell? w _ hx184_1)).trans hx184_1
      replace hx184_2:=(HB.out.cell (World.block_lt_of_cell? w _ hx184_2)).trans hx184_2
      replace p184:=eq_true p184
      replace q184:=eq_true q184
      go_wp2
      all_goals (go_ret)
      all_goals exact ⟨by rfl,by repeat (with_reducible exact HB.out)⟩
     ·rw [if_neg c6] at H
      have c6b0:(((rd_T38 l0_0 x5_1).f0) == a1)=false:=beq_eq_false_iff_ne.mpr c6
      have H':=Aside0.mk H
      clear H
      obtain ⟨hcz8_0,hcz8_1,hcz8_2,hcz8_3,hcz8_4,hcz8_5⟩:=b6of BK183.out
      obtain ⟨hfz8_0,hfz8_1,hfz8_2,hfz8_3,hfz8_4,hfz8_5⟩:=z6of BK183.out
      have p184:0≤(x5_1:Int):=of_decide_eq_true (by (with_reducible assumption))
      have q184:x5_1<(l0_0.length:Int):=of_decide_eq_true (by (with_reducible assumption))
      obtain ⟨ad184,e184,hx184_0,hx184_1,hx184_2⟩:=at_T38 HR0_0.out x5_1 p184 q184
      cases e184
      replace hx184_0:=(HB.out.cell (World.block_lt_of_cell? w _ hx184_0)).trans hx184_0
      replace hx184_1:=(HB.out.cell (World.block_lt_of_cell? w _ hx184_1)).trans hx184_1
      replace hx184_2:=(HB.out.cell (World.block_lt_of_cell? w _ hx184_2)).trans hx184_2
      replace p184:=eq_true p184
      replace q184:=eq_true q184
      go_wp2
      go_roundg k1
      case measure=>have:=HK1.out;omega
      case rel=>exact ⟨(wrap64 (x5_1+1)),(by rfl),H',⟨by have:=HK1.out;omega⟩,⟨by exact BK183.out⟩,⟨by repeat (with_reducible exact HB.out)⟩⟩
    ·rw [if_neg c5] at H
     exact absurd H (by simp)
   ·rw [if_neg c4] at H
    have c4b0:decide (x5_1<(l0_0.length:Int))=false:=decide_eq_false c4
    clear c4
    obtain rfl:=Option.some.inj H
    obtain ⟨hcz9_0,hcz9_1,hcz9_2,hcz9_3,hcz9_4,hcz9_5⟩:=b6of BK183.out
    obtain ⟨hfz9_0,hfz9_1,hfz9_2,hfz9_3,hfz9_4,hfz9_5⟩:=z6of BK183.out
    go_wp2
    all_goals (go_ret)
    all_goals exact ⟨by rfl,by repeat (with_reducible exact HB.out)⟩

end Go.Proofs.YthbffdjjmapaaaaGreatDoor.MFnRenamed
