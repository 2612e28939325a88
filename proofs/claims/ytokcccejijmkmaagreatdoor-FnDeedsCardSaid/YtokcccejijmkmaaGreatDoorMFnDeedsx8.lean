/- Each theorem here says that a call of one Go function answers what the Lean function beside it answers; its conditions stand in it. Written by a program of this session. -/
import Derived.Test.YtokcccejijmkmaaGreatDoorMFnDeedsx0
import Derived.Test.YtokcccejijmkmaaGreatDoorMFnDeedsx2
import Derived.Test.YtokcccejijmkmaaGreatDoorMFnDeedsx3
import Derived.Test.YtokcccejijmkmaaGreatDoorMFnDeedsx4
import Derived.Test.YtokcccejijmkmaaGreatDoorMFnDeedsx7
namespace Go.Proofs.YtokcccejijmkmaaGreatDoor.MFnDeeds
set_option maxHeartbeats 8000000
set_option maxRecDepth 100000
open Go.RowKit Go.Proofs.YtokcccejijmkmaaGreatDoorW.PrintWords Go.Proofs.YtokcccejijmkmaaGreatDoorW.PrintLast Go.Proofs.YtokcccejijmkmaaGreatDoorW.PrintMore
attribute [local go_sem] max2_int min2_int max_two min_two max_three min_three max_four min_four
set_option linter.unusedVariables false
set_option linter.unusedSimpArgs false
attribute [local go_sem high] eqA47
def prevE (l:List S47):Nat→Option ByteArray
  | 0=>none
  | k+1=>some (rd_T47 l (k:Int)).f0
theorem gen_wp {P:Program} {c:Code} {Q:Exit→Act→World→Prop} {a:Act} {w:World} (R:World→Prop) (h:R w) (k:∀ w',R w'→c.wp P Q a w'):c.wp P Q a w:=k w h
def fl (n m:Nat):Array Bool:=((List.range n).map fun i=>m.testBit i).toArray
theorem fact_below {w w1:World} {a:Addr} {v:Value} (hb:Below w.heap.size w w1) (h:w.cell? a=some v):w1.cell? a=some v:=(hb.cell (World.block_lt_of_cell? w _ h)).trans h
def entS (k:Nat) (aa:List S45) (ab:List S47) (ad:List S47) (ae:List ByteArray) (af:Int) (ag:Int):Option ByteArray→List S47→Option Bool
  | _,[]=>some true
  | p,x :: l=>(spec_NameOk.f k x.f0).bind fun b=>if b=true then ((spec_l05Node.f k aa ab ad ae af ag x.f1).bind fun t=>if t<0 then some false else if (match p with | none=>false | some q=>!Op.bytesLess q.toList x.f0.toList)=true then some false else entS k aa ab ad ae af ag (some x.f0) l) else some false
theorem entS_mono (k:Nat) (aa:List S45) (ab:List S47) (ad:List S47) (ae:List ByteArray) (af:Int) (ag:Int):∀ p l,LeO (entS k aa ab ad ae af ag p l) (entS (k+1) aa ab ad ae af ag p l)
  | _,[]=>LeO.refl _
  | p,x :: l=>LeO.bind (spec_NameOk.mono _ k) fun _=>LeO.ite (LeO.bind (spec_l05Node.mono _ _ _ _ _ _ _ k) fun _=>LeO.ite (LeO.refl _) (LeO.ite (LeO.refl _) (entS_mono k aa ab ad ae af ag _ l))) (LeO.refl _)
def spec_l05Entries.f (k:Nat) (aa:List S45) (ab:List S47) (ad:List S47) (ae:List ByteArray) (af:Int) (ag:Int) (l1:List S47):Option Bool:=(entS k aa ab ad ae af ag none l1).bind fun b=>if b=true then some (decide ((l1.length:Int)≤16)) else some false
theorem spec_l05Entries.mono:∀ aa ab ad ae af ag l1 k,LeO (spec_l05Entries.f k aa ab ad ae af ag l1) (spec_l05Entries.f (k+1) aa ab ad ae af ag l1):=by
  intro aa ab ad ae af ag l1 k
  unfold spec_l05Entries.f
  exact LeO.bind (entS_mono k aa ab ad ae af ag none l1) fun _=>LeO.refl _
theorem spec_l05Entries.calls (k:Nat) (ai:Option Addr) (aj:Nat) (aa:List (S45)) (ak:Option Addr) (al:Nat) (ab:List (S47)) (an:Option Addr) (ao:Nat) (ae:List (S47)) (aq:Option Addr) (ar:Nat) (af:List ByteArray) (ag:Int) (ah:Int) (A1:Option Addr) (c1:Nat) (l1:List (S47)) (r:Bool) (w:World) (aC:Kd.C k45 w ai aa.length aa) (aD:aa.length≤aj) (aE:Kd.C k47 w ak ab.length ab) (aF:ab.length≤al) (aG:Kd.C k47 w an ae.length ae) (aH:ae.length≤ao) (aI:Kd.C Kd.string w aq af.length af) (aJ:af.length≤ar) (hr1:Kd.C k47 w A1 l1.length l1) (hc1:l1.length≤c1) (h:spec_l05Entries.f k aa ab ae af ag ah l1=some r) :
    Calls Tryz.prog 53 #[.agg #[.slice ai aa.length aj,.slice ak ab.length al,.slice an ae.length ao,.slice aq af.length ar,.int .i64 ag,.int .i64 ah],.slice A1 l1.length c1] w fun e w'=>e=.returned (.bool r)∧Below w.heap.size w w':=by
  unfold spec_l05Entries.f at h
  obtain ⟨B,h0,h⟩:=zo h
  have hmax:=hr1.2.1
  have HR:=zA hr1
  have HN:=zA (fun (w1:World) (h:Below w.heap.size w w1) (v t:Int) hf=>spec_l05Node.calls k ai aj aa ak al ab an ao ae aq ar af ag ah v t w1 (Kd.C_below aC h) aD (Kd.C_below aE h) aF (Kd.C_below aG h) aH (Kd.C_below aI h) aJ hf)
  clear hr1 hc1 aC aD aE aF aG aH aI aJ
  have HF:=zA h
  clear h
  go_enter Tryz.func53,Tryz.ntmps53
  go_wp2_with (((with_reducible refine gate_dst (N:=2) rfl ?_);refine box_event ?hg (N:=2) ?hd (cs:=#[.slice ai aa.length aj,.slice ak ab.length al,.slice an ae.length ao,.slice aq af.length ar,.int .i64 ag,.int .i64 ah]) (t:=28) ?hr ?_;(case hd=>rfl);(case hg=>rfl);(case hr=>(go_simp;done));intro g5 hg w1 hbox b5;have BK:=zA hbox;have B1:=zA b5;obtain ⟨q0,q1,q2,q3,q4,q5⟩:=b6of BK.out;clear hg hbox b5))
  go_loopg [5] l1.length (fun gg s8 wr=>∃ kk:Nat,kk≤l1.length∧l1.length-kk≤gg∧s8=.int .i64 kk∧Aside0 (Below w.heap.size w wr)∧Aside0 (wr.heap[g5]? = some (.cells #[.slice ai aa.length aj,.slice ak ab.length al,.slice an ae.length ao,.slice aq af.length ar,.int .i64 ag,.int .i64 ah] 28))∧Aside0 (entS k aa ab ae af ag ah (prevE l1 kk) (l1.drop kk)=some B))
  case atStart=>exact ⟨0,Nat.zero_le _,by omega,rfl,B1,BK,⟨h0⟩⟩
  case round=>
    clear q0 q1 q2 q3 q4 q5 h0
    obtain ⟨kk,hkk,hg,rfl,BW,BK2,A⟩:=hrel
    clear B1 BK
    by_cases hlt:kk<l1.length
    · have hltz:(kk:Int)<(l1.length:Int):=by omega
      obtain ⟨ad,rfl,hx0,hx1⟩:=at_T47 (Kd.C_below HR.out BW.out) (kk:Int) (by omega) hltz
      rw [Int.toNat_natCast] at hx0 hx1
      have hd:l1.drop kk=rd_T47 l1 (kk:Int) :: l1.drop (kk+1):=by
        rw [List.drop_eq_getElem_cons hlt]
        unfold rd_T47
        rw [Int.toNat_natCast,List.getD_eq_getElem?_getD,List.getElem?_eq_getElem hlt];rfl
      have A2:=A.out
      rw [hd] at A2
      simp only [entS] at A2
      obtain ⟨bn,hbn,A2⟩:=zo A2
      have hp:prevE l1 (kk+1)=some (rd_T47 l1 (kk:Int)).f0:=rfl
      rw [← hp] at A2
      clear A hd hp
      generalize rd_T47 l1 (kk:Int)=y at hx0 hx1 A2 hbn
      have AA:=zA A2
      have HK:=zA (fun w1=>(show Calls Tryz.prog 91 #[.string y.f0] w1 fun e w'=>e=.returned (.bool bn)∧∃ q,w'=w1.drewN q from (spec_NameOk.calls k y.f0 bn w1 hbn).mono (by rintro e w' ⟨rfl,q,rfl⟩;exact ⟨rfl,q,rfl⟩)))
      clear A2 hbn
      go_wp2
      have Z5:=BK2
      have BW2:=BW
      have V0:=zA hx0
      have V1:=zA hx1
      obtain ⟨e0,e1,e2,e3,e4,e5⟩:=b6of BK2.out
      cases bn with
      | false=>
        have hB:some false=some B:=AA.out
        obtain rfl:=Option.some.inj hB
        have hr:some false=some r:=HF.out
        obtain rfl:=Option.some.inj hr
        go_quiet ((go_at_call 91;with_reducible exact Calls.quiet_of (HK.out _)))
        go_wp2
        go_ret
        exact ⟨rfl,pw_below_drewN BW2.out _⟩
      | true=>
        have A3:=AA.out
        rw [if_pos rfl] at A3
        obtain ⟨t,ht,A3⟩:=zo A3
        have HM:=zA (fun w1 h=>HN.out w1 h y.f1 t ht)
        clear AA HN ht e0 e1 e2 e3 e4 e5
        by_cases htn:t<0
        · rw [if_pos htn] at A3
          obtain rfl:=Option.some.inj A3
          have hr:some false=some r:=HF.out
          obtain rfl:=Option.some.inj hr
          have au:∀ p_:LaidBy wr,p_.W.cell? (ad.add (kk*2))=some (.string y.f0):=fun p_=>p_.cell (V0.out)
          have av:∀ p_:LaidBy wr,p_.W.cell? ⟨(ad.add (kk*2)).block,(ad.add (kk*2)).off+1,none⟩=some (.int .i64 y.f1):=fun p_=>p_.cell (V1.out)
          have aw:∀ p_:LaidBy wr,p_.W.cell? ⟨g5,0,none⟩=some (.slice ai aa.length aj):=fun p_=>p_.cell ((blk_cell Z5.out 0).trans rfl)
          have ax:∀ p_:LaidBy wr,p_.W.cell? ⟨g5,1,none⟩=some (.slice ak ab.length al):=fun p_=>p_.cell ((blk_cell Z5.out 1).trans rfl)
          have ay:∀ p_:LaidBy wr,p_.W.cell? ⟨g5,2,none⟩=some (.slice an ae.length ao):=fun p_=>p_.cell ((blk_cell Z5.out 2).trans rfl)
          have az:∀ p_:LaidBy wr,p_.W.cell? ⟨g5,3,none⟩=some (.slice aq af.length ar):=fun p_=>p_.cell ((blk_cell Z5.out 3).trans rfl)
          have aA:∀ p_:LaidBy wr,p_.W.cell? ⟨g5,4,none⟩=some (.int .i64 ag):=fun p_=>p_.cell ((blk_cell Z5.out 4).trans rfl)
          have aB:∀ p_:LaidBy wr,p_.W.cell? ⟨g5,5,none⟩=some (.int .i64 ah):=fun p_=>p_.cell ((blk_cell Z5.out 5).trans rfl)
          refine wp_region_laid (by kernel_rfl) (by kernel_rfl) ?_
          repeat (go_big_quiet_step (first | (go_at_call 91;with_reducible exact laid_drawn _ (HK.out _)) | (go_at_call 46;with_reducible exact laid_of _ (HM.out _ (LaidBy.below _ BW2.out)))))
          refine wpQuiet_nil ?_
          rintro w9 ⟨p_,hp_⟩
          have hq_:Below wr.heap.size wr w9:=hp_▸p_.ok
          clear hp_ p_ au av aw ax ay az aA aB
          have Z5:=zb Z5 hq_
          have BD:=zA hq_
          clear hq_
          go_wp2
          go_ret
          exact ⟨rfl,BW2.out.trans (BD.out.mono BW2.out.size)⟩
        · rw [if_neg htn] at A3
          by_cases hk0:kk=0
          · have hp0:decide ((0:Int)<(kk:Int))=false:=zf (by omega)
            have hp0n:decide (0<kk)=false:=zf (by omega)
            have AC:=zA (show entS k aa ab ae af ag ah (prevE l1 (kk+1)) (l1.drop (kk+1))=some B by subst hk0;exact A3)
            clear A3 hk0
            have au:∀ p_:LaidBy wr,p_.W.cell? (ad.add (kk*2))=some (.string y.f0):=fun p_=>p_.cell (V0.out)
            have av:∀ p_:LaidBy wr,p_.W.cell? ⟨(ad.add (kk*2)).block,(ad.add (kk*2)).off+1,none⟩=some (.int .i64 y.f1):=fun p_=>p_.cell (V1.out)
            have aw:∀ p_:LaidBy wr,p_.W.cell? ⟨g5,0,none⟩=some (.slice ai aa.length aj):=fun p_=>p_.cell ((blk_cell Z5.out 0).trans rfl)
            have ax:∀ p_:LaidBy wr,p_.W.cell? ⟨g5,1,none⟩=some (.slice ak ab.length al):=fun p_=>p_.cell ((blk_cell Z5.out 1).trans rfl)
            have ay:∀ p_:LaidBy wr,p_.W.cell? ⟨g5,2,none⟩=some (.slice an ae.length ao):=fun p_=>p_.cell ((blk_cell Z5.out 2).trans rfl)
            have az:∀ p_:LaidBy wr,p_.W.cell? ⟨g5,3,none⟩=some (.slice aq af.length ar):=fun p_=>p_.cell ((blk_cell Z5.out 3).trans rfl)
            have aA:∀ p_:LaidBy wr,p_.W.cell? ⟨g5,4,none⟩=some (.int .i64 ag):=fun p_=>p_.cell ((blk_cell Z5.out 4).trans rfl)
            have aB:∀ p_:LaidBy wr,p_.W.cell? ⟨g5,5,none⟩=some (.int .i64 ah):=fun p_=>p_.cell ((blk_cell Z5.out 5).trans rfl)
            refine wp_region_laid (by kernel_rfl) (by kernel_rfl) ?_
            repeat (go_big_quiet_step (first | (go_at_call 91;with_reducible exact laid_drawn _ (HK.out _)) | (go_at_call 46;with_reducible exact laid_of _ (HM.out _ (LaidBy.below _ BW2.out)))))
            refine wpQuiet_nil ?_
            rintro w9 ⟨p_,hp_⟩
            have hq_:Below wr.heap.size wr w9:=hp_▸p_.ok
            clear hp_ p_ au av aw ax ay az aA aB
            have Z5:=zb Z5 hq_
            have BD:=zA hq_
            clear hq_
            go_wp2
            go_roundg (l1.length-(kk+1))
            case measure=>omega
            case rel=>exact ⟨kk+1,by omega,by omega,by go_num,⟨BW2.out.trans (BD.out.mono BW2.out.size)⟩,Z5,⟨AC.out⟩⟩
          · obtain ⟨j,hkj⟩:∃ j,kk=j+1:=⟨kk-1,by omega⟩
            have hp1:decide ((0:Int)<(kk:Int))=true:=zt (by omega)
            have hp1n:decide (0<kk)=true:=zt (by omega)
            have hw1:IntKind.i64.wrap ((kk:Int)-1)=(j:Int):=by rw [IntKind.wrap_i64];omega
            have hw3:wrap64 ((kk:Int)-1)=(j:Int):=by rw [← i64_w,hw1]
            have hw2:wrap64 (j:Int)=(j:Int):=by rw [← i64_w,IntKind.wrap_i64];omega
            have hj0:(0:Int)≤(j:Int):=by omega
            have hjl:(j:Int)<(l1.length:Int):=by omega
            have HKJ:=zA hkj
            obtain ⟨ad2,e2,hv0,hv1⟩:=at_T47 (Kd.C_below HR.out BW2.out) (j:Int) hj0 hjl
            cases e2
            rw [Int.toNat_natCast] at hv0 hv1
            clear hv1
            have AD:=zA (show (if (!Op.bytesLess (rd_T47 l1 (j:Int)).f0.toList y.f0.toList)=true then some false else entS k aa ab ae af ag ah (prevE l1 (kk+1)) (l1.drop (kk+1)))=some B by subst hkj;exact A3)
            clear A3 hkj
            generalize (rd_T47 l1 (j:Int)).f0=p0 at hv0 AD
            have V:=zA hv0
            have hcm:Op.bytesLess p0.toList y.f0.toList=Op.bytesLess p0.toList y.f0.toList:=rfl
            generalize hq:Op.bytesLess p0.toList y.f0.toList=bq at hcm AD
            clear hcm
            have au:∀ p_:LaidBy wr,p_.W.cell? (ad.add (kk*2))=some (.string y.f0):=fun p_=>p_.cell (V0.out)
            have av:∀ p_:LaidBy wr,p_.W.cell? ⟨(ad.add (kk*2)).block,(ad.add (kk*2)).off+1,none⟩=some (.int .i64 y.f1):=fun p_=>p_.cell (V1.out)
            have aw:∀ p_:LaidBy wr,p_.W.cell? ⟨g5,0,none⟩=some (.slice ai aa.length aj):=fun p_=>p_.cell ((blk_cell Z5.out 0).trans rfl)
            have ax:∀ p_:LaidBy wr,p_.W.cell? ⟨g5,1,none⟩=some (.slice ak ab.length al):=fun p_=>p_.cell ((blk_cell Z5.out 1).trans rfl)
            have ay:∀ p_:LaidBy wr,p_.W.cell? ⟨g5,2,none⟩=some (.slice an ae.length ao):=fun p_=>p_.cell ((blk_cell Z5.out 2).trans rfl)
            have az:∀ p_:LaidBy wr,p_.W.cell? ⟨g5,3,none⟩=some (.slice aq af.length ar):=fun p_=>p_.cell ((blk_cell Z5.out 3).trans rfl)
            have aA:∀ p_:LaidBy wr,p_.W.cell? ⟨g5,4,none⟩=some (.int .i64 ag):=fun p_=>p_.cell ((blk_cell Z5.out 4).trans rfl)
            have aB:∀ p_:LaidBy wr,p_.W.cell? ⟨g5,5,none⟩=some (.int .i64 ah):=fun p_=>p_.cell ((blk_cell Z5.out 5).trans rfl)
            have aK:∀ p_:LaidBy wr,p_.W.cell? (ad.add (j*2))=some (.string p0):=fun p_=>p_.cell (V.out)
            refine wp_region_laid (by kernel_rfl) (by kernel_rfl) ?_
            repeat (go_big_quiet_step (first | (go_at_call 91;with_reducible exact laid_drawn _ (HK.out _)) | (go_at_call 46;with_reducible exact laid_of _ (HM.out _ (LaidBy.below _ BW2.out)))))
            refine wpQuiet_nil ?_
            rintro w9 ⟨p_,hp_⟩
            have hq_:Below wr.heap.size wr w9:=hp_▸p_.ok
            clear hp_ p_ au av aw ax ay az aA aB aK
            have Z5:=zb Z5 hq_
            have BD:=zA hq_
            clear hq_
            cases bq with
            | false=>
              have hB:=AD.out
              rw [if_pos (show (!false)=true from rfl)] at hB
              obtain rfl:=Option.some.inj hB
              have hr:some false=some r:=HF.out
              obtain rfl:=Option.some.inj hr
              go_wp2
              go_ret
              exact ⟨rfl,BW2.out.trans (BD.out.mono BW2.out.size)⟩
            | true=>
              have hB:=AD.out
              rw [if_neg (show ¬ (!true)=true by decide)] at hB
              have AE:=zA hB
              clear hB
              go_wp2
              go_roundg (l1.length-(kk+1))
              case measure=>omega
              case rel=>exact ⟨kk+1,by omega,by omega,by go_num,⟨BW2.out.trans (BD.out.mono BW2.out.size)⟩,Z5,AE⟩
    · have hltz:¬ (kk:Int)<(l1.length:Int):=by omega
      have A2:=A.out
      rw [List.drop_of_length_le (by omega)] at A2
      simp only [entS] at A2
      obtain rfl:=Option.some.inj A2
      have hr:=HF.out
      rw [if_pos rfl] at hr
      obtain rfl:=Option.some.inj hr
      clear A A2 HF
      go_wp2
      go_ret
      exact ⟨rfl,BW.out⟩
def spec_l06Same.l0:Nat→List (S47)→List (S47)→Int→Option (Bool)
 | 0,_,_,_=>none
 | k+1,x0,x1,x5=>if x5<(x0.length:Int) then (if 0≤x5 then (if x5<(x1.length:Int) then (if (!((((rd_T47 x0 x5).f0).toList) == (((rd_T47 x1 x5).f0).toList)) || (!(((rd_T47 x0 x5).f1) == ((rd_T47 x1 x5).f1))))=true then (some false) else (spec_l06Same.l0 k x0 x1 (wrap64 (x5+1)))) else (none)) else (none)) else (some true)
def spec_l06Same.f (k:Nat) (l0:List (S47)) (l1:List (S47)):Option (Bool):=if (l0.length:Int)=(l1.length:Int) then (spec_l06Same.l0 k l0 l1 0) else (some false)
theorem spec_l06Same.mono_l:∀ k,(∀ y0 y1 y2,LeO (spec_l06Same.l0 k y0 y1 y2) (spec_l06Same.l0 (k+1) y0 y1 y2))
 | 0=>fun _ _ _ r h=>by simp [spec_l06Same.l0] at h
 | k+1=>by
  have ih0:=spec_l06Same.mono_l k
  ·intro y0 y1 y2
   unfold spec_l06Same.l0
   repeat' first | (with_reducible exact ih0 _ _ _) | (with_reducible exact LeO.refl _) | (with_reducible refine LeO.ite ?_ ?_)
theorem spec_l06Same.mono:∀ a0 a1 k,LeO (spec_l06Same.f k a0 a1) (spec_l06Same.f (k+1) a0 a1):=by
 intro a0 a1 k
 have ih0:=spec_l06Same.mono_l k
 unfold spec_l06Same.f
 repeat' first | (with_reducible exact ih0 _ _ _) | (with_reducible exact LeO.refl _) | (with_reducible refine LeO.ite ?_ ?_)
theorem spec_l06Same.calls (k:Nat) (A0:Option Addr) (c0:Nat) (l0:List (S47)) (A1:Option Addr) (c1:Nat) (l1:List (S47)) (r:Bool) (w:World) (hr0:Kd.C k47 w A0 l0.length l0) (hc0:l0.length≤c0) (hr1:Kd.C k47 w A1 l1.length l1) (hc1:l1.length≤c1) (h:spec_l06Same.f k l0 l1=some r) :
  Calls Tryz.prog 54 #[.slice A0 l0.length c0,.slice A1 l1.length c1] w fun e w'=>e=.returned (.bool r)∧Drawn0 w w':=by
 have HR0:=zA hr0
 clear hr0 hc0
 have HR1:=zA hr1
 clear hr1 hc1
 have H:(if (l0.length:Int)=(l1.length:Int) then (spec_l06Same.l0 k l0 l1 0) else (some false))=some r:=h
 clear h
 by_cases c3:(l0.length:Int)=(l1.length:Int)
 ·rw [if_pos c3] at H
  have an:((l0.length:Int) != (l1.length:Int))=false:=bne_eq_false_iff_eq.mpr c3
  clear c3
  have H':=zA H
  clear H
  go_enter Tryz.func54,Tryz.ntmps54
  go_wp2
  repeat (go_quiet (fail);try go_wp2)
  go_loopg [5] k (fun kq v5 w'=>∃ (aa:Int),v5=.int .i64 aa∧Aside0 (spec_l06Same.l0 kq l0 l1 aa=some r)∧Aside0 (kq≤k)∧Drawn0 w w')
  case atStart=>exact ⟨(0),(by rfl),H',⟨Nat.le_refl _⟩,by repeat (exact Drawn0.refl _)⟩
  case round=>
   clear H'
   try clear c1
   try clear p2
   try clear c3
   try clear an
   obtain ⟨aa,rfl,HA,HK1,⟨m1,rfl⟩⟩:=hrel
   cases gk with
   | zero=>exact absurd HA.out (by simp [spec_l06Same.l0])
   | succ k1=>
    have H:=HA.out
    clear HA
    simp only [spec_l06Same.l0] at H
    by_cases c4:aa<(l0.length:Int)
    ·rw [if_pos c4] at H
     have ar:decide (aa<(l0.length:Int))=true:=zt c4
     clear c4
     by_cases c5:0≤aa
     ·rw [if_pos c5] at H
      have c5b0:decide (0≤aa)=true:=zt c5
      clear c5
      by_cases c6:aa<(l1.length:Int)
      ·rw [if_pos c6] at H
       have c6b0:decide (aa<(l1.length:Int))=true:=zt c6
       clear c6
       by_cases c7:(!((((rd_T47 l0 aa).f0).toList) == (((rd_T47 l1 aa).f0).toList)) || (!(((rd_T47 l0 aa).f1) == ((rd_T47 l1 aa).f1))))=true
       ·rw [if_pos c7] at H
        have au:(!((((rd_T47 l0 aa).f0).toList) == (((rd_T47 l1 aa).f0).toList)) || (!(((rd_T47 l0 aa).f1) == ((rd_T47 l1 aa).f1))))=true:=c7
        clear c7
        obtain rfl:=Option.some.inj H
        have ab:0≤(aa:Int):=ze
        have ad:aa<(l0.length:Int):=ze
        obtain ⟨ao,ak,ag,ah⟩:=at_T47 HR0.out aa ab ad
        cases ak
        replace ab:=eq_true ab
        replace ad:=eq_true ad
        have ae:0≤(aa:Int):=ze
        have af:aa<(l1.length:Int):=ze
        obtain ⟨aq,al,ai,aj⟩:=at_T47 HR1.out aa ae af
        cases al
        replace ae:=eq_true ae
        replace af:=eq_true af
        go_wp2
        repeat (go_quiet (fail);try go_wp2)
        all_goals (go_ret)
        exact ⟨by first | rfl | (simp;done) | (simp [*];done),by repeat (first | exact Drawn0.refl _ | apply Drawn0.step)⟩
       ·rw [if_neg c7] at H
        have au:(!((((rd_T47 l0 aa).f0).toList) == (((rd_T47 l1 aa).f0).toList)) || (!(((rd_T47 l0 aa).f1) == ((rd_T47 l1 aa).f1))))=false:=by simpa using c7
        clear c7
        have H':=zA H
        clear H
        have ab:0≤(aa:Int):=ze
        have ad:aa<(l0.length:Int):=ze
        obtain ⟨ao,ak,ag,ah⟩:=at_T47 HR0.out aa ab ad
        cases ak
        replace ab:=eq_true ab
        replace ad:=eq_true ad
        have ae:0≤(aa:Int):=ze
        have af:aa<(l1.length:Int):=ze
        obtain ⟨aq,al,ai,aj⟩:=at_T47 HR1.out aa ae af
        cases al
        replace ae:=eq_true ae
        replace af:=eq_true af
        go_wp2
        repeat (go_quiet (fail);try go_wp2)
        go_roundg k1
        case measure=>have:=HK1.out;omega
        case rel=>exact ⟨(wrap64 (aa+1)),(by rfl),H',⟨by have:=HK1.out;omega⟩,by repeat (first | exact Drawn0.refl _ | apply Drawn0.step)⟩
      ·rw [if_neg c6] at H
       exact absurd H (by simp)
     ·rw [if_neg c5] at H
      exact absurd H (by simp)
    ·rw [if_neg c4] at H
     have ar:decide (aa<(l0.length:Int))=false:=zf c4
     clear c4
     obtain rfl:=Option.some.inj H
     go_wp2
     repeat (go_quiet (fail);try go_wp2)
     all_goals (go_ret)
     exact ⟨by first | rfl | (simp;done) | (simp [*];done),by repeat (first | exact Drawn0.refl _ | apply Drawn0.step)⟩
 ·rw [if_neg c3] at H
  have an:((l0.length:Int) != (l1.length:Int))=true:=bne_iff_ne.mpr c3
  obtain rfl:=Option.some.inj H
  go_enter Tryz.func54,Tryz.ntmps54
  go_wp2
  repeat (go_quiet (fail);try go_wp2)
  all_goals (go_ret)
  exact ⟨by first | rfl | (simp;done) | (simp [*];done),by repeat (exact Drawn0.refl _)⟩
mutual
def spec_DiskOk.j0:Nat→Bool→List (S45)→List (S47)→List (S47)→List ByteArray→Int→Int→Option (Bool)
 | 0,_,_,_,_,_,_,_=>none
 | k+1,x30,aa,ad,ae,ab,ag,af=>if x30=true then (some false) else (spec_DiskOk.l0 k 0 aa ad ae ab ag af)
def spec_DiskOk.l0:Nat→Int→List (S45)→List (S47)→List (S47)→List ByteArray→Int→Int→Option (Bool)
 | 0,_,_,_,_,_,_,_=>none
 | k+1,x3,aa,ad,ae,ab,ag,af=>if x3<(aa.length:Int) then (if 0≤x3 then ((spec_l01In.f ((rd_T45 aa x3).f0) 1 (wrap64 (af-1))).bind fun t249=>(if t249=true then (if x3>0 then (if 0≤(wrap64 (x3-1)) then (if (wrap64 (x3-1))<(aa.length:Int) then (if ((rd_T45 aa (wrap64 (x3-1))).f0)≥((rd_T45 aa x3).f0) then (some false) else ((spec_l01In.f ((rd_T45 aa x3).f2) 0 (((rd_T45 aa x3).f1).size:Int)).bind fun ai=>(if ai=true then (spec_DiskOk.l0 k (wrap64 (x3+1)) aa ad ae ab ag af) else (some false)))) else (none)) else (none)) else ((spec_l01In.f ((rd_T45 aa x3).f2) 0 (((rd_T45 aa x3).f1).size:Int)).bind fun aj=>(if aj=true then (spec_DiskOk.l0 k (wrap64 (x3+1)) aa ad ae ab ag af) else (some false)))) else (some false))) else (none)) else (spec_DiskOk.l1 k 0 aa ad ae ab ag af)
def spec_DiskOk.l1:Nat→Int→List (S45)→List (S47)→List (S47)→List ByteArray→Int→Int→Option (Bool)
 | 0,_,_,_,_,_,_,_=>none
 | k+1,x5,aa,ad,ae,ab,ag,af=>if x5≤(ab.length:Int) then ((spec_StepsDone.f k ae ab x5).bind fun ah=>(if ah.2=true then ((spec_l05Entries.f k aa ad ae ab ag af ah.1).bind fun ak=>(if ak=true then (if x5=(ab.length:Int) then ((spec_l06Same.f k ah.1 ad).bind fun al=>(if al=true then (spec_DiskOk.l1 k (wrap64 (x5+1)) aa ad ae ab ag af) else (some false))) else (spec_DiskOk.l1 k (wrap64 (x5+1)) aa ad ae ab ag af)) else (some false))) else (some false))) else (some true)
end
def spec_DiskOk.f (k:Nat) (ab:List (S45)) (ae:List (S47)) (af:List (S47)) (ag:List ByteArray) (aa:Int) (ad:Int):Option (Bool):=if (ab.length:Int)>64 then (spec_DiskOk.j0 k true ab ae af ag aa ad) else ((spec_l01In.f aa 0 1000000000).bind fun t244=>(if t244=true then ((spec_l01In.f ad 1 1000000000).bind fun t245=>(if t245=true then ((spec_UsedOn.f k ab ae af ag aa ad).bind fun t246=>(spec_DiskOk.j0 k (decide (t246>aa)) ab ae af ag aa ad)) else (spec_DiskOk.j0 k true ab ae af ag aa ad))) else (spec_DiskOk.j0 k true ab ae af ag aa ad)))
theorem spec_DiskOk.mono_l:∀ k,(∀ y0 y1 y2 y3 y4 y5 y6,LeO (spec_DiskOk.j0 k y0 y1 y2 y3 y4 y5 y6) (spec_DiskOk.j0 (k+1) y0 y1 y2 y3 y4 y5 y6))∧(∀ y0 y1 y2 y3 y4 y5 y6,LeO (spec_DiskOk.l0 k y0 y1 y2 y3 y4 y5 y6) (spec_DiskOk.l0 (k+1) y0 y1 y2 y3 y4 y5 y6))∧(∀ y0 y1 y2 y3 y4 y5 y6,LeO (spec_DiskOk.l1 k y0 y1 y2 y3 y4 y5 y6) (spec_DiskOk.l1 (k+1) y0 y1 y2 y3 y4 y5 y6))
 | 0=>⟨fun _ _ _ _ _ _ _ r h=>by simp [spec_DiskOk.j0] at h,fun _ _ _ _ _ _ _ r h=>by simp [spec_DiskOk.l0] at h,fun _ _ _ _ _ _ _ r h=>by simp [spec_DiskOk.l1] at h⟩
 | k+1=>by
  obtain ⟨ih0,ih1,ih2⟩:=spec_DiskOk.mono_l k
  refine ⟨?_,?_,?_⟩
  ·intro y0 y1 y2 y3 y4 y5 y6
   unfold spec_DiskOk.j0
   repeat' first | (with_reducible exact ih1 _ _ _ _ _ _ _) | (with_reducible exact LeO.refl _) | (with_reducible refine LeO.ite ?_ ?_)
  ·intro y0 y1 y2 y3 y4 y5 y6
   unfold spec_DiskOk.l0
   repeat' first | (with_reducible exact ih1 _ _ _ _ _ _ _) | (with_reducible exact ih2 _ _ _ _ _ _ _) | (with_reducible exact LeO.refl _) | (with_reducible refine LeO.ite ?_ ?_) | (with_reducible refine LeO.bind ?_ (fun _=>?_))
  ·intro y0 y1 y2 y3 y4 y5 y6
   unfold spec_DiskOk.l1
   repeat' first | (with_reducible exact ih2 _ _ _ _ _ _ _) | (with_reducible exact spec_StepsDone.mono _ _ _ _) | (with_reducible exact spec_l05Entries.mono _ _ _ _ _ _ _ _) | (with_reducible exact spec_l06Same.mono _ _ _) | (with_reducible exact LeO.refl _) | (with_reducible refine LeO.ite ?_ ?_) | (with_reducible refine LeO.bind ?_ (fun _=>?_))
theorem spec_DiskOk.mono:∀ a0 a1 a2 a3 a4 a5 k,LeO (spec_DiskOk.f k a0 a1 a2 a3 a4 a5) (spec_DiskOk.f (k+1) a0 a1 a2 a3 a4 a5):=by
 intro a0 a1 a2 a3 a4 a5 k
 obtain ⟨ih0,ih1,ih2⟩:=spec_DiskOk.mono_l k
 unfold spec_DiskOk.f
 repeat' first | (with_reducible exact ih0 _ _ _ _ _ _ _) | (with_reducible exact spec_UsedOn.mono _ _ _ _ _ _ _) | (with_reducible exact LeO.refl _) | (with_reducible refine LeO.ite ?_ ?_) | (with_reducible refine LeO.bind ?_ (fun _=>?_))
theorem spec_DiskOk.no:∀ k aa ab ad ae af ag r,spec_DiskOk.j0 k true aa ab ad ae af ag=some r→r=false
  | 0,_,_,_,_,_,_,_,h=>by simp [spec_DiskOk.j0] at h
  | k+1,_,_,_,_,_,_,_,h=>by rw [spec_DiskOk.j0,if_pos rfl] at h;exact (Option.some.inj h).symm
theorem spec_DiskOk.yes:∀ k aa ab ad ae af ag r,spec_DiskOk.j0 k false aa ab ad ae af ag=some r→∃ q,spec_DiskOk.l0 q 0 aa ab ad ae af ag=some r
  | 0,_,_,_,_,_,_,_,h=>by simp [spec_DiskOk.j0] at h
  | k+1,_,_,_,_,_,_,_,h=>by rw [spec_DiskOk.j0,if_neg (by decide)] at h;exact ⟨k,h⟩
theorem spec_DiskOk.calls (k:Nat) (ar:Option Addr) (ai:Nat) (aa:List (S45)) (aj:Option Addr) (ak:Nat) (ae:List (S47)) (al:Option Addr) (an:Nat) (af:List (S47)) (ao:Option Addr) (aq:Nat) (ab:List ByteArray) (ag:Int) (ah:Int) (r:Bool) (w:World) (au:Kd.C k45 w ar aa.length aa) (aB:aa.length≤ai) (av:Kd.C k47 w aj ae.length ae) (aw:ae.length≤ak) (ax:Kd.C k47 w al af.length af) (ay:af.length≤an) (az:Kd.C Kd.string w ao ab.length ab) (aA:ab.length≤aq) (h:spec_DiskOk.f k aa ae af ab ag ah=some r) :
    Calls Tryz.prog 11 #[.agg #[.slice ar aa.length ai,.slice aj ae.length ak,.slice al af.length an,.slice ao ab.length aq,.int .i64 ag,.int .i64 ah]] w fun e w'=>e=.returned (.bool r)∧Below w.heap.size w w':=by
  have hm0:=au.2.1
  have HR:=zA au
  have HU:=zA (fun (t:Int) (hf:spec_UsedOn.f k aa ae af ab ag ah=some t) (w1:World) (h:Below w.heap.size w w1)=>spec_UsedOn.calls k ar ai aa aj ak ae al an af ao aq ab ag ah t w1 (Kd.C_below au h) aB (Kd.C_below av h) aw (Kd.C_below ax h) ay (Kd.C_below az h) aA hf)
  have HD:=zA (fun (q:Nat) (n:Int) (l:List S47) (b:Bool) (hf:spec_StepsDone.f q af ab n=some (l,b)) (w1:World) (h:Below w.heap.size w w1)=>spec_StepsDone.calls q al an af ao aq ab n l b w1 (Kd.C_below ax h) ay (Kd.C_below az h) aA hf)
  have HE:=zA (fun (q:Nat) (l:List S47) (b:Bool) (hf:spec_l05Entries.f q aa ae af ab ag ah l=some b) (w1:World) (h:Below w.heap.size w w1) (A:Option Addr) (c:Nat) (hl:Kd.C k47 w1 A l.length l) (hc:l.length≤c)=>spec_l05Entries.calls q ar ai aa aj ak ae al an af ao aq ab ag ah A c l b w1 (Kd.C_below au h) aB (Kd.C_below av h) aw (Kd.C_below ax h) ay (Kd.C_below az h) aA hl hc hf)
  have HS:=zA (fun (q:Nat) (l:List S47) (b:Bool) (hf:spec_l06Same.f q l ae=some b) (w1:World) (h:Below w.heap.size w w1) (A:Option Addr) (c:Nat) (hl:Kd.C k47 w1 A l.length l) (hc:l.length≤c)=>(spec_l06Same.calls q A c l aj ak ae b w1 hl hc (Kd.C_below av h) aw hf).mono (by rintro e w' ⟨rfl,q,rfl⟩;exact ⟨rfl,q,rfl⟩:∀ e w',_→e=Ending.returned (.bool b)∧∃ q,w'=w1.drewN q))
  have HI:=zA (fun (a b c:Int) (t:Bool) (hf:spec_l01In.f a b c=some t) (w1:World)=>(spec_l01In.calls a b c t w1 hf).mono (by rintro e w' ⟨rfl,q,rfl⟩;exact ⟨rfl,q,rfl⟩:∀ e w',_→e=Ending.returned (.bool t)∧∃ q,w'=w1.drewN q))
  clear au aB av aw ax ay az aA
  unfold spec_DiskOk.f at h
  by_cases c4:(aa.length:Int)>64
  (rw [if_pos c4] at h;obtain rfl:=spec_DiskOk.no _ _ _ _ _ _ _ _ h;have d4:decide (64<(aa.length:Int))=true:=zt c4)
  (rotate_left 1;(rw [if_neg c4] at h;have d4:decide (64<(aa.length:Int))=false:=zf c4;obtain ⟨t0,h0,h⟩:=zo h;have C0:=zA (HI.out _ _ _ _ h0);clear h0;cases t0);rotate_right 1)
  (rotate_left 1;(rw [if_neg (by decide)] at h;obtain rfl:=spec_DiskOk.no _ _ _ _ _ _ _ _ h);rotate_right 1)
  (rotate_left 2;(rw [if_pos rfl] at h;obtain ⟨t1,h1,h⟩:=zo h;have C1:=zA (HI.out _ _ _ _ h1);clear h1;cases t1);rotate_right 2)
  (rotate_left 2;(rw [if_neg (by decide)] at h;obtain rfl:=spec_DiskOk.no _ _ _ _ _ _ _ _ h);rotate_right 2)
  (rotate_left 3;(rw [if_pos rfl] at h;obtain ⟨u,hu,h⟩:=zo h;have CU:=zA (HU.out _ hu);clear hu;by_cases cu:u>ag);rotate_right 3)
  (rotate_left 3;(have du:decide (ag<u)=true:=zt cu;rw [show decide (u>ag)=true from du] at h;obtain rfl:=spec_DiskOk.no _ _ _ _ _ _ _ _ h);rotate_right 3)
  (rotate_left 4;(have du:decide (ag<u)=false:=zf cu;rw [show decide (u>ag)=false from du] at h;obtain ⟨q0,hq0⟩:=spec_DiskOk.yes _ _ _ _ _ _ _ _ h;have A0:=zA hq0;clear hq0);rotate_right 4)
  all_goals (clear h c4;(try clear cu);go_enter Tryz.func11,Tryz.ntmps11;go_wp2_with (((with_reducible refine gate_dst (N:=1) rfl ?_);refine box_event ?hg (N:=1) ?hd (cs:=#[.slice ar aa.length ai,.slice aj ae.length ak,.slice al af.length an,.slice ao ab.length aq,.int .i64 ag,.int .i64 ah]) (t:=28) ?hr ?_;(case hd=>rfl);(case hg=>rfl);(case hr=>(go_simp;done));intro g5 hg w1 hbox b5;have Z5:=zA hbox;have BW:=zA b5;clear hg hbox b5)))
  all_goals ((have aC:∀ p_:LaidBy w1,p_.W.cell? ⟨g5,0,none⟩=some (.slice ar aa.length ai):=fun p_=>p_.cell ((blk_cell Z5.out 0).trans rfl));(have aD:∀ p_:LaidBy w1,p_.W.cell? ⟨g5,1,none⟩=some (.slice aj ae.length ak):=fun p_=>p_.cell ((blk_cell Z5.out 1).trans rfl));(have aE:∀ p_:LaidBy w1,p_.W.cell? ⟨g5,2,none⟩=some (.slice al af.length an):=fun p_=>p_.cell ((blk_cell Z5.out 2).trans rfl));(have aF:∀ p_:LaidBy w1,p_.W.cell? ⟨g5,3,none⟩=some (.slice ao ab.length aq):=fun p_=>p_.cell ((blk_cell Z5.out 3).trans rfl));(have aG:∀ p_:LaidBy w1,p_.W.cell? ⟨g5,4,none⟩=some (.int .i64 ag):=fun p_=>p_.cell ((blk_cell Z5.out 4).trans rfl));(have aH:∀ p_:LaidBy w1,p_.W.cell? ⟨g5,5,none⟩=some (.int .i64 ah):=fun p_=>p_.cell ((blk_cell Z5.out 5).trans rfl));(refine wp_region_laid (by kernel_rfl) (by kernel_rfl) ?_);(repeat (go_big_quiet_step (first | (go_at_call 51;with_reducible exact laid_drawn _ (C0.out _)) | (go_at_call 51;with_reducible exact laid_drawn _ (C1.out _)) | (go_at_call 16;with_reducible exact laid_of _ (CU.out _ (LaidBy.below _ BW.out))))));(refine wpQuiet_nil ?_);(rintro w9 ⟨p_,hp_⟩);(have hq_:Below w1.heap.size w1 w9:=hp_▸p_.ok);(clear hp_ p_ aC aD aE aF aG aH))
  all_goals (have Z5:=zb Z5 hq_;have BW:=zs BW hq_;clear hq_ HU;go_wp2)
  iterate 4 (go_ret;exact ⟨rfl,BW.out⟩)
  clear d4 C0 C1 CU du
  go_loopg [3] aa.length (fun gg s3 wr=>∃ kk:Nat,kk≤aa.length∧aa.length-kk≤gg∧s3=.int .i64 kk∧Aside0 (Below w.heap.size w wr)∧Aside0 (wr.heap[g5]? = some (.cells #[.slice ar aa.length ai,.slice aj ae.length ak,.slice al af.length an,.slice ao ab.length aq,.int .i64 ag,.int .i64 ah] 28))∧Aside0 (∃ q,spec_DiskOk.l0 q (kk:Int) aa ae af ab ag ah=some r))
  case atStart=>exact ⟨0,Nat.zero_le _,by omega,rfl,BW,Z5,⟨q0,A0.out⟩⟩
  case round=>
    clear BW Z5 A0
    obtain ⟨kk,hkk,hg,rfl,BW,Z5,A⟩:=hrel
    obtain ⟨q,hq⟩:=A.out
    cases q with
    | zero=>simp [spec_DiskOk.l0] at hq
    | succ q=>
    clear A
    simp only [spec_DiskOk.l0] at hq
    by_cases hlt:kk<aa.length
    · have hltz:(kk:Int)<(aa.length:Int):=by omega
      rw [if_pos hltz,if_pos (by omega:(0:Int)≤(kk:Int))] at hq
      obtain ⟨ad,rfl,hx0,hx1,hx2⟩:=at_T45 (Kd.C_below HR.out BW.out) (kk:Int) (by omega) hltz
      rw [Int.toNat_natCast] at hx0 hx1 hx2
      have hwn:wrap64 ((kk:Int)+1)=((kk+1:Nat):Int):=by unfold wrap64;omega
      rw [hwn] at hq
      generalize rd_T45 aa (kk:Int)=y at hx0 hx1 hx2 hq
      obtain ⟨b2,h2,hq⟩:=zo hq
      have H2:=zA (HI.out _ _ _ _ h2)
      have AA:=zA hq
      clear h2 hq hwn
      obtain ⟨e0,e1,e2,e3,e4,e5⟩:=b6of Z5.out
      go_wp2_with (((with_reducible refine gate_dst (N:=4) rfl ?_);refine box_event ?hg (N:=4) ?hd (cs:=#[.int .i64 0,.string (⟨#[]⟩:ByteArray),.int .i64 0]) (t:=45) ?hr ?_;(case hd=>rfl);(case hg=>rfl);(case hr=>(go_simp;done));intro g6 hg6 w2 hbox b6;have N2:=zA hbox;have S2:=zA b6;have G6:=zA hg6;have n0:w2.cell? ⟨g6,0,none⟩=some (.int .i64 0):=(blk_cell N2.out 0).trans rfl;have n1:w2.cell? ⟨g6,1,none⟩=some (.string (⟨#[]⟩:ByteArray)):=(blk_cell N2.out 1).trans rfl;have n2:w2.cell? ⟨g6,2,none⟩=some (.int .i64 0):=(blk_cell N2.out 2).trans rfl;have z0:=blk_frozen N2.out 0;have z1:=blk_frozen N2.out 1;have z2:=blk_frozen N2.out 2;replace hx0:=fact_below b6 hx0;replace hx1:=fact_below b6 hx1;replace hx2:=fact_below b6 hx2;clear hg6 hbox b6))
      refine gen_wp (R:=fun W=>Below w.heap.size w W∧W.heap[g5]? = some (.cells #[.slice (some ad) aa.length ai,.slice aj ae.length ak,.slice al af.length an,.slice ao ab.length aq,.int .i64 ag,.int .i64 ah] 28)∧W.heap[g6]? = some (.cells #[.int .i64 y.f0,.string y.f1,.int .i64 y.f2] 45)) ?_ ?_
      · have hg6:g6≠g5:=by have:=blk_lt Z5.out;have:=G6.out;omega
        have hge:w.heap.size≤g6:=by rw [G6.out];exact BW.out.size
        have hb2:=BW.out.trans (S2.out.mono BW.out.size)
        have hk:=(S2.out.block g5 (blk_lt Z5.out)).trans Z5.out
        refine ⟨below_set (below_set (below_set hb2 hge) hge) hge,blk_far (blk_far (blk_far hk (Ne.symm hg6) _) (Ne.symm hg6) _) (Ne.symm hg6) _,?_⟩
        exact blk_put (cs:=#[.int .i64 y.f0,.string y.f1,.int .i64 0]) (blk_put (cs:=#[.int .i64 y.f0,.string (⟨#[]⟩:ByteArray),.int .i64 0]) (blk_put (cs:=#[.int .i64 0,.string (⟨#[]⟩:ByteArray),.int .i64 0]) N2.out 0 _ rfl) 1 _ rfl) 2 _ rfl
      rintro W2 ⟨hB2,hK2,hN2⟩
      have BW2:=zA hB2
      have Z6:=zA hK2
      have f0:W2.cell? ⟨g5,0,none⟩=some (.slice (some ad) aa.length ai):=(blk_cell hK2 0).trans rfl
      have f5:W2.cell? ⟨g5,5,none⟩=some (.int .i64 ah):=(blk_cell hK2 5).trans rfl
      have m0:W2.cell? ⟨g6,0,none⟩=some (.int .i64 y.f0):=(blk_cell hN2 0).trans rfl
      have m1:W2.cell? ⟨g6,1,none⟩=some (.string y.f1):=(blk_cell hN2 1).trans rfl
      have m2:W2.cell? ⟨g6,2,none⟩=some (.int .i64 y.f2):=(blk_cell hN2 2).trans rfl
      clear hB2 hK2 hN2 n0 n1 n2 z0 z1 z2 N2 S2 G6 hx0 hx1 hx2 Z5 BW e0 e1 e2 e3 e4 e5
      have hz5:IntKind.i64.wrap (ah-1)=wrap64 (ah-1):=i64_w _
      cases b2
      (have hq:=AA.out;rw [if_neg (by decide)] at hq;obtain rfl:=Option.some.inj hq;go_quiet ((go_at_call 51;with_reducible exact Calls.quiet_of (H2.out _)));go_wp2;go_ret;exact ⟨rfl,pw_below_drewN BW2.out _⟩)
      have hq:=AA.out
      (rw [if_pos trivial] at hq)
      clear AA
      cases kk with
      | zero=>
        rw [if_neg (by decide)] at hq
        obtain ⟨b3,h3,hq⟩:=zo hq
        have H3:=zA (HI.out _ _ _ _ h3)
        have AA:=zA hq
        clear h3 hq
        cases b3
        all_goals (go_quiet (first | (go_at_call 51;with_reducible exact Calls.quiet_of (H2.out _)) | (go_at_call 51;with_reducible exact Calls.quiet_of (H3.out _)));go_wp2)
        (have hq:=AA.out;rw [if_neg (by decide)] at hq;obtain rfl:=Option.some.inj hq;go_ret;exact ⟨rfl,pw_below_drewN BW2.out _⟩)
        have hq:=AA.out
        (rw [if_pos trivial] at hq)
        have A3:=zA hq
        clear AA hq
        go_roundg (aa.length-(0+1))
        case measure=>omega
        case rel=>exact ⟨0+1,by omega,by omega,by go_num,⟨pw_below_drewN BW2.out _⟩,⟨Z6.out⟩,⟨q,A3.out⟩⟩
      | succ j=>
        have hw1:IntKind.i64.wrap ((j:Int)+1-1)=(j:Int):=by rw [show (j:Int)+1-1=(j:Int) by omega,IntKind.wrap_i64];omega
        have hwj:wrap64 (((j+1:Nat):Int)-1)=(j:Int):=by unfold wrap64;omega
        have hj0:(0:Int)≤(j:Int):=by omega
        have hjl:(j:Int)<(aa.length:Int):=by omega
        rw [if_pos (by omega:((j+1:Nat):Int)>0),hwj,if_pos hj0,if_pos hjl] at hq
        obtain ⟨ad2,e2,hv0,hv1,hv2⟩:=at_T45 (Kd.C_below HR.out BW2.out) (j:Int) hj0 hjl
        cases e2
        rw [Int.toNat_natCast] at hv0 hv1 hv2
        clear hv1 hv2 hwj
        generalize (rd_T45 aa (j:Int)).f0=p0 at hv0 hq
        by_cases hle:p0≥y.f0
        · rw [if_pos hle] at hq
          obtain rfl:=Option.some.inj hq
          have hle':decide (y.f0≤p0)=true:=zt hle
          clear hle hq
          go_quiet ((go_at_call 51;with_reducible exact Calls.quiet_of (H2.out _)))
          go_wp2
          go_ret
          exact ⟨rfl,pw_below_drewN BW2.out _⟩
        · rw [if_neg hle] at hq
          have hle':decide (y.f0≤p0)=false:=zf hle
          clear hle
          obtain ⟨b3,h3,hq⟩:=zo hq
          have H3:=zA (HI.out _ _ _ _ h3)
          have AA:=zA hq
          clear h3 hq
          cases b3
          all_goals (go_quiet (first | (go_at_call 51;with_reducible exact Calls.quiet_of (H2.out _)) | (go_at_call 51;with_reducible exact Calls.quiet_of (H3.out _)));go_wp2)
          (have hq:=AA.out;rw [if_neg (by decide)] at hq;obtain rfl:=Option.some.inj hq;go_ret;exact ⟨rfl,pw_below_drewN BW2.out _⟩)
          have hq:=AA.out
          (rw [if_pos trivial] at hq)
          have A3:=zA hq
          clear AA hq
          go_roundg (aa.length-(j+1+1))
          case measure=>omega
          case rel=>exact ⟨j+1+1,by omega,by omega,by go_num,⟨pw_below_drewN BW2.out _⟩,⟨Z6.out⟩,⟨q,A3.out⟩⟩
    · have hltz:¬ (kk:Int)<(aa.length:Int):=by omega
      rw [if_neg hltz] at hq
      have A1:=zA hq
      clear hq
      obtain ⟨e0,e1,e2,e3,e4,e5⟩:=b6of Z5.out
      go_wp2
      clear e0 e1 e2 e3 e4 e5 hltz hlt hkk hg
      go_loopg [5] q (fun gg s5 wr=>∃ x5:Int,s5=.int .i64 x5∧Aside0 (Below w.heap.size w wr)∧Aside0 (wr.heap[g5]? = some (.cells #[.slice ar aa.length ai,.slice aj ae.length ak,.slice al af.length an,.slice ao ab.length aq,.int .i64 ag,.int .i64 ah] 28))∧Aside0 (spec_DiskOk.l1 gg x5 aa ae af ab ag ah=some r))
      case atStart=>exact ⟨0,rfl,BW,Z5,A1⟩
      case round=>
        clear BW Z5 A1
        obtain ⟨x5,rfl,BW,Z5,A⟩:=hrel
        have hq:=A.out
        cases gk with
        | zero=>simp [spec_DiskOk.l1] at hq
        | succ q=>
        clear A
        simp only [spec_DiskOk.l1] at hq
        obtain ⟨e0,e1,e2,e3,e4,e5⟩:=b6of Z5.out
        by_cases hle:x5≤(ab.length:Int)
        · have hd1:decide (x5≤(ab.length:Int))=true:=zt hle
          rw [if_pos hle] at hq
          obtain ⟨⟨L,ok⟩,hD,hq⟩:=zo hq
          have CD:=zA (HD.out _ _ _ _ hD)
          clear hD hle
          dsimp only at hq
          cases ok
          (rw [if_neg (by decide)] at hq;obtain rfl:=Option.some.inj hq)
          (rotate_left 1;((rw [if_pos rfl] at hq);obtain ⟨b4,h4,hq⟩:=zo hq;have CE:=zA (HE.out _ _ _ h4);clear h4;cases b4);rotate_right 1)
          (rotate_left 1;(rw [if_neg (by decide)] at hq;obtain rfl:=Option.some.inj hq);rotate_right 1)
          (rotate_left 2;((rw [if_pos rfl] at hq);by_cases hk:x5=(ab.length:Int));rotate_right 2)
          (rotate_left 2;(rw [if_pos hk] at hq;have k1:(x5 == (ab.length:Int))=true:=beq_iff_eq.mpr hk;clear hk;obtain ⟨b5,h5,hq⟩:=zo hq;have CS:=zA (HS.out _ _ _ h5);clear h5;cases b5);rotate_right 2)
          (rotate_left 2;(rw [if_neg (by decide)] at hq;obtain rfl:=Option.some.inj hq);rotate_right 2)
          (rotate_left 3;((rw [if_pos rfl] at hq);have A3:=zA hq);rotate_right 3)
          (rotate_left 4;(rw [if_neg hk] at hq;have k1:(x5 == (ab.length:Int))=false:=beq_eq_false_iff_ne.mpr hk;clear hk;have A3:=zA hq);rotate_right 4)
          all_goals (clear hq;go_wp2_with (first | (go_at_call 52;(with_reducible refine (CD.out _ BW.out).mono ?_);rintro e w3 ⟨v3,rfl,o3,hb⟩;obtain ⟨A3_,c3_,rfl,hl3,hC3⟩:=Kd.R_reads o3;have CC:=zA hC3;have CL:=zA hl3;clear o3 hl3 hC3;have Z5:=zb Z5 hb;have BW:=zs BW hb;obtain ⟨e0,e1,e2,e3,e4,e5⟩:=b6of Z5.out;clear hb) | (go_at_call 53;(with_reducible refine (CE.out _ BW.out _ _ CC.out CL.out).mono ?_);rintro e w4 ⟨rfl,hb⟩;have CC:=zA (Kd.C_below CC.out hb);have Z5:=zb Z5 hb;have BW:=zs BW hb;obtain ⟨e0,e1,e2,e3,e4,e5⟩:=b6of Z5.out;clear hb) | (go_at_call 54;(with_reducible refine (CS.out _ BW.out _ _ CC.out CL.out).mono ?_);rintro e w5 ⟨rfl,q5,rfl⟩;have Z5:=zA (blk_drewN Z5.out q5);have BW:=zA (pw_below_drewN BW.out q5))))
          iterate 3 (go_ret;exact ⟨rfl,BW.out⟩)
          all_goals (go_roundg q;(case measure=>omega);(case rel=>exact ⟨wrap64 (x5+1),(by rfl),⟨BW.out⟩,⟨Z5.out⟩,A3⟩))
        · have hd1:decide (x5≤(ab.length:Int))=false:=zf hle
          rw [if_neg hle] at hq
          obtain rfl:=Option.some.inj hq
          clear hq
          go_wp2
          go_ret
          exact ⟨rfl,BW.out⟩
def spec_l05Copy.f (aa:List (S45)) (ab:List (S47)) (ad:List (S47)) (ae:List ByteArray) (aj:Int) (ak:Int):Option ((List (S45))×(List (S47))×(List (S47))×List ByteArray×Int×Int):=(some (([]:List (S45)):List (S45))).bind fun af=>(if af.length+aa.length<4398046511104 then ((some (([]:List (S47)):List (S47))).bind fun ag=>(if ag.length+ab.length<5864062014805 then ((some (([]:List (S47)):List (S47))).bind fun ah=>(if ah.length+ad.length<5864062014805 then ((some (([]:List ByteArray):List ByteArray)).bind fun ai=>(if ai.length+ae.length<8796093022208 then (some ((af++aa),(ag++ab),(ah++ad),(ai++ae),aj,ak)) else (none))) else (none))) else (none))) else (none))
theorem spec_l05Copy.calls (ba:Option Addr) (bb:Nat) (az:List (S45)) (aU:Option Addr) (aV:Nat) (al:List (S47)) (aI:Option Addr) (aJ:Nat) (af:List (S47)) (aC:Option Addr) (aD:Nat) (ad:List ByteArray) (ag:Int) (ah:Int) (r1:List (S45)) (r2:List (S47)) (r3:List (S47)) (r4:List ByteArray) (r5:Int) (r6:Int) (w:World) (bn:Kd.C k45 w ba az.length az) (bw:az.length≤bb) (bo:Kd.C k47 w aU al.length al) (bx:al.length≤aV) (bp:Kd.C k47 w aI af.length af) (bz:af.length≤aJ) (bq:Kd.C Kd.string w aC ad.length ad) (bC:ad.length≤aD) (h:spec_l05Copy.f az al af ad ag ah=some (r1,r2,r3,r4,r5,r6)) :
  Calls Tryz.prog 44 #[.agg #[.slice ba az.length bb,.slice aU al.length aV,.slice aI af.length aJ,.slice aC ad.length aD,.int .i64 ag,.int .i64 ah]] w fun e w'=>∃ v0_ v1_ v2_ v3_:Value,e=.returned (.agg #[v0_,v1_,v2_,v3_,.int .i64 r5,.int .i64 r6])∧Kd.R k45 45 w' w.heap.size (fun _=>True) v0_ r1∧Kd.R k47 47 w' w.heap.size (fun k_=>some k_≠(v2_:Value).ownBlock) v1_ r2∧Kd.R k47 47 w' w.heap.size (fun k_=>some k_≠(v1_:Value).ownBlock) v2_ r3∧Kd.R Kd.string 9 w' w.heap.size (fun _=>True) v3_ r4∧Below w.heap.size w w':=by
 have bD:=zA bn
 clear bn bw
 have bE:=zA bo
 clear bo bx
 have bF:=zA bp
 clear bp bz
 have bG:=zA bq
 clear bq bC
 have HB:=zA (Below.refl w.heap.size w)
 have H:((some (([]:List (S45)):List (S45))).bind fun aW=>(if aW.length+az.length<4398046511104 then ((some (([]:List (S47)):List (S47))).bind fun aA=>(if aA.length+al.length<5864062014805 then ((some (([]:List (S47)):List (S47))).bind fun ao=>(if ao.length+af.length<5864062014805 then ((some (([]:List ByteArray):List ByteArray)).bind fun ai=>(if ai.length+ad.length<8796093022208 then (some ((aW++az),(aA++al),(ao++af),(ai++ad),ag,ah)) else (none))) else (none))) else (none))) else (none)))=some (r1,r2,r3,r4,r5,r6):=h
 clear h
 obtain ⟨aW,bc⟩:∃ y_:List (S45),y_=(([]:List (S45))):=⟨_,rfl⟩
 replace H:(if aW.length+az.length<4398046511104 then ((some (([]:List (S47)):List (S47))).bind fun aA=>(if aA.length+al.length<5864062014805 then ((some (([]:List (S47)):List (S47))).bind fun ao=>(if ao.length+af.length<5864062014805 then ((some (([]:List ByteArray):List ByteArray)).bind fun ai=>(if ai.length+ad.length<8796093022208 then (some ((aW++az),(aA++al),(ao++af),(ai++ad),ag,ah)) else (none))) else (none))) else (none))) else (none))=some (r1,r2,r3,r4,r5,r6):=by (have H2_:=(Option.bind_some _ _).symm.trans H;rw [bc];with_reducible exact H2_)
 have bH:=zA bc
 clear bc
 by_cases c2:aW.length+az.length<4398046511104
 ·rw [if_pos c2] at H
  have bQ:=zA c2
  clear c2
  obtain ⟨aj,bd⟩:∃ y_:List (S45),y_=(aW++az):=⟨_,rfl⟩
  replace H:((some (([]:List (S47)):List (S47))).bind fun aA=>(if aA.length+al.length<5864062014805 then ((some (([]:List (S47)):List (S47))).bind fun ao=>(if ao.length+af.length<5864062014805 then ((some (([]:List ByteArray):List ByteArray)).bind fun ai=>(if ai.length+ad.length<8796093022208 then (some (aj,(aA++al),(ao++af),(ai++ad),ag,ah)) else (none))) else (none))) else (none)))=some (r1,r2,r3,r4,r5,r6):=by (rw [bd];with_reducible exact H)
  have bI:=zA bd
  clear bd
  obtain ⟨aA,bf⟩:∃ y_:List (S47),y_=(([]:List (S47))):=⟨_,rfl⟩
  replace H:(if aA.length+al.length<5864062014805 then ((some (([]:List (S47)):List (S47))).bind fun ao=>(if ao.length+af.length<5864062014805 then ((some (([]:List ByteArray):List ByteArray)).bind fun ai=>(if ai.length+ad.length<8796093022208 then (some (aj,(aA++al),(ao++af),(ai++ad),ag,ah)) else (none))) else (none))) else (none))=some (r1,r2,r3,r4,r5,r6):=by (have H2_:=(Option.bind_some _ _).symm.trans H;rw [bf];with_reducible exact H2_)
  have bJ:=zA bf
  clear bf
  by_cases c3:aA.length+al.length<5864062014805
  ·rw [if_pos c3] at H
   have bR:=zA c3
   clear c3
   obtain ⟨ak,bg⟩:∃ y_:List (S47),y_=(aA++al):=⟨_,rfl⟩
   replace H:((some (([]:List (S47)):List (S47))).bind fun ao=>(if ao.length+af.length<5864062014805 then ((some (([]:List ByteArray):List ByteArray)).bind fun ai=>(if ai.length+ad.length<8796093022208 then (some (aj,ak,(ao++af),(ai++ad),ag,ah)) else (none))) else (none)))=some (r1,r2,r3,r4,r5,r6):=by (rw [bg];with_reducible exact H)
   have bK:=zA bg
   clear bg
   obtain ⟨ao,bh⟩:∃ y_:List (S47),y_=(([]:List (S47))):=⟨_,rfl⟩
   replace H:(if ao.length+af.length<5864062014805 then ((some (([]:List ByteArray):List ByteArray)).bind fun ai=>(if ai.length+ad.length<8796093022208 then (some (aj,ak,(ao++af),(ai++ad),ag,ah)) else (none))) else (none))=some (r1,r2,r3,r4,r5,r6):=by (have H2_:=(Option.bind_some _ _).symm.trans H;rw [bh];with_reducible exact H2_)
   have bL:=zA bh
   clear bh
   by_cases c4:ao.length+af.length<5864062014805
   ·rw [if_pos c4] at H
    have bS:=zA c4
    clear c4
    obtain ⟨ay,bj⟩:∃ y_:List (S47),y_=(ao++af):=⟨_,rfl⟩
    replace H:((some (([]:List ByteArray):List ByteArray)).bind fun ai=>(if ai.length+ad.length<8796093022208 then (some (aj,ak,ay,(ai++ad),ag,ah)) else (none)))=some (r1,r2,r3,r4,r5,r6):=by (rw [bj];with_reducible exact H)
    have bM:=zA bj
    clear bj
    obtain ⟨ai,bk⟩:∃ y_:List ByteArray,y_=([]:List ByteArray):=⟨_,rfl⟩
    replace H:(if ai.length+ad.length<8796093022208 then (some (aj,ak,ay,(ai++ad),ag,ah)) else (none))=some (r1,r2,r3,r4,r5,r6):=by (have H2_:=(Option.bind_some _ _).symm.trans H;rw [bk];with_reducible exact H2_)
    have bN:=zA bk
    clear bk
    by_cases c5:ai.length+ad.length<8796093022208
    ·rw [if_pos c5] at H
     have bT:=zA c5
     clear c5
     obtain ⟨aH,bl⟩:∃ y_:List ByteArray,y_=(ai++ad):=⟨_,rfl⟩
     replace H:(some (aj,ak,ay,aH,ag,ah))=some (r1,r2,r3,r4,r5,r6):=by (rw [bl];with_reducible exact H)
     have bO:=zA bl
     clear bl
     simp only [Option.some.injEq,Prod.mk.injEq] at H
     obtain ⟨rfl,rfl,rfl,rfl,rfl,rfl⟩:=H
     go_enter Tryz.func44,Tryz.ntmps44
     go_wp2_with (first | ((with_reducible refine gate_dst (N:=1) rfl ?_);refine box_event ?hg (N:=1) ?hd (cs:=#[.slice ba az.length bb,.slice aU al.length aV,.slice aI af.length aJ,.slice aC ad.length aD,.int .i64 ag,.int .i64 ah]) (t:=28) ?hr ?_;(case hd=>rfl);(case hg=>rfl);(case hr=>(go_simp;done));intro ae hg w6 hbox hb;have aa:=zA (hbox);have aK:=zA ((by rw [hg];exact (below_size HB.out):w.heap.size≤ae));replace HB:=zs HB hb;clear hb hbox hg) | ((with_reducible refine gate_dst (N:=2) rfl ?_);refine box_event ?hg (N:=2) ?hd (cs:=#[.slice none 0 0,.slice none 0 0,.slice none 0 0,.slice none 0 0,.int .i64 0,.int .i64 0]) (t:=28) ?hr ?_;(case hd=>rfl);(case hg=>rfl);(case hr=>(go_simp;done));intro aM hg w7 hbox hb;have ab:=zA (hbox);have bP:=zA ((by rw [hg];exact (below_size HB.out):w.heap.size≤aM));have aq:=zA ((by rw [hg];exact Nat.ne_of_gt (blk_lt aa.out):aM≠ae));replace aa:=zA (bB hb aa.out);replace HB:=zs HB hb;clear hb hbox hg) | ((with_reducible refine gate_dst (N:=3) rfl ?_);refine Kd.R_lit k45 _ 45 ?hg (N:=3) ?hd (xs:=([]:List (S45))) (inner:=[]) (ok:=fun _=>True) (okp:=fun _=>True) ?hr ?hp (fun _ hk=>hk) trivial (Below.refl _ _) (Nat.le_refl _) (by simp) ?_;(case hd=>rfl);(case hg=>rfl);(case hr=>(go_simp;done));(case hp=>exact (Reps.none _ _));intro bU w8 ho9 hb hg_ hnew_;clear hg_ hnew_;(rw [← bH.out] at ho9);have aZ:=zA (Kd.R_lower ho9 (below_size HB.out));replace aa:=zA (bB hb aa.out);replace ab:=zA (bB hb ab.out);replace HB:=zs HB hb;clear hb ho9;have hnc10:=aq.out;obtain ⟨hcz11_0,hcz11_1,hcz11_2,hcz11_3,hcz11_4,hcz11_5⟩:=b6of aa.out;obtain ⟨hfz11_0,hfz11_1,hfz11_2,hfz11_3,hfz11_4,hfz11_5⟩:=z6of aa.out) | ((with_reducible refine gate_builtin (b:=.append) (xs:=#[.tmp 3,.tmp 5]) rfl ?_);at_builtin;refine Kd.R_append_rows k45 (w0:=w) w.heap.size rfl (.tmp 3) (.tmp 5) 24 45 (.agg #[(.int .i64 0),(.string ⟨#[]⟩),(.int .i64 0)]) 32 rfl Tryz.underlying24 info45 rfl (by decide) (by omega) bU aW az _ _ _ (fun _=>True) (fun _=>False) rfl rfl ?aO ?aR (fun _ _ h=>h) (fun _ h=>h.elim) ?aF ?aB ?aS ?aL ?_;(case aR=>repeat (exact (Kd.C_below bD.out HB.out)));(case aB=>exact HB.out);(case aF=>exact (fun _ _=>trivial));(case aO=>exact aZ.out);(case aS=>exact (below_size HB.out));(case aL=>have:=bQ.out;omega);intro v216 w12 ho hb hg hat;rw [← bI.out] at ho;have an:=zA (ho);replace aa:=zA (blk_grown (g:=ae) (o:=.cells #[.slice ba az.length bb,.slice aU al.length aV,.slice aI af.length aJ,.slice aC ad.length aD,.int .i64 ag,.int .i64 ah] 28 (0,0)) aa.out hg (Kd.R_ne aZ.out aa.out (by decide)));replace ab:=zA (blk_grown (g:=aM) (o:=.cells #[.slice none 0 0,.slice none 0 0,.slice none 0 0,.slice none 0 0,.int .i64 0,.int .i64 0] 28 (0,0)) ab.out hg (Kd.R_ne aZ.out ab.out (by decide)));replace HB:=zA (hb);clear aZ;clear ho hb hg hat;obtain ⟨ar,au,bV⟩:=Kd.R_slice an.out;subst bV;obtain ⟨hcz14_0,hcz14_1,hcz14_2,hcz14_3,hcz14_4,hcz14_5⟩:=b6of aa.out;obtain ⟨hfz14_0,hfz14_1,hfz14_2,hfz14_3,hfz14_4,hfz14_5⟩:=z6of aa.out) | ((with_reducible refine gate_dst (N:=8) rfl ?_);refine Kd.R_lit k47 _ 47 ?hg (N:=8) ?hd (xs:=([]:List (S47))) (inner:=[]) (ok:=fun _=>True) (okp:=fun _=>True) ?hr ?hp (fun _ hk=>hk) trivial (Below.refl _ _) (Nat.le_refl _) (by simp) ?_;(case hd=>rfl);(case hg=>rfl);(case hr=>(go_simp;done));(case hp=>exact (Reps.none _ _));intro bW w15 bs hb hg_ hnew_;clear hg_ hnew_;(rw [← bJ.out] at bs);have aX:=zA (Kd.R_lower bs (below_size (by repeat (with_reducible first | exact HB.out | refine below_set ?_ aK.out))));replace an:=zA (Kd.R_below (by exact (Kd.R_mono (Kd.R_far (p:=⟨ae,0,none⟩) (Kd.R_types an.out aa.out (by decide)) (fun _ hk=>hk.2) (.slice ar aj.length au)) (fun _ h_=>h_.1))) hb);replace aa:=zA (blk_below (g:=ae) (o:=.cells #[.slice ar aj.length au,.slice aU al.length aV,.slice aI af.length aJ,.slice aC ad.length aD,.int .i64 ag,.int .i64 ah] 28 (0,0)) (by refine blk_put (cs:=#[.slice ba az.length bb,.slice aU al.length aV,.slice aI af.length aJ,.slice aC ad.length aD,.int .i64 ag,.int .i64 ah]) ?_ 0 _ rfl;exact aa.out) hb);replace ab:=zA (bB hb (blk_far ab.out aq.out _));replace HB:=zA (below_step (by repeat (with_reducible first | exact HB.out | refine below_set ?_ aK.out)) hb);clear hb bs;obtain ⟨hcz17_0,hcz17_1,hcz17_2,hcz17_3,hcz17_4,hcz17_5⟩:=b6of aa.out;obtain ⟨hfz17_0,hfz17_1,hfz17_2,hfz17_3,hfz17_4,hfz17_5⟩:=z6of aa.out) | ((with_reducible refine gate_builtin (b:=.append) (xs:=#[.tmp 8,.tmp 10]) rfl ?_);at_builtin;refine Kd.R_append_rows k47 (w0:=w) w.heap.size rfl (.tmp 8) (.tmp 10) 25 47 (.agg #[(.string ⟨#[]⟩),(.int .i64 0)]) 24 rfl Tryz.underlying25 info47 rfl (by decide) (by omega) bW aA al _ _ _ (fun _=>True) (fun _=>False) rfl rfl ?aO ?aR (fun _ _ h=>h) (fun _ h=>h.elim) ?aF ?aB ?aS ?aL ?_;(case aR=>repeat (exact (Kd.C_below bE.out HB.out)));(case aB=>exact HB.out);(case aF=>exact (fun _ _=>trivial));(case aO=>exact aX.out);(case aS=>exact (below_size HB.out));(case aL=>have:=bR.out;omega);intro v222 w18 ho hb hg hat;rw [← bK.out] at ho;have av:=zA (ho);replace aa:=zA (blk_grown (g:=ae) (o:=.cells #[.slice ar aj.length au,.slice aU al.length aV,.slice aI af.length aJ,.slice aC ad.length aD,.int .i64 ag,.int .i64 ah] 28 (0,0)) aa.out hg (Kd.R_ne aX.out aa.out (by decide)));replace ab:=zA (blk_grown (g:=aM) (o:=.cells #[.slice none 0 0,.slice none 0 0,.slice none 0 0,.slice none 0 0,.int .i64 0,.int .i64 0] 28 (0,0)) ab.out hg (Kd.R_ne aX.out ab.out (by decide)));replace an:=zA (Kd.R_over' an.out (Kd.R_typed aX.out) (by decide) hg);replace HB:=zA (hb);clear aX;clear ho hb hg hat;obtain ⟨aw,ax,bX⟩:=Kd.R_slice av.out;subst bX;obtain ⟨hcz20_0,hcz20_1,hcz20_2,hcz20_3,hcz20_4,hcz20_5⟩:=b6of aa.out;obtain ⟨hfz20_0,hfz20_1,hfz20_2,hfz20_3,hfz20_4,hfz20_5⟩:=z6of aa.out) | ((with_reducible refine gate_dst (N:=13) rfl ?_);refine Kd.R_lit k47 _ 47 ?hg (N:=13) ?hd (xs:=([]:List (S47))) (inner:=[]) (ok:=fun _=>True) (okp:=fun _=>True) ?hr ?hp (fun _ hk=>hk) trivial (Below.refl _ _) (Nat.le_refl _) (by simp) ?_;(case hd=>rfl);(case hg=>rfl);(case hr=>(go_simp;done));(case hp=>exact (Reps.none _ _));intro bY w21 bm hb hg_ hnew_;clear hg_ hnew_;(rw [← bL.out] at bm);have aY:=zA (Kd.R_lower (Kd.R_new' bm (Kd.R_lt (by exact (Kd.R_mono (Kd.R_far (p:=⟨ae,1,none⟩) (Kd.R_types av.out aa.out (by decide)) (fun _ hk=>hk.2) (.slice aw ak.length ax)) (fun _ h_=>h_.1))))) (below_size (by repeat (with_reducible first | exact HB.out | refine below_set ?_ aK.out))));replace an:=zA (Kd.R_below (by exact (Kd.R_mono (Kd.R_far (p:=⟨ae,1,none⟩) (Kd.R_types an.out aa.out (by decide)) (fun _ hk=>hk.2) (.slice aw ak.length ax)) (fun _ h_=>h_.1))) hb);replace av:=zA (Kd.R_elder' (by exact (Kd.R_mono (Kd.R_far (p:=⟨ae,1,none⟩) (Kd.R_types av.out aa.out (by decide)) (fun _ hk=>hk.2) (.slice aw ak.length ax)) (fun _ h_=>h_.1))) (Kd.R_base bm) hb);replace aa:=zA (blk_below (g:=ae) (o:=.cells #[.slice ar aj.length au,.slice aw ak.length ax,.slice aI af.length aJ,.slice aC ad.length aD,.int .i64 ag,.int .i64 ah] 28 (0,0)) (by refine blk_put (cs:=#[.slice ar aj.length au,.slice aU al.length aV,.slice aI af.length aJ,.slice aC ad.length aD,.int .i64 ag,.int .i64 ah]) ?_ 1 _ rfl;exact aa.out) hb);replace ab:=zA (bB hb (blk_far ab.out aq.out _));replace HB:=zA (below_step (by repeat (with_reducible first | exact HB.out | refine below_set ?_ aK.out)) hb);clear hb bm;obtain ⟨hcz23_0,hcz23_1,hcz23_2,hcz23_3,hcz23_4,hcz23_5⟩:=b6of aa.out;obtain ⟨hfz23_0,hfz23_1,hfz23_2,hfz23_3,hfz23_4,hfz23_5⟩:=z6of aa.out) | ((with_reducible refine gate_builtin (b:=.append) (xs:=#[.tmp 13,.tmp 15]) rfl ?_);at_builtin;refine Kd.R_append_rows k47 (w0:=w) w.heap.size rfl (.tmp 13) (.tmp 15) 25 47 (.agg #[(.string ⟨#[]⟩),(.int .i64 0)]) 24 rfl Tryz.underlying25 info47 rfl (by decide) (by omega) bY ao af _ _ _ (fun k_=>some k_≠(.slice aw ak.length ax:Value).ownBlock) (fun _=>False) rfl rfl ?aO ?aR (fun _ _ h=>h) (fun _ h=>h.elim) ?aF ?aB ?aS ?aL ?_;(case aR=>repeat (exact (Kd.C_below bF.out HB.out)));(case aB=>exact HB.out);(case aF=>exact (fun k_ hk=>Kd.fresh' (Kd.R_lt av.out) k_ hk));(case aO=>exact (by exact Kd.R_mono aY.out (fun _ hk=>hk.2)));(case aS=>exact (below_size HB.out));(case aL=>have:=bS.out;omega);intro v228 w24 ho hb hg hat;rw [← bM.out] at ho;have aT:=zA (ho);replace aa:=zA (blk_grown (g:=ae) (o:=.cells #[.slice ar aj.length au,.slice aw ak.length ax,.slice aI af.length aJ,.slice aC ad.length aD,.int .i64 ag,.int .i64 ah] 28 (0,0)) aa.out hg (Kd.R_ne aY.out aa.out (by decide)));replace ab:=zA (blk_grown (g:=aM) (o:=.cells #[.slice none 0 0,.slice none 0 0,.slice none 0 0,.slice none 0 0,.int .i64 0,.int .i64 0] 28 (0,0)) ab.out hg (Kd.R_ne aY.out ab.out (by decide)));replace an:=zA (Kd.R_over' an.out (Kd.R_typed aY.out) (by decide) hg);replace av:=zA (Kd.R_after (ok:=(fun _=>True)) av.out hg hat);replace HB:=zA (hb);clear aY;clear ho hb hg hat;obtain ⟨aE,aG,bZ⟩:=Kd.R_slice aT.out;subst bZ;obtain ⟨hcz26_0,hcz26_1,hcz26_2,hcz26_3,hcz26_4,hcz26_5⟩:=b6of aa.out;obtain ⟨hfz26_0,hfz26_1,hfz26_2,hfz26_3,hfz26_4,hfz26_5⟩:=z6of aa.out) | ((with_reducible refine gate_dst (N:=18) rfl ?_);refine Kd.R_lit Kd.string _ 9 ?hg (N:=18) ?hd (xs:=([]:List ByteArray)) (inner:=[]) (ok:=fun _=>True) (okp:=fun _=>True) ?hr ?hp (fun _ hk=>hk) trivial (Below.refl _ _) (Nat.le_refl _) (by simp) ?_;(case hd=>rfl);(case hg=>rfl);(case hr=>(go_simp;done));(case hp=>exact (Reps.none _ _));intro ca w27 bu hb hg_ hnew_;clear hg_ hnew_;(rw [← bN.out] at bu);have aN:=zA (Kd.R_lower bu (below_size (by repeat (with_reducible first | exact HB.out | refine below_set ?_ aK.out))));replace an:=zA (Kd.R_below (by exact (Kd.R_mono (Kd.R_far (p:=⟨ae,2,none⟩) (Kd.R_types an.out aa.out (by decide)) (fun _ hk=>hk.2) (.slice aE ay.length aG)) (fun _ h_=>h_.1))) hb);replace av:=zA (Kd.R_below (by exact (Kd.R_mono (Kd.R_far (p:=⟨ae,2,none⟩) (Kd.R_types av.out aa.out (by decide)) (fun _ hk=>hk.2) (.slice aE ay.length aG)) (fun _ h_=>h_.1))) hb);replace aT:=zA (Kd.R_below (by exact (Kd.R_mono (Kd.R_far (p:=⟨ae,2,none⟩) (Kd.R_types aT.out aa.out (by decide)) (fun _ hk=>hk.2) (.slice aE ay.length aG)) (fun _ h_=>h_.1))) hb);replace aa:=zA (blk_below (g:=ae) (o:=.cells #[.slice ar aj.length au,.slice aw ak.length ax,.slice aE ay.length aG,.slice aC ad.length aD,.int .i64 ag,.int .i64 ah] 28 (0,0)) (by refine blk_put (cs:=#[.slice ar aj.length au,.slice aw ak.length ax,.slice aI af.length aJ,.slice aC ad.length aD,.int .i64 ag,.int .i64 ah]) ?_ 2 _ rfl;exact aa.out) hb);replace ab:=zA (bB hb (blk_far ab.out aq.out _));replace HB:=zA (below_step (by repeat (with_reducible first | exact HB.out | refine below_set ?_ aK.out)) hb);clear hb bu;obtain ⟨hcz29_0,hcz29_1,hcz29_2,hcz29_3,hcz29_4,hcz29_5⟩:=b6of aa.out;obtain ⟨hfz29_0,hfz29_1,hfz29_2,hfz29_3,hfz29_4,hfz29_5⟩:=z6of aa.out) | ((with_reducible refine gate_builtin (b:=.append) (xs:=#[.tmp 18,.tmp 20]) rfl ?_);at_builtin;refine Kd.R_append_rows Kd.string (w0:=w) w.heap.size rfl (.tmp 18) (.tmp 20) 26 9 (.string ⟨#[]⟩) 16 rfl Tryz.underlying26 info9 rfl (by decide) (by omega) ca ai ad _ _ _ (fun _=>True) (fun _=>False) rfl rfl ?aO ?aR (fun _ _ h=>h) (fun _ h=>h.elim) ?aF ?aB ?aS ?aL ?_;(case aR=>repeat (exact (Kd.C_below bG.out HB.out)));(case aB=>exact HB.out);(case aF=>exact (fun _ _=>trivial));(case aO=>exact aN.out);(case aS=>exact (below_size HB.out));(case aL=>have:=bT.out;omega);intro v234 w30 ho hb hg hat;rw [← bO.out] at ho;have br:=zA (ho);replace aa:=zA (blk_grown (g:=ae) (o:=.cells #[.slice ar aj.length au,.slice aw ak.length ax,.slice aE ay.length aG,.slice aC ad.length aD,.int .i64 ag,.int .i64 ah] 28 (0,0)) aa.out hg (Kd.R_ne aN.out aa.out (by decide)));replace ab:=zA (blk_grown (g:=aM) (o:=.cells #[.slice none 0 0,.slice none 0 0,.slice none 0 0,.slice none 0 0,.int .i64 0,.int .i64 0] 28 (0,0)) ab.out hg (Kd.R_ne aN.out ab.out (by decide)));replace an:=zA (Kd.R_over' an.out (Kd.R_typed aN.out) (by decide) hg);replace av:=zA (Kd.R_over' av.out (Kd.R_typed aN.out) (by decide) hg);replace aT:=zA (Kd.R_over' aT.out (Kd.R_typed aN.out) (by decide) hg);replace HB:=zA (hb);clear aN;clear ho hb hg hat;obtain ⟨aP,aQ,cb⟩:=Kd.R_slice br.out;subst cb;obtain ⟨hcz32_0,hcz32_1,hcz32_2,hcz32_3,hcz32_4,hcz32_5⟩:=b6of aa.out;obtain ⟨hfz32_0,hfz32_1,hfz32_2,hfz32_3,hfz32_4,hfz32_5⟩:=z6of aa.out;obtain ⟨hcz33_0,hcz33_1,hcz33_2,hcz33_3,hcz33_4,hcz33_5⟩:=b6of ab.out;obtain ⟨hfz33_0,hfz33_1,hfz33_2,hfz33_3,hfz33_4,hfz33_5⟩:=z6of ab.out))
     refine bodyPost_ret (results_cell_row rfl _ _ aM 28 #[.slice ar aj.length au,.slice aw ak.length ax,.slice aE ay.length aG,.slice aP aH.length aQ,.int .i64 ag,.int .i64 ah] (0,0) _ rfl (by refine blk_put (cs:=#[.slice ar aj.length au,.slice aw ak.length ax,.slice aE ay.length aG,.slice aP aH.length aQ,.int .i64 ag,.int .i64 0]) ?_ 5 _ rfl;refine blk_put (cs:=#[.slice ar aj.length au,.slice aw ak.length ax,.slice aE ay.length aG,.slice aP aH.length aQ,.int .i64 0,.int .i64 0]) ?_ 4 _ rfl;refine blk_put (cs:=#[.slice ar aj.length au,.slice aw ak.length ax,.slice aE ay.length aG,.slice none 0 0,.int .i64 0,.int .i64 0]) ?_ 3 _ rfl;refine blk_put (cs:=#[.slice ar aj.length au,.slice aw ak.length ax,.slice none 0 0,.slice none 0 0,.int .i64 0,.int .i64 0]) ?_ 2 _ rfl;refine blk_put (cs:=#[.slice ar aj.length au,.slice none 0 0,.slice none 0 0,.slice none 0 0,.int .i64 0,.int .i64 0]) ?_ 1 _ rfl;refine blk_put (cs:=#[.slice none 0 0,.slice none 0 0,.slice none 0 0,.slice none 0 0,.int .i64 0,.int .i64 0]) ?_ 0 _ rfl;refine blk_far ?_ aq.out _;exact ab.out) Tryz.underlying28 rfl (by kernel_rfl)) rfl ?_
     all_goals exact ⟨_,_,_,_,by rfl,by exact Kd.R_mono (R6 (Kd.R_far (p:=⟨ae,3,none⟩) (Kd.R_types (Kd.R_types an.out aa.out (by decide)) ab.out (by decide)) (fun _ hk=>hk.1.2) (.slice aP aH.length aQ)) (.slice ar aj.length au) (.slice aw ak.length ax) (.slice aE ay.length aG) (.slice aP aH.length aQ) (.int .i64 ag) (.int .i64 ah)) (fun _ hk=>trivial),by exact Kd.R_mono (R6 (Kd.R_far (p:=⟨ae,3,none⟩) (Kd.R_types (Kd.R_types av.out aa.out (by decide)) ab.out (by decide)) (fun _ hk=>hk.1.2) (.slice aP aH.length aQ)) (.slice ar aj.length au) (.slice aw ak.length ax) (.slice aE ay.length aG) (.slice aP aH.length aQ) (.int .i64 ag) (.int .i64 ah)) (fun _ hk=>hk.1.1.2),by exact Kd.R_mono (R6 (Kd.R_far (p:=⟨ae,3,none⟩) (Kd.R_types (Kd.R_types aT.out aa.out (by decide)) ab.out (by decide)) (fun _ hk=>hk.1.2) (.slice aP aH.length aQ)) (.slice ar aj.length au) (.slice aw ak.length ax) (.slice aE ay.length aG) (.slice aP aH.length aQ) (.int .i64 ag) (.int .i64 ah)) (fun _ hk=>hk.1.1),by exact Kd.R_mono (R6 (Kd.R_far (p:=⟨ae,3,none⟩) (Kd.R_types (Kd.R_types br.out aa.out (by decide)) ab.out (by decide)) (fun _ hk=>hk.1.2) (.slice aP aH.length aQ)) (.slice ar aj.length au) (.slice aw ak.length ax) (.slice aE ay.length aG) (.slice aP aH.length aQ) (.int .i64 ag) (.int .i64 ah)) (fun _ hk=>trivial),by repeat (with_reducible first | exact HB.out | refine below_set ?_ aK.out | refine below_set ?_ bP.out)⟩
    ·rw [if_neg c5] at H
     exact absurd H (by simp)
   ·rw [if_neg c4] at H
    exact absurd H (by simp)
  ·rw [if_neg c3] at H
   exact absurd H (by simp)
 ·rw [if_neg c2] at H
  exact absurd H (by simp)
end Go.Proofs.YtokcccejijmkmaaGreatDoor.MFnDeeds
