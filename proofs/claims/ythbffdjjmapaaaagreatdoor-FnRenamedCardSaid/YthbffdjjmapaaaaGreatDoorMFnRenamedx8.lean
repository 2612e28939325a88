/- Each theorem here says that a call of one Go function answers what the Lean function beside it answers; its conditions stand in it. Written by a program of this session. -/
import Derived.Test.YthbffdjjmapaaaaGreatDoorMFnRenamedx0
import Derived.Test.YthbffdjjmapaaaaGreatDoorMFnRenamedx2
import Derived.Test.YthbffdjjmapaaaaGreatDoorMFnRenamedx3
import Derived.Test.YthbffdjjmapaaaaGreatDoorMFnRenamedx7
namespace Go.Proofs.YthbffdjjmapaaaaGreatDoor.MFnRenamed
open Go.RowKit Go.Proofs.YthbffdjjmapaaaaGreatDoorW.PrintWords Go.Proofs.YthbffdjjmapaaaaGreatDoorW.PrintLast Go.Proofs.YthbffdjjmapaaaaGreatDoorW.PrintMore
attribute [local go_sem] max2_int min2_int max_two min_two max_three min_three max_four min_four   -- for this text's walks alone
set_option linter.unusedVariables false
set_option linter.unusedSimpArgs false

attribute [local go_sem high] eqA64
/-! ### spec_l05Entries: function 46 -/
/-- The name ahead of place k. -/
def prevE (l:List S64):Nat→Option ByteArray
  | 0=>none
  | k+1=>some (rd_T64 l (k:Int)).f0
/-- The world behind a piece, by what is known of it. -/
theorem gen_wp {P:Program} {c:Code} {Q:Exit→Act→World→Prop} {a:Act} {w:World} (R:World→Prop) (h:R w) (k:∀ w',R w'→c.wp P Q a w'):c.wp P Q a w:=k w h
/-- n marks, those set that m's bits name. -/
def fl (n m:Nat):Array Bool:=((List.range n).map fun i=>m.testBit i).toArray
theorem fact_below {w w1:World} {a:Addr} {v:Value} (hb:Below w.heap.size w w1) (h:w.cell? a=some v):w1.cell? a=some v:=(hb.cell (World.block_lt_of_cell? w _ h)).trans h
def entS (k:Nat) (l0_0:List S38) (l0_1:List S64) (l0_2:List S64) (l0_3:List ByteArray) (a0_4:Int) (a0_5:Int):Option ByteArray→List S64→Option Bool
  | _,[]=>some true
  | p,x :: l=>(spec_NameOk.f k x.f0).bind fun b=>if b=true then ((spec_l05Node.f k l0_0 l0_1 l0_2 l0_3 a0_4 a0_5 x.f1).bind fun t=>if t<0 then some false else if (match p with | none=>false | some q=>!Op.bytesLess q.toList x.f0.toList)=true then some false else entS k l0_0 l0_1 l0_2 l0_3 a0_4 a0_5 (some x.f0) l) else some false
theorem entS_mono (k:Nat) (l0_0:List S38) (l0_1:List S64) (l0_2:List S64) (l0_3:List ByteArray) (a0_4:Int) (a0_5:Int):∀ p l,LeO (entS k l0_0 l0_1 l0_2 l0_3 a0_4 a0_5 p l) (entS (k+1) l0_0 l0_1 l0_2 l0_3 a0_4 a0_5 p l)
  | _,[]=>LeO.refl _
  | p,x :: l=>LeO.bind (spec_NameOk.mono _ k) fun _=>LeO.ite (LeO.bind (spec_l05Node.mono _ _ _ _ _ _ _ k) fun _=>LeO.ite (LeO.refl _) (LeO.ite (LeO.refl _) (entS_mono k l0_0 l0_1 l0_2 l0_3 a0_4 a0_5 _ l))) (LeO.refl _)
def spec_l05Entries.f (k:Nat) (l0_0:List S38) (l0_1:List S64) (l0_2:List S64) (l0_3:List ByteArray) (a0_4:Int) (a0_5:Int) (l1:List S64):Option Bool:=(entS k l0_0 l0_1 l0_2 l0_3 a0_4 a0_5 none l1).bind fun b=>if b=true then some (decide ((l1.length:Int)≤16)) else some false
theorem spec_l05Entries.mono:∀ l0_0 l0_1 l0_2 l0_3 a0_4 a0_5 l1 k,LeO (spec_l05Entries.f k l0_0 l0_1 l0_2 l0_3 a0_4 a0_5 l1) (spec_l05Entries.f (k+1) l0_0 l0_1 l0_2 l0_3 a0_4 a0_5 l1):=by
  intro l0_0 l0_1 l0_2 l0_3 a0_4 a0_5 l1 k
  unfold spec_l05Entries.f
  exact LeO.bind (entS_mono k l0_0 l0_1 l0_2 l0_3 a0_4 a0_5 none l1) fun _=>LeO.refl _
set_option maxHeartbeats 2000000 in
set_option maxRecDepth 100000 in
theorem spec_l05Entries.calls (k:Nat) (A0_0:Option Addr) (c0_0:Nat) (l0_0:List (S38)) (A0_1:Option Addr) (c0_1:Nat) (l0_1:List (S64)) (A0_2:Option Addr) (c0_2:Nat) (l0_2:List (S64)) (A0_3:Option Addr) (c0_3:Nat) (l0_3:List ByteArray) (a0_4:Int) (a0_5:Int) (A1:Option Addr) (c1:Nat) (l1:List (S64)) (r:Bool) (w:World) (hr0_0:Kd.C k38 w A0_0 l0_0.length l0_0) (hc0_0:l0_0.length≤c0_0) (hr0_1:Kd.C k64 w A0_1 l0_1.length l0_1) (hc0_1:l0_1.length≤c0_1) (hr0_2:Kd.C k64 w A0_2 l0_2.length l0_2) (hc0_2:l0_2.length≤c0_2) (hr0_3:Kd.C Kd.string w A0_3 l0_3.length l0_3) (hc0_3:l0_3.length≤c0_3) (hr1:Kd.C k64 w A1 l1.length l1) (hc1:l1.length≤c1) (h:spec_l05Entries.f k l0_0 l0_1 l0_2 l0_3 a0_4 a0_5 l1=some r) :
    Calls Tryz.prog 46 #[.agg #[.slice A0_0 l0_0.length c0_0,.slice A0_1 l0_1.length c0_1,.slice A0_2 l0_2.length c0_2,.slice A0_3 l0_3.length c0_3,.int .i64 a0_4,.int .i64 a0_5],.slice A1 l1.length c1] w fun e w'=>e=.returned (.bool r)∧Below w.heap.size w w':=by
  unfold spec_l05Entries.f at h
  obtain ⟨B,h0,h⟩:=Option.bind_eq_some_iff.mp h
  have hmax:=hr1.2.1
  have HR:=Aside0.mk hr1
  have HN:=Aside0.mk (fun (w1:World) (h:Below w.heap.size w w1) (v t:Int) hf=>spec_l05Node.calls k A0_0 c0_0 l0_0 A0_1 c0_1 l0_1 A0_2 c0_2 l0_2 A0_3 c0_3 l0_3 a0_4 a0_5 v t w1 (Kd.C_below hr0_0 h) hc0_0 (Kd.C_below hr0_1 h) hc0_1 (Kd.C_below hr0_2 h) hc0_2 (Kd.C_below hr0_3 h) hc0_3 hf)
  clear hr1 hc1 hr0_0 hc0_0 hr0_1 hc0_1 hr0_2 hc0_2 hr0_3 hc0_3
  have HF:=Aside0.mk h
  clear h
  go_enter Tryz.func46,Tryz.ntmps46
  go_wp2_with (((with_reducible refine gate_dst (N:=2) rfl ?_);refine box_event ?hg (N:=2) ?hd (cs:=#[.slice A0_0 l0_0.length c0_0,.slice A0_1 l0_1.length c0_1,.slice A0_2 l0_2.length c0_2,.slice A0_3 l0_3.length c0_3,.int .i64 a0_4,.int .i64 a0_5]) (t:=28) ?hr ?_;(case hd=>rfl);(case hg=>rfl);(case hr=>(go_simp;done));intro g5 hg w1 hbox b5;have BK:=Aside0.mk hbox;have B1:=Aside0.mk b5;obtain ⟨q0,q1,q2,q3,q4,q5⟩:=b6of BK.out;clear hg hbox b5))
  go_loopg [5] l1.length (fun gg s8 wr=>∃ kk:Nat,kk≤l1.length∧l1.length-kk≤gg∧s8=.int .i64 kk∧Aside0 (Below w.heap.size w wr)∧Aside0 (wr.heap[g5]? = some (.cells #[.slice A0_0 l0_0.length c0_0,.slice A0_1 l0_1.length c0_1,.slice A0_2 l0_2.length c0_2,.slice A0_3 l0_3.length c0_3,.int .i64 a0_4,.int .i64 a0_5] 28))∧Aside0 (entS k l0_0 l0_1 l0_2 l0_3 a0_4 a0_5 (prevE l1 kk) (l1.drop kk)=some B))
  case atStart=>exact ⟨0,Nat.zero_le _,by omega,rfl,B1,BK,⟨h0⟩⟩
  case round=>
    clear q0 q1 q2 q3 q4 q5 h0
    obtain ⟨kk,hkk,hg,rfl,BW,BK2,A⟩:=hrel
    clear B1 BK
    by_cases hlt:kk<l1.length
    · have hltz:(kk:Int)<(l1.length:Int):=by omega
      obtain ⟨ad,rfl,hx0,hx1⟩:=at_T64 (Kd.C_below HR.out BW.out) (kk:Int) (by omega) hltz
      rw [Int.toNat_natCast] at hx0 hx1
      have hd:l1.drop kk=rd_T64 l1 (kk:Int) :: l1.drop (kk+1):=by
        rw [List.drop_eq_getElem_cons hlt]
        unfold rd_T64
        rw [Int.toNat_natCast,List.getD_eq_getElem?_getD,List.getElem?_eq_getElem hlt];rfl
      have A2:=A.out
      rw [hd] at A2
      simp only [entS] at A2
      obtain ⟨bn,hbn,A2⟩:=Option.bind_eq_some_iff.mp A2
      have hp:prevE l1 (kk+1)=some (rd_T64 l1 (kk:Int)).f0:=rfl
      rw [← hp] at A2
      clear A hd hp
      generalize rd_T64 l1 (kk:Int)=y at hx0 hx1 A2 hbn
      have AA:=Aside0.mk A2
      have HK:=Aside0.mk (fun w1=>(show Calls Tryz.prog 58 #[.string y.f0] w1 fun e w'=>e=.returned (.bool bn)∧∃ q,w'=w1.drewN q from (spec_NameOk.calls k y.f0 bn w1 hbn).mono (by rintro e w' ⟨rfl,q,rfl⟩;exact ⟨rfl,q,rfl⟩)))
      clear A2 hbn
      go_wp2
      have Z5:=BK2
      have BW2:=BW
      have V0:=Aside0.mk hx0
      have V1:=Aside0.mk hx1
      obtain ⟨e0,e1,e2,e3,e4,e5⟩:=b6of BK2.out
      cases bn with
      | false=>
        have hB:some false=some B:=AA.out
        obtain rfl:=Option.some.inj hB
        have hr:some false=some r:=HF.out
        obtain rfl:=Option.some.inj hr
        go_quiet ((go_at_call 58;with_reducible exact Calls.quiet_of (HK.out _)))
        go_wp2
        go_ret
        exact ⟨rfl,pw_below_drewN BW2.out _⟩
      | true=>
        have A3:=AA.out
        rw [if_pos rfl] at A3
        obtain ⟨t,ht,A3⟩:=Option.bind_eq_some_iff.mp A3
        have HM:=Aside0.mk (fun w1 h=>HN.out w1 h y.f1 t ht)
        clear AA HN ht e0 e1 e2 e3 e4 e5
        by_cases htn:t<0
        · rw [if_pos htn] at A3
          obtain rfl:=Option.some.inj A3
          have hr:some false=some r:=HF.out
          obtain rfl:=Option.some.inj hr
          have sq0_:∀ p_:LaidBy wr,p_.W.cell? (ad.add (kk*2))=some (.string y.f0):=fun p_=>p_.cell (V0.out)
          have sq1_:∀ p_:LaidBy wr,p_.W.cell? ⟨(ad.add (kk*2)).block,(ad.add (kk*2)).off+1,none⟩=some (.int .i64 y.f1):=fun p_=>p_.cell (V1.out)
          have sq2_:∀ p_:LaidBy wr,p_.W.cell? ⟨g5,0,none⟩=some (.slice A0_0 l0_0.length c0_0):=fun p_=>p_.cell ((blk_cell Z5.out 0).trans rfl)
          have sq3_:∀ p_:LaidBy wr,p_.W.cell? ⟨g5,1,none⟩=some (.slice A0_1 l0_1.length c0_1):=fun p_=>p_.cell ((blk_cell Z5.out 1).trans rfl)
          have sq4_:∀ p_:LaidBy wr,p_.W.cell? ⟨g5,2,none⟩=some (.slice A0_2 l0_2.length c0_2):=fun p_=>p_.cell ((blk_cell Z5.out 2).trans rfl)
          have sq5_:∀ p_:LaidBy wr,p_.W.cell? ⟨g5,3,none⟩=some (.slice A0_3 l0_3.length c0_3):=fun p_=>p_.cell ((blk_cell Z5.out 3).trans rfl)
          have sq6_:∀ p_:LaidBy wr,p_.W.cell? ⟨g5,4,none⟩=some (.int .i64 a0_4):=fun p_=>p_.cell ((blk_cell Z5.out 4).trans rfl)
          have sq7_:∀ p_:LaidBy wr,p_.W.cell? ⟨g5,5,none⟩=some (.int .i64 a0_5):=fun p_=>p_.cell ((blk_cell Z5.out 5).trans rfl)
          refine wp_region_laid (by kernel_rfl) (by kernel_rfl) ?_
          repeat (go_big_quiet_step (first | (go_at_call 58;with_reducible exact laid_drawn _ (HK.out _)) | (go_at_call 73;with_reducible exact laid_of _ (HM.out _ (LaidBy.below _ BW2.out)))))
          refine wpQuiet_nil ?_
          rintro w9 ⟨p_,hp_⟩
          have hq_:Below wr.heap.size wr w9:=hp_▸p_.ok
          clear hp_ p_ sq0_ sq1_ sq2_ sq3_ sq4_ sq5_ sq6_ sq7_
          have Z5:=Aside0.mk ((hq_.block g5 (blk_lt Z5.out)).trans Z5.out)
          have BD:=Aside0.mk hq_
          clear hq_
          go_wp2
          go_ret
          exact ⟨rfl,BW2.out.trans (BD.out.mono BW2.out.size)⟩
        · rw [if_neg htn] at A3
          by_cases hk0:kk=0
          · have hp0:decide ((0:Int)<(kk:Int))=false:=decide_eq_false (by omega)
            have hp0n:decide (0<kk)=false:=decide_eq_false (by omega)
            have AC:=Aside0.mk (show entS k l0_0 l0_1 l0_2 l0_3 a0_4 a0_5 (prevE l1 (kk+1)) (l1.drop (kk+1))=some B by subst hk0;exact A3)
            clear A3 hk0
            have sq0_:∀ p_:LaidBy wr,p_.W.cell? (ad.add (kk*2))=some (.string y.f0):=fun p_=>p_.cell (V0.out)
            have sq1_:∀ p_:LaidBy wr,p_.W.cell? ⟨(ad.add (kk*2)).block,(ad.add (kk*2)).off+1,none⟩=some (.int .i64 y.f1):=fun p_=>p_.cell (V1.out)
            have sq2_:∀ p_:LaidBy wr,p_.W.cell? ⟨g5,0,none⟩=some (.slice A0_0 l0_0.length c0_0):=fun p_=>p_.cell ((blk_cell Z5.out 0).trans rfl)
            have sq3_:∀ p_:LaidBy wr,p_.W.cell? ⟨g5,1,none⟩=some (.slice A0_1 l0_1.length c0_1):=fun p_=>p_.cell ((blk_cell Z5.out 1).trans rfl)
            have sq4_:∀ p_:LaidBy wr,p_.W.cell? ⟨g5,2,none⟩=some (.slice A0_2 l0_2.length c0_2):=fun p_=>p_.cell ((blk_cell Z5.out 2).trans rfl)
            have sq5_:∀ p_:LaidBy wr,p_.W.cell? ⟨g5,3,none⟩=some (.slice A0_3 l0_3.length c0_3):=fun p_=>p_.cell ((blk_cell Z5.out 3).trans rfl)
            have sq6_:∀ p_:LaidBy wr,p_.W.cell? ⟨g5,4,none⟩=some (.int .i64 a0_4):=fun p_=>p_.cell ((blk_cell Z5.out 4).trans rfl)
            have sq7_:∀ p_:LaidBy wr,p_.W.cell? ⟨g5,5,none⟩=some (.int .i64 a0_5):=fun p_=>p_.cell ((blk_cell Z5.out 5).trans rfl)
            refine wp_region_laid (by kernel_rfl) (by kernel_rfl) ?_
            repeat (go_big_quiet_step (first | (go_at_call 58;with_reducible exact laid_drawn _ (HK.out _)) | (go_at_call 73;with_reducible exact laid_of _ (HM.out _ (LaidBy.below _ BW2.out)))))
            refine wpQuiet_nil ?_
            rintro w9 ⟨p_,hp_⟩
            have hq_:Below wr.heap.size wr w9:=hp_▸p_.ok
            clear hp_ p_ sq0_ sq1_ sq2_ sq3_ sq4_ sq5_ sq6_ sq7_
            have Z5:=Aside0.mk ((hq_.block g5 (blk_lt Z5.out)).trans Z5.out)
            have BD:=Aside0.mk hq_
            clear hq_
            go_wp2
            go_roundg (l1.length-(kk+1))
            case measure=>omega
            case rel=>exact ⟨kk+1,by omega,by omega,by go_num,⟨BW2.out.trans (BD.out.mono BW2.out.size)⟩,Z5,⟨AC.out⟩⟩
          · obtain ⟨j,hkj⟩:∃ j,kk=j+1:=⟨kk-1,by omega⟩
            have hp1:decide ((0:Int)<(kk:Int))=true:=decide_eq_true (by omega)
            have hp1n:decide (0<kk)=true:=decide_eq_true (by omega)
            have hw1:IntKind.i64.wrap ((kk:Int)-1)=(j:Int):=by rw [IntKind.wrap_i64];omega
            have hw3:wrap64 ((kk:Int)-1)=(j:Int):=by rw [← i64_w,hw1]
            have hw2:wrap64 (j:Int)=(j:Int):=by rw [← i64_w,IntKind.wrap_i64];omega
            have hj0:(0:Int)≤(j:Int):=by omega
            have hjl:(j:Int)<(l1.length:Int):=by omega
            have HKJ:=Aside0.mk hkj
            obtain ⟨ad2,e2,hv0,hv1⟩:=at_T64 (Kd.C_below HR.out BW2.out) (j:Int) hj0 hjl
            cases e2
            rw [Int.toNat_natCast] at hv0 hv1
            clear hv1
            have AD:=Aside0.mk (show (if (!Op.bytesLess (rd_T64 l1 (j:Int)).f0.toList y.f0.toList)=true then some false else entS k l0_0 l0_1 l0_2 l0_3 a0_4 a0_5 (prevE l1 (kk+1)) (l1.drop (kk+1)))=some B by subst hkj;exact A3)
            clear A3 hkj
            generalize (rd_T64 l1 (j:Int)).f0=p0 at hv0 AD
            have V:=Aside0.mk hv0
            have hcm:Op.bytesLess p0.toList y.f0.toList=Op.bytesLess p0.toList y.f0.toList:=rfl
            generalize hq:Op.bytesLess p0.toList y.f0.toList=bq at hcm AD
            clear hcm
            have sq0_:∀ p_:LaidBy wr,p_.W.cell? (ad.add (kk*2))=some (.string y.f0):=fun p_=>p_.cell (V0.out)
            have sq1_:∀ p_:LaidBy wr,p_.W.cell? ⟨(ad.add (kk*2)).block,(ad.add (kk*2)).off+1,none⟩=some (.int .i64 y.f1):=fun p_=>p_.cell (V1.out)
            have sq2_:∀ p_:LaidBy wr,p_.W.cell? ⟨g5,0,none⟩=some (.slice A0_0 l0_0.length c0_0):=fun p_=>p_.cell ((blk_cell Z5.out 0).trans rfl)
            have sq3_:∀ p_:LaidBy wr,p_.W.cell? ⟨g5,1,none⟩=some (.slice A0_1 l0_1.length c0_1):=fun p_=>p_.cell ((blk_cell Z5.out 1).trans rfl)
            have sq4_:∀ p_:LaidBy wr,p_.W.cell? ⟨g5,2,none⟩=some (.slice A0_2 l0_2.length c0_2):=fun p_=>p_.cell ((blk_cell Z5.out 2).trans rfl)
            have sq5_:∀ p_:LaidBy wr,p_.W.cell? ⟨g5,3,none⟩=some (.slice A0_3 l0_3.length c0_3):=fun p_=>p_.cell ((blk_cell Z5.out 3).trans rfl)
            have sq6_:∀ p_:LaidBy wr,p_.W.cell? ⟨g5,4,none⟩=some (.int .i64 a0_4):=fun p_=>p_.cell ((blk_cell Z5.out 4).trans rfl)
            have sq7_:∀ p_:LaidBy wr,p_.W.cell? ⟨g5,5,none⟩=some (.int .i64 a0_5):=fun p_=>p_.cell ((blk_cell Z5.out 5).trans rfl)
            have sq8_:∀ p_:LaidBy wr,p_.W.cell? (ad.add (j*2))=some (.string p0):=fun p_=>p_.cell (V.out)
            refine wp_region_laid (by kernel_rfl) (by kernel_rfl) ?_
            repeat (go_big_quiet_step (first | (go_at_call 58;with_reducible exact laid_drawn _ (HK.out _)) | (go_at_call 73;with_reducible exact laid_of _ (HM.out _ (LaidBy.below _ BW2.out)))))
            refine wpQuiet_nil ?_
            rintro w9 ⟨p_,hp_⟩
            have hq_:Below wr.heap.size wr w9:=hp_▸p_.ok
            clear hp_ p_ sq0_ sq1_ sq2_ sq3_ sq4_ sq5_ sq6_ sq7_ sq8_
            have Z5:=Aside0.mk ((hq_.block g5 (blk_lt Z5.out)).trans Z5.out)
            have BD:=Aside0.mk hq_
            clear hq_
            cases bq with
            | false=>
              have hB:=AD.out
              rw [if_pos (show (!false)=true from rfl)] at hB
              obtain rfl:=Option.some.inj hB
              have hr:some false=some r:=HF.out
              obtain rfl:=Option.some.inj hr
              go_wp2
              go_ret
              exact ⟨rfl,BW2.out.trans (BD.out.mono BW2.out.size)⟩
            | true=>
              have hB:=AD.out
              rw [if_neg (show ¬ (!true)=true by decide)] at hB
              have AE:=Aside0.mk hB
              clear hB
              go_wp2
              go_roundg (l1.length-(kk+1))
              case measure=>omega
              case rel=>exact ⟨kk+1,by omega,by omega,by go_num,⟨BW2.out.trans (BD.out.mono BW2.out.size)⟩,Z5,AE⟩
    · have hltz:¬ (kk:Int)<(l1.length:Int):=by omega
      have A2:=A.out
      rw [List.drop_of_length_le (by omega)] at A2
      simp only [entS] at A2
      obtain rfl:=Option.some.inj A2
      have hr:=HF.out
      rw [if_pos rfl] at hr
      obtain rfl:=Option.some.inj hr
      clear A A2 HF
      go_wp2
      go_ret
      exact ⟨rfl,BW.out⟩

/-! ### spec_l06Same: function 47 -/
def spec_l06Same.l0:Nat→List (S64)→List (S64)→Int→Option (Bool)
 | 0,_,_,_=>none
 | k+1,x0,x1,x5=>if x5<(x0.length:Int) then (if 0≤x5 then (if x5<(x1.length:Int) then (if (!((((rd_T64 x0 x5).f0).toList) == (((rd_T64 x1 x5).f0).toList)) || (!(((rd_T64 x0 x5).f1) == ((rd_T64 x1 x5).f1))))=true then (some false) else (spec_l06Same.l0 k x0 x1 (wrap64 (x5+1)))) else (none)) else (none)) else (some true)
def spec_l06Same.f (k:Nat) (l0:List (S64)) (l1:List (S64)):Option (Bool):=if (l0.length:Int)=(l1.length:Int) then (spec_l06Same.l0 k l0 l1 0) else (some false)
theorem spec_l06Same.mono_l:∀ k,(∀ y0 y1 y2,LeO (spec_l06Same.l0 k y0 y1 y2) (spec_l06Same.l0 (k+1) y0 y1 y2))
 | 0=>fun _ _ _ r h=>by simp [spec_l06Same.l0] at h
 | k+1=>by
  have ih0:=spec_l06Same.mono_l k
  ·intro y0 y1 y2
   unfold spec_l06Same.l0
   repeat' first | (with_reducible exact ih0 _ _ _) | (with_reducible exact LeO.refl _) | (with_reducible refine LeO.ite ?_ ?_)
theorem spec_l06Same.mono:∀ a0 a1 k,LeO (spec_l06Same.f k a0 a1) (spec_l06Same.f (k+1) a0 a1):=by
 intro a0 a1 k
 have ih0:=spec_l06Same.mono_l k
 unfold spec_l06Same.f
 repeat' first | (with_reducible exact ih0 _ _ _) | (with_reducible exact LeO.refl _) | (with_reducible refine LeO.ite ?_ ?_)
set_option maxHeartbeats 8000000 in
set_option maxRecDepth 100000 in
theorem spec_l06Same.calls (k:Nat) (A0:Option Addr) (c0:Nat) (l0:List (S64)) (A1:Option Addr) (c1:Nat) (l1:List (S64)) (r:Bool) (w:World) (hr0:Kd.C k64 w A0 l0.length l0) (hc0:l0.length≤c0) (hr1:Kd.C k64 w A1 l1.length l1) (hc1:l1.length≤c1) (h:spec_l06Same.f k l0 l1=some r) :
  Calls Tryz.prog 47 #[.slice A0 l0.length c0,.slice A1 l1.length c1] w fun e w'=>e=.returned (.bool r)∧Drawn0 w w':=by
 have HR0:=Aside0.mk hr0
 clear hr0 hc0
 have HR1:=Aside0.mk hr1
 clear hr1 hc1
 have H:(if (l0.length:Int)=(l1.length:Int) then (spec_l06Same.l0 k l0 l1 0) else (some false))=some r:=h
 clear h
 by_cases c3:(l0.length:Int)=(l1.length:Int)
 ·rw [if_pos c3] at H
  have c3b1:((l0.length:Int) != (l1.length:Int))=false:=bne_eq_false_iff_eq.mpr c3
  clear c3
  have H':=Aside0.mk H
  clear H
  go_enter Tryz.func47,Tryz.ntmps47
  go_wp2
  repeat (go_quiet (fail);try go_wp2)
  go_loopg [5] k (fun kq v5 w'=>∃ (x5_1:Int),v5=.int .i64 x5_1∧Aside0 (spec_l06Same.l0 kq l0 l1 x5_1=some r)∧Aside0 (kq≤k)∧Drawn0 w w')
  case atStart=>exact ⟨(0),(by rfl),H',⟨Nat.le_refl _⟩,by repeat (exact Drawn0.refl _)⟩
  case round=>
   clear H'
   try clear c1
   try clear p2
   try clear c3
   try clear c3b1
   obtain ⟨x5_1,rfl,HA,HK1,⟨m1,rfl⟩⟩:=hrel
   cases gk with
   | zero=>exact absurd HA.out (by simp [spec_l06Same.l0])
   | succ k1=>
    have H:=HA.out
    clear HA
    simp only [spec_l06Same.l0] at H
    by_cases c4:x5_1<(l0.length:Int)
    ·rw [if_pos c4] at H
     have c4b0:decide (x5_1<(l0.length:Int))=true:=decide_eq_true c4
     clear c4
     by_cases c5:0≤x5_1
     ·rw [if_pos c5] at H
      have c5b0:decide (0≤x5_1)=true:=decide_eq_true c5
      clear c5
      by_cases c6:x5_1<(l1.length:Int)
      ·rw [if_pos c6] at H
       have c6b0:decide (x5_1<(l1.length:Int))=true:=decide_eq_true c6
       clear c6
       by_cases c7:(!((((rd_T64 l0 x5_1).f0).toList) == (((rd_T64 l1 x5_1).f0).toList)) || (!(((rd_T64 l0 x5_1).f1) == ((rd_T64 l1 x5_1).f1))))=true
       ·rw [if_pos c7] at H
        have c7b0:(!((((rd_T64 l0 x5_1).f0).toList) == (((rd_T64 l1 x5_1).f0).toList)) || (!(((rd_T64 l0 x5_1).f1) == ((rd_T64 l1 x5_1).f1))))=true:=c7
        clear c7
        obtain rfl:=Option.some.inj H
        have p185:0≤(x5_1:Int):=of_decide_eq_true (by (with_reducible assumption))
        have q185:x5_1<(l0.length:Int):=of_decide_eq_true (by (with_reducible assumption))
        obtain ⟨ad185,e185,hx185_0,hx185_1⟩:=at_T64 HR0.out x5_1 p185 q185
        cases e185
        replace p185:=eq_true p185
        replace q185:=eq_true q185
        have p186:0≤(x5_1:Int):=of_decide_eq_true (by (with_reducible assumption))
        have q186:x5_1<(l1.length:Int):=of_decide_eq_true (by (with_reducible assumption))
        obtain ⟨ad186,e186,hx186_0,hx186_1⟩:=at_T64 HR1.out x5_1 p186 q186
        cases e186
        replace p186:=eq_true p186
        replace q186:=eq_true q186
        go_wp2
        repeat (go_quiet (fail);try go_wp2)
        all_goals (go_ret)
        exact ⟨by first | rfl | (simp;done) | (simp [*];done),by repeat (first | exact Drawn0.refl _ | apply Drawn0.step)⟩
       ·rw [if_neg c7] at H
        have c7b0:(!((((rd_T64 l0 x5_1).f0).toList) == (((rd_T64 l1 x5_1).f0).toList)) || (!(((rd_T64 l0 x5_1).f1) == ((rd_T64 l1 x5_1).f1))))=false:=by simpa using c7
        clear c7
        have H':=Aside0.mk H
        clear H
        have p185:0≤(x5_1:Int):=of_decide_eq_true (by (with_reducible assumption))
        have q185:x5_1<(l0.length:Int):=of_decide_eq_true (by (with_reducible assumption))
        obtain ⟨ad185,e185,hx185_0,hx185_1⟩:=at_T64 HR0.out x5_1 p185 q185
        cases e185
        replace p185:=eq_true p185
        replace q185:=eq_true q185
        have p186:0≤(x5_1:Int):=of_decide_eq_true (by (with_reducible assumption))
        have q186:x5_1<(l1.length:Int):=of_decide_eq_true (by (with_reducible assumption))
        obtain ⟨ad186,e186,hx186_0,hx186_1⟩:=at_T64 HR1.out x5_1 p186 q186
        cases e186
        replace p186:=eq_true p186
        replace q186:=eq_true q186
        go_wp2
        repeat (go_quiet (fail);try go_wp2)
        go_roundg k1
        case measure=>have:=HK1.out;omega
        case rel=>exact ⟨(wrap64 (x5_1+1)),(by rfl),H',⟨by have:=HK1.out;omega⟩,by repeat (first | exact Drawn0.refl _ | apply Drawn0.step)⟩
      ·rw [if_neg c6] at H
       exact absurd H (by simp)
     ·rw [if_neg c5] at H
      exact absurd H (by simp)
    ·rw [if_neg c4] at H
     have c4b0:decide (x5_1<(l0.length:Int))=false:=decide_eq_false c4
     clear c4
     obtain rfl:=Option.some.inj H
     go_wp2
     repeat (go_quiet (fail);try go_wp2)
     all_goals (go_ret)
     exact ⟨by first | rfl | (simp;done) | (simp [*];done),by repeat (first | exact Drawn0.refl _ | apply Drawn0.step)⟩
 ·rw [if_neg c3] at H
  have c3b1:((l0.length:Int) != (l1.length:Int))=true:=bne_iff_ne.mpr c3
  obtain rfl:=Option.some.inj H
  go_enter Tryz.func47,Tryz.ntmps47
  go_wp2
  repeat (go_quiet (fail);try go_wp2)
  all_goals (go_ret)
  exact ⟨by first | rfl | (simp;done) | (simp [*];done),by repeat (exact Drawn0.refl _)⟩

/-! ### spec_DiskOk: function 9 -/
mutual
def spec_DiskOk.j0:Nat→Bool→List (S38)→List (S64)→List (S64)→List ByteArray→Int→Int→Option (Bool)
 | 0,_,_,_,_,_,_,_=>none
 | k+1,x30,x244000,x244001,x244002,x244003,x244004,x244005=>if x30=true then (some false) else (spec_DiskOk.l0 k 0 x244000 x244001 x244002 x244003 x244004 x244005)
def spec_DiskOk.l0:Nat→Int→List (S38)→List (S64)→List (S64)→List ByteArray→Int→Int→Option (Bool)
 | 0,_,_,_,_,_,_,_=>none
 | k+1,x3,x244000,x244001,x244002,x244003,x244004,x244005=>if x3<(x244000.length:Int) then (if 0≤x3 then ((spec_l01In.f ((rd_T38 x244000 x3).f0) 1 (wrap64 (x244005-1))).bind fun t249=>(if t249=true then (if x3>0 then (if 0≤(wrap64 (x3-1)) then (if (wrap64 (x3-1))<(x244000.length:Int) then (if ((rd_T38 x244000 (wrap64 (x3-1))).f0)≥((rd_T38 x244000 x3).f0) then (some false) else ((spec_l01In.f ((rd_T38 x244000 x3).f2) 0 (((rd_T38 x244000 x3).f1).size:Int)).bind fun t251=>(if t251=true then (spec_DiskOk.l0 k (wrap64 (x3+1)) x244000 x244001 x244002 x244003 x244004 x244005) else (some false)))) else (none)) else (none)) else ((spec_l01In.f ((rd_T38 x244000 x3).f2) 0 (((rd_T38 x244000 x3).f1).size:Int)).bind fun t252=>(if t252=true then (spec_DiskOk.l0 k (wrap64 (x3+1)) x244000 x244001 x244002 x244003 x244004 x244005) else (some false)))) else (some false))) else (none)) else (spec_DiskOk.l1 k 0 x244000 x244001 x244002 x244003 x244004 x244005)
def spec_DiskOk.l1:Nat→Int→List (S38)→List (S64)→List (S64)→List ByteArray→Int→Int→Option (Bool)
 | 0,_,_,_,_,_,_,_=>none
 | k+1,x5,x244000,x244001,x244002,x244003,x244004,x244005=>if x5≤(x244003.length:Int) then ((spec_StepsDone.f k x244002 x244003 x5).bind fun bt253=>(if bt253.2=true then ((spec_l05Entries.f k x244000 x244001 x244002 x244003 x244004 x244005 bt253.1).bind fun t257=>(if t257=true then (if x5=(x244003.length:Int) then ((spec_l06Same.f k bt253.1 x244001).bind fun t258=>(if t258=true then (spec_DiskOk.l1 k (wrap64 (x5+1)) x244000 x244001 x244002 x244003 x244004 x244005) else (some false))) else (spec_DiskOk.l1 k (wrap64 (x5+1)) x244000 x244001 x244002 x244003 x244004 x244005)) else (some false))) else (some false))) else (some true)
end
def spec_DiskOk.f (k:Nat) (l0_0:List (S38)) (l0_1:List (S64)) (l0_2:List (S64)) (l0_3:List ByteArray) (a0_4:Int) (a0_5:Int):Option (Bool):=if (l0_0.length:Int)>64 then (spec_DiskOk.j0 k true l0_0 l0_1 l0_2 l0_3 a0_4 a0_5) else ((spec_l01In.f a0_4 0 1000000000).bind fun t244=>(if t244=true then ((spec_l01In.f a0_5 1 1000000000).bind fun t245=>(if t245=true then ((spec_UsedOn.f k l0_0 l0_1 l0_2 l0_3 a0_4 a0_5).bind fun t246=>(spec_DiskOk.j0 k (decide (t246>a0_4)) l0_0 l0_1 l0_2 l0_3 a0_4 a0_5)) else (spec_DiskOk.j0 k true l0_0 l0_1 l0_2 l0_3 a0_4 a0_5))) else (spec_DiskOk.j0 k true l0_0 l0_1 l0_2 l0_3 a0_4 a0_5)))
theorem spec_DiskOk.mono_l:∀ k,(∀ y0 y1 y2 y3 y4 y5 y6,LeO (spec_DiskOk.j0 k y0 y1 y2 y3 y4 y5 y6) (spec_DiskOk.j0 (k+1) y0 y1 y2 y3 y4 y5 y6))∧(∀ y0 y1 y2 y3 y4 y5 y6,LeO (spec_DiskOk.l0 k y0 y1 y2 y3 y4 y5 y6) (spec_DiskOk.l0 (k+1) y0 y1 y2 y3 y4 y5 y6))∧(∀ y0 y1 y2 y3 y4 y5 y6,LeO (spec_DiskOk.l1 k y0 y1 y2 y3 y4 y5 y6) (spec_DiskOk.l1 (k+1) y0 y1 y2 y3 y4 y5 y6))
 | 0=>⟨fun _ _ _ _ _ _ _ r h=>by simp [spec_DiskOk.j0] at h,fun _ _ _ _ _ _ _ r h=>by simp [spec_DiskOk.l0] at h,fun _ _ _ _ _ _ _ r h=>by simp [spec_DiskOk.l1] at h⟩
 | k+1=>by
  obtain ⟨ih0,ih1,ih2⟩:=spec_DiskOk.mono_l k
  refine ⟨?_,?_,?_⟩
  ·intro y0 y1 y2 y3 y4 y5 y6
   unfold spec_DiskOk.j0
   repeat' first | (with_reducible exact ih1 _ _ _ _ _ _ _) | (with_reducible exact LeO.refl _) | (with_reducible refine LeO.ite ?_ ?_)
  ·intro y0 y1 y2 y3 y4 y5 y6
   unfold spec_DiskOk.l0
   repeat' first | (with_reducible exact ih1 _ _ _ _ _ _ _) | (with_reducible exact ih2 _ _ _ _ _ _ _) | (with_reducible exact LeO.refl _) | (with_reducible refine LeO.ite ?_ ?_) | (with_reducible refine LeO.bind ?_ (fun _=>?_))
  ·intro y0 y1 y2 y3 y4 y5 y6
   unfold spec_DiskOk.l1
   repeat' first | (with_reducible exact ih2 _ _ _ _ _ _ _) | (with_reducible exact spec_StepsDone.mono _ _ _ _) | (with_reducible exact spec_l05Entries.mono _ _ _ _ _ _ _ _) | (with_reducible exact spec_l06Same.mono _ _ _) | (with_reducible exact LeO.refl _) | (with_reducible refine LeO.ite ?_ ?_) | (with_reducible refine LeO.bind ?_ (fun _=>?_))
theorem spec_DiskOk.mono:∀ a0 a1 a2 a3 a4 a5 k,LeO (spec_DiskOk.f k a0 a1 a2 a3 a4 a5) (spec_DiskOk.f (k+1) a0 a1 a2 a3 a4 a5):=by
 intro a0 a1 a2 a3 a4 a5 k
 obtain ⟨ih0,ih1,ih2⟩:=spec_DiskOk.mono_l k
 unfold spec_DiskOk.f
 repeat' first | (with_reducible exact ih0 _ _ _ _ _ _ _) | (with_reducible exact spec_UsedOn.mono _ _ _ _ _ _ _) | (with_reducible exact LeO.refl _) | (with_reducible refine LeO.ite ?_ ?_) | (with_reducible refine LeO.bind ?_ (fun _=>?_))
theorem spec_DiskOk.no:∀ k l0_0 l0_1 l0_2 l0_3 a0_4 a0_5 r,spec_DiskOk.j0 k true l0_0 l0_1 l0_2 l0_3 a0_4 a0_5=some r→r=false
  | 0,_,_,_,_,_,_,_,h=>by simp [spec_DiskOk.j0] at h
  | k+1,_,_,_,_,_,_,_,h=>by rw [spec_DiskOk.j0,if_pos rfl] at h;exact (Option.some.inj h).symm
theorem spec_DiskOk.yes:∀ k l0_0 l0_1 l0_2 l0_3 a0_4 a0_5 r,spec_DiskOk.j0 k false l0_0 l0_1 l0_2 l0_3 a0_4 a0_5=some r→∃ q,spec_DiskOk.l0 q 0 l0_0 l0_1 l0_2 l0_3 a0_4 a0_5=some r
  | 0,_,_,_,_,_,_,_,h=>by simp [spec_DiskOk.j0] at h
  | k+1,_,_,_,_,_,_,_,h=>by rw [spec_DiskOk.j0,if_neg (by decide)] at h;exact ⟨k,h⟩
set_option maxHeartbeats 2000000 in
set_option maxRecDepth 100000 in
theorem spec_DiskOk.calls (k:Nat) (A0_0:Option Addr) (c0_0:Nat) (l0_0:List (S38)) (A0_1:Option Addr) (c0_1:Nat) (l0_1:List (S64)) (A0_2:Option Addr) (c0_2:Nat) (l0_2:List (S64)) (A0_3:Option Addr) (c0_3:Nat) (l0_3:List ByteArray) (a0_4:Int) (a0_5:Int) (r:Bool) (w:World) (hr0_0:Kd.C k38 w A0_0 l0_0.length l0_0) (hc0_0:l0_0.length≤c0_0) (hr0_1:Kd.C k64 w A0_1 l0_1.length l0_1) (hc0_1:l0_1.length≤c0_1) (hr0_2:Kd.C k64 w A0_2 l0_2.length l0_2) (hc0_2:l0_2.length≤c0_2) (hr0_3:Kd.C Kd.string w A0_3 l0_3.length l0_3) (hc0_3:l0_3.length≤c0_3) (h:spec_DiskOk.f k l0_0 l0_1 l0_2 l0_3 a0_4 a0_5=some r) :
    Calls Tryz.prog 9 #[.agg #[.slice A0_0 l0_0.length c0_0,.slice A0_1 l0_1.length c0_1,.slice A0_2 l0_2.length c0_2,.slice A0_3 l0_3.length c0_3,.int .i64 a0_4,.int .i64 a0_5]] w fun e w'=>e=.returned (.bool r)∧Below w.heap.size w w':=by
  have hm0:=hr0_0.2.1
  have HR:=Aside0.mk hr0_0
  have HU:=Aside0.mk (fun (t:Int) (hf:spec_UsedOn.f k l0_0 l0_1 l0_2 l0_3 a0_4 a0_5=some t) (w1:World) (h:Below w.heap.size w w1)=>spec_UsedOn.calls k A0_0 c0_0 l0_0 A0_1 c0_1 l0_1 A0_2 c0_2 l0_2 A0_3 c0_3 l0_3 a0_4 a0_5 t w1 (Kd.C_below hr0_0 h) hc0_0 (Kd.C_below hr0_1 h) hc0_1 (Kd.C_below hr0_2 h) hc0_2 (Kd.C_below hr0_3 h) hc0_3 hf)
  have HD:=Aside0.mk (fun (q:Nat) (n:Int) (l:List S64) (b:Bool) (hf:spec_StepsDone.f q l0_2 l0_3 n=some (l,b)) (w1:World) (h:Below w.heap.size w w1)=>spec_StepsDone.calls q A0_2 c0_2 l0_2 A0_3 c0_3 l0_3 n l b w1 (Kd.C_below hr0_2 h) hc0_2 (Kd.C_below hr0_3 h) hc0_3 hf)
  have HE:=Aside0.mk (fun (q:Nat) (l:List S64) (b:Bool) (hf:spec_l05Entries.f q l0_0 l0_1 l0_2 l0_3 a0_4 a0_5 l=some b) (w1:World) (h:Below w.heap.size w w1) (A:Option Addr) (c:Nat) (hl:Kd.C k64 w1 A l.length l) (hc:l.length≤c)=>spec_l05Entries.calls q A0_0 c0_0 l0_0 A0_1 c0_1 l0_1 A0_2 c0_2 l0_2 A0_3 c0_3 l0_3 a0_4 a0_5 A c l b w1 (Kd.C_below hr0_0 h) hc0_0 (Kd.C_below hr0_1 h) hc0_1 (Kd.C_below hr0_2 h) hc0_2 (Kd.C_below hr0_3 h) hc0_3 hl hc hf)
  have HS:=Aside0.mk (fun (q:Nat) (l:List S64) (b:Bool) (hf:spec_l06Same.f q l l0_1=some b) (w1:World) (h:Below w.heap.size w w1) (A:Option Addr) (c:Nat) (hl:Kd.C k64 w1 A l.length l) (hc:l.length≤c)=>(spec_l06Same.calls q A c l A0_1 c0_1 l0_1 b w1 hl hc (Kd.C_below hr0_1 h) hc0_1 hf).mono (by rintro e w' ⟨rfl,q,rfl⟩;exact ⟨rfl,q,rfl⟩:∀ e w',_→e=Ending.returned (.bool b)∧∃ q,w'=w1.drewN q))
  have HI:=Aside0.mk (fun (a b c:Int) (t:Bool) (hf:spec_l01In.f a b c=some t) (w1:World)=>(spec_l01In.calls a b c t w1 hf).mono (by rintro e w' ⟨rfl,q,rfl⟩;exact ⟨rfl,q,rfl⟩:∀ e w',_→e=Ending.returned (.bool t)∧∃ q,w'=w1.drewN q))
  clear hr0_0 hc0_0 hr0_1 hc0_1 hr0_2 hc0_2 hr0_3 hc0_3
  unfold spec_DiskOk.f at h
  by_cases c4:(l0_0.length:Int)>64
  (rw [if_pos c4] at h;obtain rfl:=spec_DiskOk.no _ _ _ _ _ _ _ _ h;have d4:decide (64<(l0_0.length:Int))=true:=decide_eq_true c4)
  (rotate_left 1;(rw [if_neg c4] at h;have d4:decide (64<(l0_0.length:Int))=false:=decide_eq_false c4;obtain ⟨t0,h0,h⟩:=Option.bind_eq_some_iff.mp h;have C0:=Aside0.mk (HI.out _ _ _ _ h0);clear h0;cases t0);rotate_right 1)
  (rotate_left 1;(rw [if_neg (by decide)] at h;obtain rfl:=spec_DiskOk.no _ _ _ _ _ _ _ _ h);rotate_right 1)
  (rotate_left 2;(rw [if_pos rfl] at h;obtain ⟨t1,h1,h⟩:=Option.bind_eq_some_iff.mp h;have C1:=Aside0.mk (HI.out _ _ _ _ h1);clear h1;cases t1);rotate_right 2)
  (rotate_left 2;(rw [if_neg (by decide)] at h;obtain rfl:=spec_DiskOk.no _ _ _ _ _ _ _ _ h);rotate_right 2)
  (rotate_left 3;(rw [if_pos rfl] at h;obtain ⟨u,hu,h⟩:=Option.bind_eq_some_iff.mp h;have CU:=Aside0.mk (HU.out _ hu);clear hu;by_cases cu:u>a0_4);rotate_right 3)
  (rotate_left 3;(have du:decide (a0_4<u)=true:=decide_eq_true cu;rw [show decide (u>a0_4)=true from du] at h;obtain rfl:=spec_DiskOk.no _ _ _ _ _ _ _ _ h);rotate_right 3)
  (rotate_left 4;(have du:decide (a0_4<u)=false:=decide_eq_false cu;rw [show decide (u>a0_4)=false from du] at h;obtain ⟨q0,hq0⟩:=spec_DiskOk.yes _ _ _ _ _ _ _ _ h;have A0:=Aside0.mk hq0;clear hq0);rotate_right 4)
  all_goals (clear h c4;(try clear cu);go_enter Tryz.func9,Tryz.ntmps9;go_wp2_with (((with_reducible refine gate_dst (N:=1) rfl ?_);refine box_event ?hg (N:=1) ?hd (cs:=#[.slice A0_0 l0_0.length c0_0,.slice A0_1 l0_1.length c0_1,.slice A0_2 l0_2.length c0_2,.slice A0_3 l0_3.length c0_3,.int .i64 a0_4,.int .i64 a0_5]) (t:=28) ?hr ?_;(case hd=>rfl);(case hg=>rfl);(case hr=>(go_simp;done));intro g5 hg w1 hbox b5;have Z5:=Aside0.mk hbox;have BW:=Aside0.mk b5;clear hg hbox b5)))
  all_goals ((have sq0_:∀ p_:LaidBy w1,p_.W.cell? ⟨g5,0,none⟩=some (.slice A0_0 l0_0.length c0_0):=fun p_=>p_.cell ((blk_cell Z5.out 0).trans rfl));(have sq1_:∀ p_:LaidBy w1,p_.W.cell? ⟨g5,1,none⟩=some (.slice A0_1 l0_1.length c0_1):=fun p_=>p_.cell ((blk_cell Z5.out 1).trans rfl));(have sq2_:∀ p_:LaidBy w1,p_.W.cell? ⟨g5,2,none⟩=some (.slice A0_2 l0_2.length c0_2):=fun p_=>p_.cell ((blk_cell Z5.out 2).trans rfl));(have sq3_:∀ p_:LaidBy w1,p_.W.cell? ⟨g5,3,none⟩=some (.slice A0_3 l0_3.length c0_3):=fun p_=>p_.cell ((blk_cell Z5.out 3).trans rfl));(have sq4_:∀ p_:LaidBy w1,p_.W.cell? ⟨g5,4,none⟩=some (.int .i64 a0_4):=fun p_=>p_.cell ((blk_cell Z5.out 4).trans rfl));(have sq5_:∀ p_:LaidBy w1,p_.W.cell? ⟨g5,5,none⟩=some (.int .i64 a0_5):=fun p_=>p_.cell ((blk_cell Z5.out 5).trans rfl));(refine wp_region_laid (by kernel_rfl) (by kernel_rfl) ?_);(repeat (go_big_quiet_step (first | (go_at_call 45;with_reducible exact laid_drawn _ (C0.out _)) | (go_at_call 45;with_reducible exact laid_drawn _ (C1.out _)) | (go_at_call 20;with_reducible exact laid_of _ (CU.out _ (LaidBy.below _ BW.out))))));(refine wpQuiet_nil ?_);(rintro w9 ⟨p_,hp_⟩);(have hq_:Below w1.heap.size w1 w9:=hp_▸p_.ok);(clear hp_ p_ sq0_ sq1_ sq2_ sq3_ sq4_ sq5_))
  all_goals (have Z5:=Aside0.mk ((hq_.block g5 (blk_lt Z5.out)).trans Z5.out);have BW:=Aside0.mk (BW.out.trans (hq_.mono BW.out.size));clear hq_ HU;go_wp2)
  iterate 4 (go_ret;exact ⟨rfl,BW.out⟩)
  clear d4 C0 C1 CU du
  go_loopg [3] l0_0.length (fun gg s3 wr=>∃ kk:Nat,kk≤l0_0.length∧l0_0.length-kk≤gg∧s3=.int .i64 kk∧Aside0 (Below w.heap.size w wr)∧Aside0 (wr.heap[g5]? = some (.cells #[.slice A0_0 l0_0.length c0_0,.slice A0_1 l0_1.length c0_1,.slice A0_2 l0_2.length c0_2,.slice A0_3 l0_3.length c0_3,.int .i64 a0_4,.int .i64 a0_5] 28))∧Aside0 (∃ q,spec_DiskOk.l0 q (kk:Int) l0_0 l0_1 l0_2 l0_3 a0_4 a0_5=some r))
  case atStart=>exact ⟨0,Nat.zero_le _,by omega,rfl,BW,Z5,⟨q0,A0.out⟩⟩
  case round=>
    clear BW Z5 A0
    obtain ⟨kk,hkk,hg,rfl,BW,Z5,A⟩:=hrel
    obtain ⟨q,hq⟩:=A.out
    cases q with
    | zero=>simp [spec_DiskOk.l0] at hq
    | succ q=>
    clear A
    simp only [spec_DiskOk.l0] at hq
    by_cases hlt:kk<l0_0.length
    · have hltz:(kk:Int)<(l0_0.length:Int):=by omega
      rw [if_pos hltz,if_pos (by omega:(0:Int)≤(kk:Int))] at hq
      obtain ⟨ad,rfl,hx0,hx1,hx2⟩:=at_T38 (Kd.C_below HR.out BW.out) (kk:Int) (by omega) hltz
      rw [Int.toNat_natCast] at hx0 hx1 hx2
      have hwn:wrap64 ((kk:Int)+1)=((kk+1:Nat):Int):=by unfold wrap64;omega
      rw [hwn] at hq
      generalize rd_T38 l0_0 (kk:Int)=y at hx0 hx1 hx2 hq
      obtain ⟨b2,h2,hq⟩:=Option.bind_eq_some_iff.mp hq
      have H2:=Aside0.mk (HI.out _ _ _ _ h2)
      have AA:=Aside0.mk hq
      clear h2 hq hwn
      obtain ⟨e0,e1,e2,e3,e4,e5⟩:=b6of Z5.out
      go_wp2_with (((with_reducible refine gate_dst (N:=4) rfl ?_);refine box_event ?hg (N:=4) ?hd (cs:=#[.int .i64 0,.string (⟨#[]⟩:ByteArray),.int .i64 0]) (t:=38) ?hr ?_;(case hd=>rfl);(case hg=>rfl);(case hr=>(go_simp;done));intro g6 hg6 w2 hbox b6;have N2:=Aside0.mk hbox;have S2:=Aside0.mk b6;have G6:=Aside0.mk hg6;have n0:w2.cell? ⟨g6,0,none⟩=some (.int .i64 0):=(blk_cell N2.out 0).trans rfl;have n1:w2.cell? ⟨g6,1,none⟩=some (.string (⟨#[]⟩:ByteArray)):=(blk_cell N2.out 1).trans rfl;have n2:w2.cell? ⟨g6,2,none⟩=some (.int .i64 0):=(blk_cell N2.out 2).trans rfl;have z0:=blk_frozen N2.out 0;have z1:=blk_frozen N2.out 1;have z2:=blk_frozen N2.out 2;replace hx0:=fact_below b6 hx0;replace hx1:=fact_below b6 hx1;replace hx2:=fact_below b6 hx2;clear hg6 hbox b6))
      refine gen_wp (R:=fun W=>Below w.heap.size w W∧W.heap[g5]? = some (.cells #[.slice (some ad) l0_0.length c0_0,.slice A0_1 l0_1.length c0_1,.slice A0_2 l0_2.length c0_2,.slice A0_3 l0_3.length c0_3,.int .i64 a0_4,.int .i64 a0_5] 28)∧W.heap[g6]? = some (.cells #[.int .i64 y.f0,.string y.f1,.int .i64 y.f2] 38)) ?_ ?_
      · have hg6:g6≠g5:=by have:=blk_lt Z5.out;have:=G6.out;omega
        have hge:w.heap.size≤g6:=by rw [G6.out];exact BW.out.size
        have hb2:=BW.out.trans (S2.out.mono BW.out.size)
        have hk:=(S2.out.block g5 (blk_lt Z5.out)).trans Z5.out
        refine ⟨below_set (below_set (below_set hb2 hge) hge) hge,blk_far (blk_far (blk_far hk (Ne.symm hg6) _) (Ne.symm hg6) _) (Ne.symm hg6) _,?_⟩
        exact blk_put (cs:=#[.int .i64 y.f0,.string y.f1,.int .i64 0]) (blk_put (cs:=#[.int .i64 y.f0,.string (⟨#[]⟩:ByteArray),.int .i64 0]) (blk_put (cs:=#[.int .i64 0,.string (⟨#[]⟩:ByteArray),.int .i64 0]) N2.out 0 _ rfl) 1 _ rfl) 2 _ rfl
      rintro W2 ⟨hB2,hK2,hN2⟩
      have BW2:=Aside0.mk hB2
      have Z6:=Aside0.mk hK2
      have f0:W2.cell? ⟨g5,0,none⟩=some (.slice (some ad) l0_0.length c0_0):=(blk_cell hK2 0).trans rfl
      have f5:W2.cell? ⟨g5,5,none⟩=some (.int .i64 a0_5):=(blk_cell hK2 5).trans rfl
      have m0:W2.cell? ⟨g6,0,none⟩=some (.int .i64 y.f0):=(blk_cell hN2 0).trans rfl
      have m1:W2.cell? ⟨g6,1,none⟩=some (.string y.f1):=(blk_cell hN2 1).trans rfl
      have m2:W2.cell? ⟨g6,2,none⟩=some (.int .i64 y.f2):=(blk_cell hN2 2).trans rfl
      clear hB2 hK2 hN2 n0 n1 n2 z0 z1 z2 N2 S2 G6 hx0 hx1 hx2 Z5 BW e0 e1 e2 e3 e4 e5
      have hz5:IntKind.i64.wrap (a0_5-1)=wrap64 (a0_5-1):=i64_w _
      cases b2
      (have hq:=AA.out;rw [if_neg (by decide)] at hq;obtain rfl:=Option.some.inj hq;go_quiet ((go_at_call 45;with_reducible exact Calls.quiet_of (H2.out _)));go_wp2;go_ret;exact ⟨rfl,pw_below_drewN BW2.out _⟩)
      have hq:=AA.out
      (rw [if_pos trivial] at hq)
      clear AA
      cases kk with
      | zero=>
        rw [if_neg (by decide)] at hq
        obtain ⟨b3,h3,hq⟩:=Option.bind_eq_some_iff.mp hq
        have H3:=Aside0.mk (HI.out _ _ _ _ h3)
        have AA:=Aside0.mk hq
        clear h3 hq
        cases b3
        all_goals (go_quiet (first | (go_at_call 45;with_reducible exact Calls.quiet_of (H2.out _)) | (go_at_call 45;with_reducible exact Calls.quiet_of (H3.out _)));go_wp2)
        (have hq:=AA.out;rw [if_neg (by decide)] at hq;obtain rfl:=Option.some.inj hq;go_ret;exact ⟨rfl,pw_below_drewN BW2.out _⟩)
        have hq:=AA.out
        (rw [if_pos trivial] at hq)
        have A3:=Aside0.mk hq
        clear AA hq
        go_roundg (l0_0.length-(0+1))
        case measure=>omega
        case rel=>exact ⟨0+1,by omega,by omega,by go_num,⟨pw_below_drewN BW2.out _⟩,⟨Z6.out⟩,⟨q,A3.out⟩⟩
      | succ j=>
        have hw1:IntKind.i64.wrap ((j:Int)+1-1)=(j:Int):=by rw [show (j:Int)+1-1=(j:Int) by omega,IntKind.wrap_i64];omega
        have hwj:wrap64 (((j+1:Nat):Int)-1)=(j:Int):=by unfold wrap64;omega
        have hj0:(0:Int)≤(j:Int):=by omega
        have hjl:(j:Int)<(l0_0.length:Int):=by omega
        rw [if_pos (by omega:((j+1:Nat):Int)>0),hwj,if_pos hj0,if_pos hjl] at hq
        obtain ⟨ad2,e2,hv0,hv1,hv2⟩:=at_T38 (Kd.C_below HR.out BW2.out) (j:Int) hj0 hjl
        cases e2
        rw [Int.toNat_natCast] at hv0 hv1 hv2
        clear hv1 hv2 hwj
        generalize (rd_T38 l0_0 (j:Int)).f0=p0 at hv0 hq
        by_cases hle:p0≥y.f0
        · rw [if_pos hle] at hq
          obtain rfl:=Option.some.inj hq
          have hle':decide (y.f0≤p0)=true:=decide_eq_true hle
          clear hle hq
          go_quiet ((go_at_call 45;with_reducible exact Calls.quiet_of (H2.out _)))
          go_wp2
          go_ret
          exact ⟨rfl,pw_below_drewN BW2.out _⟩
        · rw [if_neg hle] at hq
          have hle':decide (y.f0≤p0)=false:=decide_eq_false hle
          clear hle
          obtain ⟨b3,h3,hq⟩:=Option.bind_eq_some_iff.mp hq
          have H3:=Aside0.mk (HI.out _ _ _ _ h3)
          have AA:=Aside0.mk hq
          clear h3 hq
          cases b3
          all_goals (go_quiet (first | (go_at_call 45;with_reducible exact Calls.quiet_of (H2.out _)) | (go_at_call 45;with_reducible exact Calls.quiet_of (H3.out _)));go_wp2)
          (have hq:=AA.out;rw [if_neg (by decide)] at hq;obtain rfl:=Option.some.inj hq;go_ret;exact ⟨rfl,pw_below_drewN BW2.out _⟩)
          have hq:=AA.out
          (rw [if_pos trivial] at hq)
          have A3:=Aside0.mk hq
          clear AA hq
          go_roundg (l0_0.length-(j+1+1))
          case measure=>omega
          case rel=>exact ⟨j+1+1,by omega,by omega,by go_num,⟨pw_below_drewN BW2.out _⟩,⟨Z6.out⟩,⟨q,A3.out⟩⟩
    · have hltz:¬ (kk:Int)<(l0_0.length:Int):=by omega
      rw [if_neg hltz] at hq
      have A1:=Aside0.mk hq
      clear hq
      obtain ⟨e0,e1,e2,e3,e4,e5⟩:=b6of Z5.out
      go_wp2
      clear e0 e1 e2 e3 e4 e5 hltz hlt hkk hg
      go_loopg [5] q (fun gg s5 wr=>∃ x5:Int,s5=.int .i64 x5∧Aside0 (Below w.heap.size w wr)∧Aside0 (wr.heap[g5]? = some (.cells #[.slice A0_0 l0_0.length c0_0,.slice A0_1 l0_1.length c0_1,.slice A0_2 l0_2.length c0_2,.slice A0_3 l0_3.length c0_3,.int .i64 a0_4,.int .i64 a0_5] 28))∧Aside0 (spec_DiskOk.l1 gg x5 l0_0 l0_1 l0_2 l0_3 a0_4 a0_5=some r))
      case atStart=>exact ⟨0,rfl,BW,Z5,A1⟩
      case round=>
        clear BW Z5 A1
        obtain ⟨x5,rfl,BW,Z5,A⟩:=hrel
        have hq:=A.out
        cases gk with
        | zero=>simp [spec_DiskOk.l1] at hq
        | succ q=>
        clear A
        simp only [spec_DiskOk.l1] at hq
        obtain ⟨e0,e1,e2,e3,e4,e5⟩:=b6of Z5.out
        by_cases hle:x5≤(l0_3.length:Int)
        · have hd1:decide (x5≤(l0_3.length:Int))=true:=decide_eq_true hle
          rw [if_pos hle] at hq
          obtain ⟨⟨L,ok⟩,hD,hq⟩:=Option.bind_eq_some_iff.mp hq
          have CD:=Aside0.mk (HD.out _ _ _ _ hD)
          clear hD hle
          dsimp only at hq
          cases ok
          (rw [if_neg (by decide)] at hq;obtain rfl:=Option.some.inj hq)
          (rotate_left 1;((rw [if_pos rfl] at hq);obtain ⟨b4,h4,hq⟩:=Option.bind_eq_some_iff.mp hq;have CE:=Aside0.mk (HE.out _ _ _ h4);clear h4;cases b4);rotate_right 1)
          (rotate_left 1;(rw [if_neg (by decide)] at hq;obtain rfl:=Option.some.inj hq);rotate_right 1)
          (rotate_left 2;((rw [if_pos rfl] at hq);by_cases hk:x5=(l0_3.length:Int));rotate_right 2)
          (rotate_left 2;(rw [if_pos hk] at hq;have k1:(x5 == (l0_3.length:Int))=true:=beq_iff_eq.mpr hk;clear hk;obtain ⟨b5,h5,hq⟩:=Option.bind_eq_some_iff.mp hq;have CS:=Aside0.mk (HS.out _ _ _ h5);clear h5;cases b5);rotate_right 2)
          (rotate_left 2;(rw [if_neg (by decide)] at hq;obtain rfl:=Option.some.inj hq);rotate_right 2)
          (rotate_left 3;((rw [if_pos rfl] at hq);have A3:=Aside0.mk hq);rotate_right 3)
          (rotate_left 4;(rw [if_neg hk] at hq;have k1:(x5 == (l0_3.length:Int))=false:=beq_eq_false_iff_ne.mpr hk;clear hk;have A3:=Aside0.mk hq);rotate_right 4)
          all_goals (clear hq;go_wp2_with (first | (go_at_call 27;(with_reducible refine (CD.out _ BW.out).mono ?_);rintro e w3 ⟨v3,rfl,o3,hb⟩;obtain ⟨A3_,c3_,rfl,hl3,hC3⟩:=Kd.R_reads o3;have CC:=Aside0.mk hC3;have CL:=Aside0.mk hl3;clear o3 hl3 hC3;have Z5:=Aside0.mk ((hb.block g5 (blk_lt Z5.out)).trans Z5.out);have BW:=Aside0.mk (BW.out.trans (hb.mono BW.out.size));obtain ⟨e0,e1,e2,e3,e4,e5⟩:=b6of Z5.out;clear hb) | (go_at_call 46;(with_reducible refine (CE.out _ BW.out _ _ CC.out CL.out).mono ?_);rintro e w4 ⟨rfl,hb⟩;have CC:=Aside0.mk (Kd.C_below CC.out hb);have Z5:=Aside0.mk ((hb.block g5 (blk_lt Z5.out)).trans Z5.out);have BW:=Aside0.mk (BW.out.trans (hb.mono BW.out.size));obtain ⟨e0,e1,e2,e3,e4,e5⟩:=b6of Z5.out;clear hb) | (go_at_call 47;(with_reducible refine (CS.out _ BW.out _ _ CC.out CL.out).mono ?_);rintro e w5 ⟨rfl,q5,rfl⟩;have Z5:=Aside0.mk (blk_drewN Z5.out q5);have BW:=Aside0.mk (pw_below_drewN BW.out q5))))
          iterate 3 (go_ret;exact ⟨rfl,BW.out⟩)
          all_goals (go_roundg q;(case measure=>omega);(case rel=>exact ⟨wrap64 (x5+1),(by rfl),⟨BW.out⟩,⟨Z5.out⟩,A3⟩))
        · have hd1:decide (x5≤(l0_3.length:Int))=false:=decide_eq_false hle
          rw [if_neg hle] at hq
          obtain rfl:=Option.some.inj hq
          clear hq
          go_wp2
          go_ret
          exact ⟨rfl,BW.out⟩

/-! ### impl_placeOf: function 51 -/
def idxOf {α:Type} (p:α→Bool):List α→Nat→Int
  | [],_=>-1
  | x :: l,i=>if p x=true then (i:Int) else idxOf p l (i+1)
set_option maxHeartbeats 2000000 in
theorem idxEntry (g:Nat) (lb:Array Value) (p:S64→Bool) (eg:∀ args w,(callFunc g args).run Tryz.prog w=.ok (.enter g args) w)
    (A0:Option Addr) (c0:Nat) (l0:List S64) (w:World) (hr:Kd.C k64 w A0 l0.length l0)
    (hp:∀ (W:World) (x:S64),Below w.heap.size w W→Calls Tryz.prog g (#[.agg #[.string x.f0,.int .i64 x.f1]]++lb) W fun e w'=>e=.returned (.bool (p x))∧Below w.heap.size w w') :
    Calls Tryz.prog 82 #[.slice A0 l0.length c0,.func (.func g) #[] lb] w fun e w'=>e=.returned (.int .i64 (idxOf p l0 0))∧Below w.heap.size w w':=by
  have hmax:=hr.2.1
  have HR:=Aside0.mk hr
  clear hr
  go_enter Tryz.func82,Tryz.ntmps82
  go_wp2
  go_loopg [5,8] l0.length (fun gg _ s8 wr=>∃ kk:Nat,kk≤l0.length∧l0.length-kk≤gg∧s8=.int .i64 kk∧Aside0 (Below w.heap.size w wr)∧Aside0 (idxOf p (l0.drop kk) kk=idxOf p l0 0))
  case atStart=>exact ⟨0,Nat.zero_le _,by omega,rfl,⟨Below.refl _ w⟩,⟨rfl⟩⟩
  case round=>
    obtain ⟨kk,hkk,hg,rfl,BW,A⟩:=hrel
    by_cases hlt:kk<l0.length
    · have hltz:(kk:Int)<(l0.length:Int):=by omega
      obtain ⟨ad,rfl,hx0,hx1⟩:=at_T64 (Kd.C_below HR.out BW.out) (kk:Int) (by omega) hltz
      rw [Int.toNat_natCast] at hx0 hx1
      have hd:l0.drop kk=rd_T64 l0 (kk:Int) :: l0.drop (kk+1):=by
        rw [List.drop_eq_getElem_cons hlt]
        unfold rd_T64
        rw [Int.toNat_natCast,List.getD_eq_getElem?_getD,List.getElem?_eq_getElem hlt];rfl
      have hcall:=hp wr (rd_T64 l0 (kk:Int)) BW.out
      have A2:=A.out
      rw [hd,idxOf] at A2
      clear hp hd A
      generalize rd_T64 l0 (kk:Int)=y at hx0 hx1 hcall A2
      cases hq:p y with
      | true=>
        rw [hq] at hcall
        rw [hq,if_pos rfl] at A2
        have A3:=Aside0.mk A2
        clear A2
        go_wp2_with (go_at_fn g;refine hcall.mono ?_;rintro e w' ⟨rfl,hb'⟩)
        go_ret
        exact ⟨by rw [← A3.out];rfl,hb'⟩
      | false=>
        rw [hq] at hcall
        rw [hq,if_neg (by decide)] at A2
        have A3:=Aside0.mk A2
        clear A2
        go_wp2_with (go_at_fn g;refine hcall.mono ?_;rintro e w' ⟨rfl,hb'⟩)
        go_roundg (l0.length-(kk+1))
        case measure=>omega
        case rel=>exact ⟨kk+1,by omega,by omega,by go_num,⟨hb'⟩,A3⟩
    · have hltz:¬ (kk:Int)<(l0.length:Int):=by omega
      have A2:=A.out
      rw [List.drop_of_length_le (by omega),idxOf] at A2
      have A3:=Aside0.mk A2
      clear hp A A2
      go_wp2
      go_ret
      exact ⟨by rw [← A3.out];rfl,BW.out⟩
theorem impl_placeOf_lit (a1:ByteArray) (B:Nat) (w:World) (hB:B<w.heap.size) (hcell:w.cell? ⟨B,0,none⟩=some (.string a1)) (W:World) (x:S64) (hb:Below w.heap.size w W) :
    Calls Tryz.prog 83 (#[.agg #[.string x.f0,.int .i64 x.f1]]++#[.pointer (some ⟨B,0,none⟩)]) W fun e w'=>e=.returned (.bool (x.f0.toList == a1.toList))∧Below w.heap.size w w':=by
  have hc:W.cell? ⟨B,0,none⟩=some (.string a1):=(hb.cell (p:=⟨B,0,none⟩) hB).trans hcell
  have hBW:B<W.heap.size:=Nat.lt_of_lt_of_le hB hb.size
  show Calls Tryz.prog 83 #[.agg #[.string x.f0,.int .i64 x.f1],.pointer (some ⟨B,0,none⟩)] W _
  go_enter Tryz.func83,Tryz.ntmps83
  go_wp2
  all_goals (go_ret;exact ⟨by simp_all,hb.alloc hb.size _⟩)
def impl_placeOf.f (l0:List S64) (a1:ByteArray):Option Int:=some (idxOf (fun x:S64=>x.f0.toList == a1.toList) l0 0)
theorem impl_placeOf.calls (A0:Option Addr) (c0:Nat) (l0:List (S64)) (a1:ByteArray) (r:Int) (w:World) (hr0:Kd.C k64 w A0 l0.length l0) (hc0:l0.length≤c0) (h:impl_placeOf.f l0 a1=some r) :
    Calls Tryz.prog 51 #[.slice A0 l0.length c0,.string a1] w fun e w'=>e=.returned (.int .i64 r)∧Below w.heap.size w w':=by
  obtain rfl:=Option.some.inj h
  have eg:∀ args w,(callFunc 83 args).run Tryz.prog w=.ok (.enter 83 args) w:=enters_of Tryz.func83 (by kernel_rfl) rfl
  have hcon:=idxEntry 83 #[.pointer (some ⟨w.heap.size,0,none⟩)] (fun x:S64=>x.f0.toList == a1.toList) eg A0 c0 l0 (w.alloc (.cells #[.string a1] 9)) (Kd.C_below hr0 ((Below.refl _ w).alloc (Nat.le_refl _) _))
    (fun W x hb=>impl_placeOf_lit a1 w.heap.size _ (by simp) (by simp) W x hb)
  clear hr0 h
  generalize idxOf (fun x:S64=>x.f0.toList == a1.toList) l0 0=r at hcon ⊢
  go_enter Tryz.func51,Tryz.ntmps51
  go_wp2_with (go_at_call 82;refine hcon.mono ?_;rintro e w' ⟨rfl,hb'⟩)
  go_ret
  exact ⟨rfl,((Below.refl _ w).alloc (Nat.le_refl _) _).trans (hb'.mono (by simp))⟩

/-! ### impl_Disk_nodeOf: function 77 -/
set_option maxHeartbeats 2000000 in
theorem idxNode (g:Nat) (lb:Array Value) (p:S38→Bool) (eg:∀ args w,(callFunc g args).run Tryz.prog w=.ok (.enter g args) w)
    (A0:Option Addr) (c0:Nat) (l0:List S38) (w:World) (hr:Kd.C k38 w A0 l0.length l0)
    (hp:∀ (W:World) (x:S38),Below w.heap.size w W→Calls Tryz.prog g (#[.agg #[.int .i64 x.f0,.string x.f1,.int .i64 x.f2]]++lb) W fun e w'=>e=.returned (.bool (p x))∧Below w.heap.size w w') :
    Calls Tryz.prog 96 #[.slice A0 l0.length c0,.func (.func g) #[] lb] w fun e w'=>e=.returned (.int .i64 (idxOf p l0 0))∧Below w.heap.size w w':=by
  have hmax:=hr.2.1
  have HR:=Aside0.mk hr
  clear hr
  go_enter Tryz.func96,Tryz.ntmps96
  go_wp2
  go_loopg [5,8] l0.length (fun gg _ s8 wr=>∃ kk:Nat,kk≤l0.length∧l0.length-kk≤gg∧s8=.int .i64 kk∧Aside0 (Below w.heap.size w wr)∧Aside0 (idxOf p (l0.drop kk) kk=idxOf p l0 0))
  case atStart=>exact ⟨0,Nat.zero_le _,by omega,rfl,⟨Below.refl _ w⟩,⟨rfl⟩⟩
  case round=>
    obtain ⟨kk,hkk,hg,rfl,BW,A⟩:=hrel
    by_cases hlt:kk<l0.length
    · have hltz:(kk:Int)<(l0.length:Int):=by omega
      obtain ⟨ad,rfl,hx0,hx1,hx2⟩:=at_T38 (Kd.C_below HR.out BW.out) (kk:Int) (by omega) hltz
      rw [Int.toNat_natCast] at hx0 hx1 hx2
      have hd:l0.drop kk=rd_T38 l0 (kk:Int) :: l0.drop (kk+1):=by
        rw [List.drop_eq_getElem_cons hlt]
        unfold rd_T38
        rw [Int.toNat_natCast,List.getD_eq_getElem?_getD,List.getElem?_eq_getElem hlt];rfl
      have hcall:=hp wr (rd_T38 l0 (kk:Int)) BW.out
      have A2:=A.out
      rw [hd,idxOf] at A2
      clear hp hd A
      generalize rd_T38 l0 (kk:Int)=y at hx0 hx1 hx2 hcall A2
      cases hq:p y with
      | true=>
        rw [hq] at hcall
        rw [hq,if_pos rfl] at A2
        have A3:=Aside0.mk A2
        clear A2
        go_wp2_with (go_at_fn g;refine hcall.mono ?_;rintro e w' ⟨rfl,hb'⟩)
        go_ret
        exact ⟨by rw [← A3.out];rfl,hb'⟩
      | false=>
        rw [hq] at hcall
        rw [hq,if_neg (by decide)] at A2
        have A3:=Aside0.mk A2
        clear A2
        go_wp2_with (go_at_fn g;refine hcall.mono ?_;rintro e w' ⟨rfl,hb'⟩)
        go_roundg (l0.length-(kk+1))
        case measure=>omega
        case rel=>exact ⟨kk+1,by omega,by omega,by go_num,⟨hb'⟩,A3⟩
    · have hltz:¬ (kk:Int)<(l0.length:Int):=by omega
      have A2:=A.out
      rw [List.drop_of_length_le (by omega),idxOf] at A2
      have A3:=Aside0.mk A2
      clear hp A A2
      go_wp2
      go_ret
      exact ⟨by rw [← A3.out];rfl,BW.out⟩
theorem impl_Disk_nodeOf_lit (a1:Int) (B:Nat) (w:World) (hB:B<w.heap.size) (hcell:w.cell? ⟨B,0,none⟩=some (.int .i64 a1)) (W:World) (x:S38) (hb:Below w.heap.size w W) :
    Calls Tryz.prog 97 (#[.agg #[.int .i64 x.f0,.string x.f1,.int .i64 x.f2]]++#[.pointer (some ⟨B,0,none⟩)]) W fun e w'=>e=.returned (.bool (x.f0 == a1))∧Below w.heap.size w w':=by
  have hc:W.cell? ⟨B,0,none⟩=some (.int .i64 a1):=(hb.cell (p:=⟨B,0,none⟩) hB).trans hcell
  have hBW:B<W.heap.size:=Nat.lt_of_lt_of_le hB hb.size
  show Calls Tryz.prog 97 #[.agg #[.int .i64 x.f0,.string x.f1,.int .i64 x.f2],.pointer (some ⟨B,0,none⟩)] W _
  go_enter Tryz.func97,Tryz.ntmps97
  go_wp2
  all_goals (go_ret;exact ⟨by simp_all,hb.alloc hb.size _⟩)
def impl_Disk_nodeOf.f (l0_0:List S38) (l0_1:List S64) (l0_2:List S64) (l0_3:List ByteArray) (a0_4:Int) (a0_5:Int) (a1:Int):Option Int:=some (idxOf (fun x:S38=>x.f0 == a1) l0_0 0)
theorem impl_Disk_nodeOf.calls (A0_0:Option Addr) (c0_0:Nat) (l0_0:List (S38)) (A0_1:Option Addr) (c0_1:Nat) (l0_1:List (S64)) (A0_2:Option Addr) (c0_2:Nat) (l0_2:List (S64)) (A0_3:Option Addr) (c0_3:Nat) (l0_3:List ByteArray) (a0_4:Int) (a0_5:Int) (a1:Int) (r:Int) (w:World) (hr0_0:Kd.C k38 w A0_0 l0_0.length l0_0) (hc0_0:l0_0.length≤c0_0) (hr0_1:Kd.C k64 w A0_1 l0_1.length l0_1) (hc0_1:l0_1.length≤c0_1) (hr0_2:Kd.C k64 w A0_2 l0_2.length l0_2) (hc0_2:l0_2.length≤c0_2) (hr0_3:Kd.C Kd.string w A0_3 l0_3.length l0_3) (hc0_3:l0_3.length≤c0_3) (h:impl_Disk_nodeOf.f l0_0 l0_1 l0_2 l0_3 a0_4 a0_5 a1=some r) :
    Calls Tryz.prog 77 #[.agg #[.slice A0_0 l0_0.length c0_0,.slice A0_1 l0_1.length c0_1,.slice A0_2 l0_2.length c0_2,.slice A0_3 l0_3.length c0_3,.int .i64 a0_4,.int .i64 a0_5],.int .i64 a1] w fun e w'=>e=.returned (.int .i64 r)∧Below w.heap.size w w':=by
  obtain rfl:=Option.some.inj h
  have eg:∀ args w,(callFunc 97 args).run Tryz.prog w=.ok (.enter 97 args) w:=enters_of Tryz.func97 (by kernel_rfl) rfl
  have hb0:Below w.heap.size w ((w.alloc (.cells #[.slice A0_0 l0_0.length c0_0,.slice A0_1 l0_1.length c0_1,.slice A0_2 l0_2.length c0_2,.slice A0_3 l0_3.length c0_3,.int .i64 a0_4,.int .i64 a0_5] 28)).alloc (.cells #[.int .i64 a1] 3)):=((Below.refl _ w).alloc (Nat.le_refl _) _).alloc (by simp) _
  have hcon:=idxNode 97 #[.pointer (some ⟨w.heap.size+1,0,none⟩)] (fun x:S38=>x.f0 == a1) eg A0_0 c0_0 l0_0 _ (Kd.C_below hr0_0 hb0)
    (fun W x hb=>impl_Disk_nodeOf_lit a1 (w.heap.size+1) _ (by simp) (by simp) W x hb)
  clear hr0_0 hr0_1 hr0_2 hr0_3 h
  generalize idxOf (fun x:S38=>x.f0 == a1) l0_0 0=r at hcon ⊢
  go_enter Tryz.func77,Tryz.ntmps77
  go_wp2_with (go_at_call 96;refine hcon.mono ?_;rintro e w' ⟨rfl,hb'⟩)
  go_ret
  exact ⟨rfl,hb0.trans (hb'.mono (by simp;omega))⟩

end Go.Proofs.YthbffdjjmapaaaaGreatDoor.MFnRenamed
