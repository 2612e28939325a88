/- Each theorem here says that a call of one Go function answers what the Lean function beside it answers; its conditions stand in it. Written by a program of this session. -/
import Derived.Test.YtokcccejijmkmaaGreatDoorMFnDeedsx0
import Derived.Test.YtokcccejijmkmaaGreatDoorMFnDeedsx8
import Derived.Test.YtokcccejijmkmaaGreatDoorMFnDeedsx15
namespace Go.Proofs.YtokcccejijmkmaaGreatDoor.MFnDeeds
set_option maxHeartbeats 4000000
set_option maxRecDepth 100000
open Go.RowKit Go.Proofs.YtokcccejijmkmaaGreatDoorW.PrintWords Go.Proofs.YtokcccejijmkmaaGreatDoorW.PrintLast Go.Proofs.YtokcccejijmkmaaGreatDoorW.PrintMore
attribute [local go_sem] max2_int min2_int max_two min_two max_three min_three max_four min_four
set_option linter.unusedVariables false
set_option linter.unusedSimpArgs false
def nmc (c:UInt8):Bool:=decide (97≤c.toNat∧c.toNat≤122) || decide (48≤c.toNat∧c.toNat≤57) || decide (c.toNat=46) || decide (c.toNat=45)
def nmOk (l:List UInt8):Bool:=l.all nmc && decide (1≤l.length∧l.length≤20)
theorem nmc_true {c:UInt8} (h:(97≤c.toNat∧c.toNat≤122)∨(48≤c.toNat∧c.toNat≤57)∨c.toNat=46∨c.toNat=45):nmc c=true:=by
  unfold nmc
  rcases h with h | h | h | h <;> simp [h]
theorem nmc_false {c:UInt8} (h:c.toNat<45∨c.toNat=47∨(58≤c.toNat∧c.toNat≤96)∨123≤c.toNat):nmc c=false:=by
  unfold nmc
  rw [zf (by omega),zf (by omega),zf (by omega),zf (by omega)];rfl
theorem nameOk_any (s:ByteArray) (hs:s.size≤140737488355328) (W:World) :
    Calls Tryz.prog 58 #[.string s] W fun e w'=>e=.returned (.bool (nmOk s.data.toList))∧∃ q,w'=W.drewN q:=by
  have hll:s.data.toList.length=s.size:=Array.length_toList
  go_enter Tryz.func58,Tryz.ntmps58
  go_wp2
  go_loopg [7] s.size (fun g v7 w'=>∃ i:Nat,i≤s.size∧s.size-i≤g∧v7=.int .i64 i∧Aside0 ((s.data.toList.drop i).all nmc=s.data.toList.all nmc)∧∃ m,w'=W.drewN m)
  case atStart=>exact ⟨0,Nat.zero_le _,by omega,rfl,⟨rfl⟩,0,rfl⟩
  case round=>
    obtain ⟨i,hi,hg,rfl,A,⟨m,rfl⟩⟩:=hrel
    by_cases hlt:i<s.size
    · have hltz:(i:Int)<(s.size:Int):=by omega
      have hx:∀ h:i<s.size,((s[i]'h).toNat:Int)=((s.data.toList[i]'(by omega)).toNat:Int):=fun h=>rfl
      have hd:s.data.toList.drop i=s.data.toList[i]'(by omega) :: s.data.toList.drop (i+1):=List.drop_eq_getElem_cons (by omega)
      have A2:=A.out
      rw [hd,List.all_cons] at A2
      clear A hd
      generalize s.data.toList[i]'(by omega)=c at hx A2
      have hc256:c.toNat<256:=c.toNat_lt
      obtain ⟨z,hz⟩:∃ z:Int,z=(c.toNat:Int):=⟨_,rfl⟩
      rw [← hz] at hx
      have A3:=zA A2
      have HZ:=zA hz
      clear A2 hz
      have ok:∀ h:(97≤z∧z≤122)∨(48≤z∧z≤57)∨z=46∨z=45,Aside0 ((s.data.toList.drop (i+1)).all nmc=s.data.toList.all nmc):=fun h=>⟨by
        have h1:=A3.out
        have h2:=HZ.out
        rwa [nmc_true (by omega),Bool.true_and] at h1⟩
      have no:∀ h:z<45∨z=47∨(58≤z∧z≤96)∨123≤z,Aside0 (nmOk s.data.toList=false):=fun h=>⟨by
        have h1:=A3.out
        have h2:=HZ.out
        rw [nmc_false (by omega),Bool.false_and] at h1
        unfold nmOk
        rw [← h1,Bool.false_and]⟩
      have hz0:0≤z∧z<256:=by have:=HZ.out;omega
      clear HZ A3
      rcases (show (97≤z∧z≤122)∨(48≤z∧z≤57)∨z=46∨z=45∨z<45∨z=47∨(58≤z∧z≤96)∨123≤z by omega) with h | h | h | h | h | h | h | h
      · have A:=ok (by omega)
        clear ok no
        obtain ⟨h1,h2⟩:=h
        go_wp2
        go_roundg (s.size-(i+1))
        case measure=>omega
        case rel=>exact ⟨i+1,by omega,by omega,by go_num,A,_,rfl⟩
      · have A:=ok (by omega)
        clear ok no
        obtain ⟨h1,h2⟩:=h
        go_wp2
        go_roundg (s.size-(i+1))
        case measure=>omega
        case rel=>exact ⟨i+1,by omega,by omega,by go_num,A,_,rfl⟩
      · have A:=ok (by omega)
        clear ok no
        subst h
        go_wp2
        go_roundg (s.size-(i+1))
        case measure=>omega
        case rel=>exact ⟨i+1,by omega,by omega,by go_num,A,_,rfl⟩
      · have A:=ok (by omega)
        clear ok no
        subst h
        go_wp2
        go_roundg (s.size-(i+1))
        case measure=>omega
        case rel=>exact ⟨i+1,by omega,by omega,by go_num,A,_,rfl⟩
      · have A:=no (by omega)
        have e46:(z == 46)=false:=beq_eq_false_iff_ne.mpr (by omega)
        have e45:(z == 45)=false:=beq_eq_false_iff_ne.mpr (by omega)
        clear ok no
        go_wp2
        go_ret
        exact ⟨by rw [A.out];rfl,_,rfl⟩
      · have A:=no (by omega)
        have e46:(z == 46)=false:=beq_eq_false_iff_ne.mpr (by omega)
        have e45:(z == 45)=false:=beq_eq_false_iff_ne.mpr (by omega)
        clear ok no e46 e45
        subst h
        go_wp2
        go_ret
        exact ⟨by rw [A.out];rfl,_,rfl⟩
      · have A:=no (by omega)
        have d57:decide (z≤57)=false:=zf (by omega)
        have e46:(z == 46)=false:=beq_eq_false_iff_ne.mpr (by omega)
        have e45:(z == 45)=false:=beq_eq_false_iff_ne.mpr (by omega)
        clear ok no
        obtain ⟨h1,h2⟩:=h
        go_wp2
        go_ret
        exact ⟨by rw [A.out];rfl,_,rfl⟩
      · have A:=no (by omega)
        have d57:decide (z≤57)=false:=zf (by omega)
        have d122:decide (z≤122)=false:=zf (by omega)
        have e46:(z == 46)=false:=beq_eq_false_iff_ne.mpr (by omega)
        have e45:(z == 45)=false:=beq_eq_false_iff_ne.mpr (by omega)
        clear ok no
        go_wp2
        go_ret
        exact ⟨by rw [A.out];rfl,_,rfl⟩
    · have hltz:¬ (i:Int)<(s.size:Int):=by omega
      have hall:s.data.toList.all nmc=true:=by rw [← A.out,List.drop_eq_nil_of_le (by omega)];rfl
      have HALL:=zA hall
      clear hall A
      have fin:∀ b:Bool,b=decide (1≤s.size∧s.size≤20)→b=nmOk s.data.toList:=fun b hb=>by unfold nmOk;rw [HALL.out,Bool.true_and,hb,hll]
      rcases (show s.size<1∨(1≤s.size∧s.size≤20)∨20<s.size by omega) with h | h | h
      · have h1:(s.size:Int)<1:=by omega
        have FIN:=fin false (by rw [zf (by omega)])
        clear fin
        have F:=zA FIN
        clear FIN
        go_wp2
        go_ret
        exact ⟨by rw [← F.out];rfl,_,rfl⟩
      · have h1:(1:Int)≤s.size:=by omega
        have h2:(s.size:Int)≤20:=by omega
        have FIN:=fin true (by rw [zt (by omega)])
        clear fin
        have F:=zA FIN
        clear FIN
        go_wp2
        go_ret
        exact ⟨by rw [← F.out];rfl,_,rfl⟩
      · have h1:(20:Int)<s.size:=by omega
        have h2:(1:Int)≤s.size:=by omega
        have FIN:=fin false (by rw [zf (by omega)])
        clear fin
        have F:=zA FIN
        clear FIN
        go_wp2
        go_ret
        exact ⟨by rw [← F.out];show Ending.returned (Value.bool (decide ((s.size:Int)≤20)))=_;rw [zf (by omega)],_,rfl⟩
def nameLe (a b:ByteArray):Bool:=Op.bytesLess a.toList b.toList || a.toList == b.toList
def entryFine (nodes:List S45) (prev:Option ByteArray) (x:S47):Bool:=(match prev with | none=>true | some p=>!nameLe x.f0 p) && (nmOk x.f0.data.toList && decide (0≤idxOf (fun n:S45=>n.f0 == x.f1) nodes 0))
def entriesFine (nodes:List S45):Option ByteArray→List S47→Bool
  | _,[]=>true
  | p,x :: l=>entryFine nodes p x && entriesFine nodes (some x.f0) l
def impl_Disk_areEntries.f (aa:List S45) (l0_1:List S47) (l0_2:List S47) (l0_3:List ByteArray) (a0_4:Int) (a0_5:Int) (l1:List S47):Option Bool:=if ∀ x∈l1,x.f0.size≤140737488355328 then some (entriesFine aa none l1 && decide ((l1.length:Int)≤16)) else none
theorem impl_Disk_areEntries.calls (ag:Option Addr) (ah:Nat) (aa:List (S45)) (ai:Option Addr) (aj:Nat) (ab:List (S47)) (ak:Option Addr) (al:Nat) (ae:List (S47)) (an:Option Addr) (ao:Nat) (af:List ByteArray) (aq:Int) (ar:Int) (A1:Option Addr) (c1:Nat) (l1:List (S47)) (r:Bool) (w:World) (au:Kd.C k45 w ag aa.length aa) (av:aa.length≤ah) (aw:Kd.C k47 w ai ab.length ab) (ax:ab.length≤aj) (ay:Kd.C k47 w ak ae.length ae) (az:ae.length≤al) (aA:Kd.C Kd.string w an af.length af) (aB:af.length≤ao) (hr1:Kd.C k47 w A1 l1.length l1) (hc1:l1.length≤c1) (h:impl_Disk_areEntries.f aa ab ae af aq ar l1=some r) :
    Calls Tryz.prog 88 #[.agg #[.slice ag aa.length ah,.slice ai ab.length aj,.slice ak ae.length al,.slice an af.length ao,.int .i64 aq,.int .i64 ar],.slice A1 l1.length c1] w fun e w'=>e=.returned (.bool r)∧Below w.heap.size w w':=by
  unfold impl_Disk_areEntries.f at h
  by_cases hsz:∀ x∈l1,x.f0.size≤140737488355328
  · rw [if_pos hsz] at h
    obtain rfl:=Option.some.inj h
    have hmax:=hr1.2.1
    have HR:=zA hr1
    have HZ:=zA hsz
    have HN:=zA (fun (w1:World) (h:Below w.heap.size w w1) (v:Int)=>impl_Disk_nodeOf.calls ag ah aa ai aj ab ak al ae an ao af aq ar v _ w1 (Kd.C_below au h) av (Kd.C_below aw h) ax (Kd.C_below ay h) az (Kd.C_below aA h) aB rfl)
    clear h hsz hr1 hc1 au av aw ax ay az aA aB
    go_enter Tryz.func88,Tryz.ntmps88
    go_wp2_with (((with_reducible refine gate_dst (N:=2) rfl ?_);refine box_event ?hg (N:=2) ?hd (cs:=#[.slice ag aa.length ah,.slice ai ab.length aj,.slice ak ae.length al,.slice an af.length ao,.int .i64 aq,.int .i64 ar]) (t:=28) ?hr ?_;(case hd=>rfl);(case hg=>rfl);(case hr=>(go_simp;done));intro g5 hg w1 hbox b5;have BK:=zA hbox;have B1:=zA b5;obtain ⟨q0,q1,q2,q3,q4,q5⟩:=b6of BK.out;clear hg hbox b5))
    go_loopg [9] l1.length (fun gg s8 wr=>∃ kk:Nat,kk≤l1.length∧l1.length-kk≤gg∧s8=.int .i64 kk∧Aside0 (Below w.heap.size w wr)∧Aside0 (wr.heap[g5]? = some (.cells #[.slice ag aa.length ah,.slice ai ab.length aj,.slice ak ae.length al,.slice an af.length ao,.int .i64 aq,.int .i64 ar] 28))∧Aside0 (entriesFine aa (prevE l1 kk) (l1.drop kk)=entriesFine aa none l1))
    case atStart=>exact ⟨0,Nat.zero_le _,by omega,rfl,B1,BK,⟨rfl⟩⟩
    case round=>
      clear q0 q1 q2 q3 q4 q5
      obtain ⟨kk,hkk,hg,rfl,BW,BK2,A⟩:=hrel
      clear B1 BK
      by_cases hlt:kk<l1.length
      · have hltz:(kk:Int)<(l1.length:Int):=by omega
        obtain ⟨ad,rfl,hx0,hx1⟩:=at_T47 (Kd.C_below HR.out BW.out) (kk:Int) (by omega) hltz
        rw [Int.toNat_natCast] at hx0 hx1
        have hd:l1.drop kk=rd_T47 l1 (kk:Int) :: l1.drop (kk+1):=by
          rw [List.drop_eq_getElem_cons hlt]
          unfold rd_T47
          rw [Int.toNat_natCast,List.getD_eq_getElem?_getD,List.getElem?_eq_getElem hlt];rfl
        have hys:(rd_T47 l1 (kk:Int)).f0.size≤140737488355328:=HZ.out _ (by
          have hm:=List.mem_of_mem_drop (i:=kk) (l:=l1) (a:=rd_T47 l1 (kk:Int)) (by rw [hd];exact List.mem_cons_self)
          exact hm)
        have A2:=A.out
        rw [hd,entriesFine] at A2
        have A3:(entryFine aa (prevE l1 kk) (rd_T47 l1 (kk:Int)) && entriesFine aa (prevE l1 (kk+1)) (l1.drop (kk+1)))=entriesFine aa none l1:=A2
        have AA:=zA A3
        clear A A2 A3 hd
        generalize rd_T47 l1 (kk:Int)=y at hx0 hx1 AA hys
        have HY:=zA hys
        clear hys
        go_wp2
        refine gen_wp (R:=fun W=>Below w.heap.size w W∧W.heap[g5]? = some (.cells #[.slice ag aa.length ah,.slice ai ab.length aj,.slice ak ae.length al,.slice an af.length ao,.int .i64 aq,.int .i64 ar] 28)∧W.heap[wr.heap.size]? = some (.cells #[.string y.f0,.int .i64 y.f1] 47)) ⟨BW.out.alloc BW.out.size _,(heap_alloc_old wr _ (blk_lt BK2.out)).trans BK2.out,heap_alloc_new wr _⟩ ?_
        generalize wr.heap.size=g6
        rintro W2 ⟨hB2,hK2,hN2⟩
        have BW2:=zA hB2
        have Z5:=zA hK2
        have e0:W2.cell? ⟨g5,0,none⟩=some (.slice ag aa.length ah):=(blk_cell hK2 0).trans rfl
        have e1:W2.cell? ⟨g5,1,none⟩=some (.slice ai ab.length aj):=(blk_cell hK2 1).trans rfl
        have e2:W2.cell? ⟨g5,2,none⟩=some (.slice ak ae.length al):=(blk_cell hK2 2).trans rfl
        have e3:W2.cell? ⟨g5,3,none⟩=some (.slice an af.length ao):=(blk_cell hK2 3).trans rfl
        have e4:W2.cell? ⟨g5,4,none⟩=some (.int .i64 aq):=(blk_cell hK2 4).trans rfl
        have e5:W2.cell? ⟨g5,5,none⟩=some (.int .i64 ar):=(blk_cell hK2 5).trans rfl
        have m0:W2.cell? ⟨g6,0,none⟩=some (.string y.f0):=(blk_cell hN2 0).trans rfl
        have m1:W2.cell? ⟨g6,1,none⟩=some (.int .i64 y.f1):=(blk_cell hN2 1).trans rfl
        clear hB2 hK2 hN2 hx0 hx1 BK2 BW
        have hk:=fun w=>nameOk_any y.f0 HY.out w
        have hn:=fun w1 h=>HN.out w1 h y.f1
        have A4:=AA.out
        unfold entryFine at A4
        generalize nmOk y.f0.data.toList=bn at hk A4
        generalize idxOf (fun n:S45=>n.f0 == y.f1) aa 0=t at hn A4
        have HK:=zA hk
        have HM:=zA hn
        have AB:=zA A4
        clear A4 AA hk hn
        cases kk with
        | zero=>
          have AC:=zA (show (true && (bn && decide (0≤t)) && entriesFine aa (prevE l1 (0+1)) (l1.drop (0+1)))=entriesFine aa none l1 from AB.out)
          clear AB
          cases bn with
          | false=>
            go_quiet ((go_at_call 58;with_reducible exact Calls.quiet_of (HK.out _)))
            go_wp2
            go_ret
            exact ⟨by rw [← AC.out];rfl,pw_below_drewN BW2.out _⟩
          | true=>
            have aC:∀ p_:LaidBy W2,p_.W.cell? ⟨g6,0,none⟩=some (.string y.f0):=fun p_=>p_.cell (m0)
            have aD:∀ p_:LaidBy W2,p_.W.cell? ⟨g6,1,none⟩=some (.int .i64 y.f1):=fun p_=>p_.cell (m1)
            have aE:∀ p_:LaidBy W2,p_.W.cell? ⟨g5,0,none⟩=some (.slice ag aa.length ah):=fun p_=>p_.cell (e0)
            have aF:∀ p_:LaidBy W2,p_.W.cell? ⟨g5,1,none⟩=some (.slice ai ab.length aj):=fun p_=>p_.cell (e1)
            have aG:∀ p_:LaidBy W2,p_.W.cell? ⟨g5,2,none⟩=some (.slice ak ae.length al):=fun p_=>p_.cell (e2)
            have aH:∀ p_:LaidBy W2,p_.W.cell? ⟨g5,3,none⟩=some (.slice an af.length ao):=fun p_=>p_.cell (e3)
            have aI:∀ p_:LaidBy W2,p_.W.cell? ⟨g5,4,none⟩=some (.int .i64 aq):=fun p_=>p_.cell (e4)
            have aJ:∀ p_:LaidBy W2,p_.W.cell? ⟨g5,5,none⟩=some (.int .i64 ar):=fun p_=>p_.cell (e5)
            refine wp_region_laid (by kernel_rfl) (by kernel_rfl) ?_
            repeat (go_big_quiet_step (first | (go_at_call 58;with_reducible exact laid_drawn _ (HK.out _)) | (go_at_call 72;with_reducible exact laid_of _ (HM.out _ (LaidBy.below _ BW2.out)))))
            refine wpQuiet_nil ?_
            rintro w9 ⟨p_,hp_⟩
            have hq_:Below W2.heap.size W2 w9:=hp_▸p_.ok
            clear hp_ p_ aC aD aE aF aG aH aI aJ
            have Z5:=zb Z5 hq_
            have BD:=zA hq_
            clear hq_
            by_cases ht:t<0
            · have ht1:decide (t<0)=true:=zt ht
              rw [show decide (0≤t)=false from zf (by omega)] at AC
              go_wp2
              go_ret
              exact ⟨by rw [← AC.out];rfl,BW2.out.trans (BD.out.mono BW2.out.size)⟩
            · have ht1:decide (t<0)=false:=zf ht
              rw [show decide (0≤t)=true from zt (by omega)] at AC
              go_wp2
              go_roundg (l1.length-(0+1))
              case measure=>omega
              case rel=>exact ⟨0+1,by omega,by omega,by go_num,⟨BW2.out.trans (BD.out.mono BW2.out.size)⟩,Z5,⟨AC.out⟩⟩
        | succ j=>
          have hw1:IntKind.i64.wrap ((j:Int)+1-1)=(j:Int):=by rw [show (j:Int)+1-1=(j:Int) by omega,IntKind.wrap_i64];omega
          have hw2:wrap64 (j:Int)=(j:Int):=by rw [← i64_w,IntKind.wrap_i64];omega
          have hj0:(0:Int)≤(j:Int):=by omega
          have hjl:(j:Int)<(l1.length:Int):=by omega
          obtain ⟨ad2,e2,hv0,hv1⟩:=at_T47 (Kd.C_below HR.out BW2.out) (j:Int) hj0 hjl
          cases e2
          rw [Int.toNat_natCast] at hv0 hv1
          clear hv1
          have AC:=zA (show ((!nameLe y.f0 (rd_T47 l1 (j:Int)).f0) && (bn && decide (0≤t)) && entriesFine aa (prevE l1 (j+1+1)) (l1.drop (j+1+1)))=entriesFine aa none l1 from AB.out)
          clear AB
          generalize (rd_T47 l1 (j:Int)).f0=p0 at hv0 AC
          have V:=zA hv0
          have hcm:(Op.bytesLess y.f0.toList p0.toList || y.f0.toList == p0.toList)=nameLe y.f0 p0:=rfl
          cases hle:nameLe y.f0 p0 with
          | true=>
            rw [hle] at hcm AC
            go_quiet (fail)
            go_wp2
            go_ret
            exact ⟨by rw [← AC.out];rfl,pw_below_drewN BW2.out _⟩
          | false=>
            rw [hle] at hcm AC
            cases bn with
            | false=>
              go_quiet ((go_at_call 58;with_reducible exact Calls.quiet_of (HK.out _)))
              go_wp2
              go_ret
              exact ⟨by rw [← AC.out];rfl,pw_below_drewN BW2.out _⟩
            | true=>
              have aC:∀ p_:LaidBy W2,p_.W.cell? ⟨g6,0,none⟩=some (.string y.f0):=fun p_=>p_.cell (m0)
              have aD:∀ p_:LaidBy W2,p_.W.cell? ⟨g6,1,none⟩=some (.int .i64 y.f1):=fun p_=>p_.cell (m1)
              have aE:∀ p_:LaidBy W2,p_.W.cell? ⟨g5,0,none⟩=some (.slice ag aa.length ah):=fun p_=>p_.cell (e0)
              have aF:∀ p_:LaidBy W2,p_.W.cell? ⟨g5,1,none⟩=some (.slice ai ab.length aj):=fun p_=>p_.cell (e1)
              have aG:∀ p_:LaidBy W2,p_.W.cell? ⟨g5,2,none⟩=some (.slice ak ae.length al):=fun p_=>p_.cell (e2)
              have aH:∀ p_:LaidBy W2,p_.W.cell? ⟨g5,3,none⟩=some (.slice an af.length ao):=fun p_=>p_.cell (e3)
              have aI:∀ p_:LaidBy W2,p_.W.cell? ⟨g5,4,none⟩=some (.int .i64 aq):=fun p_=>p_.cell (e4)
              have aJ:∀ p_:LaidBy W2,p_.W.cell? ⟨g5,5,none⟩=some (.int .i64 ar):=fun p_=>p_.cell (e5)
              have aK:∀ p_:LaidBy W2,p_.W.cell? (ad.add (j*2))=some (.string p0):=fun p_=>p_.cell (V.out)
              refine wp_region_laid (by kernel_rfl) (by kernel_rfl) ?_
              repeat (go_big_quiet_step (first | (go_at_call 58;with_reducible exact laid_drawn _ (HK.out _)) | (go_at_call 72;with_reducible exact laid_of _ (HM.out _ (LaidBy.below _ BW2.out)))))
              refine wpQuiet_nil ?_
              rintro w9 ⟨p_,hp_⟩
              have hq_:Below W2.heap.size W2 w9:=hp_▸p_.ok
              clear hp_ p_ aC aD aE aF aG aH aI aJ aK
              have Z5:=zb Z5 hq_
              have BD:=zA hq_
              clear hq_
              by_cases ht:t<0
              · have ht1:decide (t<0)=true:=zt ht
                rw [show decide (0≤t)=false from zf (by omega)] at AC
                go_wp2
                go_ret
                exact ⟨by rw [← AC.out];rfl,BW2.out.trans (BD.out.mono BW2.out.size)⟩
              · have ht1:decide (t<0)=false:=zf ht
                rw [show decide (0≤t)=true from zt (by omega)] at AC
                go_wp2
                go_roundg (l1.length-(j+1+1))
                case measure=>omega
                case rel=>exact ⟨j+1+1,by omega,by omega,by go_num,⟨BW2.out.trans (BD.out.mono BW2.out.size)⟩,Z5,⟨AC.out⟩⟩
      · have hltz:¬ (kk:Int)<(l1.length:Int):=by omega
        have A2:=A.out
        rw [List.drop_of_length_le (by omega),entriesFine] at A2
        have A3:=zA A2
        clear A A2
        go_wp2
        go_ret
        exact ⟨by rw [← A3.out,Bool.true_and];rfl,BW.out⟩
  · rw [if_neg hsz] at h;cases h
noncomputable def tabPName:String:=((Tryz.prog.globals[1]?).map (·.name)).getD default
structure TabsP (w:World):Prop where
  out:Lib.TabIs Tryz.prog w tabPName .u64 Lib.pow10Tab
theorem TabsP.below {w W:World} (h:TabsP w) (hb:Below w.heap.size w W):TabsP W:=⟨Lib.tabBelow_of_tabIs h.out _ hb⟩
theorem TabsP.use {w:World} {n:String} (h:TabsP w) (hn:tabPName=n):Lib.TabIs Tryz.prog w n .u64 Lib.pow10Tab:=hn▸h.out
theorem TabsP.of {w:World} {n:String} (hn:n=tabPName) (h:Lib.TabIs Tryz.prog w n .u64 Lib.pow10Tab):TabsP w:=⟨hn▸h⟩
theorem below_growD (w:World) (k:Nat) (os:Array Obj):Below w.heap.size w (Sort.grow (w.drewN k) os):=by
  have h:Below w.heap.size w (w.drewN k):=(Drawn0.mk ⟨k,rfl⟩).below
  refine ⟨h.os,h.tape,h.output,?_,fun i hi=>?_⟩
  · show w.heap.size≤((w.drewN k).heap++os).size
    rw [Array.size_append]
    exact Nat.le_trans h.size (Nat.le_add_right ..)
  · show ((w.drewN k).heap++os)[i]? = _
    rw [Array.getElem?_append_left (Nat.lt_of_lt_of_le hi h.size)]
    exact h.block i hi
def impl_Decimal.f (a0:Int):Option ByteArray:=if -9223372036854775808≤a0∧a0≤9223372036854775807 then some ⟨(Lib.itoa a0).toArray⟩ else none
theorem impl_Decimal.calls (a0:Int) (r:ByteArray) (w:World) (hTP:TabsP w) (h:impl_Decimal.f a0=some r) :
    Calls Tryz.prog 59 #[.int .i64 a0] w fun e w'=>e=.returned (.string r)∧Below w.heap.size w w':=by
  unfold impl_Decimal.f at h
  split at h
  · rename_i hb
    obtain rfl:=Option.some.inj h
    have hcon:=Any.strconv_Itoa Tryz.laysM171 a0 hb.1 hb.2 w (hTP.use (by kernel_rfl))
    change Calls Tryz.prog 97 _ _ _ at hcon
    clear hTP h
    generalize (Lib.itoa a0).toArray=r at hcon ⊢
    go_enter Tryz.func59,Tryz.ntmps59
    go_wp2_with (go_at_call 97;refine hcon.mono ?_;rintro e w' ⟨rfl,k,os,rfl⟩)
    go_ret
    exact ⟨rfl,below_growD _ _ _⟩
  · cases h
theorem var_below {P:Program} {w W:World} {name:String} {cs:Array Value} (h:w.var? P name=some cs) (hb:Below w.heap.size w W):W.var? P name=some cs:=by
  unfold World.var? at *
  cases hg:P.globalNamed name with
  | none=>simp [hg] at h
  | some g=>
    simp only [hg,Option.bind_some] at h ⊢
    have hlt:g<w.heap.size:=by
      rcases Nat.lt_or_ge g w.heap.size with h' | h'
      · exact h'
      · rw [Array.getElem?_eq_none h'] at h;simp at h
    rw [hb.block g hlt]
    exact h
structure TabsE (w:World):Prop where
  syn:∃ tp p,w.var? Tryz.prog "strconv.ErrSyntax"=some #[.iface tp p]
  rng:∃ tp p,w.var? Tryz.prog "strconv.ErrRange"=some #[.iface tp p]
theorem TabsE.below {w W:World} (h:TabsE w) (hb:Below w.heap.size w W):TabsE W:=by
  obtain ⟨⟨a,b,h1⟩,c,d,h2⟩:=h
  exact ⟨⟨a,b,var_below h1 hb⟩,c,d,var_below h2 hb⟩
theorem atoi_any (s:ByteArray) (hlim:s.size≤281474976710656) (w:World) (hTE:TabsE w) :
    Calls Tryz.prog 118 #[.string s] w fun e w'=>(∃ v er,e=.returned (.tuple #[.int .i64 v,er])∧((er=.nilIface∧Lib.atoiAll s.data.toList=.ok v)∨(∃ t p,er=.iface t p∧∀ v',Lib.atoiAll s.data.toList≠.ok v')))∧Below w.heap.size w w':=by
  cases hv:Lib.atoiAll s.data.toList
  · rename_i v
    have h:=Any.strconv_Atoi_ok Tryz.laysC172 s (by omega) v hv w
    refine (h:Calls Tryz.prog 118 _ _ _).mono ?_
    rintro e w' ⟨rfl,hw⟩
    refine ⟨⟨v,_,rfl,.inl ⟨rfl,rfl⟩⟩,?_⟩
    rcases hw with rfl | ⟨t,rfl⟩
    · exact Below.refl _ _
    · exact Lib.bytesWorld_below _ _ _
  · obtain ⟨tp,p,hs⟩:=hTE.syn
    have h:=Any.strconv_Atoi_syntax_var Tryz.laysC172 s hlim hv tp p w hs
    refine (h:Calls Tryz.prog 118 _ _ _).mono ?_
    rintro e w' ⟨N,rfl,_,_,hb⟩
    exact ⟨⟨_,_,rfl,.inr ⟨_,_,rfl,fun v' h=>by cases h⟩⟩,hb⟩
  · obtain ⟨tp,p,hs⟩:=hTE.rng
    have h:=Any.strconv_Atoi_range_var Tryz.laysC172 s hlim hv tp p w hs
    refine (h:Calls Tryz.prog 118 _ _ _).mono ?_
    rintro e w' ⟨N,rfl,_,_,hb⟩
    exact ⟨⟨_,_,rfl,.inr ⟨_,_,rfl,fun v' h=>by cases h⟩⟩,hb⟩
def impl_ReadDecimal.f (a0:ByteArray):Option (Int×Bool):=if a0.size≤281474976710656 then (match Lib.atoiAll a0.data.toList with
  | .ok v=>(impl_isNumber.f v).bind fun t=>if t=true then (impl_Decimal.f v).bind fun d=>if d.toList=a0.toList then some (v,true) else some (0,false) else some (0,false)
  | _=>some (0,false)) else none
theorem impl_ReadDecimal.calls (a0:ByteArray) (r1:Int) (r2:Bool) (w:World) (hTE:TabsE w) (hTP:TabsP w) (h:impl_ReadDecimal.f a0=some (r1,r2)) :
    Calls Tryz.prog 108 #[.string a0] w fun e w'=>e=.returned (.tuple #[.int .i64 r1,.bool r2])∧Below w.heap.size w w':=by
  unfold impl_ReadDecimal.f at h
  by_cases hs:a0.size≤281474976710656
  · rw [if_pos hs] at h
    have hA:=atoi_any a0 hs w hTE
    cases hv:Lib.atoiAll a0.data.toList with
    | ok v=>
      rw [hv] at h hA
      replace h:((impl_isNumber.f v).bind fun t=>if t=true then (impl_Decimal.f v).bind fun d=>if d.toList=a0.toList then some (v,true) else some (0,false) else some (0,false))=some (r1,r2):=h
      replace hA:Calls Tryz.prog 118 #[.string a0] w fun e w'=>e=.returned (.tuple #[.int .i64 v,.nilIface])∧Below w.heap.size w w':=hA.mono (by
        rintro e w' ⟨⟨v',er,rfl,(⟨rfl,e⟩ | ⟨t,p,_,e⟩)⟩,hb⟩
        · injection e with e;subst e;exact ⟨rfl,hb⟩
        · exact absurd rfl (e v))
      obtain ⟨t,ht,h⟩:=zo h
      clear hv hTE
      have HA:=zA hA
      have HN:=zA ht
      have HT:=zA hTP
      clear hA ht hTP
      cases t with
      | false=>
        rw [if_neg Bool.false_ne_true] at h
        have e1:=(Prod.mk.inj (Option.some.inj h)).1
        have e2:=(Prod.mk.inj (Option.some.inj h)).2
        subst e1 e2
        clear h
        go_enter Tryz.func108,Tryz.ntmps108
        go_wp2_with (first | (go_at_call 118;refine HA.out.mono ?_;rintro e w1 ⟨rfl,hb1⟩;have HB1:=zA hb1;clear hb1) | (go_at_call 85;refine (impl_isNumber.calls v false _ HN.out).mono ?_;rintro e w2 ⟨rfl,⟨n2,rfl⟩⟩))
        all_goals go_ret2
        exact ⟨rfl,by exact pw_below_drewN HB1.out _⟩
      | true=>
        rw [if_pos rfl] at h
        obtain ⟨d,hd,h⟩:=zo h
        have HD:=zA hd
        clear hd
        by_cases hc:d.toList=a0.toList
        · rw [if_pos hc] at h
          have e1:=(Prod.mk.inj (Option.some.inj h)).1
          have e2:=(Prod.mk.inj (Option.some.inj h)).2
          subst e1 e2
          clear h
          have c1:(d.toList == a0.toList)=true:=beq_iff_eq.mpr hc
          clear hc
          go_enter Tryz.func108,Tryz.ntmps108
          go_wp2_with (first | (go_at_call 118;refine HA.out.mono ?_;rintro e w1 ⟨rfl,hb1⟩;have HB1:=zA hb1;clear hb1) | (go_at_call 85;refine (impl_isNumber.calls v true _ HN.out).mono ?_;rintro e w2 ⟨rfl,⟨n2,rfl⟩⟩) | (go_at_call 59;refine (impl_Decimal.calls v d _ (HT.out.below (by exact pw_below_drewN HB1.out _)) HD.out).mono ?_;rintro e w3 ⟨rfl,hb3⟩;have HB3:=zA hb3;clear hb3))
          all_goals go_ret2
          exact ⟨rfl,by exact (pw_below_drewN HB1.out _).trans (HB3.out.mono (pw_below_drewN HB1.out _).size)⟩
        · rw [if_neg hc] at h
          have e1:=(Prod.mk.inj (Option.some.inj h)).1
          have e2:=(Prod.mk.inj (Option.some.inj h)).2
          subst e1 e2
          clear h
          have c1:(d.toList == a0.toList)=false:=beq_eq_false_iff_ne.mpr hc
          clear hc
          go_enter Tryz.func108,Tryz.ntmps108
          go_wp2_with (first | (go_at_call 118;refine HA.out.mono ?_;rintro e w1 ⟨rfl,hb1⟩;have HB1:=zA hb1;clear hb1) | (go_at_call 85;refine (impl_isNumber.calls v true _ HN.out).mono ?_;rintro e w2 ⟨rfl,⟨n2,rfl⟩⟩) | (go_at_call 59;refine (impl_Decimal.calls v d _ (HT.out.below (by exact pw_below_drewN HB1.out _)) HD.out).mono ?_;rintro e w3 ⟨rfl,hb3⟩;have HB3:=zA hb3;clear hb3))
          all_goals go_ret2
          exact ⟨rfl,by exact (pw_below_drewN HB1.out _).trans (HB3.out.mono (pw_below_drewN HB1.out _).size)⟩
    | _=>
      rw [hv] at h hA
      replace h:some ((0:Int),false)=some (r1,r2):=h
      have e1:=(Prod.mk.inj (Option.some.inj h)).1
      have e2:=(Prod.mk.inj (Option.some.inj h)).2
      subst e1 e2
      replace hA:Calls Tryz.prog 118 #[.string a0] w fun e w'=>(∃ v t p,e=.returned (.tuple #[.int .i64 v,.iface t p]))∧Below w.heap.size w w':=hA.mono (by
        rintro e w' ⟨⟨v',er,rfl,(⟨_,e⟩ | ⟨t,p,rfl,_⟩)⟩,hb⟩
        · cases e
        · exact ⟨⟨_,_,_,rfl⟩,hb⟩)
      clear hv hTE hTP h
      have HA:=zA hA
      clear hA
      go_enter Tryz.func108,Tryz.ntmps108
      go_wp2_with (go_at_call 118;refine HA.out.mono ?_;rintro e w1 ⟨⟨v,t,p,rfl⟩,hb1⟩;have HB1:=zA hb1;clear hb1)
      all_goals go_ret2
      exact ⟨rfl,HB1.out⟩
  · rw [if_neg hs] at h;cases h
end Go.Proofs.YtokcccejijmkmaaGreatDoor.MFnDeeds
