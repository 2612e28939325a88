/- Each theorem here says that a call of one Go function answers what the Lean function beside it answers; its conditions stand in it. Written by a program of this session. -/
import Derived.Test.YtokcccejijmkmaaGreatDoorMFnDeedsx0
import Derived.Test.YtokcccejijmkmaaGreatDoorMFnDeedsx2
import Derived.Test.YtokcccejijmkmaaGreatDoorMFnDeedsx8
namespace Go.Proofs.YtokcccejijmkmaaGreatDoor.MFnDeeds
set_option maxHeartbeats 8000000
set_option maxRecDepth 100000
open Go.RowKit Go.Proofs.YtokcccejijmkmaaGreatDoorW.PrintWords Go.Proofs.YtokcccejijmkmaaGreatDoorW.PrintLast Go.Proofs.YtokcccejijmkmaaGreatDoorW.PrintMore
attribute [local go_sem] max2_int min2_int max_two min_two max_three min_three max_four min_four
set_option linter.unusedVariables false
set_option linter.unusedSimpArgs false
attribute [local go_sem high] eqA47
def idxOf {α:Type} (p:α→Bool):List α→Nat→Int
  | [],_=>-1
  | x :: l,i=>if p x=true then (i:Int) else idxOf p l (i+1)
theorem idxEntry (g:Nat) (lb:Array Value) (p:S47→Bool) (eg:∀ args w,(callFunc g args).run Tryz.prog w=.ok (.enter g args) w)
    (A0:Option Addr) (c0:Nat) (l0:List S47) (w:World) (hr:Kd.C k47 w A0 l0.length l0)
    (hp:∀ (W:World) (x:S47),Below w.heap.size w W→Calls Tryz.prog g (#[.agg #[.string x.f0,.int .i64 x.f1]]++lb) W fun e w'=>e=.returned (.bool (p x))∧Below w.heap.size w w') :
    Calls Tryz.prog 94 #[.slice A0 l0.length c0,.func (.func g) #[] lb] w fun e w'=>e=.returned (.int .i64 (idxOf p l0 0))∧Below w.heap.size w w':=by
  have hmax:=hr.2.1
  have HR:=zA hr
  clear hr
  go_enter Tryz.func94,Tryz.ntmps94
  go_wp2
  go_loopg [5,8] l0.length (fun gg _ s8 wr=>∃ kk:Nat,kk≤l0.length∧l0.length-kk≤gg∧s8=.int .i64 kk∧Aside0 (Below w.heap.size w wr)∧Aside0 (idxOf p (l0.drop kk) kk=idxOf p l0 0))
  case atStart=>exact ⟨0,Nat.zero_le _,by omega,rfl,⟨Below.refl _ w⟩,⟨rfl⟩⟩
  case round=>
    obtain ⟨kk,hkk,hg,rfl,BW,A⟩:=hrel
    by_cases hlt:kk<l0.length
    · have hltz:(kk:Int)<(l0.length:Int):=by omega
      obtain ⟨ad,rfl,hx0,hx1⟩:=at_T47 (Kd.C_below HR.out BW.out) (kk:Int) (by omega) hltz
      rw [Int.toNat_natCast] at hx0 hx1
      have hd:l0.drop kk=rd_T47 l0 (kk:Int) :: l0.drop (kk+1):=by
        rw [List.drop_eq_getElem_cons hlt]
        unfold rd_T47
        rw [Int.toNat_natCast,List.getD_eq_getElem?_getD,List.getElem?_eq_getElem hlt];rfl
      have hcall:=hp wr (rd_T47 l0 (kk:Int)) BW.out
      have A2:=A.out
      rw [hd,idxOf] at A2
      clear hp hd A
      generalize rd_T47 l0 (kk:Int)=y at hx0 hx1 hcall A2
      cases hq:p y with
      | true=>
        rw [hq] at hcall
        rw [hq,if_pos rfl] at A2
        have A3:=zA A2
        clear A2
        go_wp2_with (go_at_fn g;refine hcall.mono ?_;rintro e w' ⟨rfl,hb'⟩)
        go_ret
        exact ⟨by rw [← A3.out];rfl,hb'⟩
      | false=>
        rw [hq] at hcall
        rw [hq,if_neg (by decide)] at A2
        have A3:=zA A2
        clear A2
        go_wp2_with (go_at_fn g;refine hcall.mono ?_;rintro e w' ⟨rfl,hb'⟩)
        go_roundg (l0.length-(kk+1))
        case measure=>omega
        case rel=>exact ⟨kk+1,by omega,by omega,by go_num,⟨hb'⟩,A3⟩
    · have hltz:¬ (kk:Int)<(l0.length:Int):=by omega
      have A2:=A.out
      rw [List.drop_of_length_le (by omega),idxOf] at A2
      have A3:=zA A2
      clear hp A A2
      go_wp2
      go_ret
      exact ⟨by rw [← A3.out];rfl,BW.out⟩
theorem impl_placeOf_lit (a1:ByteArray) (B:Nat) (w:World) (hB:B<w.heap.size) (hcell:w.cell? ⟨B,0,none⟩=some (.string a1)) (W:World) (x:S47) (hb:Below w.heap.size w W) :
    Calls Tryz.prog 95 (#[.agg #[.string x.f0,.int .i64 x.f1]]++#[.pointer (some ⟨B,0,none⟩)]) W fun e w'=>e=.returned (.bool (x.f0.toList == a1.toList))∧Below w.heap.size w w':=by
  have hc:W.cell? ⟨B,0,none⟩=some (.string a1):=(hb.cell (p:=⟨B,0,none⟩) hB).trans hcell
  have hBW:B<W.heap.size:=Nat.lt_of_lt_of_le hB hb.size
  show Calls Tryz.prog 95 #[.agg #[.string x.f0,.int .i64 x.f1],.pointer (some ⟨B,0,none⟩)] W _
  go_enter Tryz.func95,Tryz.ntmps95
  go_wp2
  all_goals (go_ret;exact ⟨by simp_all,hb.alloc hb.size _⟩)
def impl_placeOf.f (l0:List S47) (a1:ByteArray):Option Int:=some (idxOf (fun x:S47=>x.f0.toList == a1.toList) l0 0)
theorem impl_placeOf.calls (A0:Option Addr) (c0:Nat) (l0:List (S47)) (a1:ByteArray) (r:Int) (w:World) (hr0:Kd.C k47 w A0 l0.length l0) (hc0:l0.length≤c0) (h:impl_placeOf.f l0 a1=some r) :
    Calls Tryz.prog 56 #[.slice A0 l0.length c0,.string a1] w fun e w'=>e=.returned (.int .i64 r)∧Below w.heap.size w w':=by
  obtain rfl:=Option.some.inj h
  have eg:∀ args w,(callFunc 95 args).run Tryz.prog w=.ok (.enter 95 args) w:=enters_of Tryz.func95 (by kernel_rfl) rfl
  have hcon:=idxEntry 95 #[.pointer (some ⟨w.heap.size,0,none⟩)] (fun x:S47=>x.f0.toList == a1.toList) eg A0 c0 l0 (w.alloc (.cells #[.string a1] 9)) (Kd.C_below hr0 ((Below.refl _ w).alloc (Nat.le_refl _) _))
    (fun W x hb=>impl_placeOf_lit a1 w.heap.size _ (by simp) (by simp) W x hb)
  clear hr0 h
  generalize idxOf (fun x:S47=>x.f0.toList == a1.toList) l0 0=r at hcon ⊢
  go_enter Tryz.func56,Tryz.ntmps56
  go_wp2_with (go_at_call 94;refine hcon.mono ?_;rintro e w' ⟨rfl,hb'⟩)
  go_ret
  exact ⟨rfl,((Below.refl _ w).alloc (Nat.le_refl _) _).trans (hb'.mono (by simp))⟩
theorem idxNode (g:Nat) (lb:Array Value) (p:S45→Bool) (eg:∀ args w,(callFunc g args).run Tryz.prog w=.ok (.enter g args) w)
    (A0:Option Addr) (c0:Nat) (l0:List S45) (w:World) (hr:Kd.C k45 w A0 l0.length l0)
    (hp:∀ (W:World) (x:S45),Below w.heap.size w W→Calls Tryz.prog g (#[.agg #[.int .i64 x.f0,.string x.f1,.int .i64 x.f2]]++lb) W fun e w'=>e=.returned (.bool (p x))∧Below w.heap.size w w') :
    Calls Tryz.prog 102 #[.slice A0 l0.length c0,.func (.func g) #[] lb] w fun e w'=>e=.returned (.int .i64 (idxOf p l0 0))∧Below w.heap.size w w':=by
  have hmax:=hr.2.1
  have HR:=zA hr
  clear hr
  go_enter Tryz.func102,Tryz.ntmps102
  go_wp2
  go_loopg [5,8] l0.length (fun gg _ s8 wr=>∃ kk:Nat,kk≤l0.length∧l0.length-kk≤gg∧s8=.int .i64 kk∧Aside0 (Below w.heap.size w wr)∧Aside0 (idxOf p (l0.drop kk) kk=idxOf p l0 0))
  case atStart=>exact ⟨0,Nat.zero_le _,by omega,rfl,⟨Below.refl _ w⟩,⟨rfl⟩⟩
  case round=>
    obtain ⟨kk,hkk,hg,rfl,BW,A⟩:=hrel
    by_cases hlt:kk<l0.length
    · have hltz:(kk:Int)<(l0.length:Int):=by omega
      obtain ⟨ad,rfl,hx0,hx1,hx2⟩:=at_T45 (Kd.C_below HR.out BW.out) (kk:Int) (by omega) hltz
      rw [Int.toNat_natCast] at hx0 hx1 hx2
      have hd:l0.drop kk=rd_T45 l0 (kk:Int) :: l0.drop (kk+1):=by
        rw [List.drop_eq_getElem_cons hlt]
        unfold rd_T45
        rw [Int.toNat_natCast,List.getD_eq_getElem?_getD,List.getElem?_eq_getElem hlt];rfl
      have hcall:=hp wr (rd_T45 l0 (kk:Int)) BW.out
      have A2:=A.out
      rw [hd,idxOf] at A2
      clear hp hd A
      generalize rd_T45 l0 (kk:Int)=y at hx0 hx1 hx2 hcall A2
      cases hq:p y with
      | true=>
        rw [hq] at hcall
        rw [hq,if_pos rfl] at A2
        have A3:=zA A2
        clear A2
        go_wp2_with (go_at_fn g;refine hcall.mono ?_;rintro e w' ⟨rfl,hb'⟩)
        go_ret
        exact ⟨by rw [← A3.out];rfl,hb'⟩
      | false=>
        rw [hq] at hcall
        rw [hq,if_neg (by decide)] at A2
        have A3:=zA A2
        clear A2
        go_wp2_with (go_at_fn g;refine hcall.mono ?_;rintro e w' ⟨rfl,hb'⟩)
        go_roundg (l0.length-(kk+1))
        case measure=>omega
        case rel=>exact ⟨kk+1,by omega,by omega,by go_num,⟨hb'⟩,A3⟩
    · have hltz:¬ (kk:Int)<(l0.length:Int):=by omega
      have A2:=A.out
      rw [List.drop_of_length_le (by omega),idxOf] at A2
      have A3:=zA A2
      clear hp A A2
      go_wp2
      go_ret
      exact ⟨by rw [← A3.out];rfl,BW.out⟩
theorem impl_Disk_nodeOf_lit (a1:Int) (B:Nat) (w:World) (hB:B<w.heap.size) (hcell:w.cell? ⟨B,0,none⟩=some (.int .i64 a1)) (W:World) (x:S45) (hb:Below w.heap.size w W) :
    Calls Tryz.prog 103 (#[.agg #[.int .i64 x.f0,.string x.f1,.int .i64 x.f2]]++#[.pointer (some ⟨B,0,none⟩)]) W fun e w'=>e=.returned (.bool (x.f0 == a1))∧Below w.heap.size w w':=by
  have hc:W.cell? ⟨B,0,none⟩=some (.int .i64 a1):=(hb.cell (p:=⟨B,0,none⟩) hB).trans hcell
  have hBW:B<W.heap.size:=Nat.lt_of_lt_of_le hB hb.size
  show Calls Tryz.prog 103 #[.agg #[.int .i64 x.f0,.string x.f1,.int .i64 x.f2],.pointer (some ⟨B,0,none⟩)] W _
  go_enter Tryz.func103,Tryz.ntmps103
  go_wp2
  all_goals (go_ret;exact ⟨by simp_all,hb.alloc hb.size _⟩)
def impl_Disk_nodeOf.f (aa:List S45) (l0_1:List S47) (l0_2:List S47) (l0_3:List ByteArray) (a0_4:Int) (a0_5:Int) (a1:Int):Option Int:=some (idxOf (fun x:S45=>x.f0 == a1) aa 0)
theorem impl_Disk_nodeOf.calls (af:Option Addr) (ag:Nat) (aa:List (S45)) (ai:Option Addr) (aj:Nat) (ab:List (S47)) (ak:Option Addr) (al:Nat) (ad:List (S47)) (an:Option Addr) (ao:Nat) (ae:List ByteArray) (aq:Int) (ar:Int) (a1:Int) (r:Int) (w:World) (ah:Kd.C k45 w af aa.length aa) (hc0_0:aa.length≤ag) (au:Kd.C k47 w ai ab.length ab) (hc0_1:ab.length≤aj) (av:Kd.C k47 w ak ad.length ad) (hc0_2:ad.length≤al) (aw:Kd.C Kd.string w an ae.length ae) (hc0_3:ae.length≤ao) (h:impl_Disk_nodeOf.f aa ab ad ae aq ar a1=some r) :
    Calls Tryz.prog 72 #[.agg #[.slice af aa.length ag,.slice ai ab.length aj,.slice ak ad.length al,.slice an ae.length ao,.int .i64 aq,.int .i64 ar],.int .i64 a1] w fun e w'=>e=.returned (.int .i64 r)∧Below w.heap.size w w':=by
  obtain rfl:=Option.some.inj h
  have eg:∀ args w,(callFunc 103 args).run Tryz.prog w=.ok (.enter 103 args) w:=enters_of Tryz.func103 (by kernel_rfl) rfl
  have hb0:Below w.heap.size w ((w.alloc (.cells #[.slice af aa.length ag,.slice ai ab.length aj,.slice ak ad.length al,.slice an ae.length ao,.int .i64 aq,.int .i64 ar] 28)).alloc (.cells #[.int .i64 a1] 3)):=((Below.refl _ w).alloc (Nat.le_refl _) _).alloc (by simp) _
  have hcon:=idxNode 103 #[.pointer (some ⟨w.heap.size+1,0,none⟩)] (fun x:S45=>x.f0 == a1) eg af ag aa _ (Kd.C_below ah hb0)
    (fun W x hb=>impl_Disk_nodeOf_lit a1 (w.heap.size+1) _ (by simp) (by simp) W x hb)
  clear ah au av aw h
  generalize idxOf (fun x:S45=>x.f0 == a1) aa 0=r at hcon ⊢
  go_enter Tryz.func72,Tryz.ntmps72
  go_wp2_with (go_at_call 102;refine hcon.mono ?_;rintro e w' ⟨rfl,hb'⟩)
  go_ret
  exact ⟨rfl,hb0.trans (hb'.mono (by simp;omega))⟩
def impl_Disk_nodeAt.f (ad:List (S45)) (aa:List (S47)) (ae:List (S47)) (af:List ByteArray) (ag:Int) (ah:Int) (a1:ByteArray):Option (Int):=(impl_placeOf.f aa a1).bind fun ab=>(if ab<0 then (some (-1)) else (if 0≤ab then (if ab<(aa.length:Int) then ((impl_Disk_nodeOf.f ad aa ae af ag ah ((rd_T47 aa ab).f1)).bind fun ai=>(some ai)) else (none)) else (none)))
def impl_Disk_nodeAt.T4:Bool×List (List Nat×List Nat):=(true,[([],[]),([],[]),([1],[1]),([],[]),([2,3],[2,3]),([4],[4]),([5],[5]),([0,6],[0,6]),([7,7,0,1,2,3,4,5,6,7],[7])])
def impl_Disk_nodeAt.B4:List Nat:=[0,0,2,0,14,30,62,127,255]
theorem impl_Disk_nodeAt.calls (av:Option Addr) (aw:Nat) (af:List (S45)) (ar:Option Addr) (an:Nat) (ab:List (S47)) (ax:Option Addr) (ay:Nat) (ag:List (S47)) (az:Option Addr) (aA:Nat) (ah:List ByteArray) (ak:Int) (al:Int) (a1:ByteArray) (r:Int) (w:World) (aD:Kd.C k45 w av af.length af) (aE:af.length≤aw) (aF:Kd.C k47 w ar ab.length ab) (aG:ab.length≤an) (aH:Kd.C k47 w ax ag.length ag) (aI:ag.length≤ay) (aJ:Kd.C Kd.string w az ah.length ah) (aK:ah.length≤aA) (h:impl_Disk_nodeAt.f af ab ag ah ak al a1=some r) :
  Calls Tryz.prog 41 #[.agg #[.slice av af.length aw,.slice ar ab.length an,.slice ax ag.length ay,.slice az ah.length aA,.int .i64 ak,.int .i64 al],.string a1] w fun e w'=>e=.returned (.int .i64 r)∧Below w.heap.size w w':=by
 have aN:=zA aD
 have aO:=zA aE
 clear aD aE
 have ao:=zA aF
 have aB:=zA aG
 clear aF aG
 have aP:=zA aH
 have aQ:=zA aI
 clear aH aI
 have aR:=zA aJ
 have aS:=zA aK
 clear aJ aK
 have HB:=zA (Below.refl w.heap.size w)
 have H:((impl_placeOf.f ab a1).bind fun ad=>(if ad<0 then (some (-1)) else (if 0≤ad then (if ad<(ab.length:Int) then ((impl_Disk_nodeOf.f af ab ag ah ak al ((rd_T47 ab ad).f1)).bind fun au=>(some au)) else (none)) else (none))))=some r:=h
 clear h
 obtain ⟨ad,A3,H⟩:=bA H
 replace H:(if ad<0 then (some (-1)) else (if 0≤ad then (if ad<(ab.length:Int) then ((impl_Disk_nodeOf.f af ab ag ah ak al ((rd_T47 ab ad).f1)).bind fun au=>(some au)) else (none)) else (none)))=some r:=H
 by_cases c4:ad<0
 ·rw [if_pos c4] at H
  have aT:decide (ad<0)=true:=zt c4
  clear c4
  obtain rfl:=Option.some.inj H
  go_enter Tryz.func41,Tryz.ntmps41
  go_wp2_with (first | ((with_reducible refine gate_dst (N:=2) rfl ?_);refine box_event ?hg (N:=2) ?hd (cs:=#[.slice av af.length aw,.slice ar ab.length an,.slice ax ag.length ay,.slice az ah.length aA,.int .i64 ak,.int .i64 al]) (t:=28) ?hr ?_;(case hd=>rfl);(case hg=>rfl);(case hr=>(go_simp;done));intro ai hg w5 hbox hb;have aa:=zA (hbox);replace HB:=zs HB hb;clear hb hbox hg;obtain ⟨hcz6_0,hcz6_1,hcz6_2,hcz6_3,hcz6_4,hcz6_5⟩:=b6of aa.out;obtain ⟨hfz6_0,hfz6_1,hfz6_2,hfz6_3,hfz6_4,hfz6_5⟩:=z6of aa.out) | ((with_reducible refine gate_callee (f:=56) rfl ?_);refine goesL_ (some 9) rfl rfl Tryz.func56 (by kernel_rfl) rfl #[.slice ar ab.length an,.string a1] rfl (by (try simp only [List.map_toArray,List.map_cons,List.map_nil]);rfl) ?_;(with_reducible refine (impl_placeOf.calls _ _ ab a1 ad _ ?side1 ?side2 A3.out).mono ?_);(case side1=>repeat (exact (Kd.C_below ao.out HB.out)));(case side2=>exact aB.out);rintro e w7 ⟨rfl,hb⟩;refine ⟨_,rfl,?_⟩;replace aa:=zA (bB hb aa.out);replace HB:=zs HB hb;(try clear hb)))
  all_goals (go_ret)
  all_goals exact ⟨by rfl,by repeat (with_reducible exact HB.out)⟩
 ·rw [if_neg c4] at H
  have aT:decide (ad<0)=false:=zf c4
  clear c4
  by_cases c8:0≤ad
  ·rw [if_pos c8] at H
   have c8b0:decide (0≤ad)=true:=zt c8
   clear c8
   by_cases c9:ad<(ab.length:Int)
   ·rw [if_pos c9] at H
    have c9b0:decide (ad<(ab.length:Int))=true:=zt c9
    clear c9
    obtain ⟨au,A10,H⟩:=bA H
    replace H:(some au)=some r:=H
    obtain rfl:=Option.some.inj H
    go_enter Tryz.func41,Tryz.ntmps41
    try go_wp2_with (first | ((with_reducible refine gate_dst (N:=2) rfl ?_);refine box_event ?hg (N:=2) ?hd (cs:=#[.slice av af.length aw,.slice ar ab.length an,.slice ax ag.length ay,.slice az ah.length aA,.int .i64 ak,.int .i64 al]) (t:=28) ?hr ?_;(case hd=>rfl);(case hg=>rfl);(case hr=>(go_simp;done));intro ai hg w11 hbox hb;have aa:=zA (hbox);replace HB:=zs HB hb;clear hb hbox hg;obtain ⟨hcz12_0,hcz12_1,hcz12_2,hcz12_3,hcz12_4,hcz12_5⟩:=b6of aa.out;obtain ⟨hfz12_0,hfz12_1,hfz12_2,hfz12_3,hfz12_4,hfz12_5⟩:=z6of aa.out) | ((with_reducible refine gate_callee (f:=56) rfl ?_);refine goesL_ (some 9) rfl rfl Tryz.func56 (by kernel_rfl) rfl #[.slice ar ab.length an,.string a1] rfl (by (try simp only [List.map_toArray,List.map_cons,List.map_nil]);rfl) ?_;(with_reducible refine (impl_placeOf.calls _ _ ab a1 ad _ ?side1 ?side2 A3.out).mono ?_);(case side1=>repeat (exact (Kd.C_below ao.out HB.out)));(case side2=>exact aB.out);rintro e w13 ⟨rfl,hb⟩;refine ⟨_,rfl,?_⟩;replace aa:=zA (bB hb aa.out);replace HB:=zs HB hb;(try clear hb)))
    have aL:0≤(ad:Int):=ze
    have aM:ad<(ab.length:Int):=ze
    obtain ⟨aC,aU,aj,ae⟩:=at_T47 ao.out ad aL aM
    have aq:=ae
    cases aU
    replace aj:=(HB.out.cell (World.block_lt_of_cell? w _ aj)).trans aj
    replace ae:=(HB.out.cell (World.block_lt_of_cell? w _ ae)).trans ae
    replace aL:=eq_true aL
    replace aM:=eq_true aM
    have aV:∀ p_:LaidBy w13,p_.W.cell? ⟨ai,0,none⟩=some (.slice av af.length aw):=fun p_=>p_.cell ((blk_cell aa.out 0).trans rfl)
    have aW:∀ p_:LaidBy w13,p_.W.cell? ⟨ai,1,none⟩=some (.slice (some aC) ab.length an):=fun p_=>p_.cell ((blk_cell aa.out 1).trans rfl)
    have aX:∀ p_:LaidBy w13,p_.W.cell? ⟨ai,2,none⟩=some (.slice ax ag.length ay):=fun p_=>p_.cell ((blk_cell aa.out 2).trans rfl)
    have aY:∀ p_:LaidBy w13,p_.W.cell? ⟨ai,3,none⟩=some (.slice az ah.length aA):=fun p_=>p_.cell ((blk_cell aa.out 3).trans rfl)
    have aZ:∀ p_:LaidBy w13,p_.W.cell? ⟨ai,4,none⟩=some (.int .i64 ak):=fun p_=>p_.cell ((blk_cell aa.out 4).trans rfl)
    have ba:∀ p_:LaidBy w13,p_.W.cell? ⟨ai,5,none⟩=some (.int .i64 al):=fun p_=>p_.cell ((blk_cell aa.out 5).trans rfl)
    have bb:∀ p_:LaidBy w13,p_.W.cell? ⟨(aC.add ((ad).toNat*2)).block,(aC.add ((ad).toNat*2)).off+1,none⟩=some (.int .i64 ((rd_T47 ab ad).f1)):=fun p_=>p_.cell ((HB.out.cell (World.block_lt_of_cell? w _ aq)).trans aq)
    refine wp_region_laid (by kernel_rfl) (by kernel_rfl) ?_
    repeat (go_big_quiet_step ((go_at_call 72;with_reducible exact laid_of _ (impl_Disk_nodeOf.calls _ _ af _ _ ab _ _ ag _ _ ah ak al ((rd_T47 ab ad).f1) au _ (Kd.C_below aN.out (LaidBy.below _ HB.out)) aO.out (Kd.C_below ao.out (LaidBy.below _ HB.out)) aB.out (Kd.C_below aP.out (LaidBy.below _ HB.out)) aQ.out (Kd.C_below aR.out (LaidBy.below _ HB.out)) aS.out A10.out))))
    refine wpQuiet_nil ?_
    rintro w15 ⟨p_,hp_⟩
    have hq_:Below w13.heap.size w13 w15:=hp_▸p_.ok
    clear hp_ p_ aV aW aX aY aZ ba bb
    have n0_:=zb aa hq_
    have n1_:=zs HB hq_
    clear aa HB
    have aa:=n0_
    have HB:=n1_
    clear hq_ n0_ n1_
    try go_wp2
    all_goals (go_ret)
    all_goals exact ⟨by rfl,by repeat (with_reducible exact HB.out)⟩
   ·rw [if_neg c9] at H
    exact absurd H (by simp)
  ·rw [if_neg c8] at H
   exact absurd H (by simp)
def impl_UsedOn.l0:Nat→Int→List (S45)→Int→Int→Option (Int)
 | 0,_,_,_,_=>none
 | k+1,x3,x7,x8,x9=>if x9<x8 then (if 0≤x9 then (if x9<(x7.length:Int) then (impl_UsedOn.l0 k (wrap64 (x3+(((rd_T45 x7 x9).f1).size:Int))) x7 x8 (wrap64 (x9+1))) else (none)) else (none)) else (some x3)
def impl_UsedOn.f (k:Nat) (aa:List (S45)) (l0_1:List (S47)) (l0_2:List (S47)) (l0_3:List ByteArray) (a0_4:Int) (a0_5:Int):Option (Int):=impl_UsedOn.l0 k 0 aa (aa.length:Int) 0
theorem impl_UsedOn.mono_l:∀ k,(∀ y0 y1 y2 y3,LeO (impl_UsedOn.l0 k y0 y1 y2 y3) (impl_UsedOn.l0 (k+1) y0 y1 y2 y3))
 | 0=>fun _ _ _ _ r h=>by simp [impl_UsedOn.l0] at h
 | k+1=>by
  have ih0:=impl_UsedOn.mono_l k
  ·intro y0 y1 y2 y3
   unfold impl_UsedOn.l0
   repeat' first | (with_reducible exact ih0 _ _ _ _) | (with_reducible exact LeO.refl _) | (with_reducible refine LeO.ite ?_ ?_)
theorem impl_UsedOn.mono:∀ a0 a1 a2 a3 a4 a5 k,LeO (impl_UsedOn.f k a0 a1 a2 a3 a4 a5) (impl_UsedOn.f (k+1) a0 a1 a2 a3 a4 a5):=by
 intro a0 a1 a2 a3 a4 a5 k
 have ih0:=impl_UsedOn.mono_l k
 unfold impl_UsedOn.f
 repeat' (with_reducible exact ih0 _ _ _ _)
theorem impl_UsedOn.calls (k:Nat) (ao:Option Addr) (aq:Nat) (aa:List (S45)) (ar:Option Addr) (au:Nat) (ak:List (S47)) (av:Option Addr) (aw:Nat) (al:List (S47)) (ax:Option Addr) (ay:Nat) (an:List ByteArray) (az:Int) (aA:Int) (r:Int) (w:World) (aC:Kd.C k45 w ao aa.length aa) (aS:aa.length≤aq) (aT:Kd.C k47 w ar ak.length ak) (aU:ak.length≤au) (aV:Kd.C k47 w av al.length al) (aW:al.length≤aw) (aX:Kd.C Kd.string w ax an.length an) (aY:an.length≤ay) (h:impl_UsedOn.f k aa ak al an az aA=some r) :
  Calls Tryz.prog 43 #[.agg #[.slice ao aa.length aq,.slice ar ak.length au,.slice av al.length aw,.slice ax an.length ay,.int .i64 az,.int .i64 aA]] w fun e w'=>e=.returned (.int .i64 r)∧Below w.heap.size w w':=by
 have aZ:=zA aC
 clear aC aS
 clear aT aU
 clear aV aW
 clear aX aY
 have HB:=zA (Below.refl w.heap.size w)
 have H:(impl_UsedOn.l0 k 0 aa (aa.length:Int) 0)=some r:=h
 clear h
 have H':=zA H
 clear H
 go_enter Tryz.func43,Tryz.ntmps43
 go_wp2_with (((with_reducible refine gate_dst (N:=1) rfl ?_);refine box_event ?hg (N:=1) ?hd (cs:=#[.slice ao aa.length aq,.slice ar ak.length au,.slice av al.length aw,.slice ax an.length ay,.int .i64 az,.int .i64 aA]) (t:=28) ?hr ?_;(case hd=>rfl);(case hg=>rfl);(case hr=>(go_simp;done));intro aD hg w2 hbox hb;have ae:=zA (hbox);replace HB:=zs HB hb;clear hb hbox hg;obtain ⟨aE,aF,aG,aH,aI,aJ⟩:=b6of ae.out;obtain ⟨aK,aL,aM,aN,aO,aP⟩:=z6of ae.out))
 go_loopg [3,9] k (fun kq v3 v9 w'=>∃ (aB:Int) (ab:Int),v3=.int .i64 aB∧v9=.int .i64 ab∧Aside0 (impl_UsedOn.l0 kq aB aa (aa.length:Int) ab=some r)∧Aside0 (kq≤k)∧Aside0 (w'.heap[aD]? = some (.cells #[(.slice ao aa.length aq),(.slice ar ak.length au),(.slice av al.length aw),(.slice ax an.length ay),.int .i64 az,.int .i64 aA] 28 (0,0)))∧Aside0 (Below w.heap.size w w'))
 case atStart=>exact ⟨(0),(0),(by rfl),(by rfl),H',⟨Nat.le_refl _⟩,⟨by exact ae.out⟩,⟨by repeat (with_reducible exact HB.out)⟩⟩
 case round=>
  clear H'
  try clear p2
  try clear aE
  try clear aF
  try clear aG
  try clear aH
  try clear aI
  try clear aJ
  try clear aK
  try clear aL
  try clear aM
  try clear aN
  try clear aO
  try clear aP
  obtain ⟨aB,ab,rfl,rfl,HA,HK1,ae,HB⟩:=hrel
  cases gk with
  | zero=>exact absurd HA.out (by simp [impl_UsedOn.l0])
  | succ k1=>
   have H:=HA.out
   clear HA
   simp only [impl_UsedOn.l0] at H
   by_cases c4:ab<(aa.length:Int)
   ·rw [if_pos c4] at H
    have bb:decide (ab<(aa.length:Int))=true:=zt c4
    clear c4
    by_cases c5:0≤ab
    ·rw [if_pos c5] at H
     have c5b0:decide (0≤ab)=true:=zt c5
     clear c5
     by_cases c6:ab<(aa.length:Int)
     ·rw [if_pos c6] at H
      have c6b0:decide (ab<(aa.length:Int))=true:=zt c6
      clear c6
      have H':=zA H
      clear H
      have aQ:0≤(ab:Int):=ze
      have aR:ab<(aa.length:Int):=ze
      obtain ⟨ad297,bc,ag,ah,ai⟩:=at_T45 aZ.out ab aQ aR
      cases bc
      replace ag:=(HB.out.cell (World.block_lt_of_cell? w _ ag)).trans ag
      replace ah:=(HB.out.cell (World.block_lt_of_cell? w _ ah)).trans ah
      replace ai:=(HB.out.cell (World.block_lt_of_cell? w _ ai)).trans ai
      replace aQ:=eq_true aQ
      replace aR:=eq_true aR
      go_wp2_with (((with_reducible refine gate_dst (N:=5) rfl ?_);refine box_event ?hg (N:=5) ?hd (cs:=#[.int .i64 0,.string (⟨#[]⟩:ByteArray),.int .i64 0]) (t:=45) ?hr ?_;(case hd=>rfl);(case hg=>rfl);(case hr=>(go_simp;done));intro aj hg w7 hbox hb;have af:=zA (hbox);have ba:=zA ((by rw [hg];exact (below_size HB.out):w.heap.size≤aj));have ad:=zA ((by rw [hg];exact Nat.ne_of_lt (blk_lt ae.out):aD≠aj));replace ae:=zA (bB hb ae.out);replace HB:=zs HB hb;clear hb hbox hg;have hcz9_0:w7.cell? ⟨aj,0,none⟩=some (.int .i64 0):=(blk_cell af.out 0).trans rfl;have hcz9_1:w7.cell? ⟨aj,1,none⟩=some (.string (⟨#[]⟩:ByteArray)):=(blk_cell af.out 1).trans rfl;have hcz9_2:w7.cell? ⟨aj,2,none⟩=some (.int .i64 0):=(blk_cell af.out 2).trans rfl;have hfz9_0:=blk_frozen af.out 0;have hfz9_1:=blk_frozen af.out 1;have hfz9_2:=blk_frozen af.out 2))
      go_roundg k1
      case measure=>have:=HK1.out;omega
      case rel=>exact ⟨(wrap64 (aB+(((rd_T45 aa ab).f1).size:Int))),(wrap64 (ab+1)),(by rfl),(by rfl),H',⟨by have:=HK1.out;omega⟩,⟨by refine blk_far ?_ ad.out _;refine blk_far ?_ ad.out _;refine blk_far ?_ ad.out _;exact ae.out⟩,⟨by repeat (with_reducible first | exact HB.out | refine below_set ?_ ba.out)⟩⟩
     ·rw [if_neg c6] at H
      exact absurd H (by simp)
    ·rw [if_neg c5] at H
     exact absurd H (by simp)
   ·rw [if_neg c4] at H
    have bb:decide (ab<(aa.length:Int))=false:=zf c4
    clear c4
    obtain rfl:=Option.some.inj H
    go_wp2
    all_goals (go_ret)
    all_goals exact ⟨by rfl,by repeat (with_reducible exact HB.out)⟩
def impl_Entry_74.l0:Nat→List (S47)→List (S47)→Int→Int→Option (Bool)
 | 0,_,_,_,_=>none
 | k+1,x0,x1,x12,x13=>if x13<x12 then (if 0≤x13 then (if x13<(x0.length:Int) then (if x13<(x1.length:Int) then (if (!((((rd_T47 x0 x13).f0).toList) == (((rd_T47 x1 x13).f0).toList)) || (!(((rd_T47 x0 x13).f1) == ((rd_T47 x1 x13).f1))))=true then (some false) else (impl_Entry_74.l0 k x0 x1 x12 (wrap64 (x13+1)))) else (none)) else (none)) else (none)) else (some true)
def impl_Entry_74.f (k:Nat) (l0:List (S47)) (l1:List (S47)):Option (Bool):=if (l0.length:Int)=(l1.length:Int) then (impl_Entry_74.l0 k l0 l1 (l0.length:Int) 0) else (some false)
theorem impl_Entry_74.mono_l:∀ k,(∀ y0 y1 y2 y3,LeO (impl_Entry_74.l0 k y0 y1 y2 y3) (impl_Entry_74.l0 (k+1) y0 y1 y2 y3))
 | 0=>fun _ _ _ _ r h=>by simp [impl_Entry_74.l0] at h
 | k+1=>by
  have ih0:=impl_Entry_74.mono_l k
  ·intro y0 y1 y2 y3
   unfold impl_Entry_74.l0
   repeat' first | (with_reducible exact ih0 _ _ _ _) | (with_reducible exact LeO.refl _) | (with_reducible refine LeO.ite ?_ ?_)
theorem impl_Entry_74.mono:∀ a0 a1 k,LeO (impl_Entry_74.f k a0 a1) (impl_Entry_74.f (k+1) a0 a1):=by
 intro a0 a1 k
 have ih0:=impl_Entry_74.mono_l k
 unfold impl_Entry_74.f
 repeat' first | (with_reducible exact ih0 _ _ _ _) | (with_reducible exact LeO.refl _) | (with_reducible refine LeO.ite ?_ ?_)
theorem impl_Entry_74.calls (k:Nat) (A0:Option Addr) (c0:Nat) (l0:List (S47)) (A1:Option Addr) (c1:Nat) (l1:List (S47)) (r:Bool) (w:World) (hr0:Kd.C k47 w A0 l0.length l0) (hc0:l0.length≤c0) (hr1:Kd.C k47 w A1 l1.length l1) (hc1:l1.length≤c1) (h:impl_Entry_74.f k l0 l1=some r) :
  Calls Tryz.prog 74 #[.slice A0 l0.length c0,.slice A1 l1.length c1] w fun e w'=>e=.returned (.bool r)∧Drawn0 w w':=by
 have HR0:=zA hr0
 clear hr0 hc0
 have HR1:=zA hr1
 clear hr1 hc1
 have H:(if (l0.length:Int)=(l1.length:Int) then (impl_Entry_74.l0 k l0 l1 (l0.length:Int) 0) else (some false))=some r:=h
 clear h
 by_cases c3:(l0.length:Int)=(l1.length:Int)
 ·rw [if_pos c3] at H
  have an:((l0.length:Int) != (l1.length:Int))=false:=bne_eq_false_iff_eq.mpr c3
  clear c3
  have H':=zA H
  clear H
  go_enter Tryz.func74,Tryz.ntmps74
  go_wp2
  repeat (go_quiet (fail);try go_wp2)
  go_loopg [13] k (fun kq v13 w'=>∃ (aa:Int),v13=.int .i64 aa∧Aside0 (impl_Entry_74.l0 kq l0 l1 (l0.length:Int) aa=some r)∧Aside0 (kq≤k)∧Drawn0 w w')
  case atStart=>exact ⟨(0),(by rfl),H',⟨Nat.le_refl _⟩,by repeat (exact Drawn0.refl _)⟩
  case round=>
   clear H'
   try clear c1
   try clear p2
   try clear c3
   try clear an
   obtain ⟨aa,rfl,HA,HK1,⟨m1,rfl⟩⟩:=hrel
   cases gk with
   | zero=>exact absurd HA.out (by simp [impl_Entry_74.l0])
   | succ k1=>
    have H:=HA.out
    clear HA
    simp only [impl_Entry_74.l0] at H
    by_cases c4:aa<(l0.length:Int)
    ·rw [if_pos c4] at H
     have ar:decide (aa<(l0.length:Int))=true:=zt c4
     clear c4
     by_cases c5:0≤aa
     ·rw [if_pos c5] at H
      have c5b0:decide (0≤aa)=true:=zt c5
      clear c5
      by_cases c6:aa<(l0.length:Int)
      ·rw [if_pos c6] at H
       have c6b0:decide (aa<(l0.length:Int))=true:=zt c6
       clear c6
       by_cases c7:aa<(l1.length:Int)
       ·rw [if_pos c7] at H
        have c7b0:decide (aa<(l1.length:Int))=true:=zt c7
        clear c7
        by_cases c8:(!((((rd_T47 l0 aa).f0).toList) == (((rd_T47 l1 aa).f0).toList)) || (!(((rd_T47 l0 aa).f1) == ((rd_T47 l1 aa).f1))))=true
        ·rw [if_pos c8] at H
         have au:(!((((rd_T47 l0 aa).f0).toList) == (((rd_T47 l1 aa).f0).toList)) || (!(((rd_T47 l0 aa).f1) == ((rd_T47 l1 aa).f1))))=true:=c8
         clear c8
         obtain rfl:=Option.some.inj H
         have ab:0≤(aa:Int):=ze
         have ad:aa<(l0.length:Int):=ze
         obtain ⟨ao,ak,ag,ah⟩:=at_T47 HR0.out aa ab ad
         cases ak
         replace ab:=eq_true ab
         replace ad:=eq_true ad
         have ae:0≤(aa:Int):=ze
         have af:aa<(l1.length:Int):=ze
         obtain ⟨aq,al,ai,aj⟩:=at_T47 HR1.out aa ae af
         cases al
         replace ae:=eq_true ae
         replace af:=eq_true af
         go_wp2
         repeat (go_quiet (fail);try go_wp2)
         all_goals (go_ret)
         exact ⟨by first | rfl | (simp;done) | (simp [*];done),by repeat (first | exact Drawn0.refl _ | apply Drawn0.step)⟩
        ·rw [if_neg c8] at H
         have au:(!((((rd_T47 l0 aa).f0).toList) == (((rd_T47 l1 aa).f0).toList)) || (!(((rd_T47 l0 aa).f1) == ((rd_T47 l1 aa).f1))))=false:=by simpa using c8
         clear c8
         have H':=zA H
         clear H
         have ab:0≤(aa:Int):=ze
         have ad:aa<(l0.length:Int):=ze
         obtain ⟨ao,ak,ag,ah⟩:=at_T47 HR0.out aa ab ad
         cases ak
         replace ab:=eq_true ab
         replace ad:=eq_true ad
         have ae:0≤(aa:Int):=ze
         have af:aa<(l1.length:Int):=ze
         obtain ⟨aq,al,ai,aj⟩:=at_T47 HR1.out aa ae af
         cases al
         replace ae:=eq_true ae
         replace af:=eq_true af
         go_wp2
         repeat (go_quiet (fail);try go_wp2)
         go_roundg k1
         case measure=>have:=HK1.out;omega
         case rel=>exact ⟨(wrap64 (aa+1)),(by rfl),H',⟨by have:=HK1.out;omega⟩,by repeat (first | exact Drawn0.refl _ | apply Drawn0.step)⟩
       ·rw [if_neg c7] at H
        exact absurd H (by simp)
      ·rw [if_neg c6] at H
       exact absurd H (by simp)
     ·rw [if_neg c5] at H
      exact absurd H (by simp)
    ·rw [if_neg c4] at H
     have ar:decide (aa<(l0.length:Int))=false:=zf c4
     clear c4
     obtain rfl:=Option.some.inj H
     go_wp2
     repeat (go_quiet (fail);try go_wp2)
     all_goals (go_ret)
     exact ⟨by first | rfl | (simp;done) | (simp [*];done),by repeat (first | exact Drawn0.refl _ | apply Drawn0.step)⟩
 ·rw [if_neg c3] at H
  have an:((l0.length:Int) != (l1.length:Int))=true:=bne_iff_ne.mpr c3
  obtain rfl:=Option.some.inj H
  go_enter Tryz.func74,Tryz.ntmps74
  go_wp2
  repeat (go_quiet (fail);try go_wp2)
  all_goals (go_ret)
  exact ⟨by first | rfl | (simp;done) | (simp [*];done),by repeat (exact Drawn0.refl _)⟩
def impl_within.f (a0:Int) (a1:Int) (a2:Int):Option (Bool):=if a0≥a1 then (some (decide (a0≤a2))) else (some false)
theorem impl_within.calls (a0:Int) (a1:Int) (a2:Int) (r:Bool) (w:World) (h:impl_within.f a0 a1 a2=some r) :
  Calls Tryz.prog 86 #[.int .i64 a0,.int .i64 a1,.int .i64 a2] w fun e w'=>e=.returned (.bool r)∧Drawn0 w w':=by
 have H:(if a0≥a1 then (some (decide (a0≤a2))) else (some false))=some r:=h
 clear h
 by_cases c4:a0≥a1
 ·rw [if_pos c4] at H
  have aa:decide (a1≤a0)=true:=zt c4
  clear c4
  obtain rfl:=Option.some.inj H
  go_enter Tryz.func86,Tryz.ntmps86
  go_wp2
  all_goals (go_ret)
  exact ⟨by first | rfl | (simp;done) | (simp [*];done),by repeat (exact Drawn0.refl _)⟩
 ·rw [if_neg c4] at H
  have aa:decide (a1≤a0)=false:=zf c4
  clear c4
  obtain rfl:=Option.some.inj H
  go_enter Tryz.func86,Tryz.ntmps86
  go_wp2
  all_goals (go_ret)
  exact ⟨by first | rfl | (simp;done) | (simp [*];done),by repeat (exact Drawn0.refl _)⟩
def impl_isNumber.f (a0:Int):Option (Bool):=(impl_within.f a0 0 1000000000).bind fun aa=>(some aa)
theorem impl_isNumber.calls (a0:Int) (r:Bool) (w:World) (h:impl_isNumber.f a0=some r) :
  Calls Tryz.prog 85 #[.int .i64 a0] w fun e w'=>e=.returned (.bool r)∧Drawn0 w w':=by
 have H:((impl_within.f a0 0 1000000000).bind fun aa=>(some aa))=some r:=h
 clear h
 obtain ⟨aa,A2,H⟩:=bA H
 replace H:(some aa)=some r:=H
 obtain rfl:=Option.some.inj H
 go_enter Tryz.func85,Tryz.ntmps85
 go_wp2_with (((with_reducible refine gate_callee (f:=86) rfl ?_);refine goesL_ (some 4) rfl rfl Tryz.func86 (by kernel_rfl) rfl #[.int .i64 a0,.int .i64 0,.int .i64 1000000000] rfl (by (try simp only [List.map_toArray,List.map_cons,List.map_nil]);rfl) ?_;(with_reducible refine (impl_within.calls a0 0 1000000000 aa _ A2.out).mono ?_);rintro e w' ⟨rfl,⟨nd,rfl⟩⟩;refine ⟨_,rfl,?_⟩))
 all_goals (go_ret)
 exact ⟨by first | rfl | (simp;done) | (simp [*];done),by repeat (first | exact Drawn0.refl _ | apply Drawn0.step)⟩
def inR (n low high:Int):Bool:=decide (low≤n) && decide (n≤high)
theorem within_any (n low high:Int) (w:World):Calls Tryz.prog 86 #[.int .i64 n,.int .i64 low,.int .i64 high] w fun e w'=>e=.returned (.bool (inR n low high))∧∃ q,w'=w.drewN q:=by
  unfold inR
  by_cases h:low≤n
  · rw [zt h,Bool.true_and]
    go_enter Tryz.func86,Tryz.ntmps86
    go_wp2
    go_ret
    exact ⟨rfl,0,rfl⟩
  · rw [zf h,Bool.false_and]
    go_enter Tryz.func86,Tryz.ntmps86
    go_wp2
    go_ret
    exact ⟨rfl,0,rfl⟩
def nodeFine (next:Int) (prev:Option Int) (x:S45):Bool:=(match prev with | none=>true | some p=>!decide (x.f0≤p)) && (inR x.f0 1 (wrap64 (next-1)) && inR x.f2 0 (x.f1.size:Int))
def nodesFine (next:Int):Option Int→List S45→Bool
  | _,[]=>true
  | p,x :: l=>nodeFine next p x && nodesFine next (some x.f0) l
def prevN (l:List S45):Nat→Option Int
  | 0=>none
  | k+1=>some (rd_T45 l (k:Int)).f0
def impl_Disk_areNodes.f (aa:List S45) (l0_1:List S47) (l0_2:List S47) (l0_3:List ByteArray) (a0_4:Int) (ab:Int):Option Bool:=some (nodesFine ab none aa && decide ((aa.length:Int)≤64))
theorem impl_Disk_areNodes.calls (ai:Option Addr) (ah:Nat) (aa:List (S45)) (aj:Option Addr) (ak:Nat) (ae:List (S47)) (al:Option Addr) (an:Nat) (af:List (S47)) (ao:Option Addr) (aq:Nat) (ag:List ByteArray) (ar:Int) (ab:Int) (r:Bool) (w:World) (au:Kd.C k45 w ai aa.length aa) (av:aa.length≤ah) (aw:Kd.C k47 w aj ae.length ae) (ax:ae.length≤ak) (ay:Kd.C k47 w al af.length af) (az:af.length≤an) (aA:Kd.C Kd.string w ao ag.length ag) (aB:ag.length≤aq) (h:impl_Disk_areNodes.f aa ae af ag ar ab=some r) :
    Calls Tryz.prog 87 #[.agg #[.slice ai aa.length ah,.slice aj ae.length ak,.slice al af.length an,.slice ao ag.length aq,.int .i64 ar,.int .i64 ab]] w fun e w'=>e=.returned (.bool r)∧Below w.heap.size w w':=by
  obtain rfl:=Option.some.inj h
  have hmax:=au.2.1
  have HR:=zA au
  clear h au av aw ax ay az aA aB
  go_enter Tryz.func87,Tryz.ntmps87
  go_wp2_with (((with_reducible refine gate_dst (N:=1) rfl ?_);refine box_event ?hg (N:=1) ?hd (cs:=#[.slice ai aa.length ah,.slice aj ae.length ak,.slice al af.length an,.slice ao ag.length aq,.int .i64 ar,.int .i64 ab]) (t:=28) ?hr ?_;(case hd=>rfl);(case hg=>rfl);(case hr=>(go_simp;done));intro g5 hg w1 hbox b5;have BK:=zA hbox;have B1:=zA b5;obtain ⟨q0,q1,q2,q3,q4,q5⟩:=b6of BK.out;clear hg hbox b5))
  go_loopg [8] aa.length (fun gg s8 wr=>∃ kk:Nat,kk≤aa.length∧aa.length-kk≤gg∧s8=.int .i64 kk∧Aside0 (Below w.heap.size w wr)∧Aside0 (wr.heap[g5]? = some (.cells #[.slice ai aa.length ah,.slice aj ae.length ak,.slice al af.length an,.slice ao ag.length aq,.int .i64 ar,.int .i64 ab] 28))∧Aside0 (nodesFine ab (prevN aa kk) (aa.drop kk)=nodesFine ab none aa))
  case atStart=>exact ⟨0,Nat.zero_le _,by omega,rfl,B1,BK,⟨rfl⟩⟩
  case round=>
    clear q0 q1 q2 q3 q4 q5
    obtain ⟨kk,hkk,hg,rfl,BW,BK2,A⟩:=hrel
    clear B1 BK
    by_cases hlt:kk<aa.length
    · have hltz:(kk:Int)<(aa.length:Int):=by omega
      obtain ⟨ad,rfl,hx0,hx1,hx2⟩:=at_T45 (Kd.C_below HR.out BW.out) (kk:Int) (by omega) hltz
      rw [Int.toNat_natCast] at hx0 hx1 hx2
      have hd:aa.drop kk=rd_T45 aa (kk:Int) :: aa.drop (kk+1):=by
        rw [List.drop_eq_getElem_cons hlt]
        unfold rd_T45
        rw [Int.toNat_natCast,List.getD_eq_getElem?_getD,List.getElem?_eq_getElem hlt];rfl
      have A2:=A.out
      rw [hd,nodesFine] at A2
      have A3:(nodeFine ab (prevN aa kk) (rd_T45 aa (kk:Int)) && nodesFine ab (prevN aa (kk+1)) (aa.drop (kk+1)))=nodesFine ab none aa:=A2
      have AA:=zA A3
      clear A A2 A3 hd
      generalize rd_T45 aa (kk:Int)=y at hx0 hx1 hx2 AA
      go_wp2_with (((with_reducible refine gate_dst (N:=4) rfl ?_);refine box_event ?hg (N:=4) ?hd (cs:=#[.int .i64 0,.string (⟨#[]⟩:ByteArray),.int .i64 0]) (t:=45) ?hr ?_;(case hd=>rfl);(case hg=>rfl);(case hr=>(go_simp;done));intro g6 hg6 w2 hbox b6;have N2:=zA hbox;have S2:=zA b6;have G6:=zA hg6;have n0:w2.cell? ⟨g6,0,none⟩=some (.int .i64 0):=(blk_cell N2.out 0).trans rfl;have n1:w2.cell? ⟨g6,1,none⟩=some (.string (⟨#[]⟩:ByteArray)):=(blk_cell N2.out 1).trans rfl;have n2:w2.cell? ⟨g6,2,none⟩=some (.int .i64 0):=(blk_cell N2.out 2).trans rfl;have z0:=blk_frozen N2.out 0;have z1:=blk_frozen N2.out 1;have z2:=blk_frozen N2.out 2;clear hg6 hbox b6))
      refine gen_wp (R:=fun W=>Below w.heap.size w W∧W.heap[g5]? = some (.cells #[.slice (some ad) aa.length ah,.slice aj ae.length ak,.slice al af.length an,.slice ao ag.length aq,.int .i64 ar,.int .i64 ab] 28)∧W.heap[g6]? = some (.cells #[.int .i64 y.f0,.string y.f1,.int .i64 y.f2] 45)) ?_ ?_
      · have hg6:g6≠g5:=by have:=blk_lt BK2.out;have:=G6.out;omega
        have hge:w.heap.size≤g6:=by rw [G6.out];exact BW.out.size
        have hb2:=BW.out.trans (S2.out.mono BW.out.size)
        have hk:=(S2.out.block g5 (blk_lt BK2.out)).trans BK2.out
        refine ⟨below_set (below_set (below_set hb2 hge) hge) hge,blk_far (blk_far (blk_far hk (Ne.symm hg6) _) (Ne.symm hg6) _) (Ne.symm hg6) _,?_⟩
        exact blk_put (cs:=#[.int .i64 y.f0,.string y.f1,.int .i64 0]) (blk_put (cs:=#[.int .i64 y.f0,.string (⟨#[]⟩:ByteArray),.int .i64 0]) (blk_put (cs:=#[.int .i64 0,.string (⟨#[]⟩:ByteArray),.int .i64 0]) N2.out 0 _ rfl) 1 _ rfl) 2 _ rfl
      rintro W2 ⟨hB2,hK2,hN2⟩
      have BW2:=zA hB2
      have BKd:=zA hK2
      have e0:W2.cell? ⟨g5,0,none⟩=some (.slice (some ad) aa.length ah):=(blk_cell hK2 0).trans rfl
      have e5:W2.cell? ⟨g5,5,none⟩=some (.int .i64 ab):=(blk_cell hK2 5).trans rfl
      have m0:W2.cell? ⟨g6,0,none⟩=some (.int .i64 y.f0):=(blk_cell hN2 0).trans rfl
      have m1:W2.cell? ⟨g6,1,none⟩=some (.string y.f1):=(blk_cell hN2 1).trans rfl
      have m2:W2.cell? ⟨g6,2,none⟩=some (.int .i64 y.f2):=(blk_cell hN2 2).trans rfl
      clear hB2 hK2 hN2 n0 n1 n2 z0 z1 z2 N2 S2 G6 hx0 hx1 hx2 BK2 BW
      have WN2:=fun (w:World)=>within_any y.f0 1 (wrap64 (ab-1)) w
      have WN3:=fun (w:World)=>within_any y.f2 0 (y.f1.size:Int) w
      have A4:=AA.out
      unfold nodeFine at A4
      generalize inR y.f0 1 (wrap64 (ab-1))=b2 at WN2 A4
      generalize inR y.f2 0 (y.f1.size:Int)=b3 at WN3 A4
      have hz5:IntKind.i64.wrap (ab-1)=wrap64 (ab-1):=i64_w _
      have AB:=zA A4
      have H2:=zA WN2
      have H3:=zA WN3
      clear A4 AA WN2 WN3
      cases kk with
      | zero=>
        have AC:=zA (show (true && (b2 && b3) && nodesFine ab (prevN aa (0+1)) (aa.drop (0+1)))=nodesFine ab none aa from AB.out)
        clear AB
        cases b2 with
        | false=>
          go_quiet ((go_at_call 86;with_reducible exact Calls.quiet_of (H2.out _)))
          go_wp2
          go_ret
          exact ⟨by rw [← AC.out];rfl,pw_below_drewN BW2.out _⟩
        | true=>
          cases b3 with
          | false=>
            go_quiet (first | (go_at_call 86;with_reducible exact Calls.quiet_of (H2.out _)) | (go_at_call 86;with_reducible exact Calls.quiet_of (H3.out _)))
            go_wp2
            go_ret
            exact ⟨by rw [← AC.out];rfl,pw_below_drewN BW2.out _⟩
          | true=>
            go_quiet (first | (go_at_call 86;with_reducible exact Calls.quiet_of (H2.out _)) | (go_at_call 86;with_reducible exact Calls.quiet_of (H3.out _)))
            go_wp2
            go_roundg (aa.length-(0+1))
            case measure=>omega
            case rel=>exact ⟨0+1,by omega,by omega,by go_num,⟨pw_below_drewN BW2.out _⟩,⟨BKd.out⟩,⟨AC.out⟩⟩
      | succ j=>
        have hw1:IntKind.i64.wrap ((j:Int)+1-1)=(j:Int):=by rw [show (j:Int)+1-1=(j:Int) by omega,IntKind.wrap_i64];omega
        have hj0:(0:Int)≤(j:Int):=by omega
        have hjl:(j:Int)<(aa.length:Int):=by omega
        obtain ⟨ad2,e2,hv0,hv1,hv2⟩:=at_T45 (Kd.C_below HR.out BW2.out) (j:Int) hj0 hjl
        cases e2
        rw [Int.toNat_natCast] at hv0 hv1 hv2
        clear hv1 hv2
        have AC:=zA (show (!decide (y.f0≤(rd_T45 aa (j:Int)).f0) && (b2 && b3) && nodesFine ab (prevN aa (j+1+1)) (aa.drop (j+1+1)))=nodesFine ab none aa from AB.out)
        clear AB
        generalize (rd_T45 aa (j:Int)).f0=p0 at hv0 AC
        by_cases hle:y.f0≤p0
        · rw [zt hle] at AC
          have hle':decide (y.f0≤p0)=true:=zt hle
          clear hle
          go_quiet (fail)
          go_wp2
          go_ret
          exact ⟨by rw [← AC.out];rfl,pw_below_drewN BW2.out _⟩
        · rw [zf hle] at AC
          have hle':decide (y.f0≤p0)=false:=zf hle
          clear hle
          cases b2 with
          | false=>
            go_quiet ((go_at_call 86;with_reducible exact Calls.quiet_of (H2.out _)))
            go_wp2
            go_ret
            exact ⟨by rw [← AC.out];rfl,pw_below_drewN BW2.out _⟩
          | true=>
            cases b3 with
            | false=>
              go_quiet (first | (go_at_call 86;with_reducible exact Calls.quiet_of (H2.out _)) | (go_at_call 86;with_reducible exact Calls.quiet_of (H3.out _)))
              go_wp2
              go_ret
              exact ⟨by rw [← AC.out];rfl,pw_below_drewN BW2.out _⟩
            | true=>
              go_quiet (first | (go_at_call 86;with_reducible exact Calls.quiet_of (H2.out _)) | (go_at_call 86;with_reducible exact Calls.quiet_of (H3.out _)))
              go_wp2
              go_roundg (aa.length-(j+1+1))
              case measure=>omega
              case rel=>exact ⟨j+1+1,by omega,by omega,by go_num,⟨pw_below_drewN BW2.out _⟩,⟨BKd.out⟩,⟨AC.out⟩⟩
    · have hltz:¬ (kk:Int)<(aa.length:Int):=by omega
      have A2:=A.out
      rw [List.drop_of_length_le (by omega),nodesFine] at A2
      have e0:wr.cell? ⟨g5,0,none⟩=some (.slice ai aa.length ah):=(blk_cell BK2.out 0).trans rfl
      have A3:=zA A2
      clear A A2
      go_wp2
      go_ret
      exact ⟨by rw [← A3.out,Bool.true_and];rfl,BW.out⟩
end Go.Proofs.YtokcccejijmkmaaGreatDoor.MFnDeeds
