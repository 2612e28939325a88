/- Each theorem here says that a call of one Go function answers what the Lean function beside it answers; its conditions stand in it. Written by a program of this session. -/
import Derived.Test.YtokcccejijmkmaaGreatDoorMFnDeedsx0
import Derived.Test.YtokcccejijmkmaaGreatDoorMFnDeedsx14
import Derived.Test.YtokcccejijmkmaaGreatDoorMFnDeedsx15
import Derived.Test.YtokcccejijmkmaaGreatDoorMFnDeedsx16
namespace Go.Proofs.YtokcccejijmkmaaGreatDoor.MFnDeeds
set_option maxHeartbeats 2000000
set_option maxRecDepth 100000
open Go.RowKit Go.Proofs.YtokcccejijmkmaaGreatDoorW.PrintWords Go.Proofs.YtokcccejijmkmaaGreatDoorW.PrintLast Go.Proofs.YtokcccejijmkmaaGreatDoorW.PrintMore
attribute [local go_sem] max2_int min2_int max_two min_two max_three min_three max_four min_four
set_option linter.unusedVariables false
set_option linter.unusedSimpArgs false
def cellsE:List S47→List Value
  | []=>[]
  | x :: l=>.string x.f0 :: .int .i64 x.f1 :: cellsE l
theorem cellsE_length:∀ l,(cellsE l).length=l.length*2
  | []=>rfl
  | x :: l=>by rw [cellsE,List.length_cons,List.length_cons,cellsE_length l,List.length_cons];omega
theorem cellsE_append:∀ a b,cellsE (a++b)=cellsE a++cellsE b
  | [],_=>rfl
  | x :: a,b=>by rw [List.cons_append,cellsE,cellsE_append a b,cellsE];rfl
theorem cellsE_one:∀ l,∀ v∈cellsE l,v.oneCell'=true
  | [],v,h=>absurd h List.not_mem_nil
  | x :: l,v,h=>by
    rw [cellsE] at h
    rcases List.mem_cons.mp h with rfl | h
    · rfl
    rcases List.mem_cons.mp h with rfl | h
    · rfl
    exact cellsE_one l v h
theorem cellsE_at:∀ (l:List S47) (j:Nat) (x:S47),l[j]? = some x→((cellsE l).drop (j*2)).take 2=[.string x.f0,.int .i64 x.f1]
  | [],_,_,h=>by cases h
  | y :: l,0,x,h=>by
    obtain rfl:y=x:=Option.some.inj h
    rfl
  | y :: l,j+1,x,h=>by
    rw [cellsE,show (j+1)*2=j*2+1+1 by omega,List.drop_succ_cons,List.drop_succ_cons]
    exact cellsE_at l j x h
theorem cellsE_take:∀ (l:List S47) (i:Nat),(cellsE l).take (i*2)=cellsE (l.take i)
  | _,0=>by simp [cellsE]
  | [],i+1=>by simp [cellsE]
  | y :: l,i+1=>by
    rw [cellsE,show (i+1)*2=i*2+1+1 by omega,List.take_succ_cons,List.take_succ_cons,cellsE_take l i,List.take_succ_cons,cellsE]
theorem cellsE_drop:∀ (l:List S47) (i:Nat),(cellsE l).drop (i*2)=cellsE (l.drop i)
  | _,0=>by simp
  | [],i+1=>by simp [cellsE]
  | y :: l,i+1=>by
    rw [cellsE,show (i+1)*2=i*2+1+1 by omega,List.drop_succ_cons,List.drop_succ_cons,cellsE_drop l i,List.drop_succ_cons]
theorem ownE {w:World} {base:Nat} {ok:Nat→Prop} {v:Value} {l:List S47} (h:Kd.R k47 47 w base ok v l):w.ownsRow base 47 2 v l.length (cellsE l):=by
  obtain ⟨_,inner,ho,hl,hr⟩:=h
  have:inner=cellsE l:=by
    have key:∀ (l:List S47) (inner:List Value),inner.length=l.length*2→(∀ j p,l[j]? = some p→(inner.drop (j*2)).take 2=[.string p.f0,.int .i64 p.f1])→inner=cellsE l:=by
      intro l
      induction l with
      | nil=>intro inner h _;exact List.eq_nil_of_length_eq_zero (by simpa using h)
      | cons x l ih=>
        intro inner h hp
        match inner,h with
        | [],h=>simp at h
        | [_],h=>simp at h;omega
        | a :: b :: r,h=>
          have h0:=hp 0 x rfl
          rw [Nat.zero_mul,List.drop_zero,List.take_succ_cons,List.take_succ_cons,List.take_zero] at h0
          obtain ⟨rfl,h1⟩:=List.cons.inj h0
          obtain ⟨rfl,_⟩:=List.cons.inj h1
          rw [cellsE,ih r (by simp only [List.length_cons] at h;omega) (fun j p hj=>by
            have:=hp (j+1) p hj
            rwa [show (j+1)*2=j*2+1+1 by omega,List.drop_succ_cons,List.drop_succ_cons] at this)]
    exact key l inner hl (fun j p hj=>k47_openM (hr j p hj))
  rw [this] at ho
  exact ho
theorem R_ofE {w:World} {base:Nat} {v:Value} {l:List S47} (h:w.ownsRow base 47 2 v l.length (cellsE l)):Kd.R k47 47 w base (fun _=>True) v l:=
  ⟨fun _ _=>trivial,cellsE l,h,cellsE_length l,fun j p hj=>by
    show k47.M w base _ p (((cellsE l).drop (j*2)).take 2)
    rw [cellsE_at l j p hj];exact k47_mkM _ _ _ p⟩
theorem setCells_row (g:Nat) (t:TypeId):∀ (vs:List Value) (o:Nat) (cur:Array Value) (w:World),w.heap[g]? = some (.cells cur t (0,0))→o+vs.length≤cur.size→
    w.setCells g o vs=w.setRow g (cur.toList.take o++vs++cur.toList.drop (o+vs.length)).toArray
  | [],o,cur,w,hg,_=>by
    simp only [World.setCells,List.append_nil,List.length_nil,Nat.add_zero,List.take_append_drop,Array.toArray_toList]
    rw [setRow_self w g cur t (0,0) hg]
  | v :: rest,o,cur,w,hg,hl=>by
    have ho:o<cur.size:=by simp at hl;omega
    rw [World.setCells,setCell_eq_setRow w g o cur t (0,0) v hg,setCells_row g t rest (o+1) (cur.setIfInBounds o v) (w.setRow g (cur.setIfInBounds o v)) (setRow_heap w g cur _ t _ hg) (by simp at hl ⊢;omega),setRow_setRow]
    congr 2
    have e:=list_seg_step cur.toList o v rest (by simp at hl ⊢;omega)
    simpa [Array.toList_setIfInBounds,Nat.add_assoc] using e
theorem run_copy2 {P:Program} (w:World) (dT sT ty elem:TypeId) (g o dLen dCap:Nat) (a:Addr) (sLen sCap:Nat) (cur:Array Value) (t:TypeId) (cs:List Value)
    (hu:P.underlying dT=some (.slice elem)) (hs:(P.info? elem).map (·.size)=some 2)
    (hg:w.heap[g]? = some (.cells cur t (0,0))) (hn:cs.length=Nat.min sLen dLen*2)
    (hsrc:∀ j v,cs[j]? = some v→w.cell? (a.add j)=some v) (hfit:o+cs.length≤cur.size) (h1:∀ v∈cs,v.oneCell'=true) :
    (Builtin.copy_ #[dT,sT] ty #[.slice (some ⟨g,o,none⟩) dLen dCap,.slice (some a) sLen sCap]).run P w =
      .ok (goInt (Nat.min sLen dLen)) (w.setRow g (cur.toList.take o++cs++cur.toList.drop (o+cs.length)).toArray):=by
  have hl:=run_loadCells_list (P:=P) w a cs hsrc
  have hst:=run_storeCells_at P g o t cs 0 cur w hg (by simpa using hfit) h1
  rw [hn] at hl
  cases hq:P.info? elem with
  | none=>simp [hq] at hs
  | some i=>
    have hi:i.size=2:=by simpa [hq] using hs
    simp [Builtin.copy_,run_underlying hu,Builtin.lenOf,Builtin.firstCells,sizeOf,typeInfo,hq,hi,hl,hst]
theorem one_entry {w:World} {vb:Nat} {x:S47} (hv:w.heap[vb]? = some (.cells #[.string x.f0,.int .i64 x.f1] 47 (0,0))):Kd.C k47 w (some ⟨vb,0,none⟩) 1 [x]:=
  ⟨rfl,by decide,fun _=>⟨⟨vb,0,none⟩,rfl,fun j p hj=>by
    match j,hj with
    | 0,hj=>
      obtain rfl:x=p:=Option.some.inj hj
      refine ⟨_,rfl,k47_mk w x,fun q u hu=>?_⟩
      match q,hu with
      | 0,hu=>obtain rfl:=Option.some.inj hu;exact (blk_cell hv 0).trans rfl
      | 1,hu=>obtain rfl:=Option.some.inj hu;exact (blk_cell hv 1).trans rfl⟩⟩
theorem insertE_end (v:Value) (l:List S47) (x:S47) (w0 w:World) (hB:Below w0.heap.size w0 w) (hO:Kd.R k47 47 w w0.heap.size (fun _=>True) v l) (hbig:(l.length+1)*24≤140737488355328) (vb:Nat) (hv:w.heap[vb]? = some (.cells #[.string x.f0,.int .i64 x.f1] 47 (0,0))) :
    Calls Tryz.prog 120 #[v,.int .i64 l.length,.slice (some ⟨vb,0,none⟩) 1 1] w fun e w'=>∃ v',e=.returned v'∧Kd.R k47 47 w' w0.heap.size (fun _=>True) v' (l++[x])∧Below w0.heap.size w0 w':=by
  have hw:=ownE hO
  have HX:=zA (one_entry hv)
  have HB:=zA hB
  obtain ⟨_,⟨rfl,hl0⟩ | ⟨g,c,cur,rfl,_,_,hlc,hm,_,_⟩⟩:=hw
  · obtain rfl:=List.eq_nil_of_length_eq_zero hl0
    have HO:=zA hO
    clear hO hv hB hl0
    go_enter Tryz.func120,Tryz.ntmps120
    go_wp2_with (at_builtin;refine Kd.R_append_rows k47 (w0:=w0) w0.heap.size rfl _ _ 25 47 (.agg #[(.string ⟨#[]⟩),(.int .i64 0)]) 24 rfl Tryz.underlying25 info47 rfl (by decide) (by decide) (.slice none 0 0) [] [x] (some ⟨vb,0,none⟩) 1 1 (fun _=>True) (fun _=>False) rfl rfl HO.out HX.out (fun x cs h=>by obtain rfl:=k47_open h;exact k47_mkM _ _ _ x) (fun _ h=>h.elim) (fun _ _=>trivial) HB.out HB.out.size (by (simp;done)) ?_;intro v1 w1 hO1 hb1 hg hat;have O1:=zA hO1;have B1:=zA hb1;clear hO1 hb1 hg hat)
    all_goals (go_ret;exact ⟨v1,rfl,O1.out,B1.out⟩)
  · have HO:=zA hO
    clear hO hv hB hm
    go_enter Tryz.func120,Tryz.ntmps120
    go_wp2_with (at_builtin;refine Kd.R_append_rows k47 (w0:=w0) w0.heap.size rfl _ _ 25 47 (.agg #[(.string ⟨#[]⟩),(.int .i64 0)]) 24 rfl Tryz.underlying25 info47 rfl (by decide) (by decide) (.slice (some ⟨g,0,none⟩) l.length c) l [x] (some ⟨vb,0,none⟩) 1 1 (fun _=>True) (fun _=>False) rfl rfl HO.out HX.out (fun x cs h=>by obtain rfl:=k47_open h;exact k47_mkM _ _ _ x) (fun _ h=>h.elim) (fun _ _=>trivial) HB.out HB.out.size (by simpa using hbig) ?_;intro v1 w1 hO1 hb1 hg hat;have O1:=zA hO1;have B1:=zA hb1;clear hO1 hb1 hg hat)
    all_goals (go_ret;exact ⟨v1,rfl,O1.out,B1.out⟩)
theorem insertE_shift (g c:Nat) (l:List S47) (i:Nat) (x:S47) (w:World) (cur:Array Value) (hg:w.heap[g]? = some (.cells cur 47 (0,0))) (hlc:l.length+1≤c) (hm:c≤9223372036854775807) (hsz:cur.size=c*2) (htk:cur.toList.take (l.length*2)=cellsE l) (hi:i<l.length) (vb:Nat) (hv:w.heap[vb]? = some (.cells #[.string x.f0,.int .i64 x.f1] 47 (0,0))) (hne:vb≠g) :
    Calls Tryz.prog 120 #[.slice (some ⟨g,0,none⟩) l.length c,.int .i64 i,.slice (some ⟨vb,0,none⟩) 1 1] w fun e w'=>e=.returned (.slice (some ⟨g,0,none⟩) (l.length+1) c)∧∃ q cs,w'=(w.drewN q).setRow g cs∧cs.size=c*2∧cs.toList.take ((l.length+1)*2)=cellsE (l.take i++x :: l.drop i):=by
  have mixed:Tryz.prog.follows .mixedOrders=true:=by kernel_rfl
  obtain ⟨i0,hi0,hz⟩:=Option.map_eq_some_iff.mp info47
  have hz1:i0.size=2:=congrArg (fun x=>x.2.1) hz
  have hs2:(Tryz.prog.info? 47).map (·.size)=some 2:=by rw [hi0,Option.map_some,hz1]
  have hso:∀ w,(Go.sizeOf 47).run Tryz.prog w=.ok 2 w:=fun w=>by simp [Go.sizeOf,typeInfo,hi0,hz1]
  have hLc:cur.toList.length=c*2:=hsz
  have hdl:(cellsE (l.drop i)).length=(l.length-i)*2:=by rw [cellsE_length,List.length_drop]
  have hov:∀ (W:World),W.heap[g]? = some (.cells cur 47 (0,0))→W.heap[vb]? = some (.cells #[.string x.f0,.int .i64 x.f1] 47 (0,0))→∀ lb cb,(callFunc 126 #[.slice (some ⟨vb,0,none⟩) 1 1,.slice (some ⟨g,(i+1)*2,none⟩) lb cb]).run Tryz.prog W=.ok (.value (.bool false)) W:=fun W h1 h2 lb cb=>by
    rw [run_callFunc_extern Tryz.func126 (by kernel_rfl) (by kernel_rfl) (by kernel_rfl) (e:=Extern.SlicesOverlaps.overlaps #[25,25] #[4]) (by kernel_rfl),
      Lib.run_overlaps_apart W 25 4 47 Tryz.underlying25 2 hso ⟨vb,0,none⟩ ⟨g,(i+1)*2,none⟩ 1 1 lb cb hne 47 47 2 (c*2) (by simp [World.shape?,h2]) (by simp [World.shape?,h1,hsz]) (by omega) (by simp [World.frozen?,h2]) (by simp [World.frozen?,h2])]
    rfl
  have ah:=hov w hg hv
  have hgd:w.drew.heap[g]? = some (.cells cur 47 (0,0)):=hg
  have hcur:∀ j v,(cellsE (l.drop i))[j]? = some v→w.drew.cell? ⟨g,i*2+j,none⟩=some v:=fun j v hj=>by
    rw [← cellsE_drop,← htk,List.getElem?_drop,List.getElem?_take] at hj
    split at hj
    · rw [cell_of_row w.drew g _ cur _ _ hgd]
      rw [Array.getElem?_toList] at hj
      exact hj
    · cases hj
  obtain ⟨aa,ab⟩:∃ aa,aa=(cur.toList.take ((i+1)*2)++cellsE (l.drop i)++cur.toList.drop ((i+1)*2+(cellsE (l.drop i)).length)).toArray:=⟨_,rfl⟩
  have hs1:aa.size=c*2:=by
    rw [ab,List.size_toArray,List.length_append,List.length_append,List.length_take,List.length_drop,hLc,hdl]
    omega
  have hL1:aa.toList.length=c*2:=hs1
  have af:∀ ty dc sc,(Builtin.copy_ #[25,25] ty #[.slice (some ⟨g,(i+1)*2,none⟩) (l.length-i) dc,.slice (some ⟨g,i*2,none⟩) (l.length+1-i) sc]).run Tryz.prog w.drew=.ok (goInt ((l.length-i:Nat):Int)) (w.drew.setRow g aa):=fun ty dc sc=>by
    have h:=run_copy2 (P:=Tryz.prog) w.drew 25 25 ty 47 g ((i+1)*2) (l.length-i) dc ⟨g,i*2,none⟩ (l.length+1-i) sc cur 47 (cellsE (l.drop i)) Tryz.underlying25 hs2 hgd (by rw [hdl];simp only [Nat.min_def];split <;> omega) (fun j v hj=>by rw [Addr.add_lit];exact hcur j v hj) (by rw [hdl];show _≤cur.size;omega) (cellsE_one _)
    rw [h,ab,show Nat.min (l.length+1-i) (l.length-i)=l.length-i by simp only [Nat.min_def];split <;> omega]
  obtain ⟨W1,hW1⟩:∃ W1,W1=w.drew.setRow g aa:=⟨_,rfl⟩
  have hg1:W1.heap[g]? = some (.cells aa 47 (0,0)):=by rw [hW1];exact setRow_heap w.drew g cur aa _ _ hgd
  have hv1:W1.heap[vb]? = some (.cells #[.string x.f0,.int .i64 x.f1] 47 (0,0)):=by rw [hW1,setRow_other w.drew g vb aa hne];exact hv
  obtain ⟨ae,ad⟩:∃ ae,ae=(aa.toList.take (i*2)++([Value.string x.f0,Value.int .i64 x.f1]:List Value)++aa.toList.drop (i*2+2)).toArray:=⟨_,rfl⟩
  have hs3:ae.size=c*2:=by
    rw [ad,List.size_toArray,List.length_append,List.length_append,List.length_take,List.length_drop,hL1]
    show min (i*2) (c*2)+2+_=_
    omega
  have ai:∀ ty dc,(Builtin.copy_ #[25,25] ty #[.slice (some ⟨g,i*2,none⟩) (l.length+1-i) dc,.slice (some ⟨vb,0,none⟩) 1 1]).run Tryz.prog W1=.ok (goInt 1) (W1.setRow g ae):=fun ty dc=>by
    have h:=run_copy2 (P:=Tryz.prog) W1 25 25 ty 47 g (i*2) (l.length+1-i) dc ⟨vb,0,none⟩ 1 1 aa 47 [Value.string x.f0,Value.int .i64 x.f1] Tryz.underlying25 hs2 hg1 (by show 2=_;simp only [Nat.min_def];split <;> omega) (fun j v hj=>by rw [Addr.add_lit,Nat.zero_add];match j,hj with | 0,hj=>exact (blk_cell hv1 0).trans hj | 1,hj=>exact (blk_cell hv1 1).trans hj) (by rw [hs1];show i*2+2≤_;omega) (fun v hv=>by rcases List.mem_cons.mp hv with rfl | hv;rfl;rcases List.mem_cons.mp hv with rfl | hv;rfl;cases hv)
    rw [h,ad,show Nat.min 1 (l.length+1-i)=1 by simp only [Nat.min_def];split <;> omega]
    rfl
  have ag:ae.toList.take ((l.length+1)*2)=cellsE (l.take i++x :: l.drop i):=by
    have e1:aa.toList.take (i*2)=cellsE (l.take i):=by
      rw [ab,List.toList_toArray,List.append_assoc,List.take_append_of_le_length (by rw [List.length_take,hLc];omega),List.take_take,Nat.min_eq_left (by omega),← cellsE_take,← htk,List.take_take,Nat.min_eq_left (by omega)]
    have e2:aa.toList.drop (i*2+2)=cellsE (l.drop i)++cur.toList.drop ((i+1)*2+(cellsE (l.drop i)).length):=by
      rw [ab,List.toList_toArray,List.append_assoc,List.drop_left' (by rw [List.length_take,hLc];omega)]
    rw [ad,List.toList_toArray,e1,e2,cellsE_append,show cellsE (x :: l.drop i)=[Value.string x.f0,Value.int .i64 x.f1]++cellsE (l.drop i) from rfl,← List.append_assoc,List.take_left' (by rw [List.length_append,List.length_append,cellsE_length,hdl,List.length_take];show min i l.length*2+2+_=_;omega),List.append_assoc]
  have G1:=zA hs3
  have G2:=zA ag
  have G3:=zA hW1
  rw [← hW1] at af
  have hw1:IntKind.i64.wrap ((i:Int)+1)=(i:Int)+1:=by rw [IntKind.wrap_i64];omega
  have hw2:IntKind.i64.wrap ((l.length:Int)+1)=(l.length:Int)+1:=by rw [IntKind.wrap_i64];omega
  have hb1:(0:Int)≤(i:Int)+1:=by omega
  have hin:i≤l.length:=by omega
  have htn:((i:Int)+1).toNat=i+1:=by omega
  have htn2:((l.length:Int)+1).toNat=l.length+1:=by omega
  have hb2:¬ (c=i+1):=by omega
  have hb3:(i:Int)≤(l.length:Int)+1:=by omega
  have hb4:¬ (c=i):=by omega
  have hb5:(i:Int)+1≤(l.length:Int)+1:=by omega
  have hb8:¬ ((c:Int)<(l.length:Int)+1):=by omega
  clear hcur hov hs1 hL1 hs3 ag ab ad hgd hg1 hv1 hg hv hsz htk hLc hdl hz hi0 hz1 hs2 hso hW1
  go_enter Tryz.func120,Tryz.ntmps120
  go_wp2_with (simp only [ah])
  go_region_law_o (refine step_copy_runI rfl _ _ 25 25 rfl _ _ (by simp [Act.eval,Act.put]) (by simp [Act.eval,Act.put]) (af _ _ _) ?_)
  go_wp2_with (at_builtin;refine wpList_copy_runI _ rfl _ _ 25 25 rfl _ _ rfl rfl (ai _ _) ?_)
  go_ret
  rw [G3.out,setRow_setRow]
  exact ⟨rfl,1,ae,rfl,G1.out,G2.out⟩
theorem insertE_grow (g c:Nat) (l:List S47) (i:Nat) (x:S47) (w0 w:World) (hB:Below w0.heap.size w0 w) (cur:Array Value) (hg:w.heap[g]? = some (.cells cur 47 (0,0))) (hlc:l.length≤c) (hroom:c<l.length+1) (hbig:(l.length+1)*24≤140737488355328) (hsz:cur.size=c*2) (htk:cur.toList.take (l.length*2)=cellsE l) (hi:i<l.length) (vb:Nat) (hv:w.heap[vb]? = some (.cells #[.string x.f0,.int .i64 x.f1] 47 (0,0))) :
    Calls Tryz.prog 120 #[.slice (some ⟨g,0,none⟩) l.length c,.int .i64 i,.slice (some ⟨vb,0,none⟩) 1 1] w fun e w'=>∃ v',e=.returned v'∧Kd.R k47 47 w' w0.heap.size (fun _=>True) v' (l.take i++x :: l.drop i)∧Below w0.heap.size w0 w':=by
  have mixed:Tryz.prog.follows .mixedOrders=true:=by kernel_rfl
  obtain ⟨i0,hi0,hz⟩:=Option.map_eq_some_iff.mp info47
  have hz0:i0.zero=some (.agg #[(.string ⟨#[]⟩),(.int .i64 0)]):=congrArg (fun x=>x.1) hz
  have hz1:i0.size=2:=congrArg (fun x=>x.2.1) hz
  have hz2:i0.bytes=24:=congrArg (fun x=>x.2.2) hz
  have hs2:(Tryz.prog.info? 47).map (·.size)=some 2:=by rw [hi0,Option.map_some,hz1]
  have hdl:(cellsE (l.drop i)).length=(l.length-i)*2:=by rw [cellsE_length,List.length_drop]
  have htl:(cellsE (l.take i)).length=i*2:=by rw [cellsE_length,List.length_take,Nat.min_eq_left (by omega)]
  have hzl:(Value.agg #[(.string ⟨#[]⟩),(.int .i64 0)]).cells.size=2:=rfl
  have hcell:∀ (W:World),W.heap[g]? = some (.cells cur 47 (0,0))→∀ j v,(cellsE l)[j]? = some v→W.cell? ⟨g,j,none⟩=some v:=fun W hW j v hj=>by
    rw [← htk,List.getElem?_take] at hj
    split at hj
    · rw [cell_of_row W g j cur _ _ hW]
      rw [Array.getElem?_toList] at hj
      exact hj
    · cases hj
  have hold:(Builtin.firstCells i0.size i (.slice (some ⟨g,0,none⟩) i c)).run Tryz.prog w.drew=.ok (cellsE (l.take i)).toArray w.drew:=by
    rw [hz1]
    exact run_firstCells_some w.drew 2 i ⟨g,0,none⟩ i c (cellsE (l.take i)) (by rw [htl]) (fun j v hj=>by
      rw [Addr.add_lit,Nat.zero_add]
      rw [← cellsE_take,List.getElem?_take] at hj
      split at hj
      · exact hcell w.drew hg j v hj
      · cases hj)
  obtain ⟨G,hG⟩:∃ G,G=grownCap w (l.length+1) c 47:=⟨_,rfl⟩
  have hGn:l.length+1≤G:=by rw [hG];exact grownCap_ge w _ _ _
  have ag:G≤9223372036854775807:=by
    have:=grownCap_le_maxLen w (l.length+1) c 47 (by unfold maxLen;omega)
    rw [← hG] at this
    unfold maxLen at this
    omega
  obtain ⟨ROW,hROW⟩:∃ ROW:Array Value,ROW=(cellsE (l.take i)).toArray++Builtin.zeroCells (Value.agg #[(.string ⟨#[]⟩),(.int .i64 0)]).cells (l.length+1-i)++Builtin.zeroCells (Value.agg #[(.string ⟨#[]⟩),(.int .i64 0)]).cells (G-(l.length+1)):=⟨_,rfl⟩
  have hRs:ROW.size=G*2:=by
    rw [hROW,Array.size_append,Array.size_append,List.size_toArray,htl]
    simp only [Builtin.zeroCells,Array.size_map,Array.size_range,hzl]
    omega
  have hkk:(l.length:Int)+1-(i:Int)=((l.length+1-i:Nat):Int):=by omega
  have hrz:∀ ty,(Builtin.append_ #[25,3] ty #[.slice (some ⟨g,0,none⟩) i c,.int .i64 ((l.length:Int)+1-(i:Int))]).run Tryz.prog w=.ok (.slice (some ⟨w.heap.size,0,none⟩) (l.length+1) G) (w.drew.alloc (.cells ROW 47)):=fun ty=>by
    have h:=Lib.run_append_grow_zeros w 25 3 ty 47 i0 _ .i64 .i64 Tryz.underlying25 Tryz.underlying3 hi0 hz0 (some ⟨g,0,none⟩) i c (cellsE (l.take i)) hold (l.length+1-i) (by omega) (by omega) (by omega) (by omega) (by rw [hz2];omega) (by rw [hz2,show i+(l.length+1-i)=l.length+1 by omega];exact growslice_fits hroom hbig)
    rw [show i+(l.length+1-i)=l.length+1 by omega,← hG] at h
    rw [hkk,h,hROW]
  have hgw:g<w.heap.size:=blk_lt hg
  have hvw:vb<w.heap.size:=blk_lt hv
  have hLR:ROW.toList.length=G*2:=hRs
  have htR:ROW.toList.take (i*2)=cellsE (l.take i):=by
    rw [hROW,Array.append_assoc,Array.toList_append,List.toList_toArray,List.take_left' htl]
  obtain ⟨aa,ad⟩:∃ aa,aa=(ROW.toList.take (i*2)++([Value.string x.f0,Value.int .i64 x.f1]:List Value)++ROW.toList.drop (i*2+2)).toArray:=⟨_,rfl⟩
  have hs1:aa.size=G*2:=by
    rw [ad,List.size_toArray,List.length_append,List.length_append,List.length_take,List.length_drop,hLR]
    show min (i*2) (G*2)+2+_=_
    omega
  have hL1:aa.toList.length=G*2:=hs1
  have ht1:aa.toList.take ((i+1)*2)=cellsE (l.take i++[x]):=by
    rw [ad,List.toList_toArray,htR,cellsE_append,List.take_left' (by rw [List.length_append,htl];show i*2+2=_;omega)]
    rfl
  obtain ⟨ab,ae⟩:∃ ab,ab=(aa.toList.take ((i+1)*2)++cellsE (l.drop i)++aa.toList.drop ((i+1)*2+(cellsE (l.drop i)).length)).toArray:=⟨_,rfl⟩
  have hs3:ab.size=G*2:=by
    rw [ae,List.size_toArray,List.length_append,List.length_append,List.length_take,List.length_drop,hL1,hdl]
    omega
  have af:ab.toList.take ((l.length+1)*2)=cellsE (l.take i++x :: l.drop i):=by
    rw [ae,List.toList_toArray,ht1,← cellsE_append,List.take_left' (by rw [cellsE_length,List.length_append,List.length_append,List.length_take,List.length_drop,List.length_singleton];omega),List.append_assoc]
    rfl
  have hcpA:∀ (W:World),W.heap[w.heap.size]? = some (.cells ROW 47 (0,0))→W.heap[vb]? = some (.cells #[.string x.f0,.int .i64 x.f1] 47 (0,0))→∀ ty dc,(Builtin.copy_ #[25,25] ty #[.slice (some ⟨w.heap.size,i*2,none⟩) (l.length+1-i) dc,.slice (some ⟨vb,0,none⟩) 1 1]).run Tryz.prog W=.ok (goInt 1) (W.setRow w.heap.size aa):=fun W hW hV ty dc=>by
    have h:=run_copy2 (P:=Tryz.prog) W 25 25 ty 47 w.heap.size (i*2) (l.length+1-i) dc ⟨vb,0,none⟩ 1 1 ROW 47 [Value.string x.f0,Value.int .i64 x.f1] Tryz.underlying25 hs2 hW (by show 2=_;simp only [Nat.min_def];split <;> omega) (fun j v hj=>by rw [Addr.add_lit,Nat.zero_add];match j,hj with | 0,hj=>exact (blk_cell hV 0).trans hj | 1,hj=>exact (blk_cell hV 1).trans hj) (by rw [hRs];show i*2+2≤_;omega) (fun v hv=>by rcases List.mem_cons.mp hv with rfl | hv;rfl;rcases List.mem_cons.mp hv with rfl | hv;rfl;cases hv)
    rw [h,ad,show Nat.min 1 (l.length+1-i)=1 by simp only [Nat.min_def];split <;> omega]
    rfl
  have hcpB:∀ (W:World),W.heap[w.heap.size]? = some (.cells aa 47 (0,0))→W.heap[g]? = some (.cells cur 47 (0,0))→∀ ty dc sc,(Builtin.copy_ #[25,25] ty #[.slice (some ⟨w.heap.size,(i+1)*2,none⟩) (l.length-i) dc,.slice (some ⟨g,i*2,none⟩) (l.length-i) sc]).run Tryz.prog W=.ok (goInt ((l.length-i:Nat):Int)) (W.setRow w.heap.size ab):=fun W hW hV ty dc sc=>by
    have h:=run_copy2 (P:=Tryz.prog) W 25 25 ty 47 w.heap.size ((i+1)*2) (l.length-i) dc ⟨g,i*2,none⟩ (l.length-i) sc aa 47 (cellsE (l.drop i)) Tryz.underlying25 hs2 hW (by rw [hdl,show Nat.min (l.length-i) (l.length-i)=l.length-i from Nat.min_self _]) (fun j v hj=>by rw [Addr.add_lit];rw [← cellsE_drop,List.getElem?_drop] at hj;exact hcell W hV _ v hj) (by rw [hdl,hs1];omega) (cellsE_one _)
    rw [h,ae,show Nat.min (l.length-i) (l.length-i)=l.length-i from Nat.min_self _]
  obtain ⟨W1,hW1⟩:∃ W1,W1=w.drew.alloc (.cells ROW 47):=⟨_,rfl⟩
  have hR1:W1.heap[w.heap.size]? = some (.cells ROW 47 (0,0)):=by rw [hW1];exact heap_alloc_new w.drew _
  have hv1:W1.heap[vb]? = some (.cells #[.string x.f0,.int .i64 x.f1] 47 (0,0)):=by rw [hW1];exact (heap_alloc_old w.drew _ hvw).trans hv
  have hg1:W1.heap[g]? = some (.cells cur 47 (0,0)):=by rw [hW1];exact (heap_alloc_old w.drew _ hgw).trans hg
  rw [← hW1] at hrz
  have hA:=hcpA W1 hR1 hv1
  obtain ⟨W2,hW2⟩:∃ W2,W2=W1.setRow w.heap.size aa:=⟨_,rfl⟩
  rw [← hW2] at hA
  have hR2:W2.heap[w.heap.size]? = some (.cells aa 47 (0,0)):=by rw [hW2];exact setRow_heap W1 _ ROW aa _ _ hR1
  have hg2:W2.heap[g]? = some (.cells cur 47 (0,0)):=by rw [hW2,setRow_other W1 _ g aa (by omega)];exact hg1
  have hBB:=hcpB W2.drew hR2 hg2
  have T1:=zA (show (W2.drew.setRow w.heap.size ab).heap[w.heap.size]? = some (.cells ab 47 (0,0)) from setRow_heap W2.drew _ aa ab _ _ hR2)
  have T2:=zA (show Below w0.heap.size w0 (W2.drew.setRow w.heap.size ab) from below_setRow (below_drew (by rw [hW2];exact below_setRow (by rw [hW1];exact (below_drew hB).alloc hB.size _) hB.size _)) hB.size _)
  have T3:=zA hs3
  have T4:=zA af
  have T5:=zA hB.size
  have hGi:¬ (G=i):=by omega
  have hGim:¬ (G=i+1):=by omega
  have hci:¬ (c=i):=by omega
  have hw1:IntKind.i64.wrap ((i:Int)+1)=(i:Int)+1:=by rw [IntKind.wrap_i64];omega
  have hw2:IntKind.i64.wrap ((l.length:Int)+1)=(l.length:Int)+1:=by rw [IntKind.wrap_i64];omega
  have hw3:IntKind.i64.wrap ((l.length:Int)+1-(i:Int))=(l.length:Int)+1-(i:Int):=by rw [IntKind.wrap_i64];omega
  have hb1:(0:Int)≤(i:Int)+1:=by omega
  have hin:i≤l.length:=by omega
  have htn:((i:Int)+1).toNat=i+1:=by omega
  have hb3:(i:Int)≤(l.length:Int)+1:=by omega
  have hb5:(i:Int)+1≤(l.length:Int)+1:=by omega
  have hb8:(c:Int)<(l.length:Int)+1:=by omega
  have hb9:i≤c:=by omega
  clear hcell hold hROW hRs hkk hLR htR ad hs1 hL1 ht1 ae hs3 af hcpA hcpB hW1 hR1 hv1 hg1 hW2 hR2 hg2 hG hB hg hv hsz htk hdl htl hzl hz hi0 hz0 hz1 hz2 hs2 hgw hvw
  go_enter Tryz.func120,Tryz.ntmps120
  go_wp2_with ((at_builtin;refine Lib.wpList_append_run _ rfl _ _ _ _ rfl _ _ rfl rfl _ _ (hrz _) ?_))
  go_region_law_o (refine step_copy_runI rfl _ _ 25 25 rfl (.slice (some ⟨w.heap.size,(i+1)*2,none⟩) (l.length-i) (G-(i+1))) (.slice (some ⟨g,i*2,none⟩) (l.length-i) (c-i)) (by simp [Act.eval,Act.put,hGim]) (by simp [Act.eval,Act.put,hci]) (hBB 3 (G-(i+1)) (c-i)) ?_)
  go_wp2
  go_ret
  have hlen:(l.take i++x :: l.drop i).length=l.length+1:=by rw [List.length_append,List.length_cons,List.length_take,List.length_drop];omega
  refine ⟨_,rfl,?_,T2.out⟩
  rw [← hlen]
  exact R_ofE ⟨cellsE_length _,.inr ⟨w.heap.size,G,_,rfl,T5.out,T1.out,by rw [hlen];exact hGn,ag,T3.out,by rw [hlen];exact T4.out⟩⟩
theorem insertE (v:Value) (l:List S47) (i:Nat) (x:S47) (w0 w:World) (hB:Below w0.heap.size w0 w) (hO:Kd.R k47 47 w w0.heap.size (fun _=>True) v l) (hi:i≤l.length) (hbig:(l.length+1)*24≤140737488355328) (vb:Nat) (hv:w.heap[vb]? = some (.cells #[.string x.f0,.int .i64 x.f1] 47 (0,0))) (hne:v.ownBlock≠some vb) :
    Calls Tryz.prog 120 #[v,.int .i64 i,.slice (some ⟨vb,0,none⟩) 1 1] w fun e w'=>∃ v',e=.returned v'∧Kd.R k47 47 w' w0.heap.size (fun _=>True) v' (l.take i++x :: l.drop i)∧Below w0.heap.size w0 w':=by
  by_cases hil:i=l.length
  · subst hil
    have h:=insertE_end v l x w0 w hB hO hbig vb hv
    rw [List.take_of_length_le (Nat.le_refl _),List.drop_of_length_le (Nat.le_refl _)]
    exact h
  · obtain ⟨_,⟨_,hl0⟩ | ⟨g,c,cur,rfl,hbg,hg,hlc,hm,hsz,htk⟩⟩:=ownE hO
    · omega
    have aa:c≤9223372036854775807:=hm
    by_cases hroom:l.length+1≤c
    · have hvg:vb≠g:=fun e=>hne (by rw [e];rfl)
      refine (insertE_shift g c l i x w cur hg hroom aa hsz htk (by omega) vb hv hvg).mono ?_
      rintro e w' ⟨rfl,q,cs,rfl,hs,ht⟩
      have hlen:(l.take i++x :: l.drop i).length=l.length+1:=by rw [List.length_append,List.length_cons,List.length_take,List.length_drop];omega
      refine ⟨_,rfl,?_,below_setRow (pw_below_drewN hB q) hbg _⟩
      rw [← hlen]
      exact R_ofE ⟨cellsE_length _,.inr ⟨g,c,cs,rfl,hbg,setRow_heap (w.drewN q) g cur cs _ _ hg,by rw [hlen];exact hroom,hm,hs,by rw [hlen];exact ht⟩⟩
    · exact insertE_grow g c l i x w0 w hB cur hg hlc (by omega) hbig hsz htk (by omega) vb hv
theorem put_lit (a1:ByteArray) (B:Nat) (w:World) (hB:B<w.heap.size) (hcell:w.cell? ⟨B,0,none⟩=some (.string a1)) (W:World) (x:S47) (hb:Below w.heap.size w W) :
    Calls Tryz.prog 119 (#[.agg #[.string x.f0,.int .i64 x.f1]]++#[.pointer (some ⟨B,0,none⟩)]) W fun e w'=>e=.returned (.bool (!(Op.bytesLess x.f0.toList a1.toList || x.f0.toList == a1.toList)))∧Below w.heap.size w w':=by
  have hc:W.cell? ⟨B,0,none⟩=some (.string a1):=(hb.cell (p:=⟨B,0,none⟩) hB).trans hcell
  have hBW:B<W.heap.size:=Nat.lt_of_lt_of_le hB hb.size
  show Calls Tryz.prog 119 #[.agg #[.string x.f0,.int .i64 x.f1],.pointer (some ⟨B,0,none⟩)] W _
  go_enter Tryz.func119,Tryz.ntmps119
  go_wp2
  all_goals (go_ret;exact ⟨by simp,hb.alloc hb.size _⟩)
theorem ix_range {α:Type} (p:α→Bool):∀ (l:List α) (i:Nat),-1≤idxOf p l i∧idxOf p l i<((i+l.length:Nat):Int)
  | [],i=>by rw [idxOf];simp;omega
  | x :: l,i=>by
    rw [idxOf,List.length_cons]
    have:=ix_range p l (i+1)
    split <;> omega
def isName (s:ByteArray) (x:S47):Bool:=x.f0.toList == s.toList
def isAbove (s:ByteArray) (x:S47):Bool:=!(Op.bytesLess x.f0.toList s.toList || x.f0.toList == s.toList)
def putAt (l:List S47) (s:ByteArray):Nat:=if idxOf (isAbove s) l 0<0 then l.length else (idxOf (isAbove s) l 0).toNat
def putI (l:List S47) (s:ByteArray) (id:Int):List S47:=if idxOf (isName s) l 0<0 then l.take (putAt l s)++⟨s,id⟩ :: l.drop (putAt l s) else l.set (idxOf (isName s) l 0).toNat ⟨(rd_T47 l (idxOf (isName s) l 0)).f0,id⟩
theorem put_new (v:Value) (l:List S47) (s:ByteArray) (id:Int) (w0 w:World) (hB:Below w0.heap.size w0 w) (hO:Kd.R k47 47 w w0.heap.size (fun _=>True) v l) (hbig:(l.length+1)*24≤140737488355328) (hn:idxOf (isName s) l 0<0) :
    Calls Tryz.prog 109 #[v,.string s,.int .i64 id] w fun e w'=>∃ v',e=.returned v'∧Kd.R k47 47 w' w0.heap.size (fun _=>True) v' (putI l s id)∧Below w0.heap.size w0 w':=by
  unfold putI
  rw [if_pos hn]
  obtain ⟨A,c,rfl,hlc,hC⟩:=Kd.R_reads hO
  have eg:∀ args w,(callFunc 119 args).run Tryz.prog w=.ok (.enter 119 args) w:=enters_of Tryz.func119 (by kernel_rfl) rfl
  have hr:=ix_range (isAbove s) l 0
  have P1:=zA (fun (w1:World) (hb:Below w.heap.size w w1)=>(impl_placeOf.calls A c l s _ w1 (Kd.C_below hC hb) hlc rfl:Calls Tryz.prog 56 #[.slice A l.length c,.string s] w1 fun e w'=>e=.returned (.int .i64 (idxOf (isName s) l 0))∧Below w1.heap.size w1 w'))
  have P2:=zA (fun (w1:World) (B:Nat) (hb:Below w.heap.size w w1) (hB:B<w1.heap.size) (hcell:w1.cell? ⟨B,0,none⟩=some (.string s))=>idxEntry 119 #[.pointer (some ⟨B,0,none⟩)] (isAbove s) eg A c l w1 (Kd.C_below hC hb) (fun W x hW=>put_lit s B w1 hB hcell W x hW))
  have P3:=zA (fun (w1:World) (hb:Below w.heap.size w w1) (k:Nat) (z:Int) (hz:z=(k:Int)) (hk:k≤l.length) (vb:Nat) (hv:w1.heap[vb]? = some (.cells #[.string s,.int .i64 id] 47 (0,0))) (hge:w.heap.size≤vb)=>(by
    subst hz
    exact insertE (.slice A l.length c) l k ⟨s,id⟩ w0 w1 (hB.trans (hb.mono hB.size)) (Kd.R_below hO hb) hk hbig vb hv (fun e=>by have:=(ownE hO).lt vb e;omega):Calls Tryz.prog 120 #[.slice A l.length c,.int .i64 z,.slice (some ⟨vb,0,none⟩) 1 1] w1 fun e w'=>∃ v',e=.returned v'∧Kd.R k47 47 w' w0.heap.size (fun _=>True) v' (l.take k++⟨s,id⟩ :: l.drop k)∧Below w0.heap.size w0 w'))
  generalize idxOf (isName s) l 0=i at hn P1
  unfold putAt
  generalize idxOf (isAbove s) l 0=j at P2 hr
  have hi1:decide (0≤i)=false:=zf (by omega)
  clear hC hO hB hn
  go_enter Tryz.func109,Tryz.ntmps109
  go_wp2_with (first | ((with_reducible refine gate_dst (N:=4) rfl ?_);refine box_event ?hg (N:=4) ?hd (cs:=#[.string s]) (t:=9) ?hr ?_;(case hd=>rfl);(case hg=>rfl);(case hr=>(go_simp;done));intro g5 hg w5 hbox b5;have R0:=zA hbox;have B5:=zA b5;have u0:w5.cell? ⟨g5,0,none⟩=some (.string s):=(blk_cell R0.out 0).trans rfl;clear hg hbox b5) | (go_at_call 56;(with_reducible refine (P1.out _ B5.out).mono ?_);rintro e w6 ⟨rfl,b6⟩;have R6:=zb R0 b6;have B6:=zs B5 b6;have u6:w6.cell? ⟨g5,0,none⟩=some (.string s):=(blk_cell R6.out 0).trans rfl;clear b6) | (go_at_call 94;(with_reducible refine (P2.out _ g5 B6.out (blk_lt R6.out) u6).mono ?_);rintro e w7 ⟨rfl,b7⟩;have R7:=zb R6 b7;have B7:=zs B6 b7;have u7:w7.cell? ⟨g5,0,none⟩=some (.string s):=(blk_cell R7.out 0).trans rfl;clear b7) | (go_at_call 120;(with_reducible first | refine (P3.out _ (B7.out.alloc B7.out.size _) l.length _ rfl (Nat.le_refl _) w7.heap.size (heap_alloc_new w7 _) B7.out.size).mono ?_ | refine (P3.out _ (B7.out.alloc B7.out.size _) j.toNat _ (by omega) (by omega) w7.heap.size (heap_alloc_new w7 _) B7.out.size).mono ?_);rintro e w8 ⟨v8,rfl,o8,b8⟩;have O8:=zA o8;have B8:=zA b8;clear o8 b8))
  all_goals go_ret
  · exact ⟨v8,rfl,by have h:=O8.out;rw [List.take_of_length_le (Nat.le_refl _),List.drop_of_length_le (Nat.le_refl _)] at h;exact h,B8.out⟩
  · exact ⟨v8,rfl,O8.out,B8.out⟩
theorem cellsE_set:∀ (l:List S47) (i:Nat) (id:Int) (h:i<l.length),(cellsE l).set (i*2+1) (.int .i64 id)=cellsE (l.set i ⟨(l[i]).f0,id⟩)
  | x :: l,0,id,_=>rfl
  | x :: l,i+1,id,h=>by
    rw [cellsE,show (i+1)*2+1=(i*2+1)+1+1 by omega,List.set_cons_succ,List.set_cons_succ,cellsE_set l i id (by simpa using h),List.set_cons_succ,cellsE]
    rfl
theorem put_old (v:Value) (l:List S47) (s:ByteArray) (id:Int) (w0 w:World) (hB:Below w0.heap.size w0 w) (hO:Kd.R k47 47 w w0.heap.size (fun _=>True) v l) (i:Nat) (hi:i<l.length) (hn:idxOf (fun x:S47=>x.f0.toList == s.toList) l 0=(i:Int)) :
    Calls Tryz.prog 109 #[v,.string s,.int .i64 id] w fun e w'=>∃ v',e=.returned v'∧Kd.R k47 47 w' w0.heap.size (fun _=>True) v' (l.set i ⟨(l[i]).f0,id⟩)∧Below w0.heap.size w0 w':=by
  obtain ⟨A,c0,hv0,hlc0,hC⟩:=Kd.R_reads hO
  obtain ⟨_,⟨_,hl0⟩ | ⟨g,c,cur,rfl,hbg,hg,hlc,hm,hsz,htk⟩⟩:=ownE hO
  · omega
  injection hv0 with h1 _ h3
  subst h1 h3
  have P1:=zA (fun (w1:World) (hb:Below w.heap.size w w1)=>(by rw [← hn];exact impl_placeOf.calls (some ⟨g,0,none⟩) c l s _ w1 (Kd.C_below hC hb) hlc rfl:Calls Tryz.prog 56 #[.slice (some ⟨g,0,none⟩) l.length c,.string s] w1 fun e w'=>e=.returned (.int .i64 (i:Int))∧Below w1.heap.size w1 w'))
  have hgw:g<w.heap.size:=blk_lt hg
  have HG:=zA hg
  have HB:=zA hB
  have HZ:=zA hsz
  have HT:=zA htk
  have HM:=zA hm
  have hi1:(i:Int)<(l.length:Int):=by omega
  have hi2:(0:Int)≤(i:Int):=by omega
  have hlt:i*2+1<cur.size:=by omega
  clear hC hO hB hn hg hsz htk hm
  go_enter Tryz.func109,Tryz.ntmps109
  go_wp2_with (first | ((with_reducible refine gate_dst (N:=4) rfl ?_);refine box_event ?hg (N:=4) ?hd (cs:=#[.string s]) (t:=9) ?hr ?_;(case hd=>rfl);(case hg=>rfl);(case hr=>(go_simp;done));intro g5 hg w5 hbox b5;have R0:=zA hbox;have B5:=zA b5;have u0:w5.cell? ⟨g5,0,none⟩=some (.string s):=(blk_cell R0.out 0).trans rfl;clear hg hbox b5) | (go_at_call 56;(with_reducible refine (P1.out _ B5.out).mono ?_);rintro e w6 ⟨rfl,b6⟩;have B6:=zs B5 b6;have G6:=zA ((B6.out.block g hgw).trans HG.out);have u6:w6.cell? ⟨g,i*2+1,none⟩=cur[i*2+1]?:=cell_of_row w6 g _ cur _ _ G6.out;rw [Array.getElem?_eq_getElem hlt] at u6;have z6:w6.frozen? ⟨g,i*2+1,none⟩=false:=(by simp [World.frozen?,G6.out]);clear b6))
  go_ret
  rw [setCell_eq_setRow w6 g (i*2+1) cur _ (0,0) _ G6.out]
  refine ⟨_,rfl,?_,below_setRow (HB.out.trans (B6.out.mono HB.out.size)) hbg _⟩
  have hls:(l.set i ⟨(l[i]).f0,id⟩).length=l.length:=List.length_set ..
  rw [← hls]
  refine R_ofE ⟨cellsE_length _,.inr ⟨g,c,_,rfl,hbg,setRow_heap w6 g cur _ _ _ G6.out,by rw [hls];exact hlc,HM.out,by rw [Array.size_setIfInBounds];exact HZ.out,?_⟩⟩
  rw [hls,Array.toList_setIfInBounds,List.take_set,HT.out,cellsE_set]
theorem run_clear2 {P:Program} (w:World) (t e ty:TypeId) (z1 z2:Value) (ht:P.underlying t=some (.slice e)) (hv:∀ w,(zeroValue e).run P w=.ok (.agg #[z1,z2]) w) (hz:(Value.agg #[z1,z2]).cells=#[z1,z2]) (h1:z1.oneCell'=true) (h2:z2.oneCell'=true) (g o c:Nat) (cur:Array Value) (te:TypeId)
    (hg:w.heap[g]? = some (.cells cur te (0,0))) (hfit:o+2≤cur.size) :
    (Builtin.clear_ #[t] ty #[.slice (some ⟨g,o,none⟩) 1 c]).run P w=.ok (.tuple #[]) (w.setRow g (cur.toList.take o++[z1,z2]++cur.toList.drop (o+2)).toArray):=by
  have hst:=run_storeCells_at P g o te [z1,z2] 0 cur w hg (by simpa using hfit) (by simp [h1,h2])
  have hzc:(Builtin.zeroCells #[z1,z2] 1).toList=[z1,z2]:=by simp [Builtin.zeroCells,List.range,List.range.loop]
  simp [Builtin.clear_,run_underlying ht,hv,hz,hzc,hst]
theorem deleteE (g cap base:Nat) (l:List S47) (i j:Nat) (w:World) (hb:base≤g) (hO:w.ownsRow base 47 2 (.slice (some ⟨g,0,none⟩) l.length cap) l.length (cellsE l)) (hi:i<l.length) (hj:j=i+1) :
    Calls Tryz.prog 121 #[.slice (some ⟨g,0,none⟩) l.length cap,.int .i64 i,.int .i64 j] w fun e w'=>e=.returned (.slice (some ⟨g,0,none⟩) (l.length-1) cap)∧Kd.R k47 47 w' base (fun _=>True) (.slice (some ⟨g,0,none⟩) (l.length-1) cap) (l.eraseIdx i)∧∃ q cs,w'=(w.drewN q).setRow g cs:=by
  obtain ⟨hlen,⟨h,_⟩ | ⟨g2,cap2,cur,he,_,hg,hnc,hm,hsz,htk⟩⟩:=hO
  · cases h
  injection he with h1 _ h3
  injection h1 with h1
  injection h1 with h1
  subst h1 h3
  have ad:cap≤9223372036854775807:=hm
  obtain ⟨news,hnews⟩:∃ news,news=cellsE (l.drop j):=⟨_,rfl⟩
  have hnl:news.length=(l.length-j)*2:=by rw [hnews,cellsE_length,List.length_drop]
  have hcur:∀ j v,(cellsE l)[j]? = some v→w.cell? ⟨g,j,none⟩=some v:=fun j v hj=>by
    rw [← htk,List.getElem?_take] at hj
    split at hj
    · rw [cell_of_row w g j cur _ _ hg]
      rw [Array.getElem?_toList] at hj
      exact hj
    · cases hj
  have hsrc:∀ t v,news[t]? = some v→w.drew.cell? ⟨g,j*2+t,none⟩=some v:=fun t v ht=>by
    rw [hnews,← cellsE_drop,List.getElem?_drop] at ht
    exact hcur _ v ht
  have hn1:∀ u∈news,u.oneCell'=true:=by rw [hnews];exact cellsE_one _
  obtain ⟨A,hA,hsrcA⟩:∃ A:Addr,(if cap=j then some (⟨g,0,none⟩:Addr) else some ⟨g,j*2,none⟩)=some A∧Hid (∀ t u,news[t]? = some u→w.drew.cell? (A.add t)=some u):=by
    by_cases h:cap=j
    · refine ⟨⟨g,0,none⟩,by simp [h],fun t u hu=>?_⟩
      have h0:news=[]:=List.eq_nil_of_length_eq_zero (by rw [hnl];omega)
      rw [h0] at hu
      cases hu
    · refine ⟨⟨g,j*2,none⟩,by simp [h],fun t u hu=>?_⟩
      rw [Addr.add_lit]
      exact hsrc t u hu
  obtain ⟨i0,hi0,hz⟩:=Option.map_eq_some_iff.mp info47
  have hz1:i0.size=2:=congrArg (fun x=>x.2.1) hz
  have s1:Hid (news.length=(l.length-j)*2):=hnl
  have s2:Hid (∀ u∈news,u.oneCell'=true):=hn1
  have hgd:w.drew.heap[g]? = some (.cells cur 47 (0,0)):=hg
  have s3:Hid (∀ t,t<news.length→(w.drew.cell? ⟨g,0+i*2+t,none⟩).isSome=true∧w.drew.frozen? ⟨g,0+i*2+t,none⟩=false):=fun t ht=>by
    rw [hnl] at ht
    refine ⟨?_,by simp [World.frozen?,hgd]⟩
    rw [cell_of_row w.drew g _ cur _ _ hgd,Array.getElem?_eq_getElem (by omega)];rfl
  obtain ⟨W1,hW1⟩:∃ W1,W1=w.drew.setCells g (0+i*2) news:=⟨_,rfl⟩
  obtain ⟨aa,ab⟩:∃ aa,aa=(cur.toList.take (0+i*2)++news++cur.toList.drop (0+i*2+news.length)).toArray:=⟨_,rfl⟩
  have hW2:W1=w.drew.setRow g aa:=by rw [hW1,ab];exact setCells_row g 47 news (0+i*2) cur w.drew hgd (by rw [hnl];omega)
  have hg1:W1.heap[g]? = some (.cells aa 47 (0,0)):=by rw [hW2];exact setRow_heap w.drew g cur aa _ _ hgd
  have hs1:aa.size=cap*2:=by
    rw [ab,List.size_toArray,List.length_append,List.length_append,List.length_take,List.length_drop,Array.length_toList,hnl,hsz]
    omega
  have ht1:aa.toList.take ((l.length-1)*2)=cellsE (l.eraseIdx i):=by
    have e1:cur.toList.take (0+i*2)=cellsE (l.take i):=by
      rw [← cellsE_take,← htk,List.take_take,Nat.min_eq_left (by omega),Nat.zero_add]
    rw [ab,List.toList_toArray,e1,hnews,List.take_left' (by rw [List.length_append,cellsE_length,cellsE_length,List.length_take,List.length_drop];omega),← cellsE_append,List.eraseIdx_eq_take_drop_succ,hj]
  have hcl2:∀ ty,(Builtin.clear_ #[25] ty #[.slice (some ⟨g,(i+(l.length-j))*2,none⟩) (l.length-(i+(l.length-j))) (cap-(i+(l.length-j)))]).run Tryz.prog W1=.ok (.tuple #[]) (W1.setRow g (aa.toList.take ((i+(l.length-j))*2)++([Value.string ⟨#[]⟩,Value.int .i64 0]:List Value)++aa.toList.drop ((i+(l.length-j))*2+2)).toArray):=fun ty=>by
    rw [show l.length-(i+(l.length-j))=1 by omega]
    exact run_clear2 W1 _ 47 ty (.string ⟨#[]⟩) (.int .i64 0) Tryz.underlying25 (fun w=>Tryz.zeroValue47 w) rfl rfl rfl g ((i+(l.length-j))*2) _ aa _ hg1 (by rw [hs1];omega)
  have X:=zA hW2
  have X1:=zA ht1
  have X2:=zA hs1
  have X3:=zA hgd
  have hW:Hid (W1=w.drew.setCells g (0+i*2) news):=hW1
  have mixed:Tryz.prog.follows .mixedOrders=true:=by kernel_rfl
  have hic:i≤cap:=by omega
  have hjc:j≤cap:=by omega
  have hjl:j≤l.length:=by omega
  have hil:i≤l.length:=by omega
  have hijn:i≤j:=by omega
  have hne:¬ i=j:=by omega
  have HJ:=zA hj
  clear hj hi hsrc hn1 hnl hg htk hnews hsz hcur hlen hm hgd hW1 ab hW2 hg1 hs1 ht1 hz
  go_enter Tryz.func121,Tryz.ntmps121
  go_wp2_with fail
  go_region_law_o (refine step_append_room rfl (.tmp 22) (.tmp 25) 25 rfl 47 i0 2 Tryz.underlying25 hi0 hz1 g 0 i cap (by simp [Act.eval,Act.put]) A (l.length-j) (cap-j) news (by simp [Act.eval,Act.put,hA]) s1.out hsrcA.out s2.out (by omega) s3.out ?_;rw [← hW.out])
  go_wp2
  go_ret
  have hj:=HJ.out
  have ho:(i+(l.length-j))*2=(l.length-1)*2:=by omega
  have hE:(l.eraseIdx i).length=l.length-1:=List.length_eraseIdx_of_lt (by omega)
  rw [X.out,setRow_setRow]
  refine ⟨by rw [show l.length-1=i+(l.length-j) by omega];rfl,?_,1,_,rfl⟩
  rw [ho]
  rw [← hE]
  have hsz:=X2.out
  have htk:=X1.out
  have hLc:aa.toList.length=cap*2:=hsz
  refine R_ofE ⟨cellsE_length _,.inr ⟨g,cap,_,rfl,hb,setRow_heap w.drew g cur _ _ _ X3.out,by rw [hE];omega,ad,?_,?_⟩⟩
  · rw [List.size_toArray,List.length_append,List.length_take,List.length_cons,List.length_cons,List.length_drop,hLc,hE]
    omega
  · rw [List.toList_toArray,hE,List.take_left' (by rw [List.length_take,hLc];omega)]
    exact htk
theorem drop_yes (v:Value) (l:List S47) (s:ByteArray) (hs:s.size≤140737488355328) (w0 w:World) (hB:Below w0.heap.size w0 w) (hO:Kd.R k47 47 w w0.heap.size (fun _=>True) v l) (i:Nat) (hi:i<l.length) (hn:idxOf (fun x:S47=>x.f0.toList == s.toList) l 0=(i:Int)) (hk:nmOk s.data.toList=true) :
    Calls Tryz.prog 110 #[v,.string s] w fun e w'=>∃ v',e=.returned (.tuple #[v',.bool true])∧Kd.R k47 47 w' w0.heap.size (fun _=>True) v' (l.eraseIdx i)∧Below w0.heap.size w0 w':=by
  obtain ⟨A,c0,hv0,hlc0,hC⟩:=Kd.R_reads hO
  obtain ⟨_,⟨_,hl0⟩ | ⟨g,c,cur,rfl,hbg,hg,hlc,hm,hsz,htk⟩⟩:=ownE hO
  · omega
  injection hv0 with h1 _ h3
  subst h1 h3
  have P1:=zA (fun (w1:World) (hb:Below w.heap.size w w1)=>(by rw [← hn];exact impl_placeOf.calls (some ⟨g,0,none⟩) c l s _ w1 (Kd.C_below hC hb) hlc rfl:Calls Tryz.prog 56 #[.slice (some ⟨g,0,none⟩) l.length c,.string s] w1 fun e w'=>e=.returned (.int .i64 (i:Int))∧Below w1.heap.size w1 w'))
  have P2:=zA (fun (w1:World)=>(by rw [← hk];exact nameOk_any s hs w1:Calls Tryz.prog 58 #[.string s] w1 fun e w'=>e=.returned (.bool true)∧∃ q,w'=w1.drewN q))
  have P3:=zA (fun (w1:World) (hb:Below w.heap.size w w1)=>deleteE g c w0.heap.size l i (i+1) w1 hbg (ownE (Kd.R_below hO hb)) hi rfl)
  have HB:=zA hB
  have hj:IntKind.i64.wrap ((i:Int)+1)=((i+1:Nat):Int):=by
    have:l.length≤9223372036854775807:=hC.2.1
    rw [IntKind.wrap_i64];omega
  have hi3:decide ((i:Int)<0)=false:=zf (by omega)
  have B0:=zA (Below.refl w.heap.size w)
  have HBG:=zA hbg
  clear hC hO hB hn hg hsz htk hm hk
  go_enter Tryz.func110,Tryz.ntmps110
  go_wp2_with (first | (go_at_call 56;(with_reducible refine (P1.out _ B0.out).mono ?_);rintro e w6 ⟨rfl,b6⟩;have B6:=zA b6;clear b6) | (go_at_call 58;(with_reducible refine (P2.out _).mono ?_);rintro e w7 ⟨rfl,q7,rfl⟩;have B7:=zA (pw_below_drewN B6.out q7)) | (go_at_call 121;refine (P3.out _ B7.out).mono ?_;rintro e w8 ⟨rfl,o8,q8,cs8,rfl⟩;have O8:=zA o8;clear o8))
  go_ret2
  rw [← World.drewN_drewN]
  exact ⟨_,rfl,O8.out,below_setRow (pw_below_drewN (pw_below_drewN (HB.out.trans (B6.out.mono HB.out.size)) q7) q8) HBG.out _⟩
theorem drop_no (v:Value) (l:List S47) (s:ByteArray) (hs:s.size≤140737488355328) (w0 w:World) (hB:Below w0.heap.size w0 w) (hO:Kd.R k47 47 w w0.heap.size (fun _=>True) v l) (hn:idxOf (fun x:S47=>x.f0.toList == s.toList) l 0<0∨nmOk s.data.toList=false) :
    Calls Tryz.prog 110 #[v,.string s] w fun e w'=>e=.returned (.tuple #[.slice none 0 0,.bool false])∧Below w0.heap.size w0 w':=by
  obtain ⟨A,c,rfl,hlc,hC⟩:=Kd.R_reads hO
  have P1:=zA (fun (w1:World) (hb:Below w.heap.size w w1)=>(impl_placeOf.calls A c l s _ w1 (Kd.C_below hC hb) hlc rfl:Calls Tryz.prog 56 #[.slice A l.length c,.string s] w1 fun e w'=>e=.returned (.int .i64 (idxOf (fun x:S47=>x.f0.toList == s.toList) l 0))∧Below w1.heap.size w1 w'))
  have P2:=zA (fun (w1:World)=>(nameOk_any s hs w1:Calls Tryz.prog 58 #[.string s] w1 fun e w'=>e=.returned (.bool (nmOk s.data.toList))∧∃ q,w'=w1.drewN q))
  have HB:=zA hB
  have B0:=zA (Below.refl w.heap.size w)
  generalize idxOf (fun x:S47=>x.f0.toList == s.toList) l 0=i at hn P1
  generalize nmOk s.data.toList=b at hn P2
  clear hC hO hB
  by_cases hi:i<0
  · have hi3:decide (i<0)=true:=zt hi
    clear hn P2
    go_enter Tryz.func110,Tryz.ntmps110
    go_wp2_with ((go_at_call 56;(with_reducible refine (P1.out _ B0.out).mono ?_);rintro e w6 ⟨rfl,b6⟩;have B6:=zA b6;clear b6))
    go_ret2
    exact ⟨rfl,HB.out.trans (B6.out.mono HB.out.size)⟩
  · have hi3:decide (i<0)=false:=zf hi
    obtain rfl:b=false:=hn.resolve_left hi
    clear hn hi
    go_enter Tryz.func110,Tryz.ntmps110
    go_wp2_with (first | (go_at_call 56;(with_reducible refine (P1.out _ B0.out).mono ?_);rintro e w6 ⟨rfl,b6⟩;have B6:=zA b6;clear b6) | (go_at_call 58;(with_reducible refine (P2.out _).mono ?_);rintro e w7 ⟨rfl,q7,rfl⟩))
    go_ret2
    exact ⟨rfl,pw_below_drewN (HB.out.trans (B6.out.mono HB.out.size)) q7⟩
theorem putI_old (l:List S47) (s:ByteArray) (id:Int) (h:¬ idxOf (isName s) l 0<0):∃ (i:Nat) (hi:i<l.length),idxOf (isName s) l 0=(i:Int)∧putI l s id=l.set i ⟨(l[i]).f0,id⟩:=by
  have hr:=ix_range (isName s) l 0
  have h2:(idxOf (isName s) l 0).toNat<l.length:=by omega
  refine ⟨(idxOf (isName s) l 0).toNat,h2,by omega,?_⟩
  unfold putI
  rw [if_neg h]
  unfold rd_T47
  rw [List.getD_eq_getElem?_getD,List.getElem?_eq_getElem h2];rfl
theorem put_any (v:Value) (l:List S47) (s:ByteArray) (id:Int) (w0 w:World) (hB:Below w0.heap.size w0 w) (hO:Kd.R k47 47 w w0.heap.size (fun _=>True) v l) (hbig:(l.length+1)*24≤140737488355328) :
    Calls Tryz.prog 109 #[v,.string s,.int .i64 id] w fun e w'=>∃ v',e=.returned v'∧Kd.R k47 47 w' w0.heap.size (fun _=>True) v' (putI l s id)∧Below w0.heap.size w0 w':=by
  by_cases h:idxOf (isName s) l 0<0
  · exact put_new v l s id w0 w hB hO hbig h
  · obtain ⟨i,hi,hn,he⟩:=putI_old l s id h
    rw [he]
    exact put_old v l s id w0 w hB hO i hi hn
def dropR (l:List S47) (s:ByteArray):List S47×Bool:=if 0≤idxOf (isName s) l 0∧nmOk s.data.toList=true then (l.eraseIdx (idxOf (isName s) l 0).toNat,true) else ([],false)
theorem dropR_length (l:List S47) (s:ByteArray):(dropR l s).1.length≤l.length:=by
  unfold dropR
  split
  · exact List.length_eraseIdx_le ..
  · exact Nat.zero_le _
theorem drop_any (v:Value) (l:List S47) (s:ByteArray) (hs:s.size≤140737488355328) (w0 w:World) (hB:Below w0.heap.size w0 w) (hO:Kd.R k47 47 w w0.heap.size (fun _=>True) v l) :
    Calls Tryz.prog 110 #[v,.string s] w fun e w'=>∃ v',e=.returned (.tuple #[v',.bool (dropR l s).2])∧Kd.R k47 47 w' w0.heap.size (fun _=>True) v' (dropR l s).1∧Below w0.heap.size w0 w':=by
  have hr:=ix_range (isName s) l 0
  unfold dropR
  by_cases h:0≤idxOf (isName s) l 0∧nmOk s.data.toList=true
  · rw [if_pos h]
    exact drop_yes v l s hs w0 w hB hO (idxOf (isName s) l 0).toNat (by omega) (by show idxOf (isName s) l 0=_;omega) h.2
  · rw [if_neg h]
    refine (drop_no v l s hs w0 w hB hO ?_).mono ?_
    · by_cases h1:0≤idxOf (isName s) l 0
      · exact .inr (by cases hk:nmOk s.data.toList with | true=>exact absurd ⟨h1,hk⟩ h | false=>rfl)
      · exact .inl (by show idxOf (isName s) l 0<0;omega)
    · rintro e w' ⟨rfl,hb⟩
      exact ⟨_,rfl,Kd.R_nil _ _ _ _ _,hb⟩
def entryAt (l:List S47) (s:ByteArray):Int:=if idxOf (isName s) l 0<0 then 0 else (rd_T47 l (idxOf (isName s) l 0)).f1
theorem entryAt_any (A:Option Addr) (c:Nat) (l:List S47) (s:ByteArray) (w:World) (hC:Kd.C k47 w A l.length l) (hlc:l.length≤c) :
    Calls Tryz.prog 111 #[.slice A l.length c,.string s] w fun e w'=>e=.returned (.int .i64 (entryAt l s))∧Below w.heap.size w w':=by
  have hr:=ix_range (isName s) l 0
  have P1:=zA (fun (w1:World) (hb:Below w.heap.size w w1)=>(impl_placeOf.calls A c l s _ w1 (Kd.C_below hC hb) hlc rfl:Calls Tryz.prog 56 #[.slice A l.length c,.string s] w1 fun e w'=>e=.returned (.int .i64 (idxOf (isName s) l 0))∧Below w1.heap.size w1 w'))
  have HC:=zA hC
  have B0:=zA (Below.refl w.heap.size w)
  unfold entryAt
  generalize idxOf (isName s) l 0=i at hr P1
  clear hC
  by_cases hi:i<0
  · have hi3:decide (i<0)=true:=zt hi
    rw [if_pos hi]
    go_enter Tryz.func111,Tryz.ntmps111
    go_wp2_with ((go_at_call 56;(with_reducible refine (P1.out _ B0.out).mono ?_);rintro e w6 ⟨rfl,b6⟩;have B6:=zA b6;clear b6))
    go_ret
    exact ⟨rfl,B6.out⟩
  · have hi3:decide (i<0)=false:=zf hi
    have hi0:0≤i:=by omega
    have hil:i<(l.length:Int):=by omega
    rw [if_neg hi]
    clear hr
    go_enter Tryz.func111,Tryz.ntmps111
    go_wp2_with ((go_at_call 56;(with_reducible refine (P1.out _ B0.out).mono ?_);rintro e w6 ⟨rfl,b6⟩;have B6:=zA b6;obtain ⟨ad,rfl,hx0,hx1⟩:=at_T47 (Kd.C_below HC.out b6) i hi0 hil;clear b6))
    go_ret
    exact ⟨rfl,B6.out⟩
def cutAt (c:UInt8):List UInt8→Option (List UInt8×List UInt8)
  | []=>none
  | x :: l=>if x=c then some ([],l) else (cutAt c l).map fun p=>(x :: p.1,p.2)
theorem cutAt_index (c:UInt8):∀ l:List UInt8,(cutAt c l=none∧Lib.indexByte l c = -1)∨∃ i:Nat,i<l.length∧Lib.indexByte l c=i∧cutAt c l=some (l.take i,l.drop (i+1))
  | []=>.inl ⟨rfl,rfl⟩
  | x :: l=>by
    by_cases h:x=c
    · refine .inr ⟨0,by rw [List.length_cons];omega,?_,?_⟩
      · rw [Lib.indexByte,if_pos (beq_iff_eq.mpr h)];rfl
      · rw [cutAt,if_pos h];rfl
    · have hb:¬ (x == c)=true:=fun e=>h (beq_iff_eq.mp e)
      rcases cutAt_index c l with ⟨h1,h2⟩ | ⟨i,hi,h1,h2⟩
      · refine .inl ⟨by rw [cutAt,if_neg h,h1];rfl,?_⟩
        rw [Lib.indexByte,if_neg hb,h2];rfl
      · refine .inr ⟨i+1,by rw [List.length_cons];omega,?_,?_⟩
        · have hne:¬ ((i:Int) == -1)=true:=by
            intro e
            have:=beq_iff_eq.mp e
            omega
          rw [Lib.indexByte,if_neg hb,h1,if_neg hne];rfl
        · rw [cutAt,if_neg h,h2];rfl
theorem index_any (s:ByteArray) (w:World):Calls Tryz.prog 123 #[.string s,.string ⟨#[58]⟩] w fun e w'=>e=.returned (.int .i64 (Lib.indexByte s.data.toList 58))∧∃ q,w'=w.drewN q:=by
  have hi:=fun w=>Any.stringslite_IndexByte Tryz.lays217 s 58 w
  replace hi:∀ w,Calls Tryz.prog 132 #[.string s,.int .u8 58] w fun e w'=>e=.returned (.int .i64 (Lib.indexByte s.data.toList 58))∧w'=w:=hi
  have HI:=zA hi
  clear hi
  by_cases hs:([58]:List UInt8)=s.toList
  · have h0:Lib.indexByte s.data.toList 58=0:=by rw [← Lib.toList_data,← hs];rfl
    have hs2:s.toList=[58]:=hs.symm
    rw [h0]
    clear hs h0
    go_enter Tryz.func123,Tryz.ntmps123
    go_wp2
    go_ret
    exact ⟨rfl,0,rfl⟩
  · have hb:(([58]:List UInt8) == s.toList)=false:=beq_eq_false_iff_ne.mpr hs
    go_enter Tryz.func123,Tryz.ntmps123
    go_wp2_with ((go_at_call 132;refine (HI.out _).mono ?_;rintro e w' ⟨rfl,rfl⟩))
    go_ret
    exact ⟨rfl,0,rfl⟩
def cutR (s:ByteArray):ByteArray×ByteArray×Bool:=match cutAt 58 s.data.toList with | none=>(s,⟨#[]⟩,false) | some p=>(⟨p.1.toArray⟩,⟨p.2.toArray⟩,true)
theorem cut1 (s:ByteArray) (hs:s.size≤140737488355328) (w:World):Calls Tryz.prog 117 #[.string s,.string ⟨#[58]⟩] w fun e w'=>e=.returned (.tuple #[.string (cutR s).1,.string (cutR s).2.1,.bool (cutR s).2.2])∧∃ q,w'=w.drewN q:=by
  have hl:s.data.toList.length=s.size:=Array.length_toList
  have hi:=fun w=>index_any s w
  rcases cutAt_index 58 s.data.toList with ⟨h1,h2⟩ | ⟨i,hi2,h1,h2⟩
  · rw [h2] at hi
    have hc:cutR s=(s,⟨#[]⟩,false):=by unfold cutR;rw [h1]
    rw [hc]
    have HI:=zA hi
    clear hi h1 h2 hc
    go_enter Tryz.func117,Tryz.ntmps117
    go_wp2_with ((go_at_call 123;refine (HI.out _).mono ?_;rintro e w' ⟨rfl,q,rfl⟩))
    all_goals go_ret3
    exact ⟨rfl,_,rfl⟩
  · rw [h1] at hi
    have hc:cutR s=(s.extract 0 i,s.extract (i+1) s.size,true):=by
      unfold cutR;rw [h2]
      refine Prod.ext ?_ (Prod.ext ?_ rfl)
      · apply ByteArray.ext;apply Array.ext'
        rw [ByteArray.data_extract,Array.toList_extract];rfl
      · apply ByteArray.ext;apply Array.ext'
        rw [ByteArray.data_extract,Array.toList_extract]
        show s.data.toList.drop (i+1)=(s.data.toList.drop (i+1)).take (s.size-(i+1))
        rw [List.take_of_length_le (by rw [List.length_drop,hl];exact Nat.le_refl _)]
    rw [hc]
    have hw1:IntKind.i64.wrap ((i:Int)+1)=(i:Int)+1:=by rw [IntKind.wrap_i64];omega
    have htn:((i:Int)+1).toNat=i+1:=by omega
    have hb1:(i:Int)≤(s.size:Int):=by omega
    have hb2:(i:Int)+1≤(s.size:Int):=by omega
    have hb3:(0:Int)≤(i:Int)+1:=by omega
    have HI:=zA hi
    clear hi h1 h2 hc
    go_enter Tryz.func117,Tryz.ntmps117
    go_wp2_with ((go_at_call 123;refine (HI.out _).mono ?_;rintro e w' ⟨rfl,q,rfl⟩))
    go_quiet (fail)
    go_wp2
    all_goals go_ret3
    exact ⟨by simp,_,World.drewN_drewN _ _ _⟩
theorem cut_any (s:ByteArray) (hs:s.size≤140737488355328) (w:World):Calls Tryz.prog 107 #[.string s,.string ⟨#[58]⟩] w fun e w'=>e=.returned (.tuple #[.string (cutR s).1,.string (cutR s).2.1,.bool (cutR s).2.2])∧∃ q,w'=w.drewN q:=by
  have HI:=zA (fun w=>cut1 s hs w)
  generalize cutR s=c at HI ⊢
  go_enter Tryz.func107,Tryz.ntmps107
  go_wp2_with ((go_at_call 117;refine (HI.out _).mono ?_;rintro e w' ⟨rfl,q,rfl⟩))
  all_goals go_ret3
  exact ⟨rfl,_,rfl⟩
theorem cutAt_length (c:UInt8):∀ (l:List UInt8) p,cutAt c l=some p→p.1.length≤l.length∧p.2.length≤l.length
  | [],_,h=>by cases h
  | x :: l,p,h=>by
    rw [cutAt] at h
    split at h
    · obtain rfl:=Option.some.inj h
      simp
    · obtain ⟨q,hq,rfl⟩:=Option.map_eq_some_iff.mp h
      have:=cutAt_length c l q hq
      simp only [List.length_cons]
      omega
theorem cutR_size (s:ByteArray):(cutR s).1.size≤s.size∧(cutR s).2.1.size≤s.size:=by
  have hl:s.data.toList.length=s.size:=Array.length_toList
  unfold cutR
  split
  · exact ⟨Nat.le_refl _,Nat.zero_le _⟩
  · next p hp=>
    have h:=cutAt_length 58 _ p hp
    rw [hl] at h
    exact ⟨by show p.1.toArray.size≤_;rw [List.size_toArray];exact h.1,by show p.2.toArray.size≤_;rw [List.size_toArray];exact h.2⟩
def stepR (rd:ByteArray→Int×Bool) (l:List S47) (s:ByteArray):List S47×Bool:=
  if s.size=0 then ([],false) else
  if s.get! 0=43 then (if (cutR (s.extract 1 s.size)).2.2=true∧(rd (cutR (s.extract 1 s.size)).2.1).2=true∧nmOk (cutR (s.extract 1 s.size)).1.data.toList=true then (putI l (cutR (s.extract 1 s.size)).1 (rd (cutR (s.extract 1 s.size)).2.1).1,true) else ([],false)) else
  if s.get! 0=45 then dropR l (s.extract 1 s.size) else
  if s.get! 0=62 then (if (cutR (s.extract 1 s.size)).2.2=true∧(dropR l (cutR (s.extract 1 s.size)).1).2=true∧nmOk (cutR (s.extract 1 s.size)).2.1.data.toList=true∧((cutR (s.extract 1 s.size)).1.toList == (cutR (s.extract 1 s.size)).2.1.toList)=false then (putI (dropR l (cutR (s.extract 1 s.size)).1).1 (cutR (s.extract 1 s.size)).2.1 (entryAt l (cutR (s.extract 1 s.size)).1),true) else ([],false)) else ([],false)
theorem stepDone_any (rd:ByteArray→Int×Bool) (A:Option Addr) (c:Nat) (l:List S47) (s:ByteArray) (w:World) (hC:Kd.C k47 w A l.length l) (hlc:l.length≤c) (hs:s.size≤140737488355328) (hbig:(l.length+1)*24≤140737488355328) (hRD:s.get! 0=43→∀ w1,Below w.heap.size w w1→Calls Tryz.prog 108 #[.string (cutR (s.extract 1 s.size)).2.1] w1 fun e w'=>e=.returned (.tuple #[.int .i64 (rd (cutR (s.extract 1 s.size)).2.1).1,.bool (rd (cutR (s.extract 1 s.size)).2.1).2])∧Below w1.heap.size w1 w') :
    Calls Tryz.prog 89 #[.slice A l.length c,.string s] w fun e w'=>∃ v,e=.returned (.tuple #[v,.bool (stepR rd l s).2])∧Kd.R k47 47 w' w.heap.size (fun _=>True) v (stepR rd l s).1∧Below w.heap.size w w':=by
  have hl:s.data.toList.length=s.size:=Array.length_toList
  unfold stepR
  by_cases h0:s.size=0
  · rw [if_pos h0]
    have h1:s.toList=[]:=by rw [Lib.toList_data];exact List.eq_nil_of_length_eq_zero (by rw [hl];exact h0)
    have h2:s.toList.isEmpty=true:=by rw [h1];rfl
    clear hRD hC h1
    go_enter Tryz.func89,Tryz.ntmps89
    go_wp2
    go_ret2
    exact ⟨_,rfl,Kd.R_nil _ _ _ _ _,Below.refl _ _⟩
  rw [if_neg h0]
  have hne:¬ s.toList=[]:=by rw [Lib.toList_data];intro e;rw [e] at hl;exact h0 hl.symm
  have hie:s.toList.isEmpty=false:=by cases h:s.toList with | nil=>exact absurd h hne | cons _ _=>rfl
  have hu:(s.extract 1 s.size).size≤s.size:=by rw [ByteArray.size_extract];omega
  have hcs:=cutR_size (s.extract 1 s.size)
  have HC:=zA (fun w=>cut_any (s.extract 1 s.size) (Nat.le_trans hu hs) w)
  generalize cutR (s.extract 1 s.size)=q at hcs HC hRD ⊢
  obtain ⟨nm,rs,has⟩:=q
  replace HC:Aside0 (∀ w,Calls Tryz.prog 107 #[.string (s.extract 1 s.size),.string ⟨#[58]⟩] w fun e w'=>e=.returned (.tuple #[.string nm,.string rs,.bool has])∧∃ q,w'=w.drewN q):=HC
  replace hcs:nm.size≤(s.extract 1 s.size).size∧rs.size≤(s.extract 1 s.size).size:=hcs
  have HL:=zA (fun (w1:World) (hb:Below w.heap.size w w1)=>cloneE A c l w1 (Kd.C_below hC hb) (by omega))
  have B0:=zA (Below.refl w.heap.size w)
  have hpos:0<s.size:=by omega
  have hby:s.get! 0=s[0]'hpos:=by show s.data[0]! = s.data[0];rw [getElem!_pos]
  rw [hby] at hRD ⊢
  have cmp:∀ n:UInt8,(((s[0]'hpos).toNat:Int) == (n.toNat:Int))=decide (s[0]'hpos=n):=fun n=>by
    by_cases h:s[0]'hpos=n
    · rw [h,zt rfl,beq_self_eq_true]
    · rw [zf h]
      exact beq_eq_false_iff_ne.mpr fun e=>h (UInt8.toNat_inj.mp (Int.ofNat_inj.mp e))
  have c43:=cmp 43
  have c45:=cmp 45
  have c62:=cmp 62
  replace c43:(((s[0]'hpos).toNat:Int) == 43)=decide (s[0]'hpos=43):=c43
  replace c45:(((s[0]'hpos).toNat:Int) == 45)=decide (s[0]'hpos=45):=c45
  replace c62:(((s[0]'hpos).toNat:Int) == 62)=decide (s[0]'hpos=62):=c62
  clear cmp hby
  by_cases h43:s[0]'hpos=43
  · rw [if_pos h43]
    rw [zt h43] at c43
    have HD:=zA (fun (w1:World) (hb:Below w.heap.size w w1)=>hRD h43 w1 hb)
    replace HD:Aside0 (∀ w1,Below w.heap.size w w1→Calls Tryz.prog 108 #[.string rs] w1 fun e w'=>e=.returned (.tuple #[.int .i64 (rd rs).1,.bool (rd rs).2])∧Below w1.heap.size w1 w'):=HD
    clear c45 c62 h43
    have HN:=zA (fun (w1:World)=>nameOk_any nm (by omega) w1)
    have HP:=zA (fun (v:Value) (i:Int) (w1:World) (hb:Below w.heap.size w w1) (hO:Kd.R k47 47 w1 w.heap.size (fun _=>True) v l)=>put_any v l nm i w w1 hb hO hbig)
    generalize rd rs=rr at HD
    obtain ⟨id,okd⟩:=rr
    replace HD:Aside0 (∀ w1,Below w.heap.size w w1→Calls Tryz.prog 108 #[.string rs] w1 fun e w'=>e=.returned (.tuple #[.int .i64 id,.bool okd])∧Below w1.heap.size w1 w'):=HD
    generalize nmOk nm.data.toList=okn at HN
    clear hRD hC
    go_enter Tryz.func89,Tryz.ntmps89
    cases has <;> cases okd <;> cases okn
    all_goals go_wp2_with (first | (go_at_call 107;refine (HC.out _).mono ?_;rintro e w1 ⟨rfl,q1,rfl⟩;have B1:=zA (pw_below_drewN B0.out q1)) | (go_at_call 83;refine (HL.out _ B1.out).mono ?_;rintro e w2 ⟨v2,rfl,o2,b2⟩;have O2:Aside0 (Kd.R k47 47 w2 w.heap.size (fun _=>True) v2 l):=⟨o2⟩;have B2:=zs B1 b2;clear o2 b2) | (go_at_call 108;refine (HD.out _ B2.out).mono ?_;rintro e w3 ⟨rfl,b3⟩;have O3:=zA (Kd.R_below O2.out b3);have B3:=zs B2 b3;clear b3) | (go_at_call 58;refine (HN.out _).mono ?_;rintro e w4 ⟨rfl,q4,rfl⟩;have O4:=zA (Kd.R_below O3.out (pw_below_drewN (Below.refl _ _) q4));have B4:=zA (pw_below_drewN B3.out q4)) | (go_at_call 109;refine (HP.out _ _ _ B4.out O4.out).mono ?_;rintro e w5 ⟨v5,rfl,o5,b5⟩;have O5:=zA o5;have B5:=zA b5;clear o5 b5))
    all_goals go_ret2
    all_goals first | exact ⟨_,rfl,O5.out,B5.out⟩ | exact ⟨_,rfl,Kd.R_nil _ _ _ _ _,B4.out⟩ | exact ⟨_,rfl,Kd.R_nil _ _ _ _ _,B3.out⟩
  rw [if_neg h43]
  rw [zf h43] at c43
  by_cases h45:s[0]'hpos=45
  · rw [if_pos h45]
    rw [zt h45] at c45
    clear c62 h43 h45
    have HD:=zA (fun (v:Value) (w1:World) (hb:Below w.heap.size w w1) (hO:Kd.R k47 47 w1 w.heap.size (fun _=>True) v l)=>drop_any v l (s.extract 1 s.size) (Nat.le_trans hu hs) w w1 hb hO)
    generalize dropR l (s.extract 1 s.size)=rr at HD
    clear hRD hC
    go_enter Tryz.func89,Tryz.ntmps89
    go_wp2_with (first | (go_at_call 107;refine (HC.out _).mono ?_;rintro e w1 ⟨rfl,q1,rfl⟩;have B1:=zA (pw_below_drewN B0.out q1)) | (go_at_call 83;refine (HL.out _ B1.out).mono ?_;rintro e w2 ⟨v2,rfl,o2,b2⟩;have O2:Aside0 (Kd.R k47 47 w2 w.heap.size (fun _=>True) v2 l):=⟨o2⟩;have B2:=zs B1 b2;clear o2 b2) | (go_at_call 110;refine (HD.out _ _ B2.out O2.out).mono ?_;rintro e w5 ⟨v5,rfl,o5,b5⟩;have O5:=zA o5;have B5:=zA b5;clear o5 b5))
    go_ret2
    exact ⟨_,rfl,O5.out,B5.out⟩
  rw [if_neg h45]
  rw [zf h45] at c45
  by_cases h62:s[0]'hpos=62
  · rw [if_pos h62]
    rw [zt h62] at c62
    clear h43 h45 h62
    have hdl:=dropR_length l nm
    have HE:=zA (fun (w1:World) (hb:Below w.heap.size w w1)=>entryAt_any A c l nm w1 (Kd.C_below hC hb) hlc)
    have HD:=zA (fun (v:Value) (w1:World) (hb:Below w.heap.size w w1) (hO:Kd.R k47 47 w1 w.heap.size (fun _=>True) v l)=>drop_any v l nm (by omega) w w1 hb hO)
    have HN:=zA (fun (w1:World)=>nameOk_any rs (by omega) w1)
    generalize entryAt l nm=id at HE
    generalize dropR l nm=rr at HD hdl
    obtain ⟨l2,okd⟩:=rr
    replace hdl:l2.length≤l.length:=hdl
    replace HD:Aside0 (∀ (v:Value) (w1:World),Below w.heap.size w w1→Kd.R k47 47 w1 w.heap.size (fun _=>True) v l→Calls Tryz.prog 110 #[v,.string nm] w1 fun e w'=>∃ v',e=.returned (.tuple #[v',.bool okd])∧Kd.R k47 47 w' w.heap.size (fun _=>True) v' l2∧Below w.heap.size w w'):=HD
    have HP:=zA (fun (v:Value) (i:Int) (w1:World) (hb:Below w.heap.size w w1) (hO:Kd.R k47 47 w1 w.heap.size (fun _=>True) v l2)=>put_any v l2 rs i w w1 hb hO (by omega))
    generalize nmOk rs.data.toList=okn at HN
    obtain ⟨eq,heq⟩:∃ b,(nm.toList == rs.toList)=b:=⟨_,rfl⟩
    rw [heq]
    clear hRD hC
    go_enter Tryz.func89,Tryz.ntmps89
    cases has <;> cases okd <;> cases okn <;> cases eq
    all_goals go_wp2_with (first | (go_at_call 107;refine (HC.out _).mono ?_;rintro e w1 ⟨rfl,q1,rfl⟩;have B1:=zA (pw_below_drewN B0.out q1)) | (go_at_call 83;refine (HL.out _ B1.out).mono ?_;rintro e w2 ⟨v2,rfl,o2,b2⟩;have O2:Aside0 (Kd.R k47 47 w2 w.heap.size (fun _=>True) v2 l):=⟨o2⟩;have B2:=zs B1 b2;clear o2 b2) | (go_at_call 111;refine (HE.out _ B2.out).mono ?_;rintro e w3 ⟨rfl,b3⟩;have O3:=zA (Kd.R_below O2.out b3);have B3:=zs B2 b3;clear b3) | (go_at_call 110;refine (HD.out _ _ B3.out O3.out).mono ?_;rintro e w4 ⟨v4,rfl,o4,b4⟩;have O4:=zA o4;have B4:=zA b4;clear o4 b4) | (go_at_call 58;refine (HN.out _).mono ?_;rintro e w5 ⟨rfl,q5,rfl⟩;have O5:=zA (Kd.R_below O4.out (pw_below_drewN (Below.refl _ _) q5));have B5:=zA (pw_below_drewN B4.out q5)) | (go_at_call 109;refine (HP.out _ _ _ B5.out O5.out).mono ?_;rintro e w6 ⟨v6,rfl,o6,b6⟩;have O6:=zA o6;have B6:=zA b6;clear o6 b6))
    all_goals go_ret2
    all_goals first | exact ⟨_,rfl,O6.out,B6.out⟩ | exact ⟨_,rfl,Kd.R_nil _ _ _ _ _,B5.out⟩ | exact ⟨_,rfl,Kd.R_nil _ _ _ _ _,B4.out⟩
  · rw [if_neg h62]
    rw [zf h62] at c62
    clear h43 h45 h62 hRD hC
    go_enter Tryz.func89,Tryz.ntmps89
    go_wp2_with (first | (go_at_call 107;refine (HC.out _).mono ?_;rintro e w1 ⟨rfl,q1,rfl⟩;have B1:=zA (pw_below_drewN B0.out q1)) | (go_at_call 83;refine (HL.out _ B1.out).mono ?_;rintro e w2 ⟨v2,rfl,o2,b2⟩;have O2:Aside0 (Kd.R k47 47 w2 w.heap.size (fun _=>True) v2 l):=⟨o2⟩;have B2:=zs B1 b2;clear o2 b2))
    go_ret2
    exact ⟨_,rfl,Kd.R_nil _ _ _ _ _,B2.out⟩
def impl_stepDone.f (l0:List S47) (a1:ByteArray):Option (List S47×Bool):=if a1.size≤140737488355328∧(l0.length+1)*24≤140737488355328 then (if a1.get! 0=43 then (impl_ReadDecimal.f (cutR (a1.extract 1 a1.size)).2.1).bind fun q=>some (stepR (fun _=>q) l0 a1) else some (stepR (fun _=>(0,false)) l0 a1)) else none
theorem impl_stepDone.calls (A0:Option Addr) (c0:Nat) (l0:List S47) (a1:ByteArray) (r1:List S47) (r2:Bool) (w:World) (hr0:Kd.C k47 w A0 l0.length l0) (hc0:l0.length≤c0) (hTE:TabsE w) (hTP:TabsP w) (h:impl_stepDone.f l0 a1=some (r1,r2)) :
    Calls Tryz.prog 89 #[.slice A0 l0.length c0,.string a1] w fun e w'=>∃ v0_:Value,e=.returned (.tuple #[v0_,.bool r2])∧Kd.R k47 47 w' w.heap.size (fun _=>True) v0_ r1∧Below w.heap.size w w':=by
  unfold impl_stepDone.f at h
  by_cases hz:a1.size≤140737488355328∧(l0.length+1)*24≤140737488355328
  · rw [if_pos hz] at h
    by_cases h43:a1.get! 0=43
    · rw [if_pos h43] at h
      obtain ⟨q,hq,h⟩:=zo h
      have he:=Option.some.inj h
      have hd:=stepDone_any (fun _=>q) A0 c0 l0 a1 w hr0 hc0 hz.1 hz.2 (fun _ w1 hb=>impl_ReadDecimal.calls _ q.1 q.2 w1 (hTE.below hb) (hTP.below hb) hq)
      rw [he] at hd
      exact hd
    · rw [if_neg h43] at h
      have he:=Option.some.inj h
      have hd:=stepDone_any (fun _=>(0,false)) A0 c0 l0 a1 w hr0 hc0 hz.1 hz.2 (fun e=>absurd e h43)
      rw [he] at hd
      exact hd
  · rw [if_neg hz] at h;cases h
end Go.Proofs.YtokcccejijmkmaaGreatDoor.MFnDeeds
