/- Each theorem here says that a call of one Go function answers what the Lean function beside it answers; its conditions stand in it. Written by a program of this session. -/
import Derived.Test.YtokcccejijmkmaaGreatDoorMFnDeedsx0
import Derived.Test.YtokcccejijmkmaaGreatDoorMFnDeedsx10
import Derived.Test.YtokcccejijmkmaaGreatDoorMFnDeedsx14
import Derived.Test.YtokcccejijmkmaaGreatDoorMFnDeedsx15
import Derived.Test.YtokcccejijmkmaaGreatDoorMFnDeedsx16
import Derived.Test.YtokcccejijmkmaaGreatDoorMFnDeedsx17
import Derived.Test.YtokcccejijmkmaaGreatDoorMFnDeedsx18
namespace Go.Proofs.YtokcccejijmkmaaGreatDoor.MFnDeeds
set_option maxHeartbeats 4000000
set_option maxRecDepth 100000
open Go.RowKit Go.Proofs.YtokcccejijmkmaaGreatDoorW.PrintWords Go.Proofs.YtokcccejijmkmaaGreatDoorW.PrintLast Go.Proofs.YtokcccejijmkmaaGreatDoorW.PrintMore
attribute [local go_sem] max2_int min2_int max_two min_two max_three min_three max_four min_four
set_option linter.unusedVariables false
set_option linter.unusedSimpArgs false
def UsedMap (w:World) (B:Nat) (S:Int→Bool):Prop:=∃ es clock,w.heap[B]? = some (.map es clock)∧(∀ x∈es.toList,∃ a:Int,x.key=.int .i64 a∧x.val=.bool true)∧∀ a:Int,S a=true↔∃ x∈es.toList,x.key=.int .i64 a
theorem used_new (w:World):UsedMap (w.alloc (.map #[] 0)) w.heap.size (fun _=>false):=
  ⟨#[],0,(Go.MapKept.heap_alloc w _).1,(fun x hx=>by simp at hx),fun a=>⟨(fun h=>by cases h),fun ⟨x,hx,_⟩=>by simp at hx⟩⟩
theorem used_kept {w w1:World} {B:Nat} {S:Int→Bool} (h:UsedMap w B S) (hb:w1.heap[B]? = w.heap[B]?):UsedMap w1 B S:=by
  obtain ⟨es,c,h1,h2⟩:=h
  exact ⟨es,c,hb.trans h1,h2⟩
theorem used_lt {w:World} {B:Nat} {S:Int→Bool} (h:UsedMap w B S):B<w.heap.size:=by
  obtain ⟨es,c,h1,_⟩:=h
  exact blk_lt h1
theorem used_below {w w1:World} {B:Nat} {S:Int→Bool} (h:UsedMap w B S) (hb:Below w.heap.size w w1):UsedMap w1 B S:=used_kept h (hb.block B (used_lt h))
theorem used_nocells {w:World} {B g:Nat} {S:Int→Bool} {cs:Array Value} {t:TypeId} {z:Nat×Nat} (h:UsedMap w B S) (hg:w.heap[g]? = some (.cells cs t z)):B≠g:=fun e=>by
  obtain ⟨es,c,h1,_⟩:=h
  rw [e,hg] at h1
  cases h1
theorem used_look {w:World} {B:Nat} {S:Int→Bool} (h:UsedMap w B S) (a:Int):(Instr.lookup 110 (.map (some B)) (.int .i64 a) false).run Tryz.prog w=.ok (.bool (S a)) w:=by
  obtain ⟨es,c,hb,hk,hS⟩:=h
  have hd:=Tryz.underlying3
  have hik:Go.MapKept.IsKey (.int .i64) (Value.int .i64 a):=by simp [Go.MapKept.IsKey]
  have hks:∀ x∈es.toList,Go.MapKept.IsKey (.int .i64) x.key:=fun x hx=>by
    obtain ⟨b,e,_⟩:=hk x hx
    rw [e]
    simp [Go.MapKept.IsKey]
  have hz:(zeroValue 4).run Tryz.prog w=.ok (.bool false) w:=by kernel_rfl
  rcases Go.MapKept.findNow_spec hik es.toList 0 hks with ⟨h1,h2⟩ | ⟨j,e,h1,h2,h3⟩
  · have hf:S a=false:=by
      cases hs:S a with
      | false=>rfl
      | true=>
        obtain ⟨x,hx,e⟩:=(hS a).mp hs
        exact absurd e (h2 x hx)
    simp [Instr.lookup,run_underlying Tryz.underlying110,Go.MapKept.run_getObj_map hb,Go.MapKept.run_checkKey hd hik,Go.MapKept.run_findKey hd h1,hz,Result.andThen,hf]
  · have hm:e∈es.toList:=List.mem_of_getElem? h2
    have ht:S a=true:=(hS a).mpr ⟨e,hm,h3⟩
    obtain ⟨b,_,hv⟩:=hk e hm
    simp [Instr.lookup,run_underlying Tryz.underlying110,Go.MapKept.run_getObj_map hb,Go.MapKept.run_checkKey hd hik,Go.MapKept.run_findKey hd h1,Result.andThen,ht,hv]
theorem used_store {w:World} {B:Nat} {S:Int→Bool} (h:UsedMap w B S) (a:Int):∃ w',(Instr.mapUpdate 110 (.map (some B)) (.int .i64 a) (.bool true)).run Tryz.prog w=.ok () w'∧UsedMap w' B (fun x=>S x || x == a)∧w'.os=w.os∧w'.tape=w.tape∧w'.output=w.output∧w'.heap.size=w.heap.size∧∀ i,i≠B→w'.heap[i]? = w.heap[i]?:=by
  obtain ⟨es,c,hb,hk,hS⟩:=h
  have hd:=Tryz.underlying3
  have hik:Go.MapKept.IsKey (.int .i64) (Value.int .i64 a):=by simp [Go.MapKept.IsKey]
  have hks:∀ x∈es.toList,Go.MapKept.IsKey (.int .i64) x.key:=fun x hx=>by
    obtain ⟨b,e,_⟩:=hk x hx
    rw [e]
    simp [Go.MapKept.IsKey]
  have fin:∀ (es':Array MapEntry) (c':Nat),(∀ x∈es'.toList,∃ a:Int,x.key=.int .i64 a∧x.val=.bool true)→(∀ b:Int,(S b || b == a)=true↔∃ x∈es'.toList,x.key=.int .i64 b)→UsedMap { w with heap:=w.heap.setIfInBounds B (.map es' c') } B (fun x=>S x || x == a)∧({ w with heap:=w.heap.setIfInBounds B (.map es' c') }:World).heap.size=w.heap.size∧∀ i,i≠B→({ w with heap:=w.heap.setIfInBounds B (.map es' c') }:World).heap[i]? = w.heap[i]?:=fun es' c' h1 h2=>⟨⟨es',c',(Go.MapKept.heap_set hb).1,h1,h2⟩,by simp,fun i hi=>(Go.MapKept.heap_set hb).2 i hi⟩
  rcases Go.MapKept.findNow_spec hik es.toList 0 hks with ⟨h1,h2⟩ | ⟨j,e,h1,h2,h3⟩
  · obtain ⟨f1,f2,f3⟩:=fin (es.push ⟨.int .i64 a,.bool true,c⟩) (c+1) (fun x hx=>by
      simp only [Array.toList_push,List.mem_append,List.mem_singleton] at hx
      rcases hx with hx | rfl
      · exact hk x hx
      · exact ⟨a,rfl,rfl⟩) (fun b=>by
      simp only [Array.toList_push,List.mem_append,List.mem_singleton,Bool.or_eq_true,beq_iff_eq]
      constructor
      · rintro (h | rfl)
        · obtain ⟨x,hx,e⟩:=(hS b).mp h
          exact ⟨x,.inl hx,e⟩
        · exact ⟨_,.inr rfl,rfl⟩
      · rintro ⟨x,hx | rfl,e⟩
        · exact .inl ((hS b).mpr ⟨x,hx,e⟩)
        · injection e with _ e
          exact .inr e.symm)
    exact ⟨_,by simp [Instr.mapUpdate,run_underlying Tryz.underlying110,Go.MapKept.run_getObj_map hb,Go.MapKept.run_checkKey hd hik,Go.MapKept.run_findKey hd h1,Go.MapKept.run_setObj_map _ hb,Result.andThen],f1,rfl,rfl,rfl,f2,f3⟩
  · have hj:es[j]? = some e:=by simpa using h2
    have hm:e∈es.toList:=List.mem_of_getElem? h2
    have hmod:∀ x∈(es.modify j fun e=>{ e with key:=.int .i64 a,val:=.bool true }).toList,x∈es.toList∨(x.key=.int .i64 a∧x.val=.bool true):=fun x hx=>by
      rw [Array.toList_modify] at hx
      obtain ⟨i,hi,rfl⟩:=List.mem_iff_getElem.mp hx
      rw [List.getElem_modify]
      split
      · exact .inr ⟨rfl,rfl⟩
      · exact .inl (List.getElem_mem _)
    have hback:∀ x∈es.toList,∃ y∈(es.modify j fun e=>{ e with key:=.int .i64 a,val:=.bool true }).toList,y.key=x.key:=fun x hx=>by
      obtain ⟨i,hi,rfl⟩:=List.mem_iff_getElem.mp hx
      rw [Array.toList_modify]
      refine ⟨_,List.getElem_mem (by rw [List.length_modify];exact hi:i<(es.toList.modify j fun e=>{ e with key:=.int .i64 a,val:=.bool true }).length),?_⟩
      rw [List.getElem_modify]
      split
      · rename_i hji
        subst hji
        have:es.toList[j]=e:=by
          have:=List.getElem?_eq_getElem hi
          rw [h2] at this
          exact (Option.some.inj this).symm
        rw [this,h3]
      · rfl
    obtain ⟨f1,f2,f3⟩:=fin (es.modify j fun e=>{ e with key:=.int .i64 a,val:=.bool true }) c (fun x hx=>by
      rcases hmod x hx with h | ⟨h,h'⟩
      · exact hk x h
      · exact ⟨a,h,h'⟩) (fun b=>by
      simp only [Bool.or_eq_true,beq_iff_eq]
      constructor
      · rintro (h | rfl)
        · obtain ⟨x,hx,e⟩:=(hS b).mp h
          obtain ⟨y,hy,ey⟩:=hback x hx
          exact ⟨y,hy,ey.trans e⟩
        · obtain ⟨y,hy,ey⟩:=hback e hm
          exact ⟨y,hy,ey.trans h3⟩
      · rintro ⟨x,hx,e1⟩
        rcases hmod x hx with h | ⟨h,_⟩
        · exact .inl ((hS b).mpr ⟨x,h,e1⟩)
        · rw [h] at e1
          injection e1 with _ e1
          exact .inr e1.symm)
    exact ⟨_,by simp [Instr.mapUpdate,run_underlying Tryz.underlying110,Go.MapKept.run_getObj_map hb,Go.MapKept.run_checkKey hd hik,Go.MapKept.run_findKey hd h1,hj,h3,Go.MapKept.run_keyThatStays hik,Go.MapKept.run_setObj_map _ hb,Result.andThen],f1,rfl,rfl,rfl,f2,f3⟩
theorem wpList_used {w:World} {ops:Array Oper} {rest:List Oper} {o:Oper} {a:Act} {Q:Exit→Act→World→Prop} (hg:o.guard=none) (m x v:Operand) (hop:o.op=Op.mapUpdate 110 m x v) (B:Nat) (S:Int→Bool) (hm:a.eval m=.map (some B)) (h:UsedMap w B S) (k:Int) (hx:a.eval x=.int .i64 k) (hv:a.eval v=.bool true)
    (hK:∀ w',UsedMap w' B (fun y=>S y || y == k)→(∀ {b:Nat} {w0:World},Below b w0 w→b≤B→Below b w0 w')→(∀ i,i≠B→w'.heap[i]? = w.heap[i]?)→wpList Tryz.prog ops Q rest (a.put o.dst undef) w'):wpList Tryz.prog ops Q (o :: rest) a w:=by
  refine wpList_plain hg fun K' hK'=>?_
  obtain ⟨w',hrun,r1,r2,r3,r4,r5,r6⟩:=used_store h k
  unfold Oper.wp
  simp [execOp,hop,hm,hx,hv,hrun,Result.andThen]
  exact hK' _ _ (hK w' r1 (fun hb hB=>⟨r2.trans hb.os,r3.trans hb.tape,r4.trans hb.output,by rw [r5];exact hb.size,fun i hi=>(r6 i (by omega)).trans (hb.block i hi)⟩) r6)
theorem fill3_calls {w:World} {g:Nat} {t:TypeId} {x0 x1 x2 a b c:Value} {P:Program} {F:FuncId} {args:Array Value} {Q:Ending→World→Prop} (h:w.heap[g]? = some (.cells #[x0,x1,x2] t (0,0)))
    (k:∀ W,W.heap[g]? = some (.cells #[a,b,c] t (0,0))→W.heap.size=w.heap.size→(∀ {w0:World} {S:Nat→Prop},Turned w0 w S→(S g∨w0.heap.size≤g)→Turned w0 W S)→(∀ j,j≠g→W.heap[j]? = w.heap[j]?)→Calls P F args W Q):Calls P F args (((w.setCell ⟨g,0,none⟩ a).setCell ⟨g,1,none⟩ b).setCell ⟨g,2,none⟩ c) Q:=
  k _ (blk_put (cs:=#[a,b,x2]) (blk_put (cs:=#[a,x1,x2]) (blk_put (cs:=#[x0,x1,x2]) h 0 _ rfl) 1 _ rfl) 2 _ rfl) (by simp) (fun hT hg=>((hT.set (p:=⟨g,0,none⟩) hg _).set (p:=⟨g,1,none⟩) hg _).set (p:=⟨g,2,none⟩) hg _) (fun j hj=>by
    rw [Below.heap_setCell _ ⟨g,2,none⟩ _ j hj,Below.heap_setCell _ ⟨g,1,none⟩ _ j hj,Below.heap_setCell _ ⟨g,0,none⟩ _ j hj])
theorem idxOf_split {α:Type} (p:α→Bool):∀ (l:List α) (k:Nat),(idxOf p l k = -1∧l.filter (fun x=>!p x)=l)∨∃ i,i<l.length∧idxOf p l k=((k+i:Nat):Int)∧(l.take (i+1)).filter (fun x=>!p x)=l.take i
  | [],_=>.inl ⟨rfl,rfl⟩
  | x :: l,k=>by
    rw [idxOf]
    cases hp:p x with
    | true=>exact .inr ⟨0,by simp,by simp,by simp [hp]⟩
    | false=>
      rw [if_neg (by decide)]
      rcases idxOf_split p l (k+1) with ⟨h1,h2⟩ | ⟨i,h1,h2,h3⟩
      · exact .inl ⟨h1,by rw [List.filter_cons,hp];simpa using h2⟩
      · refine .inr ⟨i+1,by simpa using h1,by rw [h2];congr 1;omega,?_⟩
        rw [List.take_succ_cons,List.filter_cons,hp,h3,List.take_succ_cons]
        rfl
theorem cellsN_set:∀ (l:List S45) (i:Nat) (y:S45),i<l.length→(((cellsN l).set (i*3) (.int .i64 y.f0)).set (i*3+1) (.string y.f1)).set (i*3+2) (.int .i64 y.f2)=cellsN (l.set i y)
  | x :: l,0,y,_=>rfl
  | x :: l,i+1,y,h=>by
    rw [cellsN,show (i+1)*3=i*3+1+1+1 by omega,show i*3+1+1+1+1=(i*3+1)+1+1+1 by omega,show i*3+1+1+1+2=(i*3+2)+1+1+1 by omega]
    simp only [List.set_cons_succ]
    rw [cellsN_set l i y (by simpa using h),cellsN]
theorem cellsN_take:∀ (l:List S45) (i:Nat),(cellsN l).take (i*3)=cellsN (l.take i)
  | [],i=>by simp [cellsN]
  | x :: l,0=>by simp [cellsN]
  | x :: l,i+1=>by
    rw [cellsN,show (i+1)*3=i*3+1+1+1 by omega]
    simp only [List.take_succ_cons]
    rw [cellsN_take l i,cellsN]
theorem rowN {w:World} {base g n cap:Nat} {ok:Nat→Prop} {m:List S45} (h:Kd.R k45 45 w base ok (.slice (some ⟨g,0,none⟩) n cap) m) (i:Nat) (hi:i<m.length) :
    w.cell? ⟨g,i*3,none⟩=some (.int .i64 (m[i]).f0)∧w.cell? ⟨g,i*3+1,none⟩=some (.string (m[i]).f1)∧w.cell? ⟨g,i*3+2,none⟩=some (.int .i64 (m[i]).f2)∧(∀ j,w.frozen? ⟨g,j,none⟩=false)∧
      ∀ y:S45,Kd.R k45 45 (((w.setCell ⟨g,i*3,none⟩ (.int .i64 y.f0)).setCell ⟨g,i*3+1,none⟩ (.string y.f1)).setCell ⟨g,i*3+2,none⟩ (.int .i64 y.f2)) base (fun _=>True) (.slice (some ⟨g,0,none⟩) n cap) (m.set i y):=by
  obtain ⟨_,⟨hv,hl0⟩ | ⟨g2,cp,cur,hv,hbg,hg,hlc,hm,hsz,htk⟩⟩:=ownN h
  · omega
  injection hv with h1 h2 h3
  injection h1 with h1
  injection h1 with h1
  subst h1 h2 h3
  have hat:∀ j v,(cellsN m)[j]? = some v→w.cell? ⟨g,j,none⟩=some v:=fun j v hj=>by
    rw [← htk,List.getElem?_take] at hj
    split at hj
    · rw [cell_of_row w g j cur _ _ hg]
      rw [Array.getElem?_toList] at hj
      exact hj
    · cases hj
  have hc:=cellsN_at m i m[i] (List.getElem?_eq_getElem hi)
  have hget:∀ q,q<3→(cellsN m)[i*3+q]? = ([.int .i64 (m[i]).f0,.string (m[i]).f1,.int .i64 (m[i]).f2]:List Value)[q]?:=fun q hq=>by
    rw [← hc,List.getElem?_take,if_pos hq,List.getElem?_drop]
  refine ⟨hat _ _ (hget 0 (by omega)),hat _ _ (hget 1 (by omega)),hat _ _ (hget 2 (by omega)),fun j=>by simp [World.frozen?,hg],fun y=>?_⟩
  have hl:(m.set i y).length=m.length:=List.length_set ..
  rw [setCell_eq_setRow w g _ cur _ (0,0) _ hg,setCell_eq_setRow _ g _ _ _ (0,0) _ (setRow_heap w g cur _ _ _ hg),setRow_setRow,setCell_eq_setRow _ g _ _ _ (0,0) _ (setRow_heap w g cur _ _ _ hg),setRow_setRow,← hl]
  refine R_ofN ⟨cellsN_length _,.inr ⟨g,cap,_,rfl,hbg,setRow_heap w g cur _ _ _ hg,by rw [hl];exact hlc,hm,by simp only [Array.size_setIfInBounds];exact hsz,?_⟩⟩
  rw [hl,Array.toList_setIfInBounds,Array.toList_setIfInBounds,Array.toList_setIfInBounds,List.take_set,List.take_set,List.take_set,htk,cellsN_set m i y hi]
theorem run_clear3 {P:Program} (w:World) (t e ty:TypeId) (z1 z2 z3:Value) (ht:P.underlying t=some (.slice e)) (hv:∀ w,(zeroValue e).run P w=.ok (.agg #[z1,z2,z3]) w) (hz:(Value.agg #[z1,z2,z3]).cells=#[z1,z2,z3]) (h1:z1.oneCell'=true) (h2:z2.oneCell'=true) (h3:z3.oneCell'=true) (g o c n:Nat) (hn:0<n) (cur:Array Value) (te:TypeId)
    (hg:w.heap[g]? = some (.cells cur te (0,0))) (hfit:o+n*3≤cur.size) :
    (Builtin.clear_ #[t] ty #[.slice (some ⟨g,o,none⟩) n c]).run P w=.ok (.tuple #[]) (w.setRow g (cur.toList.take o++(Builtin.zeroCells #[z1,z2,z3] n).toList++cur.toList.drop (o+n*3)).toArray):=by
  obtain ⟨n,rfl⟩:∃ k,n=k+1:=⟨n-1,by omega⟩
  have hl:(Builtin.zeroCells #[z1,z2,z3] (n+1)).toList.length=(n+1)*3:=by rw [Array.length_toList];simp [Builtin.zeroCells]
  have ho:∀ u∈(Builtin.zeroCells #[z1,z2,z3] (n+1)).toList,u.oneCell'=true:=fun u hu=>by
    simp only [Builtin.zeroCells,Array.toList_map,List.mem_map] at hu
    obtain ⟨i,_,rfl⟩:=hu
    have hi:i % 3<3:=Nat.mod_lt _ (by decide)
    show (#[z1,z2,z3][i % 3]!).oneCell'=true
    rcases (by omega:i % 3=0∨i % 3=1∨i % 3=2) with h | h | h <;> rw [h] <;> assumption
  have hst:=run_storeCells_at (P:=P) g o te (Builtin.zeroCells #[z1,z2,z3] (n+1)).toList 0 cur w hg (by rw [hl];omega) ho
  rw [hl] at hst
  simp [Builtin.clear_,run_underlying ht,hv,hz,hst]
theorem deleteFN (gf:Nat) (lb:Array Value) (p:S45→Bool) (eg:∀ args w,(callFunc gf args).run Tryz.prog w=.ok (.enter gf args) w) (A:Option Addr) (cap base:Nat) (l:List S45) (w:World)
    (hR:Kd.R k45 45 w base (fun _=>True) (.slice A l.length cap) l)
    (hp:∀ (W:World) (x:S45),Turned w W (fun k=>some k=(Value.slice A l.length cap).ownBlock)→Calls Tryz.prog gf (#[.agg #[.int .i64 x.f0,.string x.f1,.int .i64 x.f2]]++lb) W fun e w'=>e=.returned (.bool (p x))∧Below W.heap.size W w') :
    Calls Tryz.prog 113 #[.slice A l.length cap,.func (.func gf) #[] lb] w fun e w'=>e=.returned (.slice A (l.filter fun x=>!p x).length cap)∧Kd.R k45 45 w' base (fun _=>True) (.slice A (l.filter fun x=>!p x).length cap) (l.filter fun x=>!p x)∧Turned w w' (fun k=>some k=(Value.slice A l.length cap).ownBlock):=by
  have hC:=(Kd.R_reads' hR).2.2
  have hnc:=(Kd.R_reads' hR).2.1
  have CI:=idxNode gf lb p eg A cap l w hC (fun W x hbW=>(hp W x (Turned.of hbW _)).mono (by rintro e w' ⟨rfl,hb'⟩;exact ⟨rfl,hbW.trans (hb'.mono hbW.size)⟩))
  rcases idxOf_split p l 0 with ⟨hi,hf⟩ | ⟨i0,hi0,hi,hf⟩
  · rw [hi] at CI
    rw [hf]
    have CIa:=zA CI
    have HR:=zA hR
    clear CI hR hp hC hi hf
    go_enter Tryz.func113,Tryz.ntmps113
    go_wp2_with (go_at_call 102;refine CIa.out.mono ?_;rintro e w' ⟨rfl,hb'⟩)
    go_ret
    exact ⟨rfl,Kd.R_below HR.out hb',Turned.of hb' _⟩
  obtain ⟨_,⟨hv,hl0⟩ | ⟨g,cp,cur,hv,hbg,hg,hlc,hm,hsz,htk⟩⟩:=ownN hR
  · omega
  injection hv with h1 _ h3
  subst h1 h3
  rw [hi,Nat.zero_add] at CI
  have CIa:=zA CI
  have HR:=zA hR
  have HP:=zA hp
  have HF:=zA hf
  have HG:=zA (blk_lt hg)
  have HB:=zA hbg
  have hmx:cap≤9223372036854775807:=hm
  clear CI hR hp hC hi hf hg hlc hsz htk hbg hm
  go_enter Tryz.func113,Tryz.ntmps113
  go_wp2_with (go_at_call 102;refine CIa.out.mono ?_;rintro e w1 ⟨rfl,hb1⟩)
  have hneg:¬ (i0:Int) = -1:=by omega
  go_wp2
  have h0:Kd.R k45 45 w1 base (fun _=>True) (.slice (some ⟨g,0,none⟩) l.length cap) l:=Kd.R_below HR.out hb1
  have HT:=zA (Turned.of hb1 (fun k=>some k=(Value.slice (some ⟨g,0,none⟩) l.length cap).ownBlock))
  have H0:=zA h0
  clear h0 hb1 CIa HR
  go_loopg [5,6] l.length (fun gg s5 s6 wr=>∃ (i j:Nat) (m:List S45),i<j∧j≤l.length∧l.length-j≤gg∧s5=.int .i64 i∧s6=.int .i64 j∧m.length=l.length∧Aside0 (m.take i=(l.take j).filter fun x=>!p x)∧Aside0 (m.drop j=l.drop j)∧Aside0 (Kd.R k45 45 wr base (fun _=>True) (.slice (some ⟨g,0,none⟩) l.length cap) m)∧Aside0 (Turned w wr (fun k=>some k=(Value.slice (some ⟨g,0,none⟩) l.length cap).ownBlock)))
  case atStart=>exact ⟨i0,i0+1,l,by omega,by omega,by omega,by go_num,by go_num,rfl,⟨HF.out.symm⟩,⟨rfl⟩,H0,HT⟩
  case round=>
    obtain ⟨i,j,m,hij,hjl,hgg,rfl,rfl,hml,MT,MD,MR,TW⟩:=hrel
    clear H0 HT
    by_cases hlt:j<l.length
    · have hltz:(j:Int)<(l.length:Int):=by omega
      have hj0:(0:Int)≤(j:Int):=by omega
      have hi0:(0:Int)≤(i:Int):=by omega
      have hilz:(i:Int)<(l.length:Int):=by omega
      obtain ⟨hx0,hx1,hx2,_,_⟩:=rowN MR.out j (by omega)
      have hy:m[j]=l[j]:=by
        have:=congrArg (fun z:List S45=>z[0]?) MD.out
        simp only [List.getElem?_drop,Nat.add_zero] at this
        rw [List.getElem?_eq_getElem hlt,List.getElem?_eq_getElem (by omega)] at this
        exact Option.some.inj this
      rw [hy] at hx0 hx1 hx2
      have MDT:Aside0 (l.take (j+1)=l.take j++[l[j]]):=⟨by rw [List.take_succ_eq_append_getElem hlt]⟩
      have MDD:Aside0 (m.drop (j+1)=l.drop (j+1)):=⟨by rw [← List.drop_drop,← List.drop_drop,MD.out]⟩
      clear hy
      generalize l[j]=y at hx0 hx1 hx2 MDT
      have PY:=zA (fun (W:World) hT=>HP.out W y hT)
      generalize hq:p y=q at PY
      have HQ:=zA hq
      clear hq
      cases q with
      | true=>
        go_wp2_with (first | ((with_reducible refine gate_dst (N:=7) rfl ?_);refine box_event ?hg (N:=7) ?hd (cs:=#[.int .i64 0,.string (⟨#[]⟩:ByteArray),.int .i64 0]) (t:=45) ?hr ?_;(case hd=>rfl);(case hg=>rfl);(case hr=>first | (go_simp;done) | (go_simp;rfl));intro g6 hg6 w2 hbox b6;have N2:=zA hbox;have S2:=zA b6;have G6:=zA hg6;have n0:w2.cell? ⟨g6,0,none⟩=some (.int .i64 0):=(blk_cell N2.out 0).trans rfl;have n1:w2.cell? ⟨g6,1,none⟩=some (.string (⟨#[]⟩:ByteArray)):=(blk_cell N2.out 1).trans rfl;have n2:w2.cell? ⟨g6,2,none⟩=some (.int .i64 0):=(blk_cell N2.out 2).trans rfl;have z0:=blk_frozen N2.out 0;have z1:=blk_frozen N2.out 1;have z2:=blk_frozen N2.out 2;clear hg6 hbox b6 hx0 hx1 hx2) | (go_at_fn gf;refine fill3_calls N2.out (fun W hN hz hT hs=>?_);have TW2:=zA (hT (TW.out.trans (Turned.of S2.out _)) (.inr (by rw [G6.out];exact TW.out.size)));refine (PY.out W TW2.out).mono ?_;rintro e w3 ⟨rfl,hb3⟩;have hlg:=Nat.lt_of_lt_of_le HG.out TW.out.size;have hgn:g≠g6:=(by rw [G6.out];exact Nat.ne_of_lt hlg);have R3:=zA (Kd.R_below (Kd.R_tight rfl (Kd.R_below MR.out S2.out) |> fun h=>Kd.R_step h (fun k hk _=>hs k (fun e=>hgn (by rw [← e];exact (Option.some.inj hk).symm)))) hb3);have TW3:=zA (TW2.out.trans (Turned.of hb3 _));have hN3:=(hb3.block g6 (blk_lt hN)).trans hN;have m0:w3.cell? ⟨g6,0,none⟩=some (.int .i64 y.f0):=(blk_cell hN3 0).trans rfl;have m1:w3.cell? ⟨g6,1,none⟩=some (.string y.f1):=(blk_cell hN3 1).trans rfl;have m2:w3.cell? ⟨g6,2,none⟩=some (.int .i64 y.f2):=(blk_cell hN3 2).trans rfl;obtain ⟨r0,r1,r2,hfz,hset⟩:=rowN R3.out i (by omega);have f0:=hfz (i*3);have f1:=hfz (i*3+1);have f2:=hfz (i*3+2);have HS:=zA (hset y);clear hfz hset hN hz hT hs TW2 hb3 hlg hN3 n0 n1 n2 z0 z1 z2))
        go_roundg (l.length-(j+1))
        case measure=>omega
        case rel=>exact ⟨i,j+1,m,by omega,by omega,by omega,rfl,by go_num,hml,⟨by rw [MDT.out,List.filter_append,MT.out];simp [HQ.out]⟩,MDD,⟨Kd.R_mono R3.out fun _ _=>trivial⟩,TW3⟩
      | false=>
        go_wp2_with (first | ((with_reducible refine gate_dst (N:=7) rfl ?_);refine box_event ?hg (N:=7) ?hd (cs:=#[.int .i64 0,.string (⟨#[]⟩:ByteArray),.int .i64 0]) (t:=45) ?hr ?_;(case hd=>rfl);(case hg=>rfl);(case hr=>first | (go_simp;done) | (go_simp;rfl));intro g6 hg6 w2 hbox b6;have N2:=zA hbox;have S2:=zA b6;have G6:=zA hg6;have n0:w2.cell? ⟨g6,0,none⟩=some (.int .i64 0):=(blk_cell N2.out 0).trans rfl;have n1:w2.cell? ⟨g6,1,none⟩=some (.string (⟨#[]⟩:ByteArray)):=(blk_cell N2.out 1).trans rfl;have n2:w2.cell? ⟨g6,2,none⟩=some (.int .i64 0):=(blk_cell N2.out 2).trans rfl;have z0:=blk_frozen N2.out 0;have z1:=blk_frozen N2.out 1;have z2:=blk_frozen N2.out 2;clear hg6 hbox b6 hx0 hx1 hx2) | (go_at_fn gf;refine fill3_calls N2.out (fun W hN hz hT hs=>?_);have TW2:=zA (hT (TW.out.trans (Turned.of S2.out _)) (.inr (by rw [G6.out];exact TW.out.size)));refine (PY.out W TW2.out).mono ?_;rintro e w3 ⟨rfl,hb3⟩;have hlg:=Nat.lt_of_lt_of_le HG.out TW.out.size;have hgn:g≠g6:=(by rw [G6.out];exact Nat.ne_of_lt hlg);have R3:=zA (Kd.R_below (Kd.R_tight rfl (Kd.R_below MR.out S2.out) |> fun h=>Kd.R_step h (fun k hk _=>hs k (fun e=>hgn (by rw [← e];exact (Option.some.inj hk).symm)))) hb3);have TW3:=zA (TW2.out.trans (Turned.of hb3 _));have hN3:=(hb3.block g6 (blk_lt hN)).trans hN;have m0:w3.cell? ⟨g6,0,none⟩=some (.int .i64 y.f0):=(blk_cell hN3 0).trans rfl;have m1:w3.cell? ⟨g6,1,none⟩=some (.string y.f1):=(blk_cell hN3 1).trans rfl;have m2:w3.cell? ⟨g6,2,none⟩=some (.int .i64 y.f2):=(blk_cell hN3 2).trans rfl;obtain ⟨r0,r1,r2,hfz,hset⟩:=rowN R3.out i (by omega);have f0:=hfz (i*3);have f1:=hfz (i*3+1);have f2:=hfz (i*3+2);have HS:=zA (hset y);clear hfz hset hN hz hT hs TW2 hb3 hlg hN3 n0 n1 n2 z0 z1 z2))
        go_roundg (l.length-(j+1))
        case measure=>omega
        case rel=>
          refine ⟨i+1,j+1,m.set i y,by omega,by omega,by omega,by go_num,by go_num,by rw [List.length_set];exact hml,⟨?_⟩,⟨?_⟩,HS,⟨((TW3.out.set (p:=⟨g,i*3,none⟩) (.inl rfl) _).set (p:=⟨g,i*3+1,none⟩) (.inl rfl) _).set (p:=⟨g,i*3+2,none⟩) (.inl rfl) _⟩⟩
          · rw [MDT.out,List.filter_append,← MT.out,List.take_succ_eq_append_getElem (by rw [List.length_set];omega),List.take_set_of_le (Nat.le_refl _),List.getElem_set_self]
            simp [HQ.out]
          · rw [List.drop_set_of_lt (by omega),MDD.out]
    · have hltz:¬ (j:Int)<(l.length:Int):=by omega
      have hMT:=MT.out
      rw [List.take_of_length_le (l:=l) (by omega)] at hMT
      have hil:i=(l.filter fun x=>!p x).length:=by rw [← hMT,List.length_take];omega
      obtain ⟨_,⟨hv,hl0⟩ | ⟨g2,cp,aa,hv,hbg,hg,hlc,hm,hsz,htk⟩⟩:=ownN MR.out
      · omega
      injection hv with h1 h2 h3
      injection h1 with h1
      injection h1 with h1 h4 h5
      subst h1 h3
      clear h2 h4 h5
      have hcl:∀ ty,(Builtin.clear_ #[24] ty #[.slice (some ⟨g,i*3,none⟩) (l.length-i) (cap-i)]).run Tryz.prog wr=.ok (.tuple #[]) (wr.setRow g (aa.toList.take (i*3)++(Builtin.zeroCells #[.int .i64 0,.string ⟨#[]⟩,.int .i64 0] (l.length-i)).toList++aa.toList.drop (i*3+(l.length-i)*3)).toArray):=fun ty=>
        run_clear3 wr _ 45 ty (.int .i64 0) (.string ⟨#[]⟩) (.int .i64 0) Tryz.underlying24 (fun w=>Tryz.zeroValue45 w) rfl rfl rfl rfl g (i*3) _ _ (by omega) aa _ hg (by rw [hsz];omega)
      have hci:¬ cap=i:=by omega
      have hic:i≤cap:=by omega
      have hil2:i≤l.length:=by omega
      have X1:=zA hg
      have X2:=zA hsz
      have X3:=zA htk
      have X4:=zA hbg
      have X5:=zA hml
      have X6:=zA hil
      have X7:=zA hMT
      clear hg hsz htk hbg MT hMT hil hlc hm HF MD MR
      go_wp2
      go_ret
      rw [← X6.out,← X7.out]
      refine ⟨rfl,?_,TW.out.row (.inl rfl) _⟩
      have hsz:=X2.out
      have htk:=X3.out
      have hml:=X5.out
      have hLc:aa.toList.length=cap*3:=by rw [Array.length_toList];exact hsz
      have hmi:(m.take i).length=i:=by rw [List.length_take];omega
      generalize hZ:(Builtin.zeroCells #[.int .i64 0,.string ⟨#[]⟩,.int .i64 0] (l.length-i)).toList=Z
      have hzl:Z.length=(l.length-i)*3:=by rw [← hZ,Array.length_toList];simp [Builtin.zeroCells]
      have h1:(aa.toList.take (i*3))=cellsN (m.take i):=by rw [← cellsN_take,← htk,List.take_take,Nat.min_eq_left (by omega)]
      have hR:Kd.R k45 45 (wr.setRow g (aa.toList.take (i*3)++Z++aa.toList.drop (i*3+(l.length-i)*3)).toArray) base (fun _=>True) (.slice (some ⟨g,0,none⟩) (m.take i).length cap) (m.take i):=by
        refine R_ofN ⟨cellsN_length _,.inr ⟨g,cap,_,rfl,X4.out,setRow_heap wr g aa _ _ _ X1.out,by rw [hmi];omega,hmx,?_,?_⟩⟩
        · rw [List.size_toArray,List.length_append,List.length_append,List.length_take,List.length_drop,hLc,hzl]
          omega
        · rw [List.toList_toArray,hmi,List.append_assoc,List.take_left' (by rw [List.length_take,hLc];omega)]
          exact h1
      rw [hmi,List.append_assoc] at hR
      exact hR
theorem at_str {w:World} {A:Option Addr} {n:Nat} {xs:List ByteArray} (h:Kd.C Kd.string w A n xs) (i:Nat) (hi:i<xs.length):∃ ad,A=some ad∧w.cell? (ad.add i)=some (.string xs[i]):=by
  have hl:xs.length=n:=h.1
  obtain ⟨ad,c,e,_,hK,hc⟩:=Kd.C_get h ByteArray.empty (i:Int) (by omega) (by omega)
  have hK':c=[Value.string (xs.getD ((i:Int)).toNat ByteArray.empty)]:=hK
  subst hK'
  refine ⟨ad,e,?_⟩
  have:=hc 0 _ rfl
  rw [Int.toNat_natCast,List.getD_eq_getElem?_getD,List.getElem?_eq_getElem hi] at this
  simpa [Kd.string,Kd.scalar] using this
def usedIds:List S47→List ByteArray→Option (List Int)
  | now,[]=>some (now.map fun x=>x.f1)
  | now,s :: r=>(impl_stepDone.f now s).bind fun q=>(usedIds q.1 r).map fun t=>(now.map fun x=>x.f1)++t
theorem cleanLit (B2 B:Nat) (S:Int→Bool) (W:World) (x:S45) (hcell:W.cell? ⟨B2,0,none⟩=some (.map (some B))) (hu:UsedMap W B S) :
    Calls Tryz.prog 114 (#[.agg #[.int .i64 x.f0,.string x.f1,.int .i64 x.f2]]++#[.pointer (some ⟨B2,0,none⟩)]) W fun e w'=>e=.returned (.bool (!S x.f0))∧Below W.heap.size W w':=by
  have hl:=used_look (used_below hu (below_alloc (Below.refl _ _) (.cells #[.int .i64 x.f0,.string x.f1,.int .i64 x.f2] 45 (0,0)))) x.f0
  have hlt:B2<W.heap.size:=World.block_lt_of_cell? W _ hcell
  have hne:B2≠W.heap.size:=by omega
  generalize S x.f0=b at hl ⊢
  clear hu
  show Calls Tryz.prog 114 #[.agg #[.int .i64 x.f0,.string x.f1,.int .i64 x.f2],.pointer (some ⟨B2,0,none⟩)] W _
  go_enter Tryz.func114,Tryz.ntmps114
  go_wp2
  go_ret
  exact ⟨rfl,below_alloc (Below.refl _ _) _⟩
theorem C_map_kept {w w':World} {A:Option Addr} {n B:Nat} {xs:List S47} {S:Int→Bool} (h:Kd.C k47 w A n xs) (hu:UsedMap w B S) (hs:w.heap.size≤w'.heap.size) (hk:∀ i,i≠B→w'.heap[i]? = w.heap[i]?):Kd.C k47 w' A n xs:=
  Kd.C_foot_ne (g:=B) (fun {W W' x cs} h=>by obtain rfl:=k47_open h;exact k47_mk W' x) h (fun ad ha hn e=>by
    obtain ⟨ad',c,ha',hcl,hK,hc⟩:=Kd.C_get h ⟨⟨#[]⟩,0⟩ 0 (by omega) (by omega)
    rw [ha] at ha'
    obtain rfl:=Option.some.inj ha'
    obtain rfl:=k47_open hK
    have h0:=hc 0 _ rfl
    obtain ⟨es,c0,hb,_⟩:=hu
    have hbl:(ad.add 0).block=ad.block:=by unfold Addr.add;split <;> rfl
    have hb':w.heap[(ad.add 0).block]? = some (.map es c0):=by rw [hbl,e];exact hb
    simp [World.cell?,hb'] at h0) w' ⟨hs,fun i _ hi _=>hk i hi⟩
theorem cleanD (g base:Nat) (A0 A1 A2 A3:Option Addr) (c0 c1 c2 c3:Nat) (a:List S45) (b c:List S47) (d:List ByteArray) (e f:Int) (w:World) (hg:w.heap[g]? = some (.cells #[.slice A0 a.length c0,.slice A1 b.length c1,.slice A2 c.length c2,.slice A3 d.length c3,.int .i64 e,.int .i64 f] 28 (0,0)))
    (hD:HasD w base (.slice A0 a.length c0) (.slice A1 b.length c1) (.slice A2 c.length c2) (.slice A3 d.length c3) a b c d) (hTE:TabsE w) (hTP:TabsP w) (ids:List Int) (F:List S45) (h:usedIds c d=some ids) (hF:(a.filter fun x=>ids.contains x.f0)=F) :
    Calls Tryz.prog 96 #[.pointer (some ⟨g,0,none⟩)] w fun e_ w'=>e_=.returned (.tuple #[])∧w'.heap[g]? = some (.cells #[.slice A0 F.length c0,.slice A1 b.length c1,.slice A2 c.length c2,.slice A3 d.length c3,.int .i64 e,.int .i64 f] 28 (0,0))∧
      HasD w' base (.slice A0 F.length c0) (.slice A1 b.length c1) (.slice A2 c.length c2) (.slice A3 d.length c3) F b c d∧Turned w w' (fun k=>k=g∨some k=(Value.slice A0 a.length c0).ownBlock):=by
  have hmm:=@run_makeMap Tryz.prog
  have HG:=zA hg
  have HD:=zA hD
  have HU:=zA h
  have HFF:=zA hF
  have HE:=zA hTE
  have HP:=zA hTP
  have hmx3:=(Kd.R_reads' hD.r3).2.2.2.1
  have hmx2:=(Kd.R_reads' hD.r2).2.2.2.1
  have hc2:=(Kd.R_reads' hD.r2).2.1
  have glt:=blk_lt hg
  have p2:w.cell? ⟨g,2,none⟩=some (.slice A2 c.length c2):=(blk_cell hg 2).trans rfl
  clear hg hD h hTE hTP hF
  go_enter Tryz.func96,Tryz.ntmps96
  go_wp2_with fail
  go_loopg [3,4] d.length (fun gg s3 s4 wr=>∃ (An:Option Addr) (cn:Nat) (now:List S47) (i:Nat) (pre:List Int),i≤d.length∧d.length-i≤gg∧s3=.slice An now.length cn∧s4=.int .i64 i∧now.length≤cn∧Aside0 (Kd.C k47 wr An now.length now)∧Aside0 (∃ rest,usedIds now (d.drop i)=some rest∧ids=pre++rest)∧Aside0 (UsedMap wr w.heap.size (fun x=>pre.contains x))∧Aside0 (Below w.heap.size w wr)∧Aside0 (wr.heap[w.heap.size+1]? = some (.cells #[.map (some w.heap.size)] 110 (0,0))))
  case atStart=>
    have hb:=below_alloc (below_alloc (Below.refl w.heap.size w) (.map #[] 0)) (.cells #[.map (some w.heap.size)] 110 (0,0))
    refine ⟨A2,c2,c,0,[],by omega,by omega,rfl,rfl,hc2,⟨Kd.C_below (Kd.R_reads' HD.out.r2).2.2 hb⟩,⟨ids,HU.out,rfl⟩,⟨?_⟩,⟨hb⟩,⟨by have:=(Go.MapKept.heap_alloc (w.alloc (.map #[] 0)) (.cells #[.map (some w.heap.size)] 110 (0,0))).1;rwa [show (w.alloc (.map #[] 0)).heap.size=w.heap.size+1 from by simp] at this⟩⟩
    exact used_kept (used_new w) (Below.heap_alloc _ _ _ (by simp))
  case round=>
    obtain ⟨An,cn,now,i,pre,hid,hgg,rfl,rfl,hcn,HC,HI,HS,BW,HB2⟩:=hrel
    have hmxn:=HC.out.2.1
    go_wp2
    go_loopg [16] now.length (fun g2 s16 wr2=>∃ kk:Nat,kk≤now.length∧now.length-kk≤g2∧s16=.int .i64 kk∧Aside0 (UsedMap wr2 w.heap.size (fun x=>(pre++(now.take kk).map fun z=>z.f1).contains x))∧Aside0 (Below w.heap.size w wr2)∧Aside0 (wr2.heap[w.heap.size+1]? = some (.cells #[.map (some w.heap.size)] 110 (0,0)))∧Aside0 (Kd.C k47 wr2 An now.length now))
    case atStart=>exact ⟨0,by omega,by omega,rfl,⟨by simpa using HS.out⟩,BW,HB2,HC⟩
    case round=>
      obtain ⟨kk,hkk,hg2,rfl,HS2,BW2,HB3,HC2⟩:=hrel
      clear HS BW HB2 HC
      have ab:=blk_lt HB3.out
      have e0:wr.cell? ⟨w.heap.size+1,0,none⟩=some (.map (some w.heap.size)):=(blk_cell HB3.out 0).trans rfl
      by_cases hlt:kk<now.length
      · have hltz:(kk:Int)<(now.length:Int):=by omega
        obtain ⟨ad,rfl,hx0,hx1⟩:=at_T47 HC2.out (kk:Int) (by omega) hltz
        rw [Int.toNat_natCast] at hx0 hx1
        have hy:rd_T47 now (kk:Int)=now[kk]:=by
          unfold rd_T47
          rw [Int.toNat_natCast,List.getD_eq_getElem?_getD,List.getElem?_eq_getElem hlt];rfl
        rw [hy] at hx0 hx1
        have MT:Aside0 (now.take (kk+1)=now.take kk++[now[kk]]):=⟨by rw [List.take_succ_eq_append_getElem hlt]⟩
        clear hy
        generalize now[kk]=y at hx0 hx1 MT
        go_wp2_with (first | (at_mapUpdate;refine wpList_used rfl _ _ _ rfl w.heap.size _ rfl (used_below HS2.out (below_alloc (Below.refl _ _) _)) _ rfl rfl ?_;intro w3 hu3 hB3 hK3))
        go_roundg (now.length-(kk+1))
        case measure=>omega
        case rel=>
          have hba:=below_alloc (Below.refl wr.heap.size wr) (.cells #[.string y.f0,.int .i64 y.f1] 47 (0,0))
          refine ⟨kk+1,by omega,by omega,by go_num,⟨?_⟩,⟨hB3 (BW2.out.trans (hba.mono BW2.out.size)) (Nat.le_refl _)⟩,⟨(hK3 _ (by omega)).trans ((hba.block _ ab).trans HB3.out)⟩,⟨C_map_kept (Kd.C_below HC2.out hba) (used_below HS2.out hba) (hB3 (Below.refl 0 _) (Nat.zero_le _)).size hK3⟩⟩
          have e1:(fun z=>(pre++List.map (fun z=>z.f1) (List.take kk now)).contains z || z == y.f1)=fun x=>(pre++List.map (fun z=>z.f1) (List.take (kk+1) now)).contains x:=by
            funext z
            rw [MT.out,Bool.eq_iff_iff]
            simp [or_assoc]
          rw [← e1]
          exact hu3
      · have hltz:¬ (kk:Int)<(now.length:Int):=by omega
        have hgr:=(BW2.out.block g glt).trans HG.out
        have HGR:=zA hgr
        have p3:wr.cell? ⟨g,3,none⟩=some (.slice A3 d.length c3):=(blk_cell hgr 3).trans rfl
        have p0:wr.cell? ⟨g,0,none⟩=some (.slice A0 a.length c0):=(blk_cell hgr 0).trans rfl
        have hK:now.take kk=now:=List.take_of_length_le (by omega)
        rw [hK] at HS2
        clear hK hgr
        obtain ⟨rest,hrest,hids⟩:=HI.out
        by_cases hlast:i<d.length
        · have hil:((i:Int) == (d.length:Int))=false:=by simp;omega
          have hilz:(i:Int)<(d.length:Int):=by omega
          have hne:¬ (i:Int)=(d.length:Int):=by omega
          have hdr:d.drop i=d[i] :: d.drop (i+1):=List.drop_eq_getElem_cons hlast
          rw [hdr,usedIds] at hrest
          obtain ⟨q,hq,hrest⟩:=zo hrest
          obtain ⟨t,ht,rfl⟩:=Option.map_eq_some_iff.mp hrest
          obtain ⟨sd,rfl,hsd⟩:=at_str (Kd.C_below (Kd.R_reads' HD.out.r3).2.2 BW2.out) i hlast
          have CS:=zA (impl_stepDone.calls An cn now d[i] q.1 q.2 wr HC2.out hcn (HE.out.below BW2.out) (HP.out.below BW2.out) hq)
          have HT:=zA ht
          have HID:=zA hids
          clear hq ht hids hrest hdr HI
          generalize d[i]=s at hsd CS
          go_wp2_with (go_at_call 89;refine CS.out.mono ?_;rintro e_ w4 ⟨v4,rfl,hR4,hb4⟩;obtain ⟨A4,c4,rfl⟩:=Kd.R_slice hR4)
          go_roundg (d.length-(i+1))
          case measure=>omega
          case rel=>
            exact ⟨A4,c4,q.1,i+1,pre++now.map fun z=>z.f1,by omega,by omega,rfl,by go_num,(Kd.R_reads' hR4).2.1,⟨(Kd.R_reads' hR4).2.2⟩,⟨t,HT.out,by rw [HID.out,List.append_assoc]⟩,⟨used_below HS2.out hb4⟩,⟨BW2.out.trans (hb4.mono BW2.out.size)⟩,⟨(hb4.block _ ab).trans HB3.out⟩⟩
        · have hil:((i:Int) == (d.length:Int))=true:=by simp;omega
          have hne:(i:Int)=(d.length:Int):=by omega
          rw [List.drop_of_length_le (by omega),usedIds] at hrest
          have aa:ids=pre++now.map fun x=>x.f1:=by rw [hids,← Option.some.inj hrest]
          rw [← aa] at HS2
          clear hids aa hrest HI
          have HDw:=HD.out.on BW2.out
          have ae:¬ some (w.heap.size+1)=(Value.slice A0 a.length c0).ownBlock:=Kd.R_ne HDw.r0 HB3.out (by decide)
          have hBn:¬ some w.heap.size=(Value.slice A0 a.length c0).ownBlock:=fun e=>by
            obtain ⟨cs,hcs⟩:=Kd.R_typed HDw.r0 _ e.symm
            exact used_nocells HS2.out hcs rfl
          have eg:∀ args w,(callFunc 114 args).run Tryz.prog w=.ok (.enter 114 args) w:=enters_of Tryz.func114 (by kernel_rfl) rfl
          have CD0:=(deleteFN 114 #[.pointer (some ⟨w.heap.size+1,0,none⟩)] (fun x=>!ids.contains x.f0) eg A0 c0 base a wr (Kd.R_mono HDw.r0 fun _ _=>trivial)
            (fun W x hT=>cleanLit (w.heap.size+1) w.heap.size (fun z=>ids.contains z) W x ((blk_cell ((hT.block _ ab ae).trans HB3.out) 0).trans rfl) (used_kept HS2.out (hT.block _ (by omega) hBn))))
          simp only [Bool.not_not] at CD0
          rw [HFF.out] at CD0
          have CDl:=zA CD0
          have hgn:¬ some g=(Value.slice A0 a.length c0).ownBlock:=fun e=>HDw.nobox HGR.out (by decide) (by decide) (by decide) (.inl e)
          have HDW:=zA HDw
          clear HDw eg CD0
          go_wp2_with (go_at_call 113;refine CDl.out.mono ?_;rintro e_ w5 ⟨rfl,hR5,hT5⟩;have hg5:=(hT5.block g (blk_lt HGR.out) hgn).trans HGR.out;have s5:w5.cell? ⟨g,0,none⟩=some (.slice A0 a.length c0):=(blk_cell hg5 0).trans rfl;have z5:=blk_frozen hg5 0;have HG5:=zA hg5;clear hg5)
          go_end0
          have hD5:∀ k,k≠g→(w5.setCell ⟨g,0,none⟩ (.slice A0 F.length c0)).heap[k]? = w5.heap[k]?:=fun k hk=>Below.heap_setCell w5 ⟨g,0,none⟩ _ k hk
          have hTT:=((Turned.of BW2.out (fun k=>k=g∨some k=(Value.slice A0 a.length c0).ownBlock)).trans (hT5.mono fun k _ h=>.inr h)).set (p:=⟨g,0,none⟩) (.inl (.inl rfl)) (.slice A0 F.length c0)
          have hown:(Value.slice A0 F.length c0).ownBlock=(Value.slice A0 a.length c0).ownBlock:=by cases A0 <;> rfl
          have hnb:=HDW.out.nobox HGR.out (by decide) (by decide) (by decide)
          have hty:=Kd.R_typed HDW.out.r0
          refine ⟨rfl,blk_put (cs:=#[.slice A0 a.length c0,.slice A1 b.length c1,.slice A2 c.length c2,.slice A3 d.length c3,.int .i64 e,.int .i64 f]) HG5.out 0 _ rfl,⟨?_,?_,?_,?_,HDW.out.ne⟩,hTT⟩
          · exact Kd.R_step (Kd.R_tight rfl hR5) fun k hk _=>hD5 k fun e=>hgn (by rw [← e,← hown];exact hk)
          · exact Kd.R_step HDW.out.r1 fun k hk hl=>(hD5 k fun e=>hnb (.inr (.inl (by rw [← e];exact hk)))).trans (hT5.block k hl fun e=>by
              obtain ⟨cs,hcs⟩:=hty k e.symm
              exact Kd.R_ne HDW.out.r1 hcs (by decide) hk)
          · exact Kd.R_step HDW.out.r2 fun k hk hl=>(hD5 k fun e=>hnb (.inr (.inr (.inl (by rw [← e];exact hk))))).trans (hT5.block k hl fun e=>by
              obtain ⟨cs,hcs⟩:=hty k e.symm
              exact Kd.R_ne HDW.out.r2 hcs (by decide) hk)
          · exact Kd.R_step HDW.out.r3 fun k hk hl=>(hD5 k fun e=>hnb (.inr (.inr (.inr (by rw [← e];exact hk))))).trans (hT5.block k hl fun e=>by
              obtain ⟨cs,hcs⟩:=hty k e.symm
              exact Kd.R_ne HDW.out.r3 hcs (by decide) hk)
theorem Turned.of_grown {w w':World} {row:Option Nat} (h:w.grownBy w' row):Turned w w' (fun k=>some k=row):=⟨h.os,h.tape,h.output,h.size,fun k hk hn=>h.block k hk hn⟩
theorem HasD.slices {W:World} {base:Nat} {v0 v1 v2 v3:Value} {a:List S45} {b c:List S47} {d:List ByteArray} (h:HasD W base v0 v1 v2 v3 a b c d):∃ A0 c0 A1 c1 A2 c2 A3 c3,v0=.slice A0 a.length c0∧v1=.slice A1 b.length c1∧v2=.slice A2 c.length c2∧v3=.slice A3 d.length c3:=by
  obtain ⟨A0,c0,h0⟩:=Kd.R_slice h.r0
  obtain ⟨A1,c1,h1⟩:=Kd.R_slice h.r1
  obtain ⟨A2,c2,h2⟩:=Kd.R_slice h.r2
  obtain ⟨A3,c3,h3⟩:=Kd.R_slice h.r3
  exact ⟨A0,c0,A1,c1,A2,c2,A3,c3,h0,h1,h2,h3⟩
theorem set_calls {w:World} {g i:Nat} {cs:Array Value} {t:TypeId} {u:Value} {P:Program} {F:FuncId} {args:Array Value} {Q:Ending→World→Prop} (h:w.heap[g]? = some (.cells cs t (0,0)))
    (k:∀ W,W.heap[g]? = some (.cells (cs.setIfInBounds i u) t (0,0))→(∀ {w0:World} {S:Nat→Prop},Turned w0 w S→(S g∨w0.heap.size≤g)→Turned w0 W S)→(∀ j,j≠g→W.heap[j]? = w.heap[j]?)→W.heap.size=w.heap.size→Calls P F args W Q):Calls P F args (w.setCell ⟨g,i,none⟩ u) Q:=
  k _ (blk_set h i u) (fun hT hg=>hT.set (p:=⟨g,i,none⟩) hg u) (fun j hj=>Below.heap_setCell w ⟨g,i,none⟩ u j hj) (by simp)
theorem stepD_r3 {w w1 W:World} {g base:Nat} {v0 v1 v2 v3 v3':Value} {a:List S45} {b c:List S47} {d d':List ByteArray} {cs cs1:Array Value} {p:Nat→Prop} (h:HasD w base v0 v1 v2 v3 a b c d) (hg:w.heap[g]? = some (.cells cs 28 (0,0)))
    (hT:Turned w W (fun k=>k=g∨some k=v0.ownBlock∨some k=v3.ownBlock)) (hR:Kd.R Kd.string 9 w1 base p v3' d') (hg1:w1.heap[g]? = some (.cells cs1 28 (0,0))) (hs:∀ j,j≠g→W.heap[j]? = w1.heap[j]?) (hT0:Turned w W (fun k=>k=g∨some k=v3.ownBlock)):HasD W base v0 v1 v2 v3' a b c d':=by
  have nb:=h.nobox hg (by decide) (by decide) (by decide)
  have ty:=Kd.R_typed h.r3
  refine ⟨Kd.R_step h.r0 fun k hk hl=>hT0.block k hl ?_,Kd.R_step h.r1 fun k hk hl=>hT0.block k hl ?_,Kd.R_step h.r2 fun k hk hl=>hT0.block k hl ?_,Kd.R_step (Kd.R_tight rfl hR) fun k hk _=>hs k fun e=>Kd.R_ne hR hg1 (by decide) (by rw [← e];exact hk),h.ne⟩
  · rintro (rfl | e)
    · exact nb (.inl hk)
    · obtain ⟨z,hz⟩:=ty k e.symm
      exact Kd.R_ne h.r0 hz (by decide) hk
  · rintro (rfl | e)
    · exact nb (.inr (.inl hk))
    · obtain ⟨z,hz⟩:=ty k e.symm
      exact Kd.R_ne h.r1 hz (by decide) hk
  · rintro (rfl | e)
    · exact nb (.inr (.inr (.inl hk)))
    · obtain ⟨z,hz⟩:=ty k e.symm
      exact Kd.R_ne h.r2 hz (by decide) hk
theorem stepD_r1 {W w4 W5:World} {g base:Nat} {v0 v1 v1' v2 v3:Value} {a:List S45} {b b' c:List S47} {d:List ByteArray} {cs:Array Value} {p:Nat→Prop} (h:HasD W base v0 v1 v2 v3 a b c d) (h4:HasD w4 base v0 v1 v2 v3 a b c d) (hbW:base≤W.heap.size)
    (hg:w4.heap[g]? = some (.cells cs 28 (0,0))) (hR:Kd.R k47 47 w4 W.heap.size p v1' b') (hs:∀ j,j≠g→W5.heap[j]? = w4.heap[j]?):HasD W5 base v0 v1' v2 v3 a b' c d:=by
  have nb:=h4.nobox hg (by decide) (by decide) (by decide)
  refine ⟨Kd.R_step h4.r0 fun k hk _=>hs k fun e=>nb (.inl (e▸hk)),Kd.R_step (Kd.R_tight rfl (Kd.R_lower hR hbW)) fun k hk _=>hs k fun e=>Kd.R_ne hR hg (by decide) (e▸hk),Kd.R_step h4.r2 fun k hk _=>hs k fun e=>nb (.inr (.inr (.inl (e▸hk)))),Kd.R_step h4.r3 fun k hk _=>hs k fun e=>nb (.inr (.inr (.inr (e▸hk)))),fun k hk hk2=>?_⟩
  have:=Kd.R_base hR k hk.symm
  have:=Kd.R_lt h.r2 k hk2.symm
  omega
theorem stepD (g base:Nat) (A0 A1 A2 A3:Option Addr) (c0 c1 c2 c3:Nat) (a:List S45) (b c:List S47) (d:List ByteArray) (e f:Int) (s:ByteArray) (w0 w:World) (hB0:Below w0.heap.size w0 w) (hb0:w0.heap.size≤base) (hg0:w0.heap.size≤g) (hbw:base≤w.heap.size)
    (hg:w.heap[g]? = some (.cells #[.slice A0 a.length c0,.slice A1 b.length c1,.slice A2 c.length c2,.slice A3 d.length c3,.int .i64 e,.int .i64 f] 28 (0,0)))
    (hD:HasD w base (.slice A0 a.length c0) (.slice A1 b.length c1) (.slice A2 c.length c2) (.slice A3 d.length c3) a b c d) (hTE:TabsE w0) (hTP:TabsP w0) (hl:(d.length+1)*16≤140737488355328) (r1:List S47) (r2:Bool) (h1:impl_stepDone.f b s=some (r1,r2)) (ids:List Int) (dl:List ByteArray) (F:List S45) (h2:usedIds c dl=some ids) (hdl:d++[s]=dl) (hF:(a.filter fun x=>ids.contains x.f0)=F) :
    Calls Tryz.prog 57 #[.pointer (some ⟨g,0,none⟩),.string s] w fun e_ w'=>e_=.returned (.tuple #[])∧∃ A1' c1' A3' c3',w'.heap[g]? = some (.cells #[.slice A0 F.length c0,.slice A1' r1.length c1',.slice A2 c.length c2,.slice A3' dl.length c3',.int .i64 e,.int .i64 f] 28 (0,0))∧
      HasD w' base (.slice A0 F.length c0) (.slice A1' r1.length c1') (.slice A2 c.length c2) (.slice A3' dl.length c3') F r1 c dl∧Turned w w' (fun k=>k=g∨some k=(Value.slice A0 a.length c0).ownBlock∨some k=(Value.slice A3 d.length c3).ownBlock):=by
  have HG:=zA hg
  have HD:=zA hD
  have H1:=zA h1
  have H2:=zA h2
  have HFF:=zA hF
  have HDL:=zA hdl
  have HE:=zA hTE
  have HP:=zA hTP
  have HB0:=zA hB0
  have HL:=zA hl
  have nb:=hD.nobox hg (by decide) (by decide) (by decide)
  have aa:¬ some g=(Value.slice A3 d.length c3).ownBlock:=fun e=>nb (.inr (.inr (.inr e)))
  have p3:w.cell? ⟨g,3,none⟩=some (.slice A3 d.length c3):=(blk_cell hg 3).trans rfl
  have glt:=blk_lt hg
  have HW:∀ {W:World},Turned w W (fun k=>k=g∨some k=(Value.slice A0 a.length c0).ownBlock∨some k=(Value.slice A3 d.length c3).ownBlock)→Below w0.heap.size w0 W:=fun hT=>hT.below hB0 (fun k hk=>by
      rcases hk with rfl | hk | hk
      · exact hg0
      · exact Nat.le_trans hb0 (Kd.R_base hD.r0 k hk.symm)
      · exact Nat.le_trans hb0 (Kd.R_base hD.r3 k hk.symm)) hB0.size
  have hO3:Kd.R Kd.string 9 w base (fun k=>some k=(Value.slice A3 d.length c3).ownBlock∨w.heap.size≤k) (.slice A3 d.length c3) d:=Kd.R_mono hD.r3 fun k hk=>.inl hk
  have HO3:=zA hO3
  clear hg hD h1 h2 hF hdl hTE hTP hB0 hO3 nb hl
  go_enter Tryz.func57,Tryz.ntmps57
  go_wp2_with (first | (at_builtin;refine Kd.R_append Kd.string (w0:=w) base rfl (.tmp 8) (.tmp 10) 26 9 (.string ⟨#[]⟩) 16 rfl Tryz.underlying26 info9 rfl (by decide) (by decide) (.slice A3 d.length c3) d s [.string s] _ (fun _=>False) rfl rfl rfl (fun _ h=>h.elim) (fun k hk=>.inr hk) HO3.out (Below.refl _ _) hbw HL.out ?_;intro v1 w1 hO1 hb1 hg1 ab;rw [HDL.out] at hO1;obtain ⟨A3p,c3p,rfl⟩:=Kd.R_slice hO1;have hT1:=Turned.of_grown hg1;have G1:=zA ((hT1.block g glt aa).trans HG.out);have T1:=zA (hT1.mono (S':=fun k=>k=g∨some k=(Value.slice A3 d.length c3).ownBlock) fun k _ h=>.inr h);have O1:=zA hO1;clear hO1 hb1 hg1 ab hT1 p3;obtain ⟨x0,x1,x2,x3,x4,x5⟩:=blk6 G1.out;have z1:=blk_frozen G1.out 1;have z3:=blk_frozen G1.out 3) | (go_at_call 89;refine set_calls G1.out (fun W hG2 hT2 hs2 hz2=>?_);have TV:=hT2 T1.out (.inl (.inl rfl));have TW:=zA (TV.mono (S':=(fun k=>k=g∨some k=(Value.slice A0 a.length c0).ownBlock∨some k=(Value.slice A3 d.length c3).ownBlock)) fun k _ h=>h.elim .inl fun h=>.inr (.inr h));have hD2:HasD W base (.slice A0 a.length c0) (.slice A1 b.length c1) (.slice A2 c.length c2) (.slice A3p dl.length c3p) a b c dl:=stepD_r3 HD.out HG.out TW.out O1.out G1.out hs2 TV;have CS:=impl_stepDone.calls A1 c1 b s r1 r2 W (Kd.R_reads' hD2.r1).2.2 (Kd.R_reads' hD2.r1).2.1 (HE.out.below (HW TW.out)) (HP.out.below (HW TW.out)) H1.out;have D2:=zA hD2;have G2:=zA hG2;clear hD2 hG2 hT2 hs2 hz2 TV;refine CS.mono ?_;rintro e_ w4 ⟨v4,rfl,hR4,hb4⟩;obtain ⟨A4,c4,rfl⟩:=Kd.R_slice hR4;have G4:=zb G2 hb4;have T4:=zA (TW.out.trans (Turned.of hb4 _));have R4:=zA hR4;have D4:=zA (D2.out.on hb4);clear CS hb4 hR4 x0 x1 x2 x3 x4 x5 z1 z3;obtain ⟨x0,x1,x2,x3,x4,x5⟩:=blk6 G4.out;have z1:=blk_frozen G4.out 1) | (go_at_call 96;refine set_calls G4.out (fun W5 hG5 hT5 hs5 hz5=>?_);have T5:=zA (hT5 T4.out (.inl (.inl rfl)));have hD5:HasD W5 base (.slice A0 a.length c0) (.slice A4 r1.length c4) (.slice A2 c.length c2) (.slice A3p dl.length c3p) a r1 c dl:=stepD_r1 D2.out D4.out (Nat.le_trans hbw TW.out.size) G4.out R4.out hs5;refine (cleanD g base A0 A4 A2 A3p c0 c4 c2 c3p a r1 c dl e f W5 hG5 hD5 (HE.out.below (HW T5.out)) (HP.out.below (HW T5.out)) ids F H2.out HFF.out).mono ?_;clear hG5 hT5 hs5 hz5 hD5;rintro e_ w6 ⟨rfl,hG6,hD6,hT6⟩))
  go_end0
  exact ⟨rfl,A4,c4,A3p,c3p,hG6,hD6,T5.out.trans (hT6.mono fun k _ h=>h.elim .inl fun h=>.inr (.inl h))⟩
def stepF (a:List S45) (b c:List S47) (d:List ByteArray) (e f:Int) (s:ByteArray) (r:Int):Option (List (S45)×List (S47)×List (S47)×List ByteArray×Int×Int×Int):=
  if (d.length+1)*16≤140737488355328 then (impl_stepDone.f b s).bind fun q=>(usedIds c (d++[s])).bind fun ids=>some (a.filter fun x=>ids.contains x.f0,q.1,c,d++[s],e,f,r) else none
def impl_RemoveFile.f (k:Nat) (ab:List S45) (aa:List S47) (ad:List S47) (ae:List ByteArray) (af:Int) (ag:Int) (a1:ByteArray):Option (List (S45)×List (S47)×List (S47)×List ByteArray×Int×Int×Int):=(impl_copyDisk.f ab aa ad ae af ag).bind fun o=>(impl_DiskOk.f k ab aa ad ae af ag).bind fun b=>if b=true then (impl_placeOf.f aa a1).bind fun p=>if p<0 then some (o.1,o.2.1,o.2.2.1,o.2.2.2.1,o.2.2.2.2.1,o.2.2.2.2.2,3) else if a1.size≤140737488355328 then stepF o.1 o.2.1 o.2.2.1 o.2.2.2.1 o.2.2.2.2.1 o.2.2.2.2.2 ((⟨#[45]⟩:ByteArray)++a1) 0 else none else some (o.1,o.2.1,o.2.2.1,o.2.2.2.1,o.2.2.2.2.1,o.2.2.2.2.2,3)
theorem impl_RemoveFile.mono:∀ aa ab ad ae af ag a1 k,LeO (impl_RemoveFile.f k aa ab ad ae af ag a1) (impl_RemoveFile.f (k+1) aa ab ad ae af ag a1):=by
  intro aa ab ad ae af ag a1 k
  unfold impl_RemoveFile.f
  repeat' first | (with_reducible exact LeO.refl _) | (with_reducible exact impl_DiskOk.mono _ _ _ _ _ _ _) | (with_reducible refine LeO.ite ?_ ?_) | (with_reducible refine LeO.bind ?_ (fun _=>?_))
theorem impl_RemoveFile.calls (k:Nat) (ar:Option Addr) (au:Nat) (ab:List (S45)) (ao:Option Addr) (aq:Nat) (aa:List (S47)) (av:Option Addr) (aw:Nat) (ad:List (S47)) (ax:Option Addr) (ay:Nat) (ae:List ByteArray) (az:Int) (aA:Int) (a1:ByteArray) (r1:List S45) (r2:List S47) (r3:List S47) (r4:List ByteArray) (r5:Int) (r6:Int) (r7:Int) (w:World) (ah:Kd.C k45 w ar ab.length ab) (ai:ab.length≤au) (af:Kd.C k47 w ao aa.length aa) (ag:aa.length≤aq) (aj:Kd.C k47 w av ad.length ad) (ak:ad.length≤aw) (al:Kd.C Kd.string w ax ae.length ae) (an:ae.length≤ay) (hTE:TabsE w) (hTP:TabsP w) (h:impl_RemoveFile.f k ab aa ad ae az aA a1=some (r1,r2,r3,r4,r5,r6,r7)) :
    Calls Tryz.prog 14 #[.agg #[.slice ar ab.length au,.slice ao aa.length aq,.slice av ad.length aw,.slice ax ae.length ay,.int .i64 az,.int .i64 aA],.string a1] w fun e w'=>∃ v0_ v1_ v2_ v3_:Value,e=.returned (.tuple #[.agg #[v0_,v1_,v2_,v3_,.int .i64 r5,.int .i64 r6],.int .i64 r7])∧Kd.R k45 45 w' w.heap.size (fun _=>True) v0_ r1∧Kd.R k47 47 w' w.heap.size (fun k_=>some k_≠(v2_:Value).ownBlock) v1_ r2∧Kd.R k47 47 w' w.heap.size (fun k_=>some k_≠(v1_:Value).ownBlock) v2_ r3∧Kd.R Kd.string 9 w' w.heap.size (fun _=>True) v3_ r4∧Below w.heap.size w w':=by
  unfold impl_RemoveFile.f at h
  replace h:=zo h
  obtain ⟨⟨o1,o2,o3,o4,o5,o6⟩,ho,h⟩:=h
  replace h:=zo h
  obtain ⟨b,hbk,h⟩:=h
  dsimp only at h
  have CC:=zA (fun (w1:World) (hb:Below w.heap.size w w1)=>impl_copyDisk.calls ar au ab ao aq aa av aw ad ax ay ae az aA o1 o2 o3 o4 o5 o6 w1 (Kd.C_below ah hb) ai (Kd.C_below af hb) ag (Kd.C_below aj hb) ak (Kd.C_below al hb) an ho)
  have CD:=zA (fun (w1:World) (hb:Below w.heap.size w w1)=>impl_DiskOk.calls k ar au ab ao aq aa av aw ad ax ay ae az aA b w1 (Kd.C_below ah hb) ai (Kd.C_below af hb) ag (Kd.C_below aj hb) ak (Kd.C_below al hb) an (hTE.below hb) (hTP.below hb) hbk)
  have HE:=zA hTE
  have HP:=zA hTP
  cases b
  (rw [if_neg (by decide)] at h;simp only [Option.some.injEq,Prod.mk.injEq] at h;obtain ⟨rfl,rfl,rfl,rfl,rfl,rfl,rfl⟩:=h;clear ho hbk ah ai af ag aj ak al an hTE hTP)
  (rotate_left 1;(rw [if_pos rfl] at h;replace h:=zo h;obtain ⟨p,hp,h⟩:=h;have CP:=zA (fun (w1:World) (hb:Below w.heap.size w w1)=>impl_placeOf.calls ao aq aa a1 p w1 (Kd.C_below af hb) ag hp);clear ho hbk hp ah ai af ag aj ak al an hTE hTP;by_cases tn:p<0);rotate_right 1)
  (rotate_left 1;(rw [if_pos tn] at h;have dt:decide (p<0)=true:=zt tn;simp only [Option.some.injEq,Prod.mk.injEq] at h;obtain ⟨rfl,rfl,rfl,rfl,rfl,rfl,rfl⟩:=h);rotate_right 1)
  (rotate_left 2;(rw [if_neg tn] at h;have dt:decide (p<0)=false:=zf tn;by_cases hsz:a1.size≤140737488355328);rotate_right 2)
  (rotate_left 3;(rw [if_neg hsz] at h;cases h);rotate_right 3)
  (rotate_left 2;(rw [if_pos hsz] at h);rotate_right 2)
  (rotate_left 2;(unfold stepF at h;by_cases hl:(o4.length+1)*16≤140737488355328);rotate_right 2)
  (rotate_left 3;(rw [if_neg hl] at h;cases h);rotate_right 3)
  (rotate_left 2;(rw [if_pos hl] at h;replace h:=zo h;obtain ⟨⟨q1,q2⟩,h1,h⟩:=h;replace h:=zo h;obtain ⟨ids,h2,h⟩:=h;dsimp only at h;simp only [Option.some.injEq,Prod.mk.injEq] at h;obtain ⟨rfl,rfl,rfl,rfl,rfl,rfl,rfl⟩:=h;have H1:=zA h1;have H2:=zA h2;have HL:=zA hl;clear h1 h2 hl;generalize hF:(List.filter (fun x=>ids.contains x.f0) o1)=F;generalize hdl:(o4++[((⟨#[45]⟩:ByteArray)++a1)])=dl at H2 ⊢;have HF:=zA hF;have HDL:=zA hdl;clear hF hdl;have hcat:¬ 9223372036854775807<(⟨#[45]⟩:ByteArray).size+a1.size:=(by show ¬ 9223372036854775807<1+a1.size;omega);generalize hs:((⟨#[45]⟩:ByteArray)++a1)=s at H1 HDL);rotate_right 2)
  all_goals (go_enter Tryz.func14,Tryz.ntmps14;go_wp2_with (first | ((with_reducible refine gate_dst (N:=2) rfl ?_);refine box_event ?hg (N:=2) ?hd (cs:=#[.slice ar ab.length au,.slice ao aa.length aq,.slice av ad.length aw,.slice ax ae.length ay,.int .i64 az,.int .i64 aA]) (t:=28) ?hr ?_;(case hd=>rfl);(case hg=>rfl);(case hr=>first | (go_simp;done) | (go_simp;rfl));intro gD hg w1 hbox hb;have BL:=zA hb;have BD:=zA hbox;clear hb;replace iD:=blk6 BD.out;clear hg hbox) | ((with_reducible refine gate_dst (N:=4) rfl ?_);refine box_event ?hg (N:=4) ?hd (cs:=#[.slice none 0 0,.slice none 0 0,.slice none 0 0,.slice none 0 0,.int .i64 0,.int .i64 0]) (t:=28) ?hr ?_;(case hd=>rfl);(case hg=>rfl);(case hr=>first | (go_simp;done) | (go_simp;rfl));intro gR hg w1 hbox hb;have GR:=zA (show w.heap.size≤gR by rw [hg];exact BL.out.size);replace BL:=zs BL hb;(try replace BD:=zb BD hb);(try replace BR:=zb BR hb);(try replace BO:=zb BO hb);(try replace Do:=zA (Do.out.on hb));have BR:=zA hbox;clear hb;replace iD:=blk6 BD.out;clear hg hbox) | (go_at_call 40;have hbs:=BL.out.size;(with_reducible refine (CC.out _ BL.out).mono ?_);rintro e w1 ⟨v0,v1,v2,v3,rfl,p0,p1,p2,p3,hb⟩;have hD:=HasD.of p0 p1 p2 p3;replace BL:=zs BL hb;(try replace BD:=zb BD hb);(try replace BR:=zb BR hb);(try replace BO:=zb BO hb);(try replace Do:=zA (Do.out.on hb));have Do:=zA (hD.lower hbs);obtain ⟨A0,c0,rfl⟩:=Kd.R_slice p0;obtain ⟨A1,c1,rfl⟩:=Kd.R_slice p1;obtain ⟨A2,c2,rfl⟩:=Kd.R_slice p2;obtain ⟨A3,c3,rfl⟩:=Kd.R_slice p3;clear hD hb hbs p0 p1 p2 p3;replace iD:=blk6 BD.out) | ((with_reducible refine gate_store (t:=28) (p:=6) rfl ?_);refine store_event (t:=28) (p:=6) (v:=?voO) (w1:=w1.alloc (.cells #[.slice A0 o1.length c0,.slice A1 o2.length c1,.slice A2 o3.length c2,.slice A3 o4.length c3,.int .i64 o5,.int .i64 o6] 28 (0,0))) ?hg ?ho ?hn ?hr ?_;(case ho=>rfl);(case hg=>rfl);(case hn=>rfl);(case hr=>first | (go_simp;done) | (go_simp;rfl));intro wz hw;have hb:Below w1.heap.size w1 wz:=(by rw [hw];exact below_alloc (Below.refl _ _) _);have hbox:=(by rw [hw];exact blk_new w1 _:wz.heap[w1.heap.size]? = some (.cells #[.slice A0 o1.length c0,.slice A1 o2.length c1,.slice A2 o3.length c2,.slice A3 o4.length c3,.int .i64 o5,.int .i64 o6] 28 (0,0)));clear hw;obtain ⟨gO,hg⟩:∃ g,g=w1.heap.size:=⟨_,rfl⟩;rw [← hg] at hbox ⊢;have GO:=zA (show w.heap.size≤gO by rw [hg];exact BL.out.size);have DO:=zA (show gD≠gO by rw [hg];exact Nat.ne_of_lt (blk_lt BD.out));have RO:=zA (show gR≠gO by rw [hg];exact Nat.ne_of_lt (blk_lt BR.out));clear hg;replace BL:=zs BL hb;(try replace BD:=zb BD hb);(try replace BR:=zb BR hb);(try replace BO:=zb BO hb);(try replace Do:=zA (Do.out.on hb));have BO:=zA hbox;clear hb hbox;replace iD:=blk6 BD.out;replace iO:=blk6 BO.out;replace iR:=blk6 BR.out;replace zO:=z6of BO.out;replace zR:=z6of BR.out) | (go_at_call 42;(with_reducible refine (CD.out _ BL.out).mono ?_);rintro e w1 ⟨rfl,hb⟩;replace BL:=zs BL hb;(try replace BD:=zb BD hb);(try replace BR:=zb BR hb);(try replace BO:=zb BO hb);(try replace Do:=zA (Do.out.on hb));clear hb;replace iD:=blk6 BD.out;replace iO:=blk6 BO.out;replace iR:=blk6 BR.out;replace zO:=z6of BO.out;replace zR:=z6of BR.out) | (go_at_call 56;(with_reducible refine (CP.out _ BL.out).mono ?_);rintro e w1 ⟨rfl,hb⟩;replace BL:=zs BL hb;(try replace BD:=zb BD hb);(try replace BR:=zb BR hb);(try replace BO:=zb BO hb);(try replace Do:=zA (Do.out.on hb));clear hb;replace iD:=blk6 BD.out;replace iO:=blk6 BO.out;replace iR:=blk6 BR.out;replace zO:=z6of BO.out;replace zR:=z6of BR.out) | (go_at_call 57;refine (stepD gO w.heap.size A0 A1 A2 A3 c0 c1 c2 c3 o1 o2 o3 o4 o5 o6 s w _ BL.out (Nat.le_refl _) GO.out BL.out.size BO.out Do.out HE.out HP.out HL.out q1 q2 H1.out ids dl F H2.out HDL.out HF.out).mono ?_;rintro e w2 ⟨rfl,A1p,c1p,A3p,c3p,hG,hD2,hT⟩;have nbR:=Do.out.nobox BR.out (by decide) (by decide) (by decide);have BR2:=zA ((hT.block gR (blk_lt BR.out) (by rintro (h | h | h);exact RO.out h;exact nbR (.inl h);exact nbR (.inr (.inr (.inr h))))).trans BR.out);have BL2:=zA (hT.below BL.out (fun k hk=>by rcases hk with rfl | hk | hk;exact GO.out;exact Do.out.ge k (.inl hk);exact Do.out.ge k (.inr (.inr (.inr hk)))) BL.out.size);clear BR BL BD BO Do;have BR:=BR2;have BL:=BL2;have BO:=zA hG;have Do:=zA hD2;clear BR2 BL2 hG hD2 hT nbR;clear iD;replace iO:=blk6 BO.out;replace iR:=blk6 BR.out;replace zR:=z6of BR.out)))
  iterate 2 (refine bodyPost_ret (results_ct rfl _ _ gR 28 #[.slice A0 o1.length c0,.slice A1 o2.length c1,.slice A2 o3.length c2,.slice A3 o4.length c3,.int .i64 o5,.int .i64 o6] (0,0) _ rfl (fill6_at BR.out) Tryz.underlying28 rfl (by kernel_rfl)) rfl ?_;have hT:=filled_told (.int .i64 o5) (.int .i64 o6) Do.out BR.out;exact ⟨_,_,_,_,rfl,hT.1,hT.2.1,hT.2.2.1,hT.2.2.2,fill6_below BL.out GR.out⟩)
  refine bodyPost_ret (results_ct rfl _ _ gR 28 #[.slice A0 F.length c0,.slice A1p q1.length c1p,.slice A2 o3.length c2,.slice A3p dl.length c3p,.int .i64 o5,.int .i64 o6] (0,0) _ rfl (fill6_at BR.out) Tryz.underlying28 rfl (by kernel_rfl)) rfl ?_
  have hT:=filled_told (.int .i64 o5) (.int .i64 o6) Do.out BR.out
  exact ⟨_,_,_,_,rfl,hT.1,hT.2.1,hT.2.2.1,hT.2.2.2,fill6_below BL.out GR.out⟩
theorem create_r0 {w1 w2 W:World} {g base:Nat} {v0 v1 v2 v3 v0':Value} {a a':List S45} {b c:List S47} {d:List ByteArray} {cs:Array Value} {p:Nat→Prop} (h:HasD w1 base v0 v1 v2 v3 a b c d) (hT:Turned w1 w2 (fun k=>some k=v0.ownBlock)) (hg1:w1.heap[g]? = some (.cells cs 28 (0,0)))
    (hR:Kd.R k45 45 w2 base p v0' a') (hg:w2.heap[g]? = some (.cells cs 28 (0,0))) (hs:∀ j,j≠g→W.heap[j]? = w2.heap[j]?):HasD W base v0' v1 v2 v3 a' b c d:=by
  have nb:=h.nobox hg1 (by decide) (by decide) (by decide)
  have ty:=Kd.R_typed h.r0
  have go:∀ k,k<w1.heap.size→¬ k=g→(¬ some k=v0.ownBlock)→W.heap[k]? = w1.heap[k]?:=fun k hl h1 h2=>(hs k h1).trans (hT.block k hl h2)
  refine ⟨Kd.R_step (Kd.R_tight rfl hR) fun k hk _=>hs k fun e=>Kd.R_ne hR hg (by decide) (e▸hk),Kd.R_step h.r1 fun k hk hl=>go k hl (fun e=>nb (.inr (.inl (e▸hk)))) fun e=>?_,Kd.R_step h.r2 fun k hk hl=>go k hl (fun e=>nb (.inr (.inr (.inl (e▸hk))))) fun e=>?_,Kd.R_step h.r3 fun k hk hl=>go k hl (fun e=>nb (.inr (.inr (.inr (e▸hk))))) fun e=>?_,h.ne⟩
  · obtain ⟨z,hz⟩:=ty k e.symm
    exact Kd.R_ne h.r1 hz (by decide) hk
  · obtain ⟨z,hz⟩:=ty k e.symm
    exact Kd.R_ne h.r2 hz (by decide) hk
  · obtain ⟨z,hz⟩:=ty k e.symm
    exact Kd.R_ne h.r3 hz (by decide) hk
def impl_CreateFile.f (k:Nat) (ad:List S45) (ab:List S47) (ae:List S47) (af:List ByteArray) (ag:Int) (aa:Int) (a1:ByteArray):Option (List (S45)×List (S47)×List (S47)×List ByteArray×Int×Int×Int):=(impl_copyDisk.f ad ab ae af ag aa).bind fun o=>(impl_DiskOk.f k ad ab ae af ag aa).bind fun b=>if b=true then (if a1.size≤70368744177664 then (if nmOk a1.data.toList=true then ((impl_placeOf.f ab a1).bind fun p=>if 0≤p then some (o.1,o.2.1,o.2.2.1,o.2.2.2.1,o.2.2.2.2.1,o.2.2.2.2.2,2) else if 16≤ab.length then some (o.1,o.2.1,o.2.2.1,o.2.2.2.1,o.2.2.2.2.1,o.2.2.2.2.2,4) else if 64≤ad.length then some (o.1,o.2.1,o.2.2.1,o.2.2.2.1,o.2.2.2.2.1,o.2.2.2.2.2,4) else if 1000000000≤aa then some (o.1,o.2.1,o.2.2.1,o.2.2.2.1,o.2.2.2.2.1,o.2.2.2.2.2,4) else (impl_Decimal.f aa).bind fun t=>if t.size≤70368744177664∧(o.1.length+1)*32≤140737488355328 then stepF (o.1++[⟨aa,⟨#[]⟩,0⟩]) o.2.1 o.2.2.1 o.2.2.2.1 o.2.2.2.2.1 (wrap64 (o.2.2.2.2.2+1)) (((⟨#[43]⟩:ByteArray)++a1++⟨#[58]⟩)++t) 0 else none) else some (o.1,o.2.1,o.2.2.1,o.2.2.2.1,o.2.2.2.2.1,o.2.2.2.2.2,1)) else none) else some (o.1,o.2.1,o.2.2.1,o.2.2.2.1,o.2.2.2.2.1,o.2.2.2.2.2,3)
theorem impl_CreateFile.mono:∀ aa ab ad ae af ag a1 k,LeO (impl_CreateFile.f k aa ab ad ae af ag a1) (impl_CreateFile.f (k+1) aa ab ad ae af ag a1):=by
  intro aa ab ad ae af ag a1 k
  unfold impl_CreateFile.f
  repeat' first | (with_reducible exact LeO.refl _) | (with_reducible exact impl_DiskOk.mono _ _ _ _ _ _ _) | (with_reducible refine LeO.bind ?_ (fun _=>?_))
theorem impl_CreateFile.calls (k:Nat) (au:Option Addr) (av:Nat) (al:List (S45)) (aq:Option Addr) (ar:Nat) (aj:List (S47)) (aw:Option Addr) (ax:Nat) (an:List (S47)) (ay:Option Addr) (az:Nat) (ao:List ByteArray) (aA:Int) (ak:Int) (a1:ByteArray) (r1:List S45) (r2:List S47) (r3:List S47) (r4:List ByteArray) (r5:Int) (r6:Int) (r7:Int) (w:World) (ad:Kd.C k45 w au al.length al) (ae:al.length≤av) (aa:Kd.C k47 w aq aj.length aj) (ab:aj.length≤ar) (af:Kd.C k47 w aw an.length an) (ag:an.length≤ax) (ah:Kd.C Kd.string w ay ao.length ao) (ai:ao.length≤az) (hTE:TabsE w) (hTP:TabsP w) (h:impl_CreateFile.f k al aj an ao aA ak a1=some (r1,r2,r3,r4,r5,r6,r7)) :
    Calls Tryz.prog 15 #[.agg #[.slice au al.length av,.slice aq aj.length ar,.slice aw an.length ax,.slice ay ao.length az,.int .i64 aA,.int .i64 ak],.string a1] w fun e w'=>∃ v0_ v1_ v2_ v3_:Value,e=.returned (.tuple #[.agg #[v0_,v1_,v2_,v3_,.int .i64 r5,.int .i64 r6],.int .i64 r7])∧Kd.R k45 45 w' w.heap.size (fun _=>True) v0_ r1∧Kd.R k47 47 w' w.heap.size (fun k_=>some k_≠(v2_:Value).ownBlock) v1_ r2∧Kd.R k47 47 w' w.heap.size (fun k_=>some k_≠(v1_:Value).ownBlock) v2_ r3∧Kd.R Kd.string 9 w' w.heap.size (fun _=>True) v3_ r4∧Below w.heap.size w w':=by
  unfold impl_CreateFile.f at h
  replace h:=zo h
  obtain ⟨⟨o1,o2,o3,o4,o5,o6⟩,ho,h⟩:=h
  replace h:=zo h
  obtain ⟨b,hbk,h⟩:=h
  dsimp only at h
  have CC:=zA (fun (w1:World) (hb:Below w.heap.size w w1)=>impl_copyDisk.calls au av al aq ar aj aw ax an ay az ao aA ak o1 o2 o3 o4 o5 o6 w1 (Kd.C_below ad hb) ae (Kd.C_below aa hb) ab (Kd.C_below af hb) ag (Kd.C_below ah hb) ai ho)
  have CD:=zA (fun (w1:World) (hb:Below w.heap.size w w1)=>impl_DiskOk.calls k au av al aq ar aj aw ax an ay az ao aA ak b w1 (Kd.C_below ad hb) ae (Kd.C_below aa hb) ab (Kd.C_below af hb) ag (Kd.C_below ah hb) ai (hTE.below hb) (hTP.below hb) hbk)
  have HE:=zA hTE
  have HP:=zA hTP
  cases b
  (rw [if_neg (by decide)] at h;simp only [Option.some.injEq,Prod.mk.injEq] at h;obtain ⟨rfl,rfl,rfl,rfl,rfl,rfl,rfl⟩:=h;clear ho hbk ad ae aa ab af ag ah ai hTE hTP)
  (rotate_left 1;(rw [if_pos rfl] at h;by_cases hsz:a1.size≤70368744177664);rotate_right 1)
  (rotate_left 2;(rw [if_neg hsz] at h;cases h);rotate_right 2)
  (rotate_left 1;(rw [if_pos hsz] at h;have CN:=zA (fun (w1:World)=>nameOk_any a1 (by omega) w1);generalize nmOk a1.data.toList=b at h CN;cases b);rotate_right 1)
  (rotate_left 1;(rw [if_neg (by decide)] at h;simp only [Option.some.injEq,Prod.mk.injEq] at h;obtain ⟨rfl,rfl,rfl,rfl,rfl,rfl,rfl⟩:=h;clear ho hbk ad ae aa ab af ag ah ai hTE hTP);rotate_right 1)
  (rotate_left 2;(rw [if_pos rfl] at h;replace h:=zo h;obtain ⟨p,hp,h⟩:=h;have CP:=zA (fun (w1:World) (hb:Below w.heap.size w w1)=>impl_placeOf.calls aq ar aj a1 p w1 (Kd.C_below aa hb) ab hp);by_cases tn:0≤p);rotate_right 2)
  (rotate_left 2;(rw [if_pos tn] at h;have dt:decide (0≤p)=true:=zt tn;simp only [Option.some.injEq,Prod.mk.injEq] at h;obtain ⟨rfl,rfl,rfl,rfl,rfl,rfl,rfl⟩:=h;clear ho hbk hp ad ae aa ab af ag ah ai hTE hTP);rotate_right 2)
  (rotate_left 3;(rw [if_neg tn] at h;have dt:decide (0≤p)=false:=zf tn;by_cases ta:16≤aj.length);rotate_right 3)
  (rotate_left 3;(rw [if_pos ta] at h;have ta2:decide ((16:Int)≤(aj.length:Int))=true:=zt (by omega);simp only [Option.some.injEq,Prod.mk.injEq] at h;obtain ⟨rfl,rfl,rfl,rfl,rfl,rfl,rfl⟩:=h;clear ho hbk hp ad ae aa ab af ag ah ai hTE hTP);rotate_right 3)
  (rotate_left 4;(rw [if_neg ta] at h;have ta2:decide ((16:Int)≤(aj.length:Int))=false:=zf (by omega);by_cases tb:64≤al.length);rotate_right 4)
  (rotate_left 4;(rw [if_pos tb] at h;have tb2:decide ((64:Int)≤(al.length:Int))=true:=zt (by omega);simp only [Option.some.injEq,Prod.mk.injEq] at h;obtain ⟨rfl,rfl,rfl,rfl,rfl,rfl,rfl⟩:=h;clear ho hbk hp ad ae aa ab af ag ah ai hTE hTP);rotate_right 4)
  (rotate_left 5;(rw [if_neg tb] at h;have tb2:decide ((64:Int)≤(al.length:Int))=false:=zf (by omega);by_cases tc:1000000000≤ak);rotate_right 5)
  (rotate_left 5;(rw [if_pos tc] at h;have tc1:decide (1000000000≤ak)=true:=zt tc;simp only [Option.some.injEq,Prod.mk.injEq] at h;obtain ⟨rfl,rfl,rfl,rfl,rfl,rfl,rfl⟩:=h;clear ho hbk hp ad ae aa ab af ag ah ai hTE hTP);rotate_right 5)
  (rotate_left 6;(rw [if_neg tc] at h;have tc1:decide (1000000000≤ak)=false:=zf tc;replace h:=zo h;obtain ⟨t,ht,h⟩:=h;by_cases hnz:t.size≤70368744177664∧(o1.length+1)*32≤140737488355328);rotate_right 6)
  (rotate_left 7;(rw [if_neg hnz] at h;cases h);rotate_right 7)
  (rotate_left 6;(rw [if_pos hnz] at h;obtain ⟨htz,hnz⟩:=hnz;have CDec:=zA (fun (w1:World) (hb:Below w.heap.size w w1)=>impl_Decimal.calls ak t w1 (hTP.below hb) ht);clear ho hbk hp ht ad ae aa ab af ag ah ai hTE hTP;generalize hnl:(o1++[(⟨ak,⟨#[]⟩,0⟩:S45)])=nl at h;have HNL:=zA hnl;have HNZ:=zA hnz;obtain ⟨f6,hf6⟩:∃ x,wrap64 (o6+1)=x:=⟨_,rfl⟩;rw [hf6] at h;have hw6:IntKind.i64.wrap (o6+1)=f6:=((i64_w _).trans hf6);clear hnl hnz);rotate_right 6)
  (rotate_left 6;(unfold stepF at h;by_cases hl:(o4.length+1)*16≤140737488355328);rotate_right 6)
  (rotate_left 7;(rw [if_neg hl] at h;cases h);rotate_right 7)
  (rotate_left 6;(rw [if_pos hl] at h;replace h:=zo h;obtain ⟨⟨q1,q2⟩,h1,h⟩:=h;replace h:=zo h;obtain ⟨ids,h2,h⟩:=h;dsimp only at h;simp only [Option.some.injEq,Prod.mk.injEq] at h;obtain ⟨rfl,rfl,rfl,rfl,rfl,rfl,rfl⟩:=h;have H1:=zA h1;have H2:=zA h2;have HL:=zA hl;clear h1 h2 hl;generalize hF:(List.filter (fun x=>ids.contains x.f0) nl)=F;generalize hdl:(o4++[(((⟨#[43]⟩:ByteArray)++a1++⟨#[58]⟩)++t)])=dl at H2 ⊢;have HF:=zA hF;have HDL:=zA hdl;clear hF hdl;have hcat1:¬ 9223372036854775807<(⟨#[43]⟩:ByteArray).size+a1.size:=(by show ¬ 9223372036854775807<1+a1.size;omega);have hcat2:¬ 9223372036854775807<((⟨#[43]⟩:ByteArray)++a1).size+(⟨#[58]⟩:ByteArray).size:=(by rw [ByteArray.size_append];show ¬ 9223372036854775807<1+a1.size+1;omega);have hcat3:¬ 9223372036854775807<((⟨#[43]⟩:ByteArray)++a1++⟨#[58]⟩).size+t.size:=(by rw [ByteArray.size_append,ByteArray.size_append];show ¬ 9223372036854775807<1+a1.size+1+t.size;omega);generalize hs:(((⟨#[43]⟩:ByteArray)++a1++⟨#[58]⟩)++t)=s at H1 HDL);rotate_right 6)
  all_goals (go_enter Tryz.func15,Tryz.ntmps15;go_wp2_with (first | ((with_reducible refine gate_dst (N:=2) rfl ?_);refine box_event ?hg (N:=2) ?hd (cs:=#[.slice au al.length av,.slice aq aj.length ar,.slice aw an.length ax,.slice ay ao.length az,.int .i64 aA,.int .i64 ak]) (t:=28) ?hr ?_;(case hd=>rfl);(case hg=>rfl);(case hr=>(go_simp;done));intro gD hg w1 hbox hb;have BL:=zA hb;have BD:=zA hbox;clear hb;replace iD:=blk6 BD.out;clear hg hbox) | ((with_reducible refine gate_dst (N:=4) rfl ?_);refine box_event ?hg (N:=4) ?hd (cs:=#[.slice none 0 0,.slice none 0 0,.slice none 0 0,.slice none 0 0,.int .i64 0,.int .i64 0]) (t:=28) ?hr ?_;(case hd=>rfl);(case hg=>rfl);(case hr=>(go_simp;done));intro gR hg w1 hbox hb;have GR:=zA (show w.heap.size≤gR by rw [hg];exact BL.out.size);replace BL:=zs BL hb;(try replace BD:=zb BD hb);have BR:=zA hbox;clear hb;replace iD:=blk6 BD.out;clear hg hbox) | (go_at_call 40;have hbs:=BL.out.size;(with_reducible refine (CC.out _ BL.out).mono ?_);rintro e w1 ⟨v0,v1,v2,v3,rfl,p0,p1,p2,p3,hb⟩;have hD:=HasD.of p0 p1 p2 p3;replace BL:=zs BL hb;(try replace BD:=zb BD hb);(try replace BR:=zb BR hb);have Do:=zA (hD.lower hbs);obtain ⟨A0,c0,rfl⟩:=Kd.R_slice p0;obtain ⟨A1,c1,rfl⟩:=Kd.R_slice p1;obtain ⟨A2,c2,rfl⟩:=Kd.R_slice p2;obtain ⟨A3,c3,rfl⟩:=Kd.R_slice p3;clear hD hb hbs p0 p1 p2 p3;replace iD:=blk6 BD.out) | ((with_reducible refine gate_store (t:=28) (p:=6) rfl ?_);refine store_event (t:=28) (p:=6) (v:=?voO) (w1:=w1.alloc (.cells #[.slice A0 o1.length c0,.slice A1 o2.length c1,.slice A2 o3.length c2,.slice A3 o4.length c3,.int .i64 o5,.int .i64 o6] 28 (0,0))) ?hg ?ho ?hn ?hr ?_;(case ho=>rfl);(case hg=>rfl);(case hn=>rfl);(case hr=>(go_simp;done));intro wz hw;have hb:Below w1.heap.size w1 wz:=(by rw [hw];exact below_alloc (Below.refl _ _) _);have hbox:=(by rw [hw];exact blk_new w1 _:wz.heap[w1.heap.size]? = some (.cells #[.slice A0 o1.length c0,.slice A1 o2.length c1,.slice A2 o3.length c2,.slice A3 o4.length c3,.int .i64 o5,.int .i64 o6] 28 (0,0)));clear hw;obtain ⟨gO,hg⟩:∃ g,g=w1.heap.size:=⟨_,rfl⟩;rw [← hg] at hbox ⊢;have GO:=zA (show w.heap.size≤gO by rw [hg];exact BL.out.size);have DO:=zA (show gD≠gO by rw [hg];exact Nat.ne_of_lt (blk_lt BD.out));have RO:=zA (show gR≠gO by rw [hg];exact Nat.ne_of_lt (blk_lt BR.out));clear hg;replace BL:=zs BL hb;(try replace BD:=zb BD hb);(try replace BR:=zb BR hb);(try replace Do:=zA (Do.out.on hb));have BO:=zA hbox;clear hb hbox;replace iD:=blk6 BD.out;replace iO:=blk6 BO.out;replace iR:=blk6 BR.out;replace zO:=z6of BO.out;replace zR:=z6of BR.out) | (go_at_call 42;(with_reducible refine (CD.out _ BL.out).mono ?_);rintro e w1 ⟨rfl,hb⟩;replace BL:=zs BL hb;(try replace BD:=zb BD hb);(try replace BR:=zb BR hb);(try replace BO:=zb BO hb);(try replace Do:=zA (Do.out.on hb));clear hb;replace iD:=blk6 BD.out;replace iO:=blk6 BO.out;replace iR:=blk6 BR.out;replace zO:=z6of BO.out;replace zR:=z6of BR.out) | (go_at_call 58;(with_reducible refine (CN.out _).mono ?_);rintro e wq ⟨rfl,hq⟩;have hb:=(by obtain ⟨nd,hnd⟩:=hq;rw [hnd];exact pw_below_drewN (Below.refl _ _) nd:Below w1.heap.size w1 wq);clear hq;replace BL:=zs BL hb;(try replace BD:=zb BD hb);(try replace BR:=zb BR hb);(try replace BO:=zb BO hb);(try replace Do:=zA (Do.out.on hb));clear hb;replace iD:=blk6 BD.out;replace iO:=blk6 BO.out;replace iR:=blk6 BR.out;replace zO:=z6of BO.out;replace zR:=z6of BR.out) | (go_at_call 56;(with_reducible refine (CP.out _ BL.out).mono ?_);rintro e w1 ⟨rfl,hb⟩;replace BL:=zs BL hb;(try replace BD:=zb BD hb);(try replace BR:=zb BR hb);(try replace BO:=zb BO hb);(try replace Do:=zA (Do.out.on hb));clear hb;replace iD:=blk6 BD.out;replace iO:=blk6 BO.out;replace iR:=blk6 BR.out;replace zO:=z6of BO.out;replace zR:=z6of BR.out) | (at_builtin;refine Kd.R_append k45 (w0:=w) w.heap.size rfl (.tmp 44) (.tmp 48) 24 45 (.agg #[.int .i64 0,.string ⟨#[]⟩,.int .i64 0]) 32 rfl Tryz.underlying24 info45 rfl (by decide) (by decide) (.slice A0 o1.length c0) o1 ⟨ak,⟨#[]⟩,0⟩ [.int .i64 ak,.string ⟨#[]⟩,.int .i64 0] _ (fun _=>False) rfl rfl (k45_mkM _ _ _ _) (fun _ h=>h.elim) (fun k hk=>.inr hk) (Kd.R_mono (ok':=fun k=>some k=(Value.slice A0 o1.length c0).ownBlock∨_≤k) Do.out.r0 fun k hk=>.inl hk) BL.out BL.out.size HNZ.out ?_;intro v1 w2 hO1 hb1 hg1 aB;rw [HNL.out] at hO1;obtain ⟨A0p,c0p,rfl⟩:=Kd.R_slice hO1;have hT:=Turned.of_grown hg1;have BD2:=zA ((hT.block gD (blk_lt BD.out) (fun e=>Do.out.nobox BD.out (by decide) (by decide) (by decide) (.inl e))).trans BD.out);have BR2:=zA ((hT.block gR (blk_lt BR.out) (fun e=>Do.out.nobox BR.out (by decide) (by decide) (by decide) (.inl e))).trans BR.out);have BO2:=zA ((hT.block gO (blk_lt BO.out) (fun e=>Do.out.nobox BO.out (by decide) (by decide) (by decide) (.inl e))).trans BO.out);have TT:=zA hT;have RR:=zA hO1;have BO1:=BO;clear BD;have BD:=BD2;clear BD2;clear BR;have BR:=BR2;clear BR2;clear BO;have BO:=BO2;clear BO2;clear BL;have BL:=zA hb1;clear hO1 hb1 hg1 aB hT;replace iD:=blk6 BD.out;replace iO:=blk6 BO.out;replace iR:=blk6 BR.out;replace zO:=z6of BO.out;replace zR:=z6of BR.out) | ((with_reducible refine gate_store (t:=24) (p:=50) rfl ?_);refine store_event (t:=24) (p:=50) (v:=?voN) (w1:=w2.setCell ⟨gO,0,none⟩ (.slice A0p nl.length c0p)) ?hg ?ho ?hn ?hr ?_;(case ho=>rfl);(case hg=>rfl);(case hn=>rfl);(case hr=>(go_simp;done));intro wz hw;have hs:∀ j,j≠gO→wz.heap[j]? = w2.heap[j]?:=(by rw [hw];exact fun j hj=>Below.heap_setCell w2 ⟨gO,0,none⟩ _ j hj);have hbl:Below w.heap.size w wz:=(by rw [hw];exact below_set BL.out GO.out);have hG:wz.heap[gO]? = some (.cells #[.slice A0p nl.length c0p,.slice A1 o2.length c1,.slice A2 o3.length c2,.slice A3 o4.length c3,.int .i64 o5,.int .i64 o6] 28 (0,0)):=(by rw [hw];exact blk_put (cs:=#[.slice A0 o1.length c0,.slice A1 o2.length c1,.slice A2 o3.length c2,.slice A3 o4.length c3,.int .i64 o5,.int .i64 o6]) BO.out 0 _ rfl);clear hw;have D2:=zA (create_r0 Do.out TT.out BO1.out RR.out BO.out hs);clear Do BL BO BO1 TT RR;have Do:=D2;have BL:=zA hbl;have BO:=zA hG;clear D2;replace BD:=zA ((hs gD DO.out).trans BD.out);replace BR:=zA ((hs gR RO.out).trans BR.out);clear hs hbl hG;have dDO:=DO.out;have dOD:=Ne.symm dDO;replace iD:=blk6 BD.out;replace iO:=blk6 BO.out;replace iR:=blk6 BR.out;replace zO:=z6of BO.out;replace zR:=z6of BR.out) | (go_at_call 59;refine set_calls BO.out (fun W hG hT hs hz=>?_);have hbl:=hT (Turned.refl _ (fun k=>k=gO)) (.inl rfl);have BL2:=zA (hbl.below BL.out (fun k hk=>by rw [hk];exact GO.out) BL.out.size);have D2:=zA (HasD.fill Do.out BO.out hs);clear BL Do BO;have BL:=BL2;have Do:=D2;have BO:=zA hG;replace BD:=zA ((hs gD DO.out).trans BD.out);replace BR:=zA ((hs gR RO.out).trans BR.out);clear hG hT hs hz hbl BL2 D2;(with_reducible refine (CDec.out _ BL.out).mono ?_);rintro e w1 ⟨rfl,hb⟩;replace BL:=zs BL hb;(try replace BD:=zb BD hb);(try replace BR:=zb BR hb);(try replace BO:=zb BO hb);(try replace Do:=zA (Do.out.on hb));clear hb;replace iD:=blk6 BD.out;replace iO:=blk6 BO.out;replace iR:=blk6 BR.out;replace zO:=z6of BO.out;replace zR:=z6of BR.out) | (go_at_call 57;refine (stepD gO w.heap.size A0p A1 A2 A3 c0p c1 c2 c3 nl o2 o3 o4 o5 f6 s w _ BL.out (Nat.le_refl _) GO.out BL.out.size BO.out Do.out HE.out HP.out HL.out q1 q2 H1.out ids dl F H2.out HDL.out HF.out).mono ?_;rintro e w2 ⟨rfl,A1p,c1p,A3p,c3p,hG,hD2,hT⟩;have nbR:=Do.out.nobox BR.out (by decide) (by decide) (by decide);have BR2:=zA ((hT.block gR (blk_lt BR.out) (by rintro (h | h | h);exact RO.out h;exact nbR (.inl h);exact nbR (.inr (.inr (.inr h))))).trans BR.out);have BL2:=zA (hT.below BL.out (fun k hk=>by rcases hk with rfl | hk | hk;exact GO.out;exact Do.out.ge k (.inl hk);exact Do.out.ge k (.inr (.inr (.inr hk)))) BL.out.size);clear BR BL BD BO Do;have BR:=BR2;have BL:=BL2;have BO:=zA hG;have Do:=zA hD2;clear BR2 BL2 hG hD2 hT nbR;clear iD;replace iO:=blk6 BO.out;replace iR:=blk6 BR.out;replace zR:=z6of BR.out)))
  iterate 6 (refine bodyPost_ret (results_ct rfl _ _ gR 28 #[.slice A0 o1.length c0,.slice A1 o2.length c1,.slice A2 o3.length c2,.slice A3 o4.length c3,.int .i64 o5,.int .i64 o6] (0,0) _ rfl (fill6_at BR.out) Tryz.underlying28 rfl (by kernel_rfl)) rfl ?_;have hT:=filled_told (.int .i64 o5) (.int .i64 o6) Do.out BR.out;exact ⟨_,_,_,_,rfl,hT.1,hT.2.1,hT.2.2.1,hT.2.2.2,fill6_below BL.out GR.out⟩)
  refine bodyPost_ret (results_ct rfl _ _ gR 28 #[.slice A0p F.length c0p,.slice A1p q1.length c1p,.slice A2 o3.length c2,.slice A3p dl.length c3p,.int .i64 o5,.int .i64 f6] (0,0) _ rfl (fill6_at BR.out) Tryz.underlying28 rfl (by kernel_rfl)) rfl ?_
  have hT:=filled_told (.int .i64 o5) (.int .i64 f6) Do.out BR.out
  exact ⟨_,_,_,_,rfl,hT.1,hT.2.1,hT.2.2.1,hT.2.2.2,fill6_below BL.out GR.out⟩
end Go.Proofs.YtokcccejijmkmaaGreatDoor.MFnDeeds
