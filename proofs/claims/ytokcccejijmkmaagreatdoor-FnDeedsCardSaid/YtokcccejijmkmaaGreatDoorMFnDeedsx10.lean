/- Each theorem here says that a call of one Go function answers what the Lean function beside it answers; its conditions stand in it. Written by a program of this session. -/
import Derived.Test.YtokcccejijmkmaaGreatDoorMFnDeedsx0
import Derived.Test.YtokcccejijmkmaaGreatDoorMFnDeedsx3
import Derived.Test.YtokcccejijmkmaaGreatDoorMFnDeedsx7
import Derived.Test.YtokcccejijmkmaaGreatDoorMFnDeedsx8
import Derived.Test.YtokcccejijmkmaaGreatDoorMFnDeedsx9
namespace Go.Proofs.YtokcccejijmkmaaGreatDoor.MFnDeeds
set_option maxHeartbeats 8000000
set_option maxRecDepth 100000
open Go.RowKit Go.Proofs.YtokcccejijmkmaaGreatDoorW.PrintWords Go.Proofs.YtokcccejijmkmaaGreatDoorW.PrintLast Go.Proofs.YtokcccejijmkmaaGreatDoorW.PrintMore
attribute [local go_sem] max2_int min2_int max_two min_two max_three min_three max_four min_four
set_option linter.unusedVariables false
set_option linter.unusedSimpArgs false
theorem blk6 {w:World} {g:Nat} {t:TypeId} {a b c d e f:Value} (h:w.heap[g]? = some (.cells #[a,b,c,d,e,f] t (0,0))) :
    w.cell? ⟨g,0,none⟩=some a∧w.cell? ⟨g,1,none⟩=some b∧w.cell? ⟨g,2,none⟩=some c∧w.cell? ⟨g,3,none⟩=some d∧w.cell? ⟨g,4,none⟩=some e∧w.cell? ⟨g,5,none⟩=some f:=
  ⟨(blk_cell h 0).trans rfl,(blk_cell h 1).trans rfl,(blk_cell h 2).trans rfl,(blk_cell h 3).trans rfl,(blk_cell h 4).trans rfl,(blk_cell h 5).trans rfl⟩
def ownD (v0 v1 v2 v3:Value) (k:Nat):Prop:=some k=v0.ownBlock∨some k=v1.ownBlock∨some k=v2.ownBlock∨some k=v3.ownBlock
structure HasD (W:World) (base:Nat) (v0 v1 v2 v3:Value) (a:List S45) (b c:List S47) (d:List ByteArray):Prop where
  r0:Kd.R k45 45 W base (fun k=>some k=v0.ownBlock) v0 a
  r1:Kd.R k47 47 W base (fun k=>some k=v1.ownBlock) v1 b
  r2:Kd.R k47 47 W base (fun k=>some k=v2.ownBlock) v2 c
  r3:Kd.R Kd.string 9 W base (fun k=>some k=v3.ownBlock) v3 d
  ne:∀ k,some k=v1.ownBlock→¬ some k=v2.ownBlock
theorem HasD.of {W:World} {base:Nat} {v0 v1 v2 v3:Value} {a:List S45} {b c:List S47} {d:List ByteArray} {p0 p2 p3:Nat→Prop}
    (h0:Kd.R k45 45 W base p0 v0 a) (h1:Kd.R k47 47 W base (fun k_=>some k_≠v2.ownBlock) v1 b) (h2:Kd.R k47 47 W base p2 v2 c) (h3:Kd.R Kd.string 9 W base p3 v3 d):HasD W base v0 v1 v2 v3 a b c d:=
  ⟨Kd.R_tight rfl h0,Kd.R_tight rfl h1,Kd.R_tight rfl h2,Kd.R_tight rfl h3,fun k hk=>h1.1 k hk.symm⟩
section
variable {W W':World} {base:Nat} {v0 v1 v2 v3:Value} {a:List S45} {b c:List S47} {d:List ByteArray}
theorem HasD.step (h:HasD W base v0 v1 v2 v3 a b c d) (hm:∀ k,ownD v0 v1 v2 v3 k→k<W.heap.size→W'.heap[k]? = W.heap[k]?):HasD W' base v0 v1 v2 v3 a b c d:=
  ⟨Kd.R_step h.r0 fun k hk hl=>hm k (.inl hk) hl,Kd.R_step h.r1 fun k hk hl=>hm k (.inr (.inl hk)) hl,Kd.R_step h.r2 fun k hk hl=>hm k (.inr (.inr (.inl hk))) hl,Kd.R_step h.r3 fun k hk hl=>hm k (.inr (.inr (.inr hk))) hl,h.ne⟩
theorem HasD.on (h:HasD W base v0 v1 v2 v3 a b c d) (hb:Below W.heap.size W W'):HasD W' base v0 v1 v2 v3 a b c d:=h.step fun k _ hl=>hb.block k hl
theorem HasD.kept (h:HasD W base v0 v1 v2 v3 a b c d) {S:Nat→Prop} (hk:Kept W W' S) (hne:∀ k,ownD v0 v1 v2 v3 k→¬ S k):HasD W' base v0 v1 v2 v3 a b c d:=h.step fun k ho hl=>hk.2 k hl (hne k ho)
theorem HasD.lt (h:HasD W base v0 v1 v2 v3 a b c d):∀ k,ownD v0 v1 v2 v3 k→k<W.heap.size:=fun k hk=>by
  rcases hk with hk | hk | hk | hk
  · exact Kd.R_lt h.r0 k hk.symm
  · exact Kd.R_lt h.r1 k hk.symm
  · exact Kd.R_lt h.r2 k hk.symm
  · exact Kd.R_lt h.r3 k hk.symm
theorem HasD.ge (h:HasD W base v0 v1 v2 v3 a b c d):∀ k,ownD v0 v1 v2 v3 k→base≤k:=fun k hk=>by
  rcases hk with hk | hk | hk | hk
  · exact Kd.R_base h.r0 k hk.symm
  · exact Kd.R_base h.r1 k hk.symm
  · exact Kd.R_base h.r2 k hk.symm
  · exact Kd.R_base h.r3 k hk.symm
theorem HasD.lower (h:HasD W base v0 v1 v2 v3 a b c d) {base':Nat} (hb:base'≤base):HasD W base' v0 v1 v2 v3 a b c d:=⟨Kd.R_lower h.r0 hb,Kd.R_lower h.r1 hb,Kd.R_lower h.r2 hb,Kd.R_lower h.r3 hb,h.ne⟩
end
theorem HasD.nobox {W:World} {base:Nat} {v0 v1 v2 v3:Value} {a:List S45} {b c:List S47} {d:List ByteArray} (h:HasD W base v0 v1 v2 v3 a b c d) {g t:Nat} {cs:Array Value} (hb:W.heap[g]? = some (.cells cs t (0,0))) (hN:45≠t) (hE:47≠t) (hS:9≠t):¬ ownD v0 v1 v2 v3 g:=fun hk=>by
  rcases hk with hk | hk | hk | hk
  · exact Kd.R_ne h.r0 hb hN hk
  · exact Kd.R_ne h.r1 hb hE hk
  · exact Kd.R_ne h.r2 hb hE hk
  · exact Kd.R_ne h.r3 hb hS hk
section
variable {w:World} {g:Nat} {t:TypeId} {x0 x1 x2 x3 x4 x5 a b c d e f:Value}
theorem fill6_at (h:w.heap[g]? = some (.cells #[x0,x1,x2,x3,x4,x5] t (0,0))):((((((w.setCell ⟨g,0,none⟩ a).setCell ⟨g,1,none⟩ b).setCell ⟨g,2,none⟩ c).setCell ⟨g,3,none⟩ d).setCell ⟨g,4,none⟩ e).setCell ⟨g,5,none⟩ f).heap[g]? = some (.cells #[a,b,c,d,e,f] t (0,0)):=
  blk_put (cs:=#[a,b,c,d,e,x5]) (blk_put (cs:=#[a,b,c,d,x4,x5]) (blk_put (cs:=#[a,b,c,x3,x4,x5]) (blk_put (cs:=#[a,b,x2,x3,x4,x5]) (blk_put (cs:=#[a,x1,x2,x3,x4,x5]) (blk_put (cs:=#[x0,x1,x2,x3,x4,x5]) h 0 _ rfl) 1 _ rfl) 2 _ rfl) 3 _ rfl) 4 _ rfl) 5 _ rfl
theorem fill6_far {j:Nat} (hj:j≠g):((((((w.setCell ⟨g,0,none⟩ a).setCell ⟨g,1,none⟩ b).setCell ⟨g,2,none⟩ c).setCell ⟨g,3,none⟩ d).setCell ⟨g,4,none⟩ e).setCell ⟨g,5,none⟩ f).heap[j]? = w.heap[j]?:=by
  rw [Below.heap_setCell _ ⟨g,5,none⟩ _ j hj,Below.heap_setCell _ ⟨g,4,none⟩ _ j hj,Below.heap_setCell _ ⟨g,3,none⟩ _ j hj,Below.heap_setCell _ ⟨g,2,none⟩ _ j hj,Below.heap_setCell _ ⟨g,1,none⟩ _ j hj,Below.heap_setCell _ ⟨g,0,none⟩ _ j hj]
theorem fill6_below {w0:World} (hb:Below w0.heap.size w0 w) (hg:w0.heap.size≤g):Below w0.heap.size w0 ((((((w.setCell ⟨g,0,none⟩ a).setCell ⟨g,1,none⟩ b).setCell ⟨g,2,none⟩ c).setCell ⟨g,3,none⟩ d).setCell ⟨g,4,none⟩ e).setCell ⟨g,5,none⟩ f):=
  below_set (below_set (below_set (below_set (below_set (below_set hb hg) hg) hg) hg) hg) hg
theorem fill6_calls {P:Program} {F:FuncId} {args:Array Value} {Q:Ending→World→Prop} (h:w.heap[g]? = some (.cells #[x0,x1,x2,x3,x4,x5] t (0,0)))
    (k:∀ W,W.heap[g]? = some (.cells #[a,b,c,d,e,f] t (0,0))→(∀ {w0:World},Below w0.heap.size w0 w→w0.heap.size≤g→Below w0.heap.size w0 W)→(∀ j,j≠g→W.heap[j]? = w.heap[j]?)→Calls P F args W Q):Calls P F args ((((((w.setCell ⟨g,0,none⟩ a).setCell ⟨g,1,none⟩ b).setCell ⟨g,2,none⟩ c).setCell ⟨g,3,none⟩ d).setCell ⟨g,4,none⟩ e).setCell ⟨g,5,none⟩ f) Q:=
  k _ (fill6_at h) (fun hb hg=>fill6_below hb hg) (fun j hj=>fill6_far hj)
end
def cellsN:List S45→List Value
  | []=>[]
  | x :: l=>.int .i64 x.f0 :: .string x.f1 :: .int .i64 x.f2 :: cellsN l
theorem cellsN_length:∀ l,(cellsN l).length=l.length*3
  | []=>rfl
  | x :: l=>by rw [cellsN,List.length_cons,List.length_cons,List.length_cons,cellsN_length l,List.length_cons];omega
theorem cellsN_at:∀ (l:List S45) (j:Nat) (x:S45),l[j]? = some x→((cellsN l).drop (j*3)).take 3=[.int .i64 x.f0,.string x.f1,.int .i64 x.f2]
  | [],_,_,h=>by cases h
  | y :: l,0,x,h=>by
    obtain rfl:y=x:=Option.some.inj h
    rfl
  | y :: l,j+1,x,h=>by
    rw [cellsN,show (j+1)*3=j*3+1+1+1 by omega,List.drop_succ_cons,List.drop_succ_cons,List.drop_succ_cons]
    exact cellsN_at l j x h
theorem ownN {w:World} {base:Nat} {ok:Nat→Prop} {v:Value} {l:List S45} (h:Kd.R k45 45 w base ok v l):w.ownsRow base 45 3 v l.length (cellsN l):=by
  obtain ⟨_,inner,ho,hl,hr⟩:=h
  have:inner=cellsN l:=by
    have key:∀ (l:List S45) (inner:List Value),inner.length=l.length*3→(∀ j p,l[j]? = some p→(inner.drop (j*3)).take 3=[.int .i64 p.f0,.string p.f1,.int .i64 p.f2])→inner=cellsN l:=by
      intro l
      induction l with
      | nil=>intro inner h _;exact List.eq_nil_of_length_eq_zero (by simpa using h)
      | cons x l ih=>
        intro inner h hp
        match inner,h with
        | [],h=>simp at h
        | [_],h=>simp at h;omega
        | [_,_],h=>simp at h;omega
        | a :: b :: c :: r,h=>
          have h0:=hp 0 x rfl
          rw [Nat.zero_mul,List.drop_zero,List.take_succ_cons,List.take_succ_cons,List.take_succ_cons,List.take_zero] at h0
          obtain ⟨rfl,h1⟩:=List.cons.inj h0
          obtain ⟨rfl,h2⟩:=List.cons.inj h1
          obtain ⟨rfl,_⟩:=List.cons.inj h2
          rw [cellsN,ih r (by simp only [List.length_cons] at h;omega) (fun j p hj=>by
            have:=hp (j+1) p hj
            rwa [show (j+1)*3=j*3+1+1+1 by omega,List.drop_succ_cons,List.drop_succ_cons,List.drop_succ_cons] at this)]
    exact key l inner hl (fun j p hj=>k45_openM (hr j p hj))
  rw [this] at ho
  exact ho
theorem R_ofN {w:World} {base:Nat} {v:Value} {l:List S45} (h:w.ownsRow base 45 3 v l.length (cellsN l)):Kd.R k45 45 w base (fun _=>True) v l:=
  ⟨fun _ _=>trivial,cellsN l,h,cellsN_length l,fun j p hj=>by
    show k45.M w base _ p (((cellsN l).drop (j*3)).take 3)
    rw [cellsN_at l j p hj];exact k45_mkM _ _ _ p⟩
theorem cellsN_set2:∀ (l:List S45) (i:Nat) (z:Int) (h:i<l.length),(cellsN l).set (i*3+2) (.int .i64 z)=cellsN (l.set i ⟨(l[i]).f0,(l[i]).f1,z⟩)
  | x :: l,0,z,_=>rfl
  | x :: l,i+1,z,h=>by
    rw [cellsN,show (i+1)*3+2=(i*3+2)+1+1+1 by omega,List.set_cons_succ,List.set_cons_succ,List.set_cons_succ,cellsN_set2 l i z (by simpa using h),List.set_cons_succ,cellsN]
    rfl
theorem cellsN_set1:∀ (l:List S45) (i:Nat) (t:ByteArray) (h:i<l.length),(cellsN l).set (i*3+1) (.string t)=cellsN (l.set i ⟨(l[i]).f0,t,(l[i]).f2⟩)
  | x :: l,0,z,_=>rfl
  | x :: l,i+1,z,h=>by
    rw [cellsN,show (i+1)*3+1=(i*3+1)+1+1+1 by omega,List.set_cons_succ,List.set_cons_succ,List.set_cons_succ,cellsN_set1 l i z (by simpa using h),List.set_cons_succ,cellsN]
    rfl
theorem HasD.told {W:World} {base:Nat} {v0 v1 v2 v3:Value} {a:List S45} {b c:List S47} {d:List ByteArray} (h:HasD W base v0 v1 v2 v3 a b c d) :
    Kd.R k45 45 W base (fun _=>True) v0 a∧Kd.R k47 47 W base (fun k_=>some k_≠v2.ownBlock) v1 b∧Kd.R k47 47 W base (fun k_=>some k_≠v1.ownBlock) v2 c∧Kd.R Kd.string 9 W base (fun _=>True) v3 d:=
  ⟨Kd.R_mono h.r0 fun _ _=>trivial,Kd.R_mono h.r1 fun k hk=>h.ne k hk,Kd.R_mono h.r2 fun k hk hj=>h.ne k hj hk,Kd.R_mono h.r3 fun _ _=>trivial⟩
theorem HasD.fill {w:World} {g:Nat} {base:Nat} {v0 v1 v2 v3:Value} {a:List S45} {b c:List S47} {d:List ByteArray} {cs:Array Value} {W:World} (h:HasD w base v0 v1 v2 v3 a b c d) (hb:w.heap[g]? = some (.cells cs 28 (0,0))) (hf:∀ j,j≠g→W.heap[j]? = w.heap[j]?):HasD W base v0 v1 v2 v3 a b c d:=
  h.step fun k hk _=>hf k fun e=>h.nobox hb (by decide) (by decide) (by decide) (e▸hk)
theorem HasD.row {W:World} {base:Nat} {A:Option Addr} {m c0:Nat} {v1 v2 v3:Value} {a:List S45} {b c:List S47} {d:List ByteArray} (h:HasD W base (.slice A m c0) v1 v2 v3 a b c d) (i:Nat) (hi:i<a.length) :
    ∃ g cur,A=some ⟨g,0,none⟩∧m=a.length∧base≤g∧W.heap[g]? = some (.cells cur 45 (0,0))∧W.cell? ⟨g,i*3,none⟩=some (.int .i64 (a[i]).f0)∧W.cell? ⟨g,i*3+1,none⟩=some (.string (a[i]).f1)∧W.cell? ⟨g,i*3+2,none⟩=some (.int .i64 (a[i]).f2)∧(∀ j,W.frozen? ⟨g,j,none⟩=false)∧
      (∀ (j:Nat) (u:Value) (a':List S45),j<a.length*3→a'.length=a.length→(cellsN a).set j u=cellsN a'→HasD (W.setCell ⟨g,j,none⟩ u) base (.slice A m c0) v1 v2 v3 a' b c d):=by
  obtain ⟨_,⟨_,hl0⟩ | ⟨g,cp,cur,hv,hbg,hg,hlc,hm,hsz,htk⟩⟩:=ownN h.r0
  · omega
  injection hv with h1 h2 h3
  subst h1 h2 h3
  have hat:∀ j v,(cellsN a)[j]? = some v→W.cell? ⟨g,j,none⟩=some v:=fun j v hj=>by
    rw [← htk,List.getElem?_take] at hj
    split at hj
    · rw [cell_of_row W g j cur _ _ hg]
      rw [Array.getElem?_toList] at hj
      exact hj
    · cases hj
  have hc:=cellsN_at a i a[i] (List.getElem?_eq_getElem hi)
  have hget:∀ q,q<3→(cellsN a)[i*3+q]? = ([.int .i64 (a[i]).f0,.string (a[i]).f1,.int .i64 (a[i]).f2]:List Value)[q]?:=fun q hq=>by
    rw [← hc,List.getElem?_take,if_pos hq,List.getElem?_drop]
  refine ⟨g,cur,rfl,rfl,hbg,hg,hat _ _ (hget 0 (by omega)),hat _ _ (hget 1 (by omega)),hat _ _ (hget 2 (by omega)),fun j=>by simp [World.frozen?,hg],fun j u a' hj hla hcs=>?_⟩
  have hls:(cellsN a).length=a.length*3:=cellsN_length a
  have aa:∀ k,some k=v1.ownBlock→k≠g:=fun k hk e=>Kd.R_ne h.r1 hg (by decide) (by rw [← e];exact hk)
  have ab:∀ k,some k=v2.ownBlock→k≠g:=fun k hk e=>Kd.R_ne h.r2 hg (by decide) (by rw [← e];exact hk)
  have ad:∀ k,some k=v3.ownBlock→k≠g:=fun k hk e=>Kd.R_ne h.r3 hg (by decide) (by rw [← e];exact hk)
  refine ⟨?_,Kd.R_step h.r1 fun k hk _=>Below.heap_setCell W ⟨g,j,none⟩ u k (aa k hk),Kd.R_step h.r2 fun k hk _=>Below.heap_setCell W ⟨g,j,none⟩ u k (ab k hk),Kd.R_step h.r3 fun k hk _=>Below.heap_setCell W ⟨g,j,none⟩ u k (ad k hk),h.ne⟩
  rw [setCell_eq_setRow W g j cur _ (0,0) _ hg,← hla]
  refine Kd.R_tight rfl (R_ofN ⟨cellsN_length _,.inr ⟨g,c0,_,rfl,hbg,setRow_heap W g cur _ _ _ hg,by rw [hla];exact hlc,hm,by rw [Array.size_setIfInBounds];exact hsz,?_⟩⟩)
  rw [hla,Array.toList_setIfInBounds,List.take_set,htk,hcs]
structure Turned (w w':World) (S:Nat→Prop):Prop where
  os:w'.os=w.os
  tape:w'.tape=w.tape
  output:w'.output=w.output
  size:w.heap.size≤w'.heap.size
  block:∀ k,k<w.heap.size→¬ S k→w'.heap[k]? = w.heap[k]?
theorem Turned.refl (w:World) (S:Nat→Prop):Turned w w S:=⟨rfl,rfl,rfl,Nat.le_refl _,fun _ _ _=>rfl⟩
theorem Turned.of {w w':World} (h:Below w.heap.size w w') (S:Nat→Prop):Turned w w' S:=⟨h.os,h.tape,h.output,h.size,fun k hk _=>h.block k hk⟩
theorem Turned.trans {a b c:World} {S:Nat→Prop} (h:Turned a b S) (k:Turned b c S):Turned a c S:=
  ⟨k.os.trans h.os,k.tape.trans h.tape,k.output.trans h.output,Nat.le_trans h.size k.size,fun i hi hs=>(k.block i (Nat.lt_of_lt_of_le hi h.size) hs).trans (h.block i hi hs)⟩
theorem Turned.mono {a b:World} {S S':Nat→Prop} (h:Turned a b S) (hs:∀ k,k<a.heap.size→S k→S' k):Turned a b S':=
  ⟨h.os,h.tape,h.output,h.size,fun i hi hn=>h.block i hi fun hS=>hn (hs i hi hS)⟩
theorem Turned.then {a b c:World} {S S':Nat→Prop} (h:Turned a b S) (k:Turned b c S') (hs:∀ i,S' i→S i∨a.heap.size≤i):Turned a c S:=
  ⟨k.os.trans h.os,k.tape.trans h.tape,k.output.trans h.output,Nat.le_trans h.size k.size,fun i hi hn=>(k.block i (Nat.lt_of_lt_of_le hi h.size) fun h'=>(hs i h').elim hn (by omega)).trans (h.block i hi hn)⟩
theorem Turned.set {a b:World} {S:Nat→Prop} (h:Turned a b S) {p:Addr} (hp:S p.block∨a.heap.size≤p.block) (u:Value):Turned a (b.setCell p u) S:=
  have hb:=(Below.refl p.block b).setCell (Nat.le_refl _) (p:=p) u
  ⟨hb.os.trans h.os,hb.tape.trans h.tape,hb.output.trans h.output,Nat.le_trans h.size hb.size,fun i hi hn=>(Below.heap_setCell b p u i (fun e=>hp.elim (fun hs=>hn (e▸hs)) (fun hs=>by omega))).trans (h.block i hi hn)⟩
theorem Turned.row {a b:World} {S:Nat→Prop} (h:Turned a b S) {g:Nat} (hg:S g∨a.heap.size≤g) (cs:Array Value):Turned a (b.setRow g cs) S:=
  ⟨h.os,h.tape,h.output,Nat.le_trans h.size (by simp [World.setRow]),fun i hi hn=>by
    have hi2:i≠g:=fun e=>hg.elim (fun hs=>hn (e▸hs)) (fun hs=>by omega)
    rw [setRow_other b g i cs hi2]
    exact h.block i hi hn⟩
theorem Turned.below {w w' w0:World} {S:Nat→Prop} {b:Nat} (h:Turned w w' S) (hb:Below b w0 w) (hs:∀ k,S k→b≤k) (hw:b≤w.heap.size):Below b w0 w':=
  ⟨h.os.trans hb.os,h.tape.trans hb.tape,h.output.trans hb.output,Nat.le_trans hb.size h.size,fun k hk=>(h.block k (by omega) fun hS=>by have:=hs k hS;omega).trans (hb.block k hk)⟩
section
variable {w w1 W:World} {base:Nat} {v0 v1 v2 v3 v0' v1' v2' v3':Value} {a a':List S45} {b c b' c':List S47} {d d':List ByteArray} {p:Nat→Prop}
theorem has_r3 (h:HasD w base v0 v1 v2 v3 a b c d) (hT:Turned w w1 (fun k=>some k=v3.ownBlock)) (hR:Kd.R Kd.string 9 w1 base p v3' d'):HasD w1 base v0 v1 v2 v3' a b c d':=by
  have ty:=Kd.R_typed h.r3
  refine ⟨Kd.R_step h.r0 fun k hk hl=>hT.block k hl fun e=>?_,Kd.R_step h.r1 fun k hk hl=>hT.block k hl fun e=>?_,Kd.R_step h.r2 fun k hk hl=>hT.block k hl fun e=>?_,Kd.R_tight rfl hR,h.ne⟩
  · obtain ⟨z,hz⟩:=ty k e.symm
    exact Kd.R_ne h.r0 hz (by decide) hk
  · obtain ⟨z,hz⟩:=ty k e.symm
    exact Kd.R_ne h.r1 hz (by decide) hk
  · obtain ⟨z,hz⟩:=ty k e.symm
    exact Kd.R_ne h.r2 hz (by decide) hk
theorem has_r0 (h:HasD w base v0 v1 v2 v3 a b c d) (hT:Turned w w1 (fun k=>some k=v0.ownBlock)) (hR:Kd.R k45 45 w1 base p v0' a'):HasD w1 base v0' v1 v2 v3 a' b c d:=by
  have ty:=Kd.R_typed h.r0
  refine ⟨Kd.R_tight rfl hR,Kd.R_step h.r1 fun k hk hl=>hT.block k hl fun e=>?_,Kd.R_step h.r2 fun k hk hl=>hT.block k hl fun e=>?_,Kd.R_step h.r3 fun k hk hl=>hT.block k hl fun e=>?_,h.ne⟩
  · obtain ⟨z,hz⟩:=ty k e.symm
    exact Kd.R_ne h.r1 hz (by decide) hk
  · obtain ⟨z,hz⟩:=ty k e.symm
    exact Kd.R_ne h.r2 hz (by decide) hk
  · obtain ⟨z,hz⟩:=ty k e.symm
    exact Kd.R_ne h.r3 hz (by decide) hk
theorem has_r1 (h:HasD w base v0 v1 v2 v3 a b c d) (hb:Below w.heap.size w w1) (hw:base≤w.heap.size) (hR:Kd.R k47 47 w1 w.heap.size p v1' b'):HasD w1 base v0 v1' v2 v3 a b' c d:=by
  have h2:=h.on hb
  refine ⟨h2.r0,Kd.R_tight rfl (Kd.R_lower hR hw),h2.r2,h2.r3,fun k hk hk2=>?_⟩
  have:=Kd.R_base hR k hk.symm
  have:=Kd.R_lt h.r2 k hk2.symm
  omega
theorem has_slices (h:HasD w base v0 v1 v2 v3 a b c d):∃ A0 c0 A1 c1 A2 c2 A3 c3,v0=.slice A0 a.length c0∧v1=.slice A1 b.length c1∧v2=.slice A2 c.length c2∧v3=.slice A3 d.length c3:=by
  obtain ⟨A0,c0,h0⟩:=Kd.R_slice h.r0
  obtain ⟨A1,c1,h1⟩:=Kd.R_slice h.r1
  obtain ⟨A2,c2,h2⟩:=Kd.R_slice h.r2
  obtain ⟨A3,c3,h3⟩:=Kd.R_slice h.r3
  exact ⟨A0,c0,A1,c1,A2,c2,A3,c3,h0,h1,h2,h3⟩
end
theorem cleanS_calls (k:Nat) {A0:Option Addr} {c0:Nat} {v1 v2 v3:Value} {a:List S45} {b c:List S47} {d:List ByteArray} {e f:Int} {z1:List S45} {z2 z3:List S47} {z4:List ByteArray} {z5 z6:Int} (w0 w:World) (hB:Below w0.heap.size w0 w) (h:HasD w w0.heap.size (.slice A0 a.length c0) v1 v2 v3 a b c d)
    (hz:spec_l06Clean.f k a b c d e f=some (z1,z2,z3,z4,z5,z6)):Calls Tryz.prog 66 #[.agg #[.slice A0 a.length c0,v1,v2,v3,.int .i64 e,.int .i64 f]] w fun e_ w'=>∃ u0 u1 u2 u3:Value,e_=.returned (.agg #[u0,u1,u2,u3,.int .i64 z5,.int .i64 z6])∧HasD w' w0.heap.size u0 u1 u2 u3 z1 z2 z3 z4∧Below w0.heap.size w0 w'∧Kept w w' (ownD (.slice A0 a.length c0) v1 v2 v3):=by
  have ty:=Kd.R_typed h.r0
  refine (spec_l06Clean.calls k A0 c0 a (fun k=>some k=v1.ownBlock) v1 b (fun k=>some k=v2.ownBlock) v2 c (fun k=>some k=v3.ownBlock) v3 d e f z1 z2 z3 z4 z5 z6 w0 w hB (Kd.C_kept_own h.r0 fun k hk hs=>?_) (Kd.R_reads' h.r0).2.1 h.r1 h.ne h.r2 (fun k h2 h1=>h.ne k h1 h2) h.r3 hz).mono ?_
  · obtain ⟨z,hzz⟩:=ty k hk.symm
    rcases hs with hs | hs | hs
    · exact Kd.R_ne h.r1 hzz (by decide) hs
    · exact Kd.R_ne h.r2 hzz (by decide) hs
    · exact Kd.R_ne h.r3 hzz (by decide) hs
  · rintro e_ w' ⟨u0,u1,u2,u3,rfl,p0,p1,p2,p3,hb,hk⟩
    exact ⟨u0,u1,u2,u3,rfl,HasD.of p0 (Kd.R_mono p1 fun _ hh=>hh.2) p2 p3,hb,⟨hk.1,fun i hi hn=>hk.2 i hi fun hs=>hn (.inr hs)⟩⟩
theorem set1_calls {w:World} {g i:Nat} {cs:Array Value} {t:TypeId} {u:Value} {P:Program} {F:FuncId} {args:Array Value} {Q:Ending→World→Prop} (h:w.heap[g]? = some (.cells cs t (0,0)))
    (k:∀ W,W.heap[g]? = some (.cells (cs.setIfInBounds i u) t (0,0))→(∀ {w0:World} {S:Nat→Prop},Turned w0 w S→(S g∨w0.heap.size≤g)→Turned w0 W S)→(∀ j,j≠g→W.heap[j]? = w.heap[j]?)→W.heap.size=w.heap.size→Calls P F args W Q):Calls P F args (w.setCell ⟨g,i,none⟩ u) Q:=
  k _ (blk_set h i u) (fun hT hg=>hT.set (p:=⟨g,i,none⟩) hg u) (fun j hj=>Below.heap_setCell w ⟨g,i,none⟩ u j hj) (by simp)
theorem filled_told {w1:World} {g base:Nat} {v0 v1 v2 v3:Value} (x4 x5:Value) {a:List S45} {b c:List S47} {d:List ByteArray} {cs:Array Value} (h:HasD w1 base v0 v1 v2 v3 a b c d) (hb:w1.heap[g]? = some (.cells cs 28 (0,0))) :
    Kd.R k45 45 ((((((w1.setCell ⟨g,0,none⟩ v0).setCell ⟨g,1,none⟩ v1).setCell ⟨g,2,none⟩ v2).setCell ⟨g,3,none⟩ v3).setCell ⟨g,4,none⟩ x4).setCell ⟨g,5,none⟩ x5) base (fun _=>True) v0 a∧Kd.R k47 47 ((((((w1.setCell ⟨g,0,none⟩ v0).setCell ⟨g,1,none⟩ v1).setCell ⟨g,2,none⟩ v2).setCell ⟨g,3,none⟩ v3).setCell ⟨g,4,none⟩ x4).setCell ⟨g,5,none⟩ x5) base (fun k_=>some k_≠v2.ownBlock) v1 b∧Kd.R k47 47 ((((((w1.setCell ⟨g,0,none⟩ v0).setCell ⟨g,1,none⟩ v1).setCell ⟨g,2,none⟩ v2).setCell ⟨g,3,none⟩ v3).setCell ⟨g,4,none⟩ x4).setCell ⟨g,5,none⟩ x5) base (fun k_=>some k_≠v1.ownBlock) v2 c∧Kd.R Kd.string 9 ((((((w1.setCell ⟨g,0,none⟩ v0).setCell ⟨g,1,none⟩ v1).setCell ⟨g,2,none⟩ v2).setCell ⟨g,3,none⟩ v3).setCell ⟨g,4,none⟩ x4).setCell ⟨g,5,none⟩ x5) base (fun _=>True) v3 d:=
  HasD.told (HasD.fill h hb (fun j hj=>fill6_far hj))
theorem has_r2n {w w1:World} {base:Nat} {v0 v1 v2 v3 v2':Value} {a:List S45} {b c c':List S47} {d:List ByteArray} {S:Nat→Prop} (h:HasD w base v0 v1 v2 v3 a b c d) (hT:Turned w w1 S) (hS:∀ k,ownD v0 v1 v2 v3 k→¬ S k) (hR:Kd.R k47 47 w1 base (fun k=>some k≠v1.ownBlock) v2' c'):HasD w1 base v0 v1 v2' v3 a b c' d:=
  have h2:=h.step fun k ho hl=>hT.block k hl (hS k ho)
  ⟨h2.r0,h2.r1,Kd.R_tight rfl hR,h2.r3,fun k hk hk2=>hR.1 k hk2.symm hk⟩
theorem cutRow {W:World} {base:Nat} {A:Option Addr} {m c0:Nat} {v1 v2 v3:Value} {a:List S45} {b c:List S47} {d:List ByteArray} (h:HasD W base (.slice A m c0) v1 v2 v3 a b c d) (i:Nat) (x:S45) (hx:a[i]? = some x) :
    ∃ g cur,A=some ⟨g,0,none⟩∧base≤g∧W.heap[g]? = some (.cells cur 45 (0,0))∧W.cell? ⟨g,i*3,none⟩=some (.int .i64 x.f0)∧W.cell? ⟨g,i*3+1,none⟩=some (.string x.f1)∧W.cell? ⟨g,i*3+2,none⟩=some (.int .i64 x.f2)∧(∀ j,W.frozen? ⟨g,j,none⟩=false)∧
      (∀ t:ByteArray,HasD (W.setCell ⟨g,i*3+1,none⟩ (.string t)) base (.slice A m c0) v1 v2 v3 (a.set i ⟨x.f0,t,x.f2⟩) b c d)∧(∀ z:Int,HasD (W.setCell ⟨g,i*3+2,none⟩ (.int .i64 z)) base (.slice A m c0) v1 v2 v3 (a.set i ⟨x.f0,x.f1,z⟩) b c d):=by
  obtain ⟨hi,rfl⟩:=List.getElem?_eq_some_iff.mp hx
  obtain ⟨g,cur,h1,_,h2,h3,h4,h5,h6,h7,h8⟩:=h.row i hi
  exact ⟨g,cur,h1,h2,h3,h4,h5,h6,h7,fun t=>h8 _ _ _ (by omega) (List.length_set ..) (cellsN_set1 a i t hi),fun z=>h8 _ _ _ (by omega) (List.length_set ..) (cellsN_set2 a i z hi)⟩
def spec_AppendFile.f (k:Nat) (aa:List S45) (ab:List S47) (ad:List S47) (ae:List ByteArray) (af:Int) (ag:Int) (a1 a2:ByteArray):Option (List (S45)×List (S47)×List (S47)×List ByteArray×Int×Int×Int):=(spec_l05Copy.f aa ab ad ae af ag).bind fun o=>(spec_DiskOk.f k o.1 o.2.1 o.2.2.1 o.2.2.2.1 o.2.2.2.2.1 o.2.2.2.2.2).bind fun b=>if b=true then (spec_l06Has.f k o.2.1 a1).bind fun hh=>if hh=true then (spec_EntryAt.f k o.2.1 a1).bind fun id=>(spec_l05Node.f k o.1 o.2.1 o.2.2.1 o.2.2.2.1 o.2.2.2.2.1 o.2.2.2.2.2 id).bind fun n=>(spec_UsedOn.f k o.1 o.2.1 o.2.2.1 o.2.2.2.1 o.2.2.2.2.1 o.2.2.2.2.2).bind fun u=>if (0≤n∧n<(o.1.length:Int))∧(rd_T45 o.1 n).f1.size+a2.size≤4611686018427387904 then (if wrap64 (o.2.2.2.2.1-u)<(a2.size:Int) then (if 0≤wrap64 (o.2.2.2.2.1-u) then some (o.1.set n.toNat ⟨(rd_T45 o.1 n).f0,(rd_T45 o.1 n).f1++a2.extract 0 (wrap64 (o.2.2.2.2.1-u)).toNat,(rd_T45 o.1 n).f2⟩,o.2.1,o.2.2.1,o.2.2.2.1,o.2.2.2.2.1,o.2.2.2.2.2,5) else none) else some (o.1.set n.toNat ⟨(rd_T45 o.1 n).f0,(rd_T45 o.1 n).f1++a2,(rd_T45 o.1 n).f2⟩,o.2.1,o.2.2.1,o.2.2.2.1,o.2.2.2.2.1,o.2.2.2.2.2,0)) else none else some (o.1,o.2.1,o.2.2.1,o.2.2.2.1,o.2.2.2.2.1,o.2.2.2.2.2,3) else some (o.1,o.2.1,o.2.2.1,o.2.2.2.1,o.2.2.2.2.1,o.2.2.2.2.2,3)
theorem spec_AppendFile.mono:∀ aa ab ad ae af ag a1 a2 k,LeO (spec_AppendFile.f k aa ab ad ae af ag a1 a2) (spec_AppendFile.f (k+1) aa ab ad ae af ag a1 a2):=by
  intro aa ab ad ae af ag a1 a2 k
  unfold spec_AppendFile.f
  repeat' first | (with_reducible exact LeO.refl _) | (with_reducible exact spec_l06Has.mono _ _ _) | (with_reducible exact spec_EntryAt.mono _ _ _) | (with_reducible exact spec_l05Node.mono _ _ _ _ _ _ _ _) | (with_reducible exact spec_UsedOn.mono _ _ _ _ _ _ _) | (with_reducible exact spec_DiskOk.mono _ _ _ _ _ _ _) | (with_reducible refine LeO.ite ?_ ?_) | (with_reducible refine LeO.bind ?_ (fun _=>?_))
theorem spec_AppendFile.calls (k:Nat) (ax:Option Addr) (ay:Nat) (aj:List (S45)) (az:Option Addr) (aA:Nat) (ak:List (S47)) (aB:Option Addr) (aC:Nat) (al:List (S47)) (aD:Option Addr) (aE:Nat) (an:List ByteArray) (aF:Int) (aG:Int) (a1 a2:ByteArray) (r1:List S45) (r2:List S47) (r3:List S47) (r4:List ByteArray) (r5:Int) (r6:Int) (r7:Int) (w:World) (aa:Kd.C k45 w ax aj.length aj) (ab:aj.length≤ay) (ad:Kd.C k47 w az ak.length ak) (ae:ak.length≤aA) (af:Kd.C k47 w aB al.length al) (ag:al.length≤aC) (ah:Kd.C Kd.string w aD an.length an) (ai:an.length≤aE) (h:spec_AppendFile.f k aj ak al an aF aG a1 a2=some (r1,r2,r3,r4,r5,r6,r7)) :
    Calls Tryz.prog 9 #[.agg #[.slice ax aj.length ay,.slice az ak.length aA,.slice aB al.length aC,.slice aD an.length aE,.int .i64 aF,.int .i64 aG],.string a1,.string a2] w fun e w'=>∃ v0_ v1_ v2_ v3_:Value,e=.returned (.tuple #[.agg #[v0_,v1_,v2_,v3_,.int .i64 r5,.int .i64 r6],.int .i64 r7])∧Kd.R k45 45 w' w.heap.size (fun _=>True) v0_ r1∧Kd.R k47 47 w' w.heap.size (fun k_=>some k_≠(v2_:Value).ownBlock) v1_ r2∧Kd.R k47 47 w' w.heap.size (fun k_=>some k_≠(v1_:Value).ownBlock) v2_ r3∧Kd.R Kd.string 9 w' w.heap.size (fun _=>True) v3_ r4∧Below w.heap.size w w':=by
  unfold spec_AppendFile.f at h
  replace h:=zo h
  obtain ⟨⟨o1,o2,o3,o4,o5,o6⟩,ho,h⟩:=h
  replace h:=zo h
  obtain ⟨b,hbk,h⟩:=h
  dsimp only at h
  have CC:=zA (fun (w1:World) (hb:Below w.heap.size w w1)=>spec_l05Copy.calls ax ay aj az aA ak aB aC al aD aE an aF aG o1 o2 o3 o4 o5 o6 w1 (Kd.C_below aa hb) ab (Kd.C_below ad hb) ae (Kd.C_below af hb) ag (Kd.C_below ah hb) ai ho)
  have CD:=zA (fun (w1:World) (A0:Option Addr) (c0:Nat) (A1:Option Addr) (c1:Nat) (A2:Option Addr) (c2:Nat) (A3:Option Addr) (c3:Nat) (h:HasD w1 w.heap.size (.slice A0 o1.length c0) (.slice A1 o2.length c1) (.slice A2 o3.length c2) (.slice A3 o4.length c3) o1 o2 o3 o4)=>spec_DiskOk.calls k A0 c0 o1 A1 c1 o2 A2 c2 o3 A3 c3 o4 o5 o6 b w1 (Kd.R_reads' h.r0).2.2 (Kd.R_reads' h.r0).2.1 (Kd.R_reads' h.r1).2.2 (Kd.R_reads' h.r1).2.1 (Kd.R_reads' h.r2).2.2 (Kd.R_reads' h.r2).2.1 (Kd.R_reads' h.r3).2.2 (Kd.R_reads' h.r3).2.1 hbk)
  cases b
  (rw [if_neg (by decide)] at h;simp only [Option.some.injEq,Prod.mk.injEq] at h;obtain ⟨rfl,rfl,rfl,rfl,rfl,rfl,rfl⟩:=h;clear ho hbk aa ab ad ae af ag ah ai)
  (rotate_left 1;(rw [if_pos rfl] at h;replace h:=zo h;obtain ⟨hh,hhh,h⟩:=h;have CH:=zA (fun (w1:World) (A0:Option Addr) (c0:Nat) (A1:Option Addr) (c1:Nat) (A2:Option Addr) (c2:Nat) (A3:Option Addr) (c3:Nat) (h:HasD w1 w.heap.size (.slice A0 o1.length c0) (.slice A1 o2.length c1) (.slice A2 o3.length c2) (.slice A3 o4.length c3) o1 o2 o3 o4)=>spec_l06Has.calls k A1 c1 o2 a1 hh w1 (Kd.R_reads' h.r1).2.2 (Kd.R_reads' h.r1).2.1 hhh);cases hh);rotate_right 1)
  (rotate_left 1;(rw [if_neg (by decide)] at h;simp only [Option.some.injEq,Prod.mk.injEq] at h;obtain ⟨rfl,rfl,rfl,rfl,rfl,rfl,rfl⟩:=h;clear ho hbk hhh aa ab ad ae af ag ah ai);rotate_right 1)
  (rotate_left 2;(rw [if_pos rfl] at h;replace h:=zo h;obtain ⟨id,hid,h⟩:=h;replace h:=zo h;obtain ⟨n,hn,h⟩:=h;replace h:=zo h;obtain ⟨u,hu,h⟩:=h;by_cases hl:(0≤n∧n<(o1.length:Int))∧(rd_T45 o1 n).f1.size+a2.size≤4611686018427387904);rotate_right 2)
  (rotate_left 3;(rw [if_neg hl] at h;cases h);rotate_right 3)
  (rotate_left 2;(rw [if_pos hl] at h;obtain ⟨⟨hl0,hl1⟩,hsz⟩:=hl;have HID:=zA hid;have HN:=zA hn;have HU:=zA hu;clear hid hn hu;obtain ⟨kk,rfl⟩:∃ kk:Nat,n=(kk:Int):=⟨n.toNat,(by omega)⟩;have hkl:kk<o1.length:=(by omega);have hk0:(0:Int)≤(kk:Int):=(by omega);have hkz:(kk:Int)<(o1.length:Int):=(by omega);rw [Int.toNat_natCast] at h;obtain ⟨x,hx⟩:∃ x,o1[kk]? = some x:=⟨_,List.getElem?_eq_getElem hkl⟩;rw [show rd_T45 o1 (kk:Int)=x by unfold rd_T45;rw [Int.toNat_natCast,List.getD_eq_getElem?_getD,hx];rfl] at h hsz;have HX:=zA hx;clear hx hkl;generalize hlf:wrap64 (o5-u)=lf at h;have hwl:IntKind.i64.wrap (o5-u)=lf:=((i64_w _).trans hlf);clear hlf;by_cases tl:lf<(a2.size:Int));rotate_right 2)
  (rotate_left 2;(rw [if_pos tl] at h;by_cases tz:0≤lf);rotate_right 2)
  (rotate_left 3;(rw [if_neg tz] at h;cases h);rotate_right 3)
  (rotate_left 2;(rw [if_pos tz] at h;have dl:decide (lf<(a2.size:Int))=true:=zt tl;simp only [Option.some.injEq,Prod.mk.injEq] at h;obtain ⟨rfl,rfl,rfl,rfl,rfl,rfl,rfl⟩:=h;clear ho hbk hhh aa ab ad ae af ag ah ai);rotate_right 2)
  (rotate_left 3;(rw [if_neg tl] at h;have dl:decide (lf<(a2.size:Int))=false:=zf tl;simp only [Option.some.injEq,Prod.mk.injEq] at h;obtain ⟨rfl,rfl,rfl,rfl,rfl,rfl,rfl⟩:=h;clear ho hbk hhh aa ab ad ae af ag ah ai);rotate_right 3)
  all_goals (go_enter Tryz.func9,Tryz.ntmps9;go_wp2_with (first | ((with_reducible refine gate_dst (N:=3) rfl ?_);refine box_event ?hg (N:=3) ?hd (cs:=#[.slice ax aj.length ay,.slice az ak.length aA,.slice aB al.length aC,.slice aD an.length aE,.int .i64 aF,.int .i64 aG]) (t:=28) ?hr ?_;(case hd=>rfl);(case hg=>rfl);(case hr=>first | (go_simp;done) | (go_simp;rfl));intro gD hg w1 hbox hb;have GD:=zA (Nat.le_of_eq hg.symm);have BL:=zA hb;have BD:=zA hbox;clear hb;replace iD:=blk6 BD.out;replace zD:=z6of BD.out;clear hg hbox) | ((with_reducible refine gate_dst (N:=6) rfl ?_);refine box_event ?hg (N:=6) ?hd (cs:=#[.slice none 0 0,.slice none 0 0,.slice none 0 0,.slice none 0 0,.int .i64 0,.int .i64 0]) (t:=28) ?hr ?_;(case hd=>rfl);(case hg=>rfl);(case hr=>first | (go_simp;done) | (go_simp;rfl));intro gR hg w1 hbox hb;have GR:=zA (show w.heap.size≤gR by rw [hg];exact BL.out.size);have RD:=zA (show gR≠gD by rw [hg];exact Nat.ne_of_gt (blk_lt BD.out));replace BL:=zs BL hb;(try replace BD:=zb BD hb);(try replace BR:=zb BR hb);(try replace Do:=zA (Do.out.on hb));have BR:=zA hbox;clear hb;replace iD:=blk6 BD.out;replace iR:=blk6 BR.out;replace zD:=z6of BD.out;replace zR:=z6of BR.out;clear hg hbox) | (go_at_call 44;have hbs:=BL.out.size;(with_reducible refine (CC.out _ BL.out).mono ?_);rintro e w1 ⟨v0,v1,v2,v3,rfl,p0,p1,p2,p3,hb⟩;have hD:=HasD.of p0 p1 p2 p3;replace BL:=zs BL hb;(try replace BD:=zb BD hb);(try replace BR:=zb BR hb);(try replace Do:=zA (Do.out.on hb));have Do:=zA (hD.lower hbs);obtain ⟨A0,c0,rfl⟩:=Kd.R_slice p0;obtain ⟨A1,c1,rfl⟩:=Kd.R_slice p1;obtain ⟨A2,c2,rfl⟩:=Kd.R_slice p2;obtain ⟨A3,c3,rfl⟩:=Kd.R_slice p3;clear hD hb hbs p0 p1 p2 p3;replace iD:=blk6 BD.out;replace iR:=blk6 BR.out;replace zD:=z6of BD.out;replace zR:=z6of BR.out) | (go_at_call 11;refine fill6_calls BD.out (fun W hO hk hs=>?_);replace Do:=zA (HasD.fill Do.out BD.out hs);replace BR:=zA ((hs gR RD.out).trans BR.out);replace BL:=zA (hk BL.out GD.out);replace BD:=zA hO;clear hO hk hs;(with_reducible refine (CD.out _ _ _ _ _ _ _ _ _ Do.out).mono ?_);rintro e w1 ⟨rfl,hb⟩;replace BL:=zs BL hb;(try replace BD:=zb BD hb);(try replace BR:=zb BR hb);(try replace Do:=zA (Do.out.on hb));clear hb;replace iD:=blk6 BD.out;replace iR:=blk6 BR.out;replace zD:=z6of BD.out;replace zR:=z6of BR.out) | (go_at_call 45;(with_reducible refine (CH.out _ _ _ _ _ _ _ _ _ Do.out).mono ?_);rintro e wq ⟨rfl,hq⟩;have hb:Below w1.heap.size w1 wq:=(by obtain ⟨nd,hnd⟩:=hq;rw [hnd];exact pw_below_drewN (Below.refl _ _) nd);clear hq;replace BL:=zs BL hb;(try replace BD:=zb BD hb);(try replace BR:=zb BR hb);(try replace Do:=zA (Do.out.on hb));clear hb;obtain ⟨w1,hw1⟩:∃ x,x=wq:=⟨_,rfl⟩;subst hw1;replace iD:=blk6 BD.out;replace iR:=blk6 BR.out;replace zD:=z6of BD.out;replace zR:=z6of BR.out)))
  iterate 2 (refine bodyPost_ret (results_ct rfl _ _ gR 28 #[.slice A0 o1.length c0,.slice A1 o2.length c1,.slice A2 o3.length c2,.slice A3 o4.length c3,.int .i64 o5,.int .i64 o6] (0,0) _ rfl (fill6_at BR.out) Tryz.underlying28 rfl (by kernel_rfl)) rfl ?_;have hT:=filled_told (.int .i64 o5) (.int .i64 o6) Do.out BR.out;exact ⟨_,_,_,_,rfl,hT.1,hT.2.1,hT.2.2.1,hT.2.2.2,fill6_below BL.out GR.out⟩)
  have htx:(a2.extract 0 lf.toNat).size≤a2.size:=by rw [ByteArray.size_extract];omega
  have hex:(a2.extract 0 lf.toNat).size=lf.toNat:=by rw [ByteArray.size_extract];omega
  have hle:lf≤(a2.size:Int):=by omega
  have hc1:(9223372036854775807<x.f1.size+(a2.extract 0 lf.toNat).size)=False:=eq_false (by omega)
  have hc2:(9223372036854775807<x.f1.size+lf.toNat)=False:=eq_false (by omega)
  clear htx hex
  have BN:=zA (Below.refl w1.heap.size w1)
  have CI:=zA (fun (W:World) (hb:Below w1.heap.size w1 W)=>((spec_EntryAt.calls k A1 c1 o2 a1 id W (Kd.R_reads' (Do.out.on hb).r1).2.2 (Kd.R_reads' (Do.out.on hb).r1).2.1 HID.out).mono (fun e w' q=>⟨q.1,by obtain ⟨nd,hnd⟩:=q.2;rw [hnd];exact pw_below_drewN (Below.refl _ _) nd⟩):Calls Tryz.prog 47 _ W fun e w'=>e=.returned (.int .i64 id)∧Below W.heap.size W w'))
  have CN:=zA (fun (W:World) (hb:Below w1.heap.size w1 W)=>spec_l05Node.calls k A0 c0 o1 A1 c1 o2 A2 c2 o3 A3 c3 o4 o5 o6 id (kk:Int) W (Kd.R_reads' (Do.out.on hb).r0).2.2 (Kd.R_reads' (Do.out.on hb).r0).2.1 (Kd.R_reads' (Do.out.on hb).r1).2.2 (Kd.R_reads' (Do.out.on hb).r1).2.1 (Kd.R_reads' (Do.out.on hb).r2).2.2 (Kd.R_reads' (Do.out.on hb).r2).2.1 (Kd.R_reads' (Do.out.on hb).r3).2.2 (Kd.R_reads' (Do.out.on hb).r3).2.1 HN.out)
  have ao:∀ p_:LaidBy w1,p_.W.cell? ⟨gD,0,none⟩=some (.slice A0 o1.length c0):=fun p_=>p_.cell (iD.1)
  have aq:∀ p_:LaidBy w1,p_.W.cell? ⟨gD,1,none⟩=some (.slice A1 o2.length c1):=fun p_=>p_.cell (iD.2.1)
  have ar:∀ p_:LaidBy w1,p_.W.cell? ⟨gD,2,none⟩=some (.slice A2 o3.length c2):=fun p_=>p_.cell (iD.2.2.1)
  have au:∀ p_:LaidBy w1,p_.W.cell? ⟨gD,3,none⟩=some (.slice A3 o4.length c3):=fun p_=>p_.cell (iD.2.2.2.1)
  have av:∀ p_:LaidBy w1,p_.W.cell? ⟨gD,4,none⟩=some (.int .i64 o5):=fun p_=>p_.cell (iD.2.2.2.2.1)
  have aw:∀ p_:LaidBy w1,p_.W.cell? ⟨gD,5,none⟩=some (.int .i64 o6):=fun p_=>p_.cell (iD.2.2.2.2.2)
  refine wp_region_laid (by kernel_rfl) (by kernel_rfl) ?_
  repeat (go_big_quiet_step (first | (go_at_call 47;with_reducible exact laid_of _ (CI.out _ (LaidBy.below _ BN.out))) | (go_at_call 46;with_reducible exact laid_of _ (CN.out _ (LaidBy.below _ BN.out)))))
  refine wpQuiet_nil ?_
  rintro w9 ⟨p_,hp_⟩
  have hq_:Below w1.heap.size w1 w9:=hp_▸p_.ok
  clear hp_ p_ ao aq ar au av aw
  have hb:=hq_
  clear BN CI CN
  replace BL:=zs BL hb;(try replace BD:=zb BD hb);(try replace BR:=zb BR hb);(try replace Do:=zA (Do.out.on hb))
  clear hb hq_
  have BN:=zA (Below.refl w9.heap.size w9)
  replace iD:=blk6 BD.out;replace iR:=blk6 BR.out;replace zD:=z6of BD.out;replace zR:=z6of BR.out
  go_wp2_with fail
  have CU:=zA (fun (W:World) (hb:Below w9.heap.size w9 W)=>spec_UsedOn.calls k A0 c0 o1 A1 c1 o2 A2 c2 o3 A3 c3 o4 o5 o6 u W (Kd.R_reads' (Do.out.on hb).r0).2.2 (Kd.R_reads' (Do.out.on hb).r0).2.1 (Kd.R_reads' (Do.out.on hb).r1).2.2 (Kd.R_reads' (Do.out.on hb).r1).2.1 (Kd.R_reads' (Do.out.on hb).r2).2.2 (Kd.R_reads' (Do.out.on hb).r2).2.1 (Kd.R_reads' (Do.out.on hb).r3).2.2 (Kd.R_reads' (Do.out.on hb).r3).2.1 HU.out)
  have ao:∀ p_:LaidBy w9,p_.W.cell? ⟨gD,0,none⟩=some (.slice A0 o1.length c0):=fun p_=>p_.cell (iD.1)
  have aq:∀ p_:LaidBy w9,p_.W.cell? ⟨gD,1,none⟩=some (.slice A1 o2.length c1):=fun p_=>p_.cell (iD.2.1)
  have ar:∀ p_:LaidBy w9,p_.W.cell? ⟨gD,2,none⟩=some (.slice A2 o3.length c2):=fun p_=>p_.cell (iD.2.2.1)
  have au:∀ p_:LaidBy w9,p_.W.cell? ⟨gD,3,none⟩=some (.slice A3 o4.length c3):=fun p_=>p_.cell (iD.2.2.2.1)
  have av:∀ p_:LaidBy w9,p_.W.cell? ⟨gD,4,none⟩=some (.int .i64 o5):=fun p_=>p_.cell (iD.2.2.2.2.1)
  have aw:∀ p_:LaidBy w9,p_.W.cell? ⟨gD,5,none⟩=some (.int .i64 o6):=fun p_=>p_.cell (iD.2.2.2.2.2)
  refine wp_region_laid (by kernel_rfl) (by kernel_rfl) ?_
  repeat (go_big_quiet_step (first | (go_at_call 16;with_reducible exact laid_of _ (CU.out _ (LaidBy.below _ BN.out)))))
  refine wpQuiet_nil ?_
  rintro w8 ⟨p_,hp_⟩
  have hq_:Below w9.heap.size w9 w8:=hp_▸p_.ok
  clear hp_ p_ ao aq ar au av aw
  have hb:=hq_
  clear BN CU
  replace BL:=zs BL hb;(try replace BD:=zb BD hb);(try replace BR:=zb BR hb);(try replace Do:=zA (Do.out.on hb))
  clear hb hq_
  replace iD:=blk6 BD.out;replace iR:=blk6 BR.out;replace zD:=z6of BD.out;replace zR:=z6of BR.out
  go_wp2_with fail
  (try clear iD iR zD zR)
  have hb:=below_drew (Below.refl w8.heap.size w8)
  replace BL:=zs BL hb;(try replace BD:=zb BD hb);(try replace BR:=zb BR hb);(try replace Do:=zA (Do.out.on hb))
  clear hb
  obtain ⟨gN,row,rfl,hbg,hg,_,c1',c2',hfr,hs1,hs2⟩:=cutRow Do.out kk x HX.out
  have hf1:=hfr (kk*3+1)
  have hf2:=hfr (kk*3+2)
  have hneD:gD≠gN:=fun e=>Do.out.nobox BD.out (by decide) (by decide) (by decide) (.inl (by rw [e];rfl))
  have hneR:gR≠gN:=fun e=>Do.out.nobox BR.out (by decide) (by decide) (by decide) (.inl (by rw [e];rfl))
  have HS1:=zA hs1
  have HS2:=zA hs2
  have HBG:=zA hbg
  have HND:=zA hneD
  have HNR:=zA hneR
  clear hs1 hs2 hg hneD hneR hbg hfr
  refine start_ (n:=16) (S:=fun w'=>w'.cell? ⟨gD,0,none⟩=some (.slice (some ⟨gN,0,none⟩) o1.length c0)∧w'.cell? ⟨gN,kk*3+1,none⟩=some (.string x.f1)) (ds:=[15]) (marks 16 0) (by kernel_rfl) rfl rfl ⟨(blk_cell BD.out 0).trans rfl,c1'⟩ (fun hHeld=>?_)
  generalize w8.drew=w10 at BL BD BR Do HS1 HS2 hf1 hf2 c1' c2' hHeld ⊢
  refine pure_ (i:=0) (N:=some 38) (v:=?_) (a':=?_) (marks 16 1) rfl rfl (by kernel_rfl) (fun _ _ _ h=>h) (Or.inl ⟨by rfl,?_⟩) ?_ ?_
  rotate_left
  · intro w'
    go_simp
    with_reducible rfl
  rotate_left
  · simp only [Act.put,yA,yB,yC,i64_w,i32_w]
    rfl
  refine pure_ (i:=2) (N:=some 40) (v:=?_) (a':=?_) (marks 16 5) rfl rfl (by kernel_rfl) (fun _ _ _ h=>h) (Or.inl ⟨by rfl,?_⟩) ?_ ?_
  rotate_left
  · intro w'
    go_simp
    with_reducible rfl
  rotate_left
  · simp only [Act.put,yA,yB,yC,i64_w,i32_w]
    rfl
  refine pure_ (i:=3) (N:=some 41) (v:=?_) (a':=?_) (marks 16 13) rfl rfl (by kernel_rfl) (fun _ _ _ h=>h) (Or.inl ⟨by rfl,?_⟩) ?_ ?_
  rotate_left
  · intro w'
    go_simp
    with_reducible rfl
  rotate_left
  · simp only [Act.put,yA,yB,yC,i64_w,i32_w]
    rfl
  refine pure_ (i:=5) (N:=some 43) (v:=?_) (a':=?_) (marks 16 45) rfl rfl (by kernel_rfl) (fun _ _ _ h=>h) (Or.inl ⟨by rfl,?_⟩) ?_ ?_
  rotate_left
  · intro w'
    go_simp
    with_reducible rfl
  rotate_left
  · simp only [Act.put,yA,yB,yC,i64_w,i32_w]
    rfl
  refine pure_ (i:=9) (N:=some 47) (v:=?_) (a':=?_) (marks 16 557) rfl rfl (by kernel_rfl) (fun _ _ _ h=>h) (Or.inl ⟨by rfl,?_⟩) ?_ ?_
  rotate_left
  · intro w'
    go_simp
    with_reducible rfl
  rotate_left
  · simp only [Act.put,yA,yB,yC,i64_w,i32_w]
    rfl
  refine pure_ (i:=10) (N:=some 48) (v:=?_) (a':=?_) (marks 16 1581) rfl rfl (by kernel_rfl) (fun _ _ _ h=>h) (Or.inl ⟨by rfl,?_⟩) ?_ ?_
  rotate_left
  · intro w'
    go_simp
    with_reducible rfl
  rotate_left
  · simp only [Act.put,yA,yB,yC,i64_w,i32_w]
    rfl
  refine take_ (i:=1) (N:=some 39) (v:=?_) (a':=?_) (marks 16 1583) rfl rfl (by kernel_rfl) (fun _ _ _ h=>h) (Or.inl ⟨by rfl,?_⟩) hHeld ?_ ?_
  rotate_left
  · rintro w' ⟨s0,s1⟩
    go_simp
    with_reducible rfl
  rotate_left
  · simp only [Act.put,yA,yB,yC,i64_w,i32_w]
    rfl
  refine take_ (i:=4) (N:=some 42) (v:=?_) (a':=?_) (marks 16 1599) rfl rfl (by kernel_rfl) (fun _ _ _ h=>h) (Or.inl ⟨by rfl,?_⟩) hHeld ?_ ?_
  rotate_left
  · rintro w' ⟨s0,s1⟩
    go_simp
    with_reducible rfl
  rotate_left
  · simp only [Act.put,yA,yB,yC,i64_w,i32_w]
    rfl
  refine pure_ (i:=6) (N:=some 44) (v:=?_) (a':=?_) (marks 16 1663) rfl rfl (by kernel_rfl) (fun _ _ _ h=>h) (Or.inl ⟨by rfl,?_⟩) ?_ ?_
  rotate_left
  · intro w'
    go_simp
    with_reducible rfl
  rotate_left
  · simp only [Act.put,yA,yB,yC,i64_w,i32_w]
    rfl
  refine pure_ (i:=7) (N:=some 45) (v:=?_) (a':=?_) (marks 16 1791) rfl rfl (by kernel_rfl) (fun _ _ _ h=>h) (Or.inl ⟨by rfl,?_⟩) ?_ ?_
  rotate_left
  · intro w'
    go_simp
    with_reducible rfl
  rotate_left
  · simp only [Act.put,yA,yB,yC,i64_w,i32_w]
    rfl
  refine take_ (i:=8) (N:=some 46) (v:=?_) (a':=?_) (marks 16 2047) rfl rfl (by kernel_rfl) (fun _ _ _ h=>h) (Or.inl ⟨by rfl,?_⟩) hHeld ?_ ?_
  rotate_left
  · rintro w' ⟨s0,s1⟩
    go_simp
    with_reducible rfl
  rotate_left
  · simp only [Act.put,yA,yB,yC,i64_w,i32_w]
    rfl
  refine pure_ (i:=11) (N:=some 49) (v:=?_) (a':=?_) (marks 16 4095) rfl rfl (by kernel_rfl) (fun _ _ _ h=>h) (Or.inl ⟨by rfl,?_⟩) ?_ ?_
  rotate_left
  · intro w'
    go_simp
    with_reducible rfl
  rotate_left
  · simp only [Act.put,yA,yB,yC,i64_w,i32_w]
    rfl
  refine pure_ (i:=12) (N:=some 50) (v:=?_) (a':=?_) (marks 16 8191) rfl rfl (by kernel_rfl) (fun _ _ _ h=>h) (Or.inl ⟨by rfl,?_⟩) ?_ ?_
  rotate_left
  · intro w'
    go_simp
    with_reducible rfl
  rotate_left
  · simp only [Act.put,yA,yB,yC,i64_w,i32_w]
    rfl
  refine pure_ (i:=13) (N:=some 51) (v:=?_) (a':=?_) (marks 16 16383) rfl rfl (by kernel_rfl) (fun _ _ _ h=>h) (Or.inl ⟨by rfl,?_⟩) ?_ ?_
  rotate_left
  · intro w'
    go_simp
    with_reducible rfl
  rotate_left
  · simp only [Act.put,yA,yB,yC,i64_w,i32_w]
    rfl
  refine pure_ (i:=14) (N:=some 52) (v:=?_) (a':=?_) (marks 16 32767) rfl rfl (by kernel_rfl) (fun _ _ _ h=>h) (Or.inl ⟨by rfl,?_⟩) ?_ ?_
  rotate_left
  · intro w'
    go_simp
    with_reducible rfl
  rotate_left
  · simp only [Act.put,yA,yB,yC,i64_w,i32_w]
    rfl
  refine last_ (i:=15) (N:=none) (marks 16 65535) rfl rfl (by kernel_rfl) (by decide) (fun K hK=>?_)
  refine skip_ (w1:=?_) (by rfl) rfl ?_ ?_
  rotate_left
  · go_simp
    rfl
  refine hK.out _ _ ?_
  clear hK K hHeld
  refine done_ (by kernel_rfl) ?_
  have b1:Below w.heap.size w (w10.setCell ⟨gN,kk*3+1,none⟩ (.string (x.f1++a2.extract 0 lf.toNat))):=below_set BL.out HBG.out
  have b2:(w10.setCell ⟨gN,kk*3+1,none⟩ (.string (x.f1++a2.extract 0 lf.toNat))).heap[gD]? = some (.cells #[.slice (some ⟨gN,0,none⟩) o1.length c0,.slice A1 o2.length c1,.slice A2 o3.length c2,.slice A3 o4.length c3,.int .i64 o5,.int .i64 o6] 28 (0,0)):=blk_far BD.out HND.out _
  have b3:(w10.setCell ⟨gN,kk*3+1,none⟩ (.string (x.f1++a2.extract 0 lf.toNat))).heap[gR]? = some (.cells #[.slice none 0 0,.slice none 0 0,.slice none 0 0,.slice none 0 0,.int .i64 0,.int .i64 0] 28 (0,0)):=blk_far BR.out HNR.out _
  have b4:=HS1.out (x.f1++a2.extract 0 lf.toNat)
  clear BL BD BR Do HS1 HS2 hf1 hf2 c1' c2'
  generalize (w10.setCell ⟨gN,kk*3+1,none⟩ (.string (x.f1++a2.extract 0 lf.toNat)))=w11 at b1 b2 b3 b4 ⊢
  have BL:=zA b1
  have BD:=zA b2
  have BR:=zA b3
  have Do:=zA b4
  clear b1 b2 b3 b4
  replace iD:=blk6 BD.out;replace iR:=blk6 BR.out;replace zD:=z6of BD.out;replace zR:=z6of BR.out
  go_wp2_with fail
  refine bodyPost_ret (results_ct rfl _ _ gR 28 #[.slice (some ⟨gN,0,none⟩) o1.length c0,.slice A1 o2.length c1,.slice A2 o3.length c2,.slice A3 o4.length c3,.int .i64 o5,.int .i64 o6] (0,0) _ rfl (fill6_at BR.out) Tryz.underlying28 rfl (by kernel_rfl)) rfl ?_
  have hT:=filled_told (.int .i64 o5) (.int .i64 o6) Do.out BR.out
  exact ⟨_,_,_,_,rfl,hT.1,hT.2.1,hT.2.2.1,hT.2.2.2,fill6_below BL.out GR.out⟩
  have hcat:¬ 9223372036854775807<x.f1.size+a2.size:=by omega
  have BN:=zA (Below.refl w1.heap.size w1)
  have CI:=zA (fun (W:World) (hb:Below w1.heap.size w1 W)=>((spec_EntryAt.calls k A1 c1 o2 a1 id W (Kd.R_reads' (Do.out.on hb).r1).2.2 (Kd.R_reads' (Do.out.on hb).r1).2.1 HID.out).mono (fun e w' q=>⟨q.1,by obtain ⟨nd,hnd⟩:=q.2;rw [hnd];exact pw_below_drewN (Below.refl _ _) nd⟩):Calls Tryz.prog 47 _ W fun e w'=>e=.returned (.int .i64 id)∧Below W.heap.size W w'))
  have CN:=zA (fun (W:World) (hb:Below w1.heap.size w1 W)=>spec_l05Node.calls k A0 c0 o1 A1 c1 o2 A2 c2 o3 A3 c3 o4 o5 o6 id (kk:Int) W (Kd.R_reads' (Do.out.on hb).r0).2.2 (Kd.R_reads' (Do.out.on hb).r0).2.1 (Kd.R_reads' (Do.out.on hb).r1).2.2 (Kd.R_reads' (Do.out.on hb).r1).2.1 (Kd.R_reads' (Do.out.on hb).r2).2.2 (Kd.R_reads' (Do.out.on hb).r2).2.1 (Kd.R_reads' (Do.out.on hb).r3).2.2 (Kd.R_reads' (Do.out.on hb).r3).2.1 HN.out)
  have ao:∀ p_:LaidBy w1,p_.W.cell? ⟨gD,0,none⟩=some (.slice A0 o1.length c0):=fun p_=>p_.cell (iD.1)
  have aq:∀ p_:LaidBy w1,p_.W.cell? ⟨gD,1,none⟩=some (.slice A1 o2.length c1):=fun p_=>p_.cell (iD.2.1)
  have ar:∀ p_:LaidBy w1,p_.W.cell? ⟨gD,2,none⟩=some (.slice A2 o3.length c2):=fun p_=>p_.cell (iD.2.2.1)
  have au:∀ p_:LaidBy w1,p_.W.cell? ⟨gD,3,none⟩=some (.slice A3 o4.length c3):=fun p_=>p_.cell (iD.2.2.2.1)
  have av:∀ p_:LaidBy w1,p_.W.cell? ⟨gD,4,none⟩=some (.int .i64 o5):=fun p_=>p_.cell (iD.2.2.2.2.1)
  have aw:∀ p_:LaidBy w1,p_.W.cell? ⟨gD,5,none⟩=some (.int .i64 o6):=fun p_=>p_.cell (iD.2.2.2.2.2)
  refine wp_region_laid (by kernel_rfl) (by kernel_rfl) ?_
  repeat (go_big_quiet_step (first | (go_at_call 47;with_reducible exact laid_of _ (CI.out _ (LaidBy.below _ BN.out))) | (go_at_call 46;with_reducible exact laid_of _ (CN.out _ (LaidBy.below _ BN.out)))))
  refine wpQuiet_nil ?_
  rintro w9 ⟨p_,hp_⟩
  have hq_:Below w1.heap.size w1 w9:=hp_▸p_.ok
  clear hp_ p_ ao aq ar au av aw
  have hb:=hq_
  clear BN CI CN
  replace BL:=zs BL hb;(try replace BD:=zb BD hb);(try replace BR:=zb BR hb);(try replace Do:=zA (Do.out.on hb))
  clear hb hq_
  have BN:=zA (Below.refl w9.heap.size w9)
  replace iD:=blk6 BD.out;replace iR:=blk6 BR.out;replace zD:=z6of BD.out;replace zR:=z6of BR.out
  go_wp2_with fail
  have CU:=zA (fun (W:World) (hb:Below w9.heap.size w9 W)=>spec_UsedOn.calls k A0 c0 o1 A1 c1 o2 A2 c2 o3 A3 c3 o4 o5 o6 u W (Kd.R_reads' (Do.out.on hb).r0).2.2 (Kd.R_reads' (Do.out.on hb).r0).2.1 (Kd.R_reads' (Do.out.on hb).r1).2.2 (Kd.R_reads' (Do.out.on hb).r1).2.1 (Kd.R_reads' (Do.out.on hb).r2).2.2 (Kd.R_reads' (Do.out.on hb).r2).2.1 (Kd.R_reads' (Do.out.on hb).r3).2.2 (Kd.R_reads' (Do.out.on hb).r3).2.1 HU.out)
  have ao:∀ p_:LaidBy w9,p_.W.cell? ⟨gD,0,none⟩=some (.slice A0 o1.length c0):=fun p_=>p_.cell (iD.1)
  have aq:∀ p_:LaidBy w9,p_.W.cell? ⟨gD,1,none⟩=some (.slice A1 o2.length c1):=fun p_=>p_.cell (iD.2.1)
  have ar:∀ p_:LaidBy w9,p_.W.cell? ⟨gD,2,none⟩=some (.slice A2 o3.length c2):=fun p_=>p_.cell (iD.2.2.1)
  have au:∀ p_:LaidBy w9,p_.W.cell? ⟨gD,3,none⟩=some (.slice A3 o4.length c3):=fun p_=>p_.cell (iD.2.2.2.1)
  have av:∀ p_:LaidBy w9,p_.W.cell? ⟨gD,4,none⟩=some (.int .i64 o5):=fun p_=>p_.cell (iD.2.2.2.2.1)
  have aw:∀ p_:LaidBy w9,p_.W.cell? ⟨gD,5,none⟩=some (.int .i64 o6):=fun p_=>p_.cell (iD.2.2.2.2.2)
  refine wp_region_laid (by kernel_rfl) (by kernel_rfl) ?_
  repeat (go_big_quiet_step (first | (go_at_call 16;with_reducible exact laid_of _ (CU.out _ (LaidBy.below _ BN.out)))))
  refine wpQuiet_nil ?_
  rintro w8 ⟨p_,hp_⟩
  have hq_:Below w9.heap.size w9 w8:=hp_▸p_.ok
  clear hp_ p_ ao aq ar au av aw
  have hb:=hq_
  clear BN CU
  replace BL:=zs BL hb;(try replace BD:=zb BD hb);(try replace BR:=zb BR hb);(try replace Do:=zA (Do.out.on hb))
  clear hb hq_
  replace iD:=blk6 BD.out;replace iR:=blk6 BR.out;replace zD:=z6of BD.out;replace zR:=z6of BR.out
  go_wp2_with fail
  (try clear iD iR zD zR)
  have hb:=below_drew (Below.refl w8.heap.size w8)
  replace BL:=zs BL hb;(try replace BD:=zb BD hb);(try replace BR:=zb BR hb);(try replace Do:=zA (Do.out.on hb))
  clear hb
  obtain ⟨gN,row,rfl,hbg,hg,_,c1',c2',hfr,hs1,hs2⟩:=cutRow Do.out kk x HX.out
  have hf1:=hfr (kk*3+1)
  have hf2:=hfr (kk*3+2)
  have hneD:gD≠gN:=fun e=>Do.out.nobox BD.out (by decide) (by decide) (by decide) (.inl (by rw [e];rfl))
  have hneR:gR≠gN:=fun e=>Do.out.nobox BR.out (by decide) (by decide) (by decide) (.inl (by rw [e];rfl))
  have HS1:=zA hs1
  have HS2:=zA hs2
  have HBG:=zA hbg
  have HND:=zA hneD
  have HNR:=zA hneR
  clear hs1 hs2 hg hneD hneR hbg hfr
  refine start_ (n:=14) (S:=fun w'=>w'.cell? ⟨gD,0,none⟩=some (.slice (some ⟨gN,0,none⟩) o1.length c0)∧w'.cell? ⟨gN,kk*3+1,none⟩=some (.string x.f1)) (ds:=[13]) (marks 14 0) (by kernel_rfl) rfl rfl ⟨(blk_cell BD.out 0).trans rfl,c1'⟩ (fun hHeld=>?_)
  generalize w8.drew=w10 at BL BD BR Do HS1 HS2 hf1 hf2 c1' c2' hHeld ⊢
  refine pure_ (i:=0) (N:=some 54) (v:=?_) (a':=?_) (marks 14 1) rfl rfl (by kernel_rfl) (fun _ _ _ h=>h) (Or.inl ⟨by rfl,?_⟩) ?_ ?_
  rotate_left
  · intro w'
    go_simp
    with_reducible rfl
  rotate_left
  · simp only [Act.put,yA,yB,yC,i64_w,i32_w]
    rfl
  refine pure_ (i:=2) (N:=some 56) (v:=?_) (a':=?_) (marks 14 5) rfl rfl (by kernel_rfl) (fun _ _ _ h=>h) (Or.inl ⟨by rfl,?_⟩) ?_ ?_
  rotate_left
  · intro w'
    go_simp
    with_reducible rfl
  rotate_left
  · simp only [Act.put,yA,yB,yC,i64_w,i32_w]
    rfl
  refine pure_ (i:=3) (N:=some 57) (v:=?_) (a':=?_) (marks 14 13) rfl rfl (by kernel_rfl) (fun _ _ _ h=>h) (Or.inl ⟨by rfl,?_⟩) ?_ ?_
  rotate_left
  · intro w'
    go_simp
    with_reducible rfl
  rotate_left
  · simp only [Act.put,yA,yB,yC,i64_w,i32_w]
    rfl
  refine pure_ (i:=5) (N:=some 59) (v:=?_) (a':=?_) (marks 14 45) rfl rfl (by kernel_rfl) (fun _ _ _ h=>h) (Or.inl ⟨by rfl,?_⟩) ?_ ?_
  rotate_left
  · intro w'
    go_simp
    with_reducible rfl
  rotate_left
  · simp only [Act.put,yA,yB,yC,i64_w,i32_w]
    rfl
  refine pure_ (i:=9) (N:=some 63) (v:=?_) (a':=?_) (marks 14 557) rfl rfl (by kernel_rfl) (fun _ _ _ h=>h) (Or.inl ⟨by rfl,?_⟩) ?_ ?_
  rotate_left
  · intro w'
    go_simp
    with_reducible rfl
  rotate_left
  · simp only [Act.put,yA,yB,yC,i64_w,i32_w]
    rfl
  refine take_ (i:=1) (N:=some 55) (v:=?_) (a':=?_) (marks 14 559) rfl rfl (by kernel_rfl) (fun _ _ _ h=>h) (Or.inl ⟨by rfl,?_⟩) hHeld ?_ ?_
  rotate_left
  · rintro w' ⟨s0,s1⟩
    go_simp
    with_reducible rfl
  rotate_left
  · simp only [Act.put,yA,yB,yC,i64_w,i32_w]
    rfl
  refine take_ (i:=4) (N:=some 58) (v:=?_) (a':=?_) (marks 14 575) rfl rfl (by kernel_rfl) (fun _ _ _ h=>h) (Or.inl ⟨by rfl,?_⟩) hHeld ?_ ?_
  rotate_left
  · rintro w' ⟨s0,s1⟩
    go_simp
    with_reducible rfl
  rotate_left
  · simp only [Act.put,yA,yB,yC,i64_w,i32_w]
    rfl
  refine pure_ (i:=6) (N:=some 60) (v:=?_) (a':=?_) (marks 14 639) rfl rfl (by kernel_rfl) (fun _ _ _ h=>h) (Or.inl ⟨by rfl,?_⟩) ?_ ?_
  rotate_left
  · intro w'
    go_simp
    with_reducible rfl
  rotate_left
  · simp only [Act.put,yA,yB,yC,i64_w,i32_w]
    rfl
  refine pure_ (i:=7) (N:=some 61) (v:=?_) (a':=?_) (marks 14 767) rfl rfl (by kernel_rfl) (fun _ _ _ h=>h) (Or.inl ⟨by rfl,?_⟩) ?_ ?_
  rotate_left
  · intro w'
    go_simp
    with_reducible rfl
  rotate_left
  · simp only [Act.put,yA,yB,yC,i64_w,i32_w]
    rfl
  refine take_ (i:=8) (N:=some 62) (v:=?_) (a':=?_) (marks 14 1023) rfl rfl (by kernel_rfl) (fun _ _ _ h=>h) (Or.inl ⟨by rfl,?_⟩) hHeld ?_ ?_
  rotate_left
  · rintro w' ⟨s0,s1⟩
    go_simp
    with_reducible rfl
  rotate_left
  · simp only [Act.put,yA,yB,yC,i64_w,i32_w]
    rfl
  refine pure_ (i:=10) (N:=some 64) (v:=?_) (a':=?_) (marks 14 2047) rfl rfl (by kernel_rfl) (fun _ _ _ h=>h) (Or.inl ⟨by rfl,?_⟩) ?_ ?_
  rotate_left
  · intro w'
    go_simp
    with_reducible rfl
  rotate_left
  · simp only [Act.put,yA,yB,yC,i64_w,i32_w]
    rfl
  refine pure_ (i:=11) (N:=some 65) (v:=?_) (a':=?_) (marks 14 4095) rfl rfl (by kernel_rfl) (fun _ _ _ h=>h) (Or.inl ⟨by rfl,?_⟩) ?_ ?_
  rotate_left
  · intro w'
    go_simp
    with_reducible rfl
  rotate_left
  · simp only [Act.put,yA,yB,yC,i64_w,i32_w]
    rfl
  refine pure_ (i:=12) (N:=some 66) (v:=?_) (a':=?_) (marks 14 8191) rfl rfl (by kernel_rfl) (fun _ _ _ h=>h) (Or.inl ⟨by rfl,?_⟩) ?_ ?_
  rotate_left
  · intro w'
    go_simp
    with_reducible rfl
  rotate_left
  · simp only [Act.put,yA,yB,yC,i64_w,i32_w]
    rfl
  refine last_ (i:=13) (N:=none) (marks 14 16383) rfl rfl (by kernel_rfl) (by decide) (fun K hK=>?_)
  refine skip_ (w1:=?_) (by rfl) rfl ?_ ?_
  rotate_left
  · go_simp
    rfl
  refine hK.out _ _ ?_
  clear hK K hHeld
  refine done_ (by kernel_rfl) ?_
  have b1:Below w.heap.size w (w10.setCell ⟨gN,kk*3+1,none⟩ (.string (x.f1++a2))):=below_set BL.out HBG.out
  have b2:(w10.setCell ⟨gN,kk*3+1,none⟩ (.string (x.f1++a2))).heap[gD]? = some (.cells #[.slice (some ⟨gN,0,none⟩) o1.length c0,.slice A1 o2.length c1,.slice A2 o3.length c2,.slice A3 o4.length c3,.int .i64 o5,.int .i64 o6] 28 (0,0)):=blk_far BD.out HND.out _
  have b3:(w10.setCell ⟨gN,kk*3+1,none⟩ (.string (x.f1++a2))).heap[gR]? = some (.cells #[.slice none 0 0,.slice none 0 0,.slice none 0 0,.slice none 0 0,.int .i64 0,.int .i64 0] 28 (0,0)):=blk_far BR.out HNR.out _
  have b4:=HS1.out (x.f1++a2)
  clear BL BD BR Do HS1 HS2 hf1 hf2 c1' c2'
  generalize (w10.setCell ⟨gN,kk*3+1,none⟩ (.string (x.f1++a2)))=w11 at b1 b2 b3 b4 ⊢
  have BL:=zA b1
  have BD:=zA b2
  have BR:=zA b3
  have Do:=zA b4
  clear b1 b2 b3 b4
  replace iD:=blk6 BD.out;replace iR:=blk6 BR.out;replace zD:=z6of BD.out;replace zR:=z6of BR.out
  go_wp2_with fail
  refine bodyPost_ret (results_ct rfl _ _ gR 28 #[.slice (some ⟨gN,0,none⟩) o1.length c0,.slice A1 o2.length c1,.slice A2 o3.length c2,.slice A3 o4.length c3,.int .i64 o5,.int .i64 o6] (0,0) _ rfl (fill6_at BR.out) Tryz.underlying28 rfl (by kernel_rfl)) rfl ?_
  have hT:=filled_told (.int .i64 o5) (.int .i64 o6) Do.out BR.out
  exact ⟨_,_,_,_,rfl,hT.1,hT.2.1,hT.2.2.1,hT.2.2.2,fill6_below BL.out GR.out⟩
def spec_DiskNew.f (a0:Int):Option ((List (S45))×(List (S47))×(List (S47))×List ByteArray×Int×Int):=if a0<0 then (some (([]:List (S45)),([]:List (S47)),([]:List (S47)),([]:List ByteArray),0,1)) else (some (([]:List (S45)),([]:List (S47)),([]:List (S47)),([]:List ByteArray),a0,1))
theorem spec_DiskNew.calls (a0:Int) (r1:List (S45)) (r2:List (S47)) (r3:List (S47)) (r4:List ByteArray) (r5:Int) (r6:Int) (w:World) (h:spec_DiskNew.f a0=some (r1,r2,r3,r4,r5,r6)) :
  Calls Tryz.prog 21 #[.int .i64 a0] w fun e w'=>∃ v0_ v1_ v2_ v3_:Value,e=.returned (.agg #[v0_,v1_,v2_,v3_,.int .i64 r5,.int .i64 r6])∧Kd.R k45 45 w' w.heap.size (fun _=>True) v0_ r1∧Kd.R k47 47 w' w.heap.size (fun k_=>some k_≠(v2_:Value).ownBlock) v1_ r2∧Kd.R k47 47 w' w.heap.size (fun k_=>some k_≠(v1_:Value).ownBlock) v2_ r3∧Kd.R Kd.string 9 w' w.heap.size (fun _=>True) v3_ r4∧Below w.heap.size w w':=by
 have HB:=zA (Below.refl w.heap.size w)
 have H:(if a0<0 then (some (([]:List (S45)),([]:List (S47)),([]:List (S47)),([]:List ByteArray),0,1)) else (some (([]:List (S45)),([]:List (S47)),([]:List (S47)),([]:List ByteArray),a0,1)))=some (r1,r2,r3,r4,r5,r6):=h
 clear h
 by_cases c2:a0<0
 ·rw [if_pos c2] at H
  have ae:decide (a0<0)=true:=zt c2
  clear c2
  simp only [Option.some.injEq,Prod.mk.injEq] at H
  obtain ⟨rfl,rfl,rfl,rfl,rfl,rfl⟩:=H
  go_enter Tryz.func21,Tryz.ntmps21
  go_wp2_with (((with_reducible refine gate_dst (N:=2) rfl ?_);refine box_event ?hg (N:=2) ?hd (cs:=#[.slice none 0 0,.slice none 0 0,.slice none 0 0,.slice none 0 0,.int .i64 0,.int .i64 0]) (t:=28) ?hr ?_;(case hd=>rfl);(case hg=>rfl);(case hr=>(go_simp;done));intro ab hg w3 hbox hb;have aa:=zA (hbox);have ad:=zA ((by rw [hg];exact (below_size HB.out):w.heap.size≤ab));replace HB:=zs HB hb;clear hb hbox hg;obtain ⟨hcz4_0,hcz4_1,hcz4_2,hcz4_3,hcz4_4,hcz4_5⟩:=b6of aa.out;obtain ⟨hfz4_0,hfz4_1,hfz4_2,hfz4_3,hfz4_4,hfz4_5⟩:=z6of aa.out))
  refine bodyPost_ret (results_cell_row rfl _ _ ab 28 #[.slice none 0 0,.slice none 0 0,.slice none 0 0,.slice none 0 0,.int .i64 0,.int .i64 1] (0,0) _ rfl (by refine blk_put (cs:=#[.slice none 0 0,.slice none 0 0,.slice none 0 0,.slice none 0 0,.int .i64 0,.int .i64 0]) ?_ 5 _ rfl;refine blk_put (cs:=#[.slice none 0 0,.slice none 0 0,.slice none 0 0,.slice none 0 0,.int .i64 0,.int .i64 0]) ?_ 4 _ rfl;refine blk_put (cs:=#[.slice none 0 0,.slice none 0 0,.slice none 0 0,.slice none 0 0,.int .i64 0,.int .i64 0]) ?_ 3 _ rfl;refine blk_put (cs:=#[.slice none 0 0,.slice none 0 0,.slice none 0 0,.slice none 0 0,.int .i64 0,.int .i64 0]) ?_ 2 _ rfl;refine blk_put (cs:=#[.slice none 0 0,.slice none 0 0,.slice none 0 0,.slice none 0 0,.int .i64 0,.int .i64 0]) ?_ 1 _ rfl;refine blk_put (cs:=#[.slice none 0 0,.slice none 0 0,.slice none 0 0,.slice none 0 0,.int .i64 0,.int .i64 0]) ?_ 0 _ rfl;exact aa.out) Tryz.underlying28 rfl (by kernel_rfl)) rfl ?_
  all_goals exact ⟨_,_,_,_,by rfl,by first | exact Kd.R_nil _ _ _ _ _ | exact Kd.N_nil _ _ _ _ _ | exact Kd.V_nil _ _ _ _ _ | exact Kd.Q_nil _ _ _ _ _ | exact Kd.S_nil _ _ _ _ _,by first | exact Kd.R_nil _ _ _ _ _ | exact Kd.N_nil _ _ _ _ _ | exact Kd.V_nil _ _ _ _ _ | exact Kd.Q_nil _ _ _ _ _ | exact Kd.S_nil _ _ _ _ _,by first | exact Kd.R_nil _ _ _ _ _ | exact Kd.N_nil _ _ _ _ _ | exact Kd.V_nil _ _ _ _ _ | exact Kd.Q_nil _ _ _ _ _ | exact Kd.S_nil _ _ _ _ _,by first | exact Kd.R_nil _ _ _ _ _ | exact Kd.N_nil _ _ _ _ _ | exact Kd.V_nil _ _ _ _ _ | exact Kd.Q_nil _ _ _ _ _ | exact Kd.S_nil _ _ _ _ _,by repeat (with_reducible first | exact HB.out | refine below_set ?_ ad.out)⟩
 ·rw [if_neg c2] at H
  have ae:decide (a0<0)=false:=zf c2
  clear c2
  simp only [Option.some.injEq,Prod.mk.injEq] at H
  obtain ⟨rfl,rfl,rfl,rfl,rfl,rfl⟩:=H
  go_enter Tryz.func21,Tryz.ntmps21
  go_wp2_with (((with_reducible refine gate_dst (N:=2) rfl ?_);refine box_event ?hg (N:=2) ?hd (cs:=#[.slice none 0 0,.slice none 0 0,.slice none 0 0,.slice none 0 0,.int .i64 0,.int .i64 0]) (t:=28) ?hr ?_;(case hd=>rfl);(case hg=>rfl);(case hr=>(go_simp;done));intro ab hg w5 hbox hb;have aa:=zA (hbox);have ad:=zA ((by rw [hg];exact (below_size HB.out):w.heap.size≤ab));replace HB:=zs HB hb;clear hb hbox hg;obtain ⟨hcz6_0,hcz6_1,hcz6_2,hcz6_3,hcz6_4,hcz6_5⟩:=b6of aa.out;obtain ⟨hfz6_0,hfz6_1,hfz6_2,hfz6_3,hfz6_4,hfz6_5⟩:=z6of aa.out))
  refine bodyPost_ret (results_cell_row rfl _ _ ab 28 #[.slice none 0 0,.slice none 0 0,.slice none 0 0,.slice none 0 0,.int .i64 a0,.int .i64 1] (0,0) _ rfl (by refine blk_put (cs:=#[.slice none 0 0,.slice none 0 0,.slice none 0 0,.slice none 0 0,.int .i64 a0,.int .i64 0]) ?_ 5 _ rfl;refine blk_put (cs:=#[.slice none 0 0,.slice none 0 0,.slice none 0 0,.slice none 0 0,.int .i64 0,.int .i64 0]) ?_ 4 _ rfl;refine blk_put (cs:=#[.slice none 0 0,.slice none 0 0,.slice none 0 0,.slice none 0 0,.int .i64 0,.int .i64 0]) ?_ 3 _ rfl;refine blk_put (cs:=#[.slice none 0 0,.slice none 0 0,.slice none 0 0,.slice none 0 0,.int .i64 0,.int .i64 0]) ?_ 2 _ rfl;refine blk_put (cs:=#[.slice none 0 0,.slice none 0 0,.slice none 0 0,.slice none 0 0,.int .i64 0,.int .i64 0]) ?_ 1 _ rfl;refine blk_put (cs:=#[.slice none 0 0,.slice none 0 0,.slice none 0 0,.slice none 0 0,.int .i64 0,.int .i64 0]) ?_ 0 _ rfl;exact aa.out) Tryz.underlying28 rfl (by kernel_rfl)) rfl ?_
  all_goals exact ⟨_,_,_,_,by rfl,by first | exact Kd.R_nil _ _ _ _ _ | exact Kd.N_nil _ _ _ _ _ | exact Kd.V_nil _ _ _ _ _ | exact Kd.Q_nil _ _ _ _ _ | exact Kd.S_nil _ _ _ _ _,by first | exact Kd.R_nil _ _ _ _ _ | exact Kd.N_nil _ _ _ _ _ | exact Kd.V_nil _ _ _ _ _ | exact Kd.Q_nil _ _ _ _ _ | exact Kd.S_nil _ _ _ _ _,by first | exact Kd.R_nil _ _ _ _ _ | exact Kd.N_nil _ _ _ _ _ | exact Kd.V_nil _ _ _ _ _ | exact Kd.Q_nil _ _ _ _ _ | exact Kd.S_nil _ _ _ _ _,by first | exact Kd.R_nil _ _ _ _ _ | exact Kd.N_nil _ _ _ _ _ | exact Kd.V_nil _ _ _ _ _ | exact Kd.Q_nil _ _ _ _ _ | exact Kd.S_nil _ _ _ _ _,by repeat (with_reducible first | exact HB.out | refine below_set ?_ ad.out)⟩
mutual
def spec_l01Text.j0:Nat→Int→List Int→Int→Int→Option (ByteArray×Int×Int)
 | 0,_,_,_,_=>none
 | k+1,x1,aa,ab,ad=>spec_l01Text.l0 k x1 ([]:List Int) 0 aa ab ad
def spec_l01Text.l0:Nat→Int→List Int→Int→List Int→Int→Int→Option (ByteArray×Int×Int)
 | 0,_,_,_,_,_,_=>none
 | k+1,x1,x5,x6,aa,ab,ad=>if x6<x1 then ((spec_l01Byte.f aa ab ad).bind fun ae=>(if x5.length<140737488355328 then (spec_l01Text.l0 k x1 (x5++[(ae.1) % 256]) (wrap64 (x6+1)) aa ae.2.1 ae.2.2) else (none))) else (some (strOfNums x5,ab,ad))
end
def spec_l01Text.f (k:Nat) (aa:List Int) (ab:Int) (ad:Int) (a1:Int):Option (ByteArray×Int×Int):=if a1>5000 then (spec_l01Text.j0 k 5000 aa ab ad) else (spec_l01Text.j0 k a1 aa ab ad)
theorem spec_l01Text.mono_l:∀ k,(∀ y0 y1 y2 y3,LeO (spec_l01Text.j0 k y0 y1 y2 y3) (spec_l01Text.j0 (k+1) y0 y1 y2 y3))∧(∀ y0 y1 y2 y3 y4 y5,LeO (spec_l01Text.l0 k y0 y1 y2 y3 y4 y5) (spec_l01Text.l0 (k+1) y0 y1 y2 y3 y4 y5))
 | 0=>⟨fun _ _ _ _ r h=>by simp [spec_l01Text.j0] at h,fun _ _ _ _ _ _ r h=>by simp [spec_l01Text.l0] at h⟩
 | k+1=>by
  obtain ⟨ih0,ih1⟩:=spec_l01Text.mono_l k
  refine ⟨?_,?_⟩
  ·intro y0 y1 y2 y3
   unfold spec_l01Text.j0
   repeat' (with_reducible exact ih1 _ _ _ _ _ _)
  ·intro y0 y1 y2 y3 y4 y5
   unfold spec_l01Text.l0
   repeat' first | (with_reducible exact ih1 _ _ _ _ _ _) | (with_reducible exact LeO.refl _) | (with_reducible refine LeO.ite ?_ ?_) | (with_reducible refine LeO.bind ?_ (fun _=>?_))
theorem spec_l01Text.mono:∀ a0 a1 a2 a3 k,LeO (spec_l01Text.f k a0 a1 a2 a3) (spec_l01Text.f (k+1) a0 a1 a2 a3):=by
 intro a0 a1 a2 a3 k
 obtain ⟨ih0,ih1⟩:=spec_l01Text.mono_l k
 unfold spec_l01Text.f
 repeat' first | (with_reducible exact ih0 _ _ _ _) | (with_reducible refine LeO.ite ?_ ?_)
theorem spec_l01Text.calls (k:Nat) (g:Nat) (aa:List Int) (ag:Int) (ah:Int) (a1:Int) (r1:ByteArray) (r2:Int) (r3:Int) (w0 w:World) (hI:IsS87 w0 w g aa ag ah) (hB:Below w0.heap.size w0 w) (h:spec_l01Text.f k aa ag ah a1=some (r1,r2,r3)) :
  Calls Tryz.prog 38 #[.pointer (some ⟨g,0,none⟩),.int .i64 a1] w fun e w'=>e=.returned (.string r1)∧IsS87 w0 w' g aa r2 r3∧Below w0.heap.size w0 w'∧KeepBut w w' g none:=by
 have HI0:=zA hI
 have HK:=zA (KeepBut.refl w g none)
 have HL:=zA hB.size
 clear hI
 have HB:=zA hB
 clear hB
 have H:(if a1>5000 then (spec_l01Text.j0 k 5000 aa ag ah) else (spec_l01Text.j0 k a1 aa ag ah))=some (r1,r2,r3):=h
 clear h
 have HC3:=zA H
 clear H
 go_enter Tryz.func38,Tryz.ntmps38
 go_upto_if 8 with (fail)
 go_cut [1] (fun v1 wc=>∃ (kq:Nat) (ae:Int),v1=.int .i64 ae∧Aside0 (spec_l01Text.j0 kq ae aa ag ah=some (r1,r2,r3))∧Aside0 (kq≤k)∧Aside0 (IsS87 w0 wc g aa ag ah)∧Aside0 (KeepBut w wc g none)∧Aside0 (Below w0.heap.size w0 wc))
 case first=>
  have H:=HC3.out
  clear HC3
  by_cases c4:a1>5000
  ·rw [if_pos c4] at H
   have ak:decide (5000<a1)=true:=zt c4
   clear c4
   (rw [ak])
   have H':=zA H
   clear H
   go_wp2
   go_meet
   case rel=>exact ⟨_,(5000),(by rfl),H',⟨by omega⟩,⟨by repeat (with_reducible exact HI0.out)⟩,⟨by repeat (with_reducible exact HK.out)⟩,⟨by repeat (with_reducible exact HB.out)⟩⟩
  ·rw [if_neg c4] at H
   have ak:decide (5000<a1)=false:=zf c4
   clear c4
   (rw [ak])
   have H':=zA H
   clear H
   go_wp2
   go_meet
   case rel=>exact ⟨_,(a1),(by rfl),H',⟨by omega⟩,⟨by repeat (with_reducible exact HI0.out)⟩,⟨by repeat (with_reducible exact HK.out)⟩,⟨by repeat (with_reducible exact HB.out)⟩⟩
 case rest=>
  clear HC3
  try clear p2
  try clear c3
  try clear c4
  try clear ak
  obtain ⟨kq,ae,rfl,HA,HJ2,HI0,HK,HB⟩:=hcut
  cases kq with
  | zero=>exact absurd HA.out (by simp [spec_l01Text.j0])
  | succ kj2=>
   have H:=HA.out
   clear HA
   simp only [spec_l01Text.j0] at H
   obtain ⟨au,al⟩:∃ y_:List Int,y_=([]:List Int):=⟨_,rfl⟩
   replace H:(spec_l01Text.l0 kj2 ae au 0 aa ag ah)=some (r1,r2,r3):=by (rw [al];with_reducible exact H)
   have av:=zA al
   clear al
   have H':=zA H
   clear H
   go_wp2_with (((with_reducible refine gate_dst (N:=9) rfl ?_);refine Kd.R_lit (Kd.int .u8) _ 5 ?hg (N:=9) ?hd (xs:=([]:List Int)) (inner:=[]) (ok:=fun _=>True) (okp:=fun _=>True) ?hr ?hp (fun _ hk=>hk) trivial (Below.refl _ _) (Nat.le_refl _) (by simp) ?_;(case hd=>rfl);(case hg=>rfl);(case hr=>(go_simp;done));(case hp=>exact (Reps.none _ _));intro v253 w5 ho6 hb hg_ hnew_;clear hg_ hnew_;(rw [← av.out] at ho6);have aw:=zA (Kd.R_lower ho6 (keep_size (w:=w) (g:=g) (row:=none) HK.out));replace HI0:=zA (IsS87.below HI0.out hb);replace HK:=zA (KeepBut.trans HK.out (KeepBut.of_below hb g none) (.inl rfl));replace HB:=zs HB hb;clear hb ho6))
   go_loopg [5,6] kj2 (fun kq v5 v6 w'=>∃ (ai:List Int) (af:Int) (ab:Int) (ad:Int),v6=.int .i64 af∧Aside0 (spec_l01Text.l0 kq ae ai af aa ab ad=some (r1,r2,r3))∧Aside0 (kq≤kj2)∧Aside0 (Kd.R (Kd.int .u8) 5 w' w.heap.size (fun _=>True) v5 ai)∧Aside0 (IsS87 w0 w' g aa ab ad)∧Aside0 (KeepBut w w' g none)∧Aside0 (Below w0.heap.size w0 w'))
   case atStart=>exact ⟨(au),(0),(ag),(ah),(by rfl),H',⟨Nat.le_refl _⟩,⟨by exact aw.out⟩,⟨by repeat (with_reducible exact HI0.out)⟩,⟨by repeat (with_reducible exact HK.out)⟩,⟨by repeat (with_reducible exact HB.out)⟩⟩
   case round=>
    clear H'
    try clear p2
    try clear c3
    try clear c4
    try clear ak
    try clear p6
    try clear p2
    obtain ⟨ai,af,ab,ad,rfl,HA,HK2,aj,HI0,HK,HB⟩:=hrel
    cases gk with
    | zero=>exact absurd HA.out (by simp [spec_l01Text.l0])
    | succ k2=>
     have H:=HA.out
     clear HA
     simp only [spec_l01Text.l0] at H
     by_cases c7:af<ae
     ·rw [if_pos c7] at H
      have aA:decide (af<ae)=true:=zt c7
      clear c7
      obtain ⟨⟨an,aq,ar⟩,A8,H⟩:=bA H
      replace H:(if ai.length<140737488355328 then (spec_l01Text.l0 k2 ae (ai++[(an) % 256]) (wrap64 (af+1)) aa aq ar) else (none))=some (r1,r2,r3):=H
      by_cases c9:ai.length<140737488355328
      ·rw [if_pos c9] at H
       have aB:=zA c9
       clear c9
       obtain ⟨ax,ao⟩:∃ y_:List Int,y_=(ai++[(an) % 256]):=⟨_,rfl⟩
       replace H:(spec_l01Text.l0 k2 ae ax (wrap64 (af+1)) aa aq ar)=some (r1,r2,r3):=by (rw [ao];with_reducible exact H)
       have ay:=zA ao
       clear ao
       have H':=zA H
       clear H
       go_wp2_with (first | ((with_reducible refine gate_callee (f:=81) rfl ?_);refine goesL_ (some 17) rfl rfl Tryz.func81 (by kernel_rfl) rfl #[.pointer (some ⟨g,0,none⟩)] rfl (by (try simp only [List.map_toArray,List.map_cons,List.map_nil]);rfl) ?_;(with_reducible refine (spec_l01Byte.calls g aa ab ad an aq ar w0 _ ?side1 ?side2 A8.out).mono ?_);(case side1=>repeat (with_reducible exact HI0.out));(case side2=>repeat (with_reducible exact HB.out));rintro e w10 ⟨rfl,hi,hb,hk⟩;refine ⟨_,rfl,?_⟩;replace aj:=zA (Kd.R_mono (Kd.R_keep (IsS87.apart (show IsS87 w0 _ g aa ab ad from by repeat (with_reducible exact HI0.out)) aj.out (by decide)) hk (fun _ h=>h.2)) (fun _ h=>h.1));replace HK:=zA (KeepBut.trans HK.out hk (.inl rfl));replace HB:=zA (hb);replace HI0:=zA (hi);(try clear hb);(try clear hk);(try clear hi)) | ((with_reducible refine gate_builtin (b:=.append) (xs:=#[.tmp 15,.tmp 19]) rfl ?_);at_builtin;refine Kd.R_append (Kd.int .u8) w.heap.size rfl (.tmp 15) (.tmp 19) 22 5 (.int .u8 0) 1 rfl Tryz.underlying22 info5 rfl (by decide) (by omega) u5 ai ((an) % 256) [.int .u8 ((an) % 256)] (fun _=>True) (fun _=>False) rfl rfl ?aP (fun _ hk=>hk.elim) ?aF ?aO (Below.refl _ _) ?aS ?aL ?_;(case aP=>exact rfl);(case aF=>exact (fun _ _=>trivial));(case aO=>exact aj.out);(case aS=>exact (keep_size (w:=w) (g:=g) (row:=none) HK.out));(case aL=>have:=aB.out;omega);intro v259 w11 ho hb hg hat;rw [← ay.out] at ho;have az:=zA (ho);replace HI0:=zA (IsS87.grown HI0.out hg (IsS87.own_ne HI0.out aj.out (by decide)));replace HB:=zA (below_weaken HB.out HL.out hb);replace HK:=zA (KeepBut.trans HK.out (KeepBut.of_grown hg g) (Kd.R_base2 aj.out));clear aj;clear ho hb hg hat))
       go_roundg k2
       case measure=>have:=HJ2.out;have:=HK2.out;omega
       case rel=>exact ⟨(ax),(wrap64 (af+1)),(aq),(ar),(by rfl),H',⟨by have:=HJ2.out;have:=HK2.out;omega⟩,⟨by exact az.out⟩,⟨by repeat (with_reducible exact HI0.out)⟩,⟨by repeat (with_reducible exact HK.out)⟩,⟨by repeat (with_reducible exact HB.out)⟩⟩
      ·rw [if_neg c9] at H
       exact absurd H (by simp)
     ·rw [if_neg c7] at H
      have aA:decide (af<ae)=false:=zf c7
      clear c7
      simp only [Option.some.injEq,Prod.mk.injEq] at H
      obtain ⟨rfl,rfl,rfl⟩:=H
      have hcv12:=own_string (P:=Tryz.prog) Tryz.underlying22 Tryz.underlying5 Tryz.underlying9 (Kd.own_of_R aj.out)
      go_wp2
      all_goals (go_ret)
      all_goals exact ⟨by rfl,by repeat (with_reducible exact HI0.out),by repeat (with_reducible exact HB.out),by repeat (with_reducible exact HK.out)⟩
end Go.Proofs.YtokcccejijmkmaaGreatDoor.MFnDeeds
