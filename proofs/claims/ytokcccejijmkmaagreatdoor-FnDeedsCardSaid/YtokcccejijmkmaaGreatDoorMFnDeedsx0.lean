/- Each theorem here says that a call of one Go function answers what the Lean function beside it answers; its conditions stand in it. Written by a program of this session. -/
import Derived.Test.YtokcccejijmkmaaGreatDoorProg
import Derived.Below
import Derived.Deep.Draws
import Derived.Deep.AppendLies
import Derived.Maps.AppendAt
import Derived.OwnWalk
import Derived.Laws.BytesArg
import Derived.Laws.MakeOwn
import Derived.Laws.OwnMore
import Derived.Deep.OwnRows
import Derived.Tactics
import Derived.Lib.ConvBytes
import Derived.Laws.Slices
import Derived.WalkKit
import Derived.KernelRfl
import Derived.RowKit3
import Derived.Deep.LoopGhost
import Derived.Deep.QuietTactic
import Derived.BigQuiet
import Derived.WideLaws
import Derived.Deep.DeepCutAuto
import Derived.Deep.CutBlock
import Derived.Deep.RegionHeld3
import Derived.Laws.Rows
import Derived.Lib.AppendStr
import Derived.ArgAppend
import Derived.Laws.IdiomCopy
import Derived.OrdersHeld
import Derived.Laws.BitsLemmas
import Derived.RowKit
import Derived.Test.YtokcccejijmkmaaGreatDoorOpn
import Derived.Laws.Cover1
import Derived.Deep.RegionLaw
import Derived.Laws.CopyOwn
import Derived.Laws.CopyRow
import Derived.Laws.Cover1
import Derived.Laws.Externs
import Derived.Laws.IdiomCopy
import Derived.Lib.AppendIntMem
import Derived.Lib.AppendZerosOnto
import Derived.Lib.LaidTab
import Derived.Lib.Overlaps
import Derived.Lib.SliceRun
import Derived.Lib.SlicesDelete
import Derived.Maps.OwnOps
import Derived.Shelf.RegionOpenPlain
import Derived.Shelf.Spec.SlicesInsertGrow
import Derived.Shelf.Strconv.ErrVarAll
import Derived.Shelf.Strconv.Itoa3
import Derived.Shelf.Strings.Search1
import Derived.Test.YtokcccejijmkmaaGreatDoorShelf
import Derived.Shelf.Abstract
import Derived.Test.YtokcccejijmkmaaGreatDoorWWords
import Derived.Test.YtokcccejijmkmaaGreatDoorWLast
import Derived.Test.YtokcccejijmkmaaGreatDoorWTab
import Derived.Test.YtokcccejijmkmaaGreatDoorWFour
import Derived.Test.YtokcccejijmkmaaGreatDoorWQPut
import Derived.Test.YtokcccejijmkmaaGreatDoorWApart
import Derived.Test.YtokcccejijmkmaaGreatDoorWArr
import Derived.Test.YtokcccejijmkmaaGreatDoorWZeros
import Derived.Test.YtokcccejijmkmaaGreatDoorWFoot
import Derived.Test.YtokcccejijmkmaaGreatDoorWKept
import Derived.Test.YtokcccejijmkmaaGreatDoorWShare
import Derived.Test.YtokcccejijmkmaaGreatDoorWN
import Derived.Test.YtokcccejijmkmaaGreatDoorWFootNe
import Derived.Test.YtokcccejijmkmaaGreatDoorWAt
import Derived.Test.YtokcccejijmkmaaGreatDoorWEqStruct
import Derived.Test.YtokcccejijmkmaaGreatDoorWRepsOne
import Derived.Test.YtokcccejijmkmaaGreatDoorWInv
import Derived.Test.YtokcccejijmkmaaGreatDoorWInvWords
import Derived.Test.YtokcccejijmkmaaGreatDoorWGuard
import Derived.Test.YtokcccejijmkmaaGreatDoorWNEv
import Derived.Test.YtokcccejijmkmaaGreatDoorWMore
namespace Go.Proofs.YtokcccejijmkmaaGreatDoor.MFnDeeds
open Go.RowKit Go.Proofs.YtokcccejijmkmaaGreatDoorW.PrintWords Go.Proofs.YtokcccejijmkmaaGreatDoorW.PrintLast Go.Proofs.YtokcccejijmkmaaGreatDoorW.PrintMore
attribute [local go_sem] max2_int min2_int max_two min_two max_three min_three max_four min_four
set_option linter.unusedVariables false
set_option linter.unusedSimpArgs false
theorem zA {p:Prop} (h:p):Aside0 p:=⟨h⟩
theorem zb {w w1:World} {g:Nat} {o:Obj} (h:Aside0 (w.heap[g]? = some o)) (hb:Below w.heap.size w w1):Aside0 (w1.heap[g]? = some o):=⟨blk_below h.out hb⟩
theorem zs {w W w2:World} (h:Aside0 (Below w.heap.size w W)) (k:Below W.heap.size W w2):Aside0 (Below w.heap.size w w2):=⟨below_step h.out k⟩
theorem zo {α β:Type} {x:Option α} {f:α→Option β} {r:β} (h:x.bind f=some r):∃ a,x=some a∧f a=some r:=Option.bind_eq_some_iff.mp h
theorem zd {p:Prop} [Decidable p] (h:decide p=true):p:=of_decide_eq_true h
theorem zt {p:Prop} [Decidable p] (h:p):decide p=true:=decide_eq_true h
theorem zf {p:Prop} [Decidable p] (h:¬p):decide p=false:=decide_eq_false h
theorem ze {p:Prop} [Decidable p] (h:decide p=true:=by with_reducible assumption):p:=of_decide_eq_true h
theorem zg {p:Prop} [Decidable p] (h:decide p=true:=by first | (with_reducible assumption) | assumption):p:=of_decide_eq_true h
theorem yA {α:Type} (l:List α) (i:Nat) (a:α):l.toArray.setIfInBounds i a=(l.set i a).toArray:=List.setIfInBounds_toArray ..
theorem yB {α:Type} {x a:α} {l:List α}:(x::l).set 0 a=a::l:=List.set_cons_zero
theorem yC {α:Type} {x a:α} {l:List α} {n:Nat}:(x::l).set (n+1) a=x::l.set n a:=List.set_cons_succ
theorem zc {w:World} {g:Nat} {t:TypeId} {a b c d e f:Value} (h:Aside0 (w.heap[g]? = some (.cells #[a,b,c,d,e,f] t (0,0)))):w.cell? ⟨g,0,none⟩=some a∧w.cell? ⟨g,1,none⟩=some b∧w.cell? ⟨g,2,none⟩=some c∧w.cell? ⟨g,3,none⟩=some d∧w.cell? ⟨g,4,none⟩=some e∧w.cell? ⟨g,5,none⟩=some f:=
  ⟨(blk_cell h.out 0).trans rfl,(blk_cell h.out 1).trans rfl,(blk_cell h.out 2).trans rfl,(blk_cell h.out 3).trans rfl,(blk_cell h.out 4).trans rfl,(blk_cell h.out 5).trans rfl⟩
section
variable {P:Program} {ops:Array Oper} {Q:Exit→Act→World→Prop} {md:Region.Mode} {S:World→Prop} {ds:List Nat} {oi:Oper} {v:Value} {fuel:Nat} {l:Array Bool} {a:Act} {w:World} {a':Act}
theorem zp (i:Nat) (N:Option Tmp) (l':Array Bool) (hi:ops[i]? = some oi) (hN:oi.dst=N) (hc:anyB md ops l l' i=true)
    (hy:Yields P ops oi v a:=by (refine Or.inl ⟨by rfl,?_⟩;intro w';go_simp;with_reducible rfl)) (ha:a.put N v=a':=by (simp only [Act.put,yA,yB,yC,i64_w,i32_w];rfl)) (hQ:∀ c a w,Q (.panic c) (a.put oi.dst v) w→Q (.panic c) a w:=by exact fun _ _ _ h=>h)
    (h:wpAnyLast P md ops Q S ds fuel l' a' w):wpAnyLast P md ops Q S ds (fuel+1) l a w:=pure_ l' hi hN hc hQ hy ha h
theorem zq (i:Nat) (N:Option Tmp) (l':Array Bool) (hi:ops[i]? = some oi) (hN:oi.dst=N) (hc:takeB md ops ds l l' i=true) (hS:S w)
    (hy:YieldsIf P ops S oi v a:=by (refine Or.inl ⟨by rfl,?_⟩;intro w' hS;(try dsimp only at hS);go_simp;with_reducible rfl)) (ha:a.put N v=a':=by (simp only [Act.put,yA,yB,yC,i64_w,i32_w];rfl)) (hQ:∀ c a w,Q (.panic c) (a.put oi.dst v) w→Q (.panic c) a w:=by exact fun _ _ _ h=>h)
    (h:wpAnyLast P md ops Q S ds fuel l' a' w):wpAnyLast P md ops Q S ds (fuel+1) l a w:=take_ l' hi hN hc hQ hy hS ha h
theorem zn (ha:a=a':=by (show Act.put _ _ _=_;simp only [Act.put,yA,yB,yC,i64_w,i32_w];rfl)) (h:wpAnyLast P md ops Q S ds fuel l a' w):wpAnyLast P md ops Q S ds fuel l a w:=norm_ ha h
end
def errW:Option Int→Value
  | none=>.nilIface
  | some c=>.iface 0 (.int .i64 c)
theorem errW_none:errW none=.nilIface:=rfl
theorem errW_some (c:Int):errW (some c)=.iface 0 (.int .i64 c):=rfl
theorem info5:(Tryz.prog.info? 5).map (fun i=>(i.zero,i.size,i.bytes))=some (some (.int .u8 0),1,1):=by kernel_rfl
theorem info9:(Tryz.prog.info? 9).map (fun i=>(i.zero,i.size,i.bytes))=some (some (.string ⟨#[]⟩),1,16):=by kernel_rfl
theorem info45:(Tryz.prog.info? 45).map (fun i=>(i.zero,i.size,i.bytes))=some (some (.agg #[(.int .i64 0),(.string ⟨#[]⟩),(.int .i64 0)]),3,32):=by kernel_rfl
theorem info47:(Tryz.prog.info? 47).map (fun i=>(i.zero,i.size,i.bytes))=some (some (.agg #[(.string ⟨#[]⟩),(.int .i64 0)]),2,24):=by kernel_rfl
structure S45 where
  f0:Int
  f1:ByteArray
  f2:Int
def z45:S45:=⟨(0:Int),(⟨#[]⟩:ByteArray),(0:Int)⟩
def k45:Kd S45:=Kd.iso (Kd.pair (Kd.int .i64) (Kd.pair Kd.string (Kd.int .i64))) (fun x:S45=>(x.f0,x.f1,x.f2))
theorem k45_open {w:World} {x:S45} {cs:List Value} (h:k45.K w x cs):cs=[.int .i64 x.f0,.string x.f1,.int .i64 x.f2]:=by
  obtain ⟨_,_,rfl,rfl,⟨_,_,rfl,rfl,rfl⟩⟩:=h
  exact rfl
theorem k45_openM {w:World} {base:Nat} {ok:Nat→Prop} {x:S45} {cs:List Value} (h:k45.M w base ok x cs):cs=[.int .i64 x.f0,.string x.f1,.int .i64 x.f2]:=by
  obtain ⟨_,_,rfl,rfl,⟨_,_,rfl,rfl,rfl⟩⟩:=h
  exact rfl
theorem k45_mkM (w:World) (base:Nat) (ok:Nat→Prop) (x:S45)  : k45.M w base ok x [.int .i64 x.f0,.string x.f1,.int .i64 x.f2]:=⟨[.int .i64 x.f0],[.string x.f1,.int .i64 x.f2],rfl,rfl,⟨[.string x.f1],[.int .i64 x.f2],rfl,rfl,rfl⟩⟩
def rd_T45 (xs:List S45) (i:Int):S45:=xs.getD i.toNat z45
theorem at_T45 {w:World} {A:Option Addr} {n:Nat} {xs:List S45} (h:Kd.C k45 w A n xs) (i:Int) (h0:0≤i) (h1:i<n):∃ ad ,A=some ad∧w.cell? (ad.add (i.toNat*3))=some (.int .i64 (rd_T45 xs i).f0)∧w.cell? ⟨(ad.add (i.toNat*3)).block,(ad.add (i.toNat*3)).off+1,none⟩=some (.string (rd_T45 xs i).f1)∧w.cell? ⟨(ad.add (i.toNat*3)).block,(ad.add (i.toNat*3)).off+2,none⟩=some (.int .i64 (rd_T45 xs i).f2):=by
  obtain ⟨ad,c,e,_,hK,hc0⟩:=Kd.C_get h z45 i h0 h1
  have hc:∀ j u,c[j]? = some u→w.cell? (ad.add (i.toNat*3+j))=some u:=hc0
  obtain rfl:=k45_open hK
  exact ⟨ad,e,hc 0 _ rfl,by rw [← add_field _ _ 1 (by omega)];exact hc 1 _ rfl,by rw [← add_field _ _ 2 (by omega)];exact hc 2 _ rfl⟩
structure S47 where
  f0:ByteArray
  f1:Int
def z47:S47:=⟨(⟨#[]⟩:ByteArray),(0:Int)⟩
def k47:Kd S47:=Kd.iso (Kd.pair Kd.string (Kd.int .i64)) (fun x:S47=>(x.f0,x.f1))
theorem k47_open {w:World} {x:S47} {cs:List Value} (h:k47.K w x cs):cs=[.string x.f0,.int .i64 x.f1]:=by
  obtain ⟨_,_,rfl,rfl,rfl⟩:=h
  exact rfl
theorem k47_openM {w:World} {base:Nat} {ok:Nat→Prop} {x:S47} {cs:List Value} (h:k47.M w base ok x cs):cs=[.string x.f0,.int .i64 x.f1]:=by
  obtain ⟨_,_,rfl,rfl,rfl⟩:=h
  exact rfl
theorem k47_mk (w:World) (x:S47)  : k47.K w x [.string x.f0,.int .i64 x.f1]:=⟨[.string x.f0],[.int .i64 x.f1],rfl,rfl,rfl⟩
theorem k47_mkM (w:World) (base:Nat) (ok:Nat→Prop) (x:S47)  : k47.M w base ok x [.string x.f0,.int .i64 x.f1]:=⟨[.string x.f0],[.int .i64 x.f1],rfl,rfl,rfl⟩
def rd_T47 (xs:List S47) (i:Int):S47:=xs.getD i.toNat z47
theorem at_T47 {w:World} {A:Option Addr} {n:Nat} {xs:List S47} (h:Kd.C k47 w A n xs) (i:Int) (h0:0≤i) (h1:i<n):∃ ad ,A=some ad∧w.cell? (ad.add (i.toNat*2))=some (.string (rd_T47 xs i).f0)∧w.cell? ⟨(ad.add (i.toNat*2)).block,(ad.add (i.toNat*2)).off+1,none⟩=some (.int .i64 (rd_T47 xs i).f1):=by
  obtain ⟨ad,c,e,_,hK,hc0⟩:=Kd.C_get h z47 i h0 h1
  have hc:∀ j u,c[j]? = some u→w.cell? (ad.add (i.toNat*2+j))=some u:=hc0
  obtain rfl:=k47_open hK
  exact ⟨ad,e,hc 0 _ rfl,by rw [← add_field _ _ 1 (by omega)];exact hc 1 _ rfl⟩
structure S28 where
  f0:(List S45)
  f1:(List S47)
  f2:(List S47)
  f3:(List ByteArray)
  f4:Int
  f5:Int
structure LaidBy (w:World) where
  W:World
  ok:Below w.heap.size w W
instance LaidBy.one (w:World):Inhabited (LaidBy w):=⟨⟨w,Below.refl _ _⟩⟩
theorem LaidBy.cell {w:World} (p:LaidBy w) {a:Addr} {v:Value} (h:w.cell? a=some v):p.W.cell? a=some v:=(p.ok.cell (World.block_lt_of_cell? w _ h)).trans h
theorem LaidBy.below {w:World} (p:LaidBy w) {w0:World} (h:Below w0.heap.size w0 w):Below w0.heap.size w0 p.W:=h.trans (p.ok.mono h.size)
theorem laid_of {P:Program} {f:FuncId} {args:Array Value} {v:Value} {w:World} (p:LaidBy w) (h:Calls P f args p.W fun e w'=>e=.returned v∧Below p.W.heap.size p.W w'):Calls P f args p.W fun e w''=>e=.returned v∧∃ q:LaidBy w,w''=q.W:=
  h.mono fun _ w' ⟨he,hb⟩=>⟨he,⟨w',p.ok.trans (hb.mono p.ok.size)⟩,rfl⟩
theorem laid_drawn {P:Program} {f:FuncId} {args:Array Value} {v:Value} {w:World} (p:LaidBy w) (h:Calls P f args p.W fun e w'=>e=.returned v∧∃ n,w'=p.W.drewN n):Calls P f args p.W fun e w''=>e=.returned v∧∃ q:LaidBy w,w''=q.W:=
  h.mono fun _ w' ⟨he,n,hb⟩=>⟨he,⟨w',by rw [hb];exact pw_below_drewN p.ok n⟩,rfl⟩
theorem wp_region_laid {P:Program} {id:Nat} {Q:Exit→Act→World→Prop} {a:Act} {w:World} {l:List Oper} (hm:P.follows .mixedOrders=true) (hB:Region.lexB .any l.toArray=true)
    (h:wpQuiet P l.toArray (fun w'=>∃ p:LaidBy w,w'=p.W) (fun a'=>∀ w',(∃ p:LaidBy w,w'=p.W)→Q .normal a' w') l a):(Code.region id l.toArray true).wp P Q a w:=
  wp_region_quiet (C:=fun w'=>∃ p:LaidBy w,w'=p.W) hm hB ⟨⟨w.drew,below_drew (Below.refl _ _)⟩,rfl⟩ (by simpa using h)
def marks (n m:Nat):Array Bool:=((List.range n).map fun i=>m.testBit i).toArray
theorem bB {w w1:World} {g:Nat} {o:Obj} (hb:Below w.heap.size w w1) (h:w.heap[g]? = some o):w1.heap[g]? = some o:=blk_below h hb
theorem bA {α β:Type} {x:Option α} {f:α→Option β} {r:β} (h:x.bind f=some r):∃ a,Aside0 (x=some a)∧f a=some r:=(zo h).imp fun _ q=>⟨⟨q.1⟩,q.2⟩
theorem b6of {w:World} {g:Nat} {t:TypeId} {a b c d e f:Value} (h:w.heap[g]? = some (.cells #[a,b,c,d,e,f] t (0,0))) :
    w.cell? ⟨g,0,none⟩=some a∧w.cell? ⟨g,1,none⟩=some b∧w.cell? ⟨g,2,none⟩=some c∧w.cell? ⟨g,3,none⟩=some d∧w.cell? ⟨g,4,none⟩=some e∧w.cell? ⟨g,5,none⟩=some f:=
  ⟨(blk_cell h 0).trans rfl,(blk_cell h 1).trans rfl,(blk_cell h 2).trans rfl,(blk_cell h 3).trans rfl,(blk_cell h 4).trans rfl,(blk_cell h 5).trans rfl⟩
theorem z6of {w:World} {g:Nat} {cs:Array Value} {t:TypeId} (h:w.heap[g]? = some (.cells cs t (0,0))) :
    w.frozen? ⟨g,0,none⟩=false∧w.frozen? ⟨g,1,none⟩=false∧w.frozen? ⟨g,2,none⟩=false∧w.frozen? ⟨g,3,none⟩=false∧w.frozen? ⟨g,4,none⟩=false∧w.frozen? ⟨g,5,none⟩=false:=
  ⟨blk_frozen h 0,blk_frozen h 1,blk_frozen h 2,blk_frozen h 3,blk_frozen h 4,blk_frozen h 5⟩
theorem R6 {α:Type} {d:Kd α} {e:Nat} {w:World} {base g:Nat} {ok:Nat→Prop} {v:Value} {xs:List α} (h:d.R e w base (fun k=>ok k∧k≠g) v xs) (v0 v1 v2 v3 v4 v5:Value) :
    d.R e ((((((w.setCell ⟨g,0,none⟩ v0).setCell ⟨g,1,none⟩ v1).setCell ⟨g,2,none⟩ v2).setCell ⟨g,3,none⟩ v3).setCell ⟨g,4,none⟩ v4).setCell ⟨g,5,none⟩ v5) base (fun k=>ok k∧k≠g) v xs:=
  Kd.R_far (p:=⟨g,5,none⟩) (Kd.R_far (p:=⟨g,4,none⟩) (Kd.R_far (p:=⟨g,3,none⟩) (Kd.R_far (p:=⟨g,2,none⟩) (Kd.R_far (p:=⟨g,1,none⟩) (Kd.R_far (p:=⟨g,0,none⟩) h (fun _ hk=>hk.2) v0) (fun _ hk=>hk.2) v1) (fun _ hk=>hk.2) v2) (fun _ hk=>hk.2) v3) (fun _ hk=>hk.2) v4) (fun _ hk=>hk.2) v5
end Go.Proofs.YtokcccejijmkmaaGreatDoor.MFnDeeds
