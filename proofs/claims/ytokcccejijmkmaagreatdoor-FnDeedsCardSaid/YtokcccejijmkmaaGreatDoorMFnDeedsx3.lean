/- Each theorem here says that a call of one Go function answers what the Lean function beside it answers; its conditions stand in it. Written by a program of this session. -/
import Derived.Test.YtokcccejijmkmaaGreatDoorMFnDeedsx0
namespace Go.Proofs.YtokcccejijmkmaaGreatDoor.MFnDeeds
set_option maxHeartbeats 8000000
set_option maxRecDepth 100000
open Go.RowKit Go.Proofs.YtokcccejijmkmaaGreatDoorW.PrintWords Go.Proofs.YtokcccejijmkmaaGreatDoorW.PrintLast Go.Proofs.YtokcccejijmkmaaGreatDoorW.PrintMore
attribute [local go_sem] max2_int min2_int max_two min_two max_three min_three max_four min_four
set_option linter.unusedVariables false
set_option linter.unusedSimpArgs false
def laws_big.f (l0:List Int):Option (Bool):=some (decide ((l0.length:Int)>1048576))
theorem laws_big.calls (A0:Option Addr) (c0:Nat) (l0:List Int) (r:Bool) (w:World) (hr0:Kd.C (Kd.int .u8) w A0 l0.length l0) (hc0:l0.length≤c0) (h:laws_big.f l0=some r) :
  Calls Tryz.prog 5 #[.slice A0 l0.length c0] w fun e w'=>e=.returned (.bool r)∧Drawn0 w w':=by
 clear hr0 hc0
 have H:(some (decide ((l0.length:Int)>1048576)))=some r:=h
 clear h
 obtain rfl:=Option.some.inj H
 go_enter Tryz.func5,Tryz.ntmps5
 go_wp2
 all_goals (go_ret)
 exact ⟨by first | rfl | (simp;done) | (simp [*];done),by repeat (exact Drawn0.refl _)⟩
def IsS87 (w0 W:World) (g:Nat) (f0:List Int) (f1:Int) (f2:Int):Prop:=∃ A0 c0,W.heap[g]? = some (.cells #[.slice A0 f0.length c0,.int .i64 f1,.int .i64 f2] 87 (0,0))∧w0.heap.size≤g∧Kd.C (Kd.int .u8) w0 A0 f0.length f0
theorem IsS87.grown {w0 W:World} {g:Nat} {f0:List Int} {f1:Int} {f2:Int} {W1:World} {row:Option Nat} (h:IsS87 w0 W g f0 f1 f2) (hw:W.grownBy W1 row) (hne:some g≠row):IsS87 w0 W1 g f0 f1 f2:=by
 obtain ⟨A0,c0,hb,hg,hr0⟩:=h
 exact ⟨A0,c0,blk_grown hb hw hne,hg,hr0⟩
theorem IsS87.kept {w0 W:World} {g:Nat} {f0:List Int} {f1:Int} {f2:Int} {W1:World} {S:Nat→Prop} (h:IsS87 w0 W g f0 f1 f2) (hk:Kept W W1 S) (hne:¬ S g):IsS87 w0 W1 g f0 f1 f2:=by
 obtain ⟨A0,c0,hb,hg,hr0⟩:=h
 exact ⟨A0,c0,blk_kept hb hk hne,hg,hr0⟩
theorem IsS87.below {w0 W:World} {g:Nat} {f0:List Int} {f1:Int} {f2:Int} {W1:World} (h:IsS87 w0 W g f0 f1 f2) (hw:Below W.heap.size W W1):IsS87 w0 W1 g f0 f1 f2:=h.grown (grown_of_below hw none) (by simp)
theorem IsS87.alloc {w0 W:World} {g:Nat} {f0:List Int} {f1:Int} {f2:Int} (h:IsS87 w0 W g f0 f1 f2) (o:Obj):IsS87 w0 (W.alloc o) g f0 f1 f2:=h.below (below_alloc (Below.refl _ _) o)
theorem IsS87.drewN {w0 W:World} {g:Nat} {f0:List Int} {f1:Int} {f2:Int} (h:IsS87 w0 W g f0 f1 f2) (m:Nat):IsS87 w0 (W.drewN m) g f0 f1 f2:=h
theorem IsS87.drew {w0 W:World} {g:Nat} {f0:List Int} {f1:Int} {f2:Int} (h:IsS87 w0 W g f0 f1 f2):IsS87 w0 W.drew g f0 f1 f2:=h
theorem IsS87.at_ {w0 W:World} {g:Nat} {f0:List Int} {f1:Int} {f2:Int} {w':World} {m:Nat} (hq:W.drewN m=w') (h:IsS87 w0 W g f0 f1 f2):IsS87 w0 w' g f0 f1 f2:=by subst hq;exact IsS87.drewN h m
theorem IsS87.apart {w0 W:World} {g:Nat} {f0:List Int} {f1:Int} {f2:Int} {α:Type} {d:Kd α} {e:Nat} {base:Nat} {ok:Nat→Prop} {v:Value} {xs:List α} (h:IsS87 w0 W g f0 f1 f2) (ho:d.R e W base ok v xs) (ht:∀ q,q∈e :: d.E→q≠87):d.R e W base (fun k=>ok k∧k≠g) v xs:=by
 obtain ⟨A0,c0,hb,hg,hr0⟩:=h
 exact Kd.R_types ho hb ht
theorem IsS87.own_ne {w0 W:World} {g:Nat} {f0:List Int} {f1:Int} {f2:Int} {α:Type} {d:Kd α} {e:Nat} {base:Nat} {ok:Nat→Prop} {v:Value} {xs:List α} (h:IsS87 w0 W g f0 f1 f2) (ho:d.R e W base ok v xs) (ht:e≠87):some g≠v.ownBlock:=by
 obtain ⟨A0,c0,hb,hg,hr0⟩:=h
 exact Kd.R_ne ho hb ht
theorem IsS87.lt {w0 W:World} {g:Nat} {f0:List Int} {f1:Int} {f2:Int} (h:IsS87 w0 W g f0 f1 f2):g<W.heap.size:=by
 obtain ⟨A0,c0,hb,hg,hr0⟩:=h
 exact blk_lt hb
theorem IsS87.ge {w0 W:World} {g:Nat} {f0:List Int} {f1:Int} {f2:Int} (h:IsS87 w0 W g f0 f1 f2):w0.heap.size≤g:=by
 obtain ⟨A0,c0,hb,hg,hr0⟩:=h
 exact hg
theorem IsS87.ne_blk {w0 W:World} {g:Nat} {f0:List Int} {f1:Int} {f2:Int} {a:Nat} {cs:Array Value} {t:TypeId} {fr:Nat×Nat} (h:IsS87 w0 W g f0 f1 f2) (hb2:W.heap[a]? = some (.cells cs t fr)) (ht:t≠87):g≠a:=by
 obtain ⟨A0,c0,hb,hg,hr0⟩:=h
 rintro rfl
 rw [hb] at hb2
 injection hb2 with hb2
 injection hb2 with _ ht2
 exact ht ht2.symm
theorem IsS87.far {w0 W:World} {g:Nat} {f0:List Int} {f1:Int} {f2:Int} {p:Addr} (h:IsS87 w0 W g f0 f1 f2) (hne:g≠p.block) (u:Value):IsS87 w0 (W.setCell p u) g f0 f1 f2:=by
 obtain ⟨A0,c0,hb,hg,hr0⟩:=h
 exact ⟨A0,c0,blk_far hb hne u,hg,hr0⟩
theorem cellS87_0 {W:World} {g:Nat} {A0:Option Addr} {c0:Nat} {f0:List Int} {f1:Int} {f2:Int} (h:W.heap[g]? = some (.cells #[.slice A0 f0.length c0,.int .i64 f1,.int .i64 f2] 87 (0,0))):W.cell? ⟨g,0,none⟩=some (.slice A0 f0.length c0):=(blk_cell h 0).trans rfl
theorem cellS87_1 {W:World} {g:Nat} {A0:Option Addr} {c0:Nat} {f0:List Int} {f1:Int} {f2:Int} (h:W.heap[g]? = some (.cells #[.slice A0 f0.length c0,.int .i64 f1,.int .i64 f2] 87 (0,0))):W.cell? ⟨g,1,none⟩=some (.int .i64 f1):=(blk_cell h 1).trans rfl
theorem IsS87.set_1 {w0 W:World} {g:Nat} {f0:List Int} {f1:Int} {f2:Int} (h:IsS87 w0 W g f0 f1 f2) (x:Int):IsS87 w0 (W.setCell ⟨g,1,none⟩ (.int .i64 x)) g f0 x f2:=by
 obtain ⟨A0,c0,hb,hg,hr0⟩:=h
 exact ⟨A0,c0,by simpa using blk_set hb 1 (.int .i64 x),hg,hr0⟩
theorem cellS87_2 {W:World} {g:Nat} {A0:Option Addr} {c0:Nat} {f0:List Int} {f1:Int} {f2:Int} (h:W.heap[g]? = some (.cells #[.slice A0 f0.length c0,.int .i64 f1,.int .i64 f2] 87 (0,0))):W.cell? ⟨g,2,none⟩=some (.int .i64 f2):=(blk_cell h 2).trans rfl
theorem IsS87.set_2 {w0 W:World} {g:Nat} {f0:List Int} {f1:Int} {f2:Int} (h:IsS87 w0 W g f0 f1 f2) (x:Int):IsS87 w0 (W.setCell ⟨g,2,none⟩ (.int .i64 x)) g f0 f1 x:=by
 obtain ⟨A0,c0,hb,hg,hr0⟩:=h
 exact ⟨A0,c0,by simpa using blk_set hb 2 (.int .i64 x),hg,hr0⟩
def spec_l01New.l0:Nat→List Int→Int→Int→Option (List Int×Int×Int)
 | 0,_,_,_=>none
 | k+1,x0,x3,x4=>if x4<(x0.length:Int) then (if x4<4000 then (if 0≤x4 then (spec_l01New.l0 k x0 (Go.bits .and .i64 (wrap64 ((wrap64 ((wrap64 (x3*131))+(wrap64 (rd x0 x4))))+7)) 1073741823) (wrap64 (x4+1))) else (none)) else (some (x0,0,x3))) else (some (x0,0,x3))
def spec_l01New.f (k:Nat) (l0:List Int):Option (List Int×Int×Int):=spec_l01New.l0 k l0 (wrap64 (94701+(l0.length:Int))) 0
theorem spec_l01New.mono_l:∀ k,(∀ y0 y1 y2,LeO (spec_l01New.l0 k y0 y1 y2) (spec_l01New.l0 (k+1) y0 y1 y2))
 | 0=>fun _ _ _ r h=>by simp [spec_l01New.l0] at h
 | k+1=>by
  have ih0:=spec_l01New.mono_l k
  ·intro y0 y1 y2
   unfold spec_l01New.l0
   repeat' first | (with_reducible exact ih0 _ _ _) | (with_reducible exact LeO.refl _) | (with_reducible refine LeO.ite ?_ ?_)
theorem spec_l01New.mono:∀ a0 k,LeO (spec_l01New.f k a0) (spec_l01New.f (k+1) a0):=by
 intro a0 k
 have ih0:=spec_l01New.mono_l k
 unfold spec_l01New.f
 repeat' (with_reducible exact ih0 _ _ _)
theorem spec_l01New.calls (k:Nat) (A0:Option Addr) (c0:Nat) (l0:List Int) (r1:List Int) (r2:Int) (r3:Int) (w0 w:World) (hB:Below w0.heap.size w0 w) (hr0:Kd.C (Kd.int .u8) w0 A0 l0.length l0) (hc0:l0.length≤c0) (h:spec_l01New.f k l0=some (r1,r2,r3)) :
  Calls Tryz.prog 32 #[.slice A0 l0.length c0] w fun e w'=>∃ g_:Nat,e=.returned (.pointer (some ⟨g_,0,none⟩))∧IsS87 w0 w' g_ r1 r2 r3∧Below w0.heap.size w0 w'∧Below w.heap.size w w':=by
 have HR0:=zA hr0
 clear hr0 hc0
 have HBW:=zA (Below.refl w.heap.size w)
 have HW0:=zA hB.size
 have HB:=zA hB
 clear hB
 have H:(spec_l01New.l0 k l0 (wrap64 (94701+(l0.length:Int))) 0)=some (r1,r2,r3):=h
 clear h
 have H':=zA H
 clear H
 go_enter Tryz.func32,Tryz.ntmps32
 go_wp2
 go_loopg [3,4] k (fun kq v3 v4 w'=>∃ (ab:Int) (aa:Int),v3=.int .i64 ab∧v4=.int .i64 aa∧Aside0 (spec_l01New.l0 kq l0 ab aa=some (r1,r2,r3))∧Aside0 (kq≤k)∧Aside0 (Below w.heap.size w w')∧Aside0 (Below w0.heap.size w0 w'))
 case atStart=>exact ⟨(wrap64 (94701+(l0.length:Int))),(0),(by rfl),(by rfl),H',⟨Nat.le_refl _⟩,⟨by repeat (with_reducible exact HBW.out)⟩,⟨by repeat (with_reducible exact HB.out)⟩⟩
 case round=>
  clear H'
  obtain ⟨ab,aa,rfl,rfl,HA,HK1,HBW,HB⟩:=hrel
  cases gk with
  | zero=>exact absurd HA.out (by simp [spec_l01New.l0])
  | succ k1=>
   have H:=HA.out
   clear HA
   simp only [spec_l01New.l0] at H
   by_cases c2:aa<(l0.length:Int)
   ·rw [if_pos c2] at H
    have an:decide (aa<(l0.length:Int))=true:=zt c2
    clear c2
    by_cases c3:aa<4000
    ·rw [if_pos c3] at H
     have ao:decide (aa<4000)=true:=zt c3
     clear c3
     by_cases c4:0≤aa
     ·rw [if_pos c4] at H
      have c4b0:decide (0≤aa)=true:=zt c4
      clear c4
      have H':=zA H
      clear H
      have ag:0≤(aa:Int):=ze
      have ah:aa<(l0.length:Int):=ze
      obtain ⟨ad101,aq,ad⟩:=Kd.at_int HR0.out aa ag ah
      cases aq
      replace ad:=pw_cell_below HB.out ad
      replace ag:=eq_true ag
      replace ah:=eq_true ah
      go_wp2
      go_roundg k1
      case measure=>have:=HK1.out;omega
      case rel=>exact ⟨(Go.bits .and .i64 (wrap64 ((wrap64 ((wrap64 (ab*131))+(wrap64 (rd l0 aa))))+7)) 1073741823),(wrap64 (aa+1)),(by rfl),(by rfl),H',⟨by have:=HK1.out;omega⟩,⟨by repeat (with_reducible exact HBW.out)⟩,⟨by repeat (with_reducible exact HB.out)⟩⟩
     ·rw [if_neg c4] at H
      exact absurd H (by simp)
    ·rw [if_neg c3] at H
     have ao:decide (aa<4000)=false:=zf c3
     clear c3
     simp only [Option.some.injEq,Prod.mk.injEq] at H
     obtain ⟨rfl,rfl,rfl⟩:=H
     go_wp2_with (((with_reducible refine gate_dst (N:=31) rfl ?_);refine box_event ?hg (N:=31) ?hd (cs:=#[.slice A0 l0.length c0,.int .i64 0,.int .i64 ab]) (t:=87) ?hr ?_;(case hd=>rfl);(case hg=>rfl);(case hr=>(go_simp;done));intro ae hg w5 hbox hb;have ai:=zA (hbox);have aj:=zA ((Nat.le_trans HW0.out (by rw [hg];exact (below_size HBW.out):w.heap.size≤ae):w0.heap.size≤ae));replace HBW:=zs HBW hb;replace HB:=zs HB hb;clear hb hbox hg))
     all_goals (go_ret)
     exact ⟨_,rfl,(show IsS87 w0 _ ae l0 0 ab from ⟨_,_,by exact ai.out,aj.out,HR0.out⟩),by repeat (with_reducible exact HB.out),by repeat (with_reducible exact HBW.out)⟩
   ·rw [if_neg c2] at H
    have an:decide (aa<(l0.length:Int))=false:=zf c2
    clear c2
    simp only [Option.some.injEq,Prod.mk.injEq] at H
    obtain ⟨rfl,rfl,rfl⟩:=H
    go_wp2_with (((with_reducible refine gate_dst (N:=31) rfl ?_);refine box_event ?hg (N:=31) ?hd (cs:=#[.slice A0 l0.length c0,.int .i64 0,.int .i64 ab]) (t:=87) ?hr ?_;(case hd=>rfl);(case hg=>rfl);(case hr=>(go_simp;done));intro af hg w6 hbox hb;have ak:=zA (hbox);have al:=zA ((Nat.le_trans HW0.out (by rw [hg];exact (below_size HBW.out):w.heap.size≤af):w0.heap.size≤af));replace HBW:=zs HBW hb;replace HB:=zs HB hb;clear hb hbox hg))
    all_goals (go_ret)
    exact ⟨_,rfl,(show IsS87 w0 _ af l0 0 ab from ⟨_,_,by exact ak.out,al.out,HR0.out⟩),by repeat (with_reducible exact HB.out),by repeat (with_reducible exact HBW.out)⟩
def spec_l01Byte.f (ad:List Int) (ab:Int) (aa:Int):Option (Int×Int×Int):=if ab<(ad.length:Int) then (if 0≤ab then (some (Go.bits .and .i64 (wrap64 ((Go.bits .and .i64 (Go.bits .xor .i64 ((wrap64 ((wrap64 (aa*6364136223846793005))+1442695040888963407)) / 8589934592) ((wrap64 ((wrap64 (aa*6364136223846793005))+1442695040888963407)) / 35184372088832)) 255)+(wrap64 (rd ad ab)))) 255,wrap64 (ab+1),wrap64 ((wrap64 (aa*6364136223846793005))+1442695040888963407))) else (none)) else (some (Go.bits .and .i64 (Go.bits .xor .i64 ((wrap64 ((wrap64 (aa*6364136223846793005))+1442695040888963407)) / 8589934592) ((wrap64 ((wrap64 (aa*6364136223846793005))+1442695040888963407)) / 35184372088832)) 255,ab,wrap64 ((wrap64 (aa*6364136223846793005))+1442695040888963407)))
theorem spec_l01Byte.calls (g:Nat) (ae:List Int) (ab:Int) (ad:Int) (r1:Int) (r2:Int) (r3:Int) (w0 w:World) (hI:IsS87 w0 w g ae ab ad) (hB:Below w0.heap.size w0 w) (h:spec_l01Byte.f ae ab ad=some (r1,r2,r3)) :
  Calls Tryz.prog 81 #[.pointer (some ⟨g,0,none⟩)] w fun e w'=>e=.returned (.int .i64 r1)∧IsS87 w0 w' g ae r2 r3∧Below w0.heap.size w0 w'∧KeepBut w w' g none:=by
 have HI0:=zA hI
 have HK:=zA (KeepBut.refl w g none)
 clear hI
 have HB:=zA hB
 clear hB
 have H:(if ab<(ae.length:Int) then (if 0≤ab then (some (Go.bits .and .i64 (wrap64 ((Go.bits .and .i64 (Go.bits .xor .i64 ((wrap64 ((wrap64 (ad*6364136223846793005))+1442695040888963407)) / 8589934592) ((wrap64 ((wrap64 (ad*6364136223846793005))+1442695040888963407)) / 35184372088832)) 255)+(wrap64 (rd ae ab)))) 255,wrap64 (ab+1),wrap64 ((wrap64 (ad*6364136223846793005))+1442695040888963407))) else (none)) else (some (Go.bits .and .i64 (Go.bits .xor .i64 ((wrap64 ((wrap64 (ad*6364136223846793005))+1442695040888963407)) / 8589934592) ((wrap64 ((wrap64 (ad*6364136223846793005))+1442695040888963407)) / 35184372088832)) 255,ab,wrap64 ((wrap64 (ad*6364136223846793005))+1442695040888963407))))=some (r1,r2,r3):=h
 clear h
 by_cases c2:ab<(ae.length:Int)
 ·rw [if_pos c2] at H
  have an:decide (ab<(ae.length:Int))=true:=zt c2
  clear c2
  by_cases c3:0≤ab
  ·rw [if_pos c3] at H
   have c3b0:decide (0≤ab)=true:=zt c3
   clear c3
   simp only [Option.some.injEq,Prod.mk.injEq] at H
   obtain ⟨rfl,rfl,rfl⟩:=H
   obtain ⟨ASz4_0,cSz4_0,ag,ao,ai⟩:=HI0.out
   have hcz4_0:=cellS87_0 ag
   have hcz4_1:=cellS87_1 ag
   have hcz4_2:=cellS87_2 ag
   have hfz4_1:=blk_frozen ag 1
   have hfz4_2:=blk_frozen ag 2
   clear ag ao
   have aj:0≤(ab:Int):=ze
   have ak:ab<(ae.length:Int):=ze
   obtain ⟨al,aq,aa⟩:=Kd.at_int ai ab aj ak
   cases aq
   have af:al.block≠g:=Nat.ne_of_lt (Nat.lt_of_lt_of_le (by have:=World.block_lt_of_cell? _ _ aa;rwa [add_block] at this) (IsS87.ge HI0.out))
   replace aa:=pw_cell_below HB.out aa
   replace aa:=(cell_far (p:=⟨g,2,none⟩) (by (rw [add_block];exact af)) (.int .i64 (wrap64 ((wrap64 (ad*6364136223846793005))+1442695040888963407)))).trans aa
   (try have hy104_0:=fun (n_:Nat)=>(show (((w.drewN n_).setCell ⟨g,2,none⟩ (.int .i64 (wrap64 ((wrap64 (ad*6364136223846793005))+1442695040888963407))))).cell? _=some _ from aa))
   clear af
   replace aj:=eq_true aj
   replace ak:=eq_true ak
   go_enter Tryz.func81,Tryz.ntmps81
   go_wp2
   repeat (go_quiet (fail);try go_wp2)
   all_goals (go_ret)
   all_goals exact ⟨by rfl,by repeat (with_reducible first | exact HI0.out | apply IsS87.drewN | apply IsS87.set_1 | apply IsS87.set_2),by repeat ((with_reducible first | exact HB.out | apply pw_below_drewN | refine below_set ?_ (IsS87.ge HI0.out))),by repeat (with_reducible first | exact HK.out | apply KeepBut.set_ | apply keep_drewN)⟩
  ·rw [if_neg c3] at H
   exact absurd H (by simp)
 ·rw [if_neg c2] at H
  have an:decide (ab<(ae.length:Int))=false:=zf c2
  clear c2
  simp only [Option.some.injEq,Prod.mk.injEq] at H
  obtain ⟨rfl,rfl,rfl⟩:=H
  obtain ⟨ASz5_0,cSz5_0,ah,ar,HSz5_0⟩:=HI0.out
  have hcz5_0:=cellS87_0 ah
  have hcz5_1:=cellS87_1 ah
  have hcz5_2:=cellS87_2 ah
  have hfz5_2:=blk_frozen ah 2
  clear ah ar
  go_enter Tryz.func81,Tryz.ntmps81
  go_wp2
  repeat (go_quiet (fail);try go_wp2)
  all_goals (go_ret)
  all_goals exact ⟨by rfl,by repeat (with_reducible first | exact HI0.out | apply IsS87.drewN | apply IsS87.set_2),by repeat ((with_reducible first | exact HB.out | apply pw_below_drewN | refine below_set ?_ (IsS87.ge HI0.out))),by repeat (with_reducible first | exact HK.out | apply KeepBut.set_ | apply keep_drewN)⟩
def spec_l01Below.f (aa:List Int) (ah:Int) (ai:Int) (a1:Int):Option (Int×Int×Int):=if a1≤0 then (some (0,ah,ai)) else (if a1≤256 then ((spec_l01Byte.f aa ah ai).bind fun ab=>(if a1=0 then (none) else (some (Int.tmod ab.1 a1,ab.2.1,ab.2.2)))) else ((spec_l01Byte.f aa ah ai).bind fun ad=>((spec_l01Byte.f aa ad.2.1 ad.2.2).bind fun ae=>((spec_l01Byte.f aa ae.2.1 ae.2.2).bind fun af=>((spec_l01Byte.f aa af.2.1 af.2.2).bind fun ag=>(if a1=0 then (none) else (some (Int.tmod (wrap64 ((wrap64 ((wrap64 ((wrap64 (ad.1*16777216))+(wrap64 (ae.1*65536))))+(wrap64 (af.1*256))))+ag.1)) a1,ag.2.1,ag.2.2))))))))
theorem spec_l01Below.calls (g:Nat) (ab:List Int) (af:Int) (ag:Int) (a1:Int) (r1:Int) (r2:Int) (r3:Int) (w0 w:World) (hI:IsS87 w0 w g ab af ag) (hB:Below w0.heap.size w0 w) (h:spec_l01Below.f ab af ag a1=some (r1,r2,r3)) :
  Calls Tryz.prog 37 #[.pointer (some ⟨g,0,none⟩),.int .i64 a1] w fun e w'=>e=.returned (.int .i64 r1)∧IsS87 w0 w' g ab r2 r3∧Below w0.heap.size w0 w'∧KeepBut w w' g none:=by
 have HI0:=zA hI
 have HK:=zA (KeepBut.refl w g none)
 clear hI
 have HB:=zA hB
 clear hB
 have H:(if a1≤0 then (some (0,af,ag)) else (if a1≤256 then ((spec_l01Byte.f ab af ag).bind fun ah=>(if a1=0 then (none) else (some (Int.tmod ah.1 a1,ah.2.1,ah.2.2)))) else ((spec_l01Byte.f ab af ag).bind fun ai=>((spec_l01Byte.f ab ai.2.1 ai.2.2).bind fun ae=>((spec_l01Byte.f ab ae.2.1 ae.2.2).bind fun ad=>((spec_l01Byte.f ab ad.2.1 ad.2.2).bind fun aa=>(if a1=0 then (none) else (some (Int.tmod (wrap64 ((wrap64 ((wrap64 ((wrap64 (ai.1*16777216))+(wrap64 (ae.1*65536))))+(wrap64 (ad.1*256))))+aa.1)) a1,aa.2.1,aa.2.2)))))))))=some (r1,r2,r3):=h
 clear h
 by_cases c3:a1≤0
 ·rw [if_pos c3] at H
  have aj:decide (a1≤0)=true:=zt c3
  clear c3
  simp only [Option.some.injEq,Prod.mk.injEq] at H
  obtain ⟨rfl,rfl,rfl⟩:=H
  go_enter Tryz.func37,Tryz.ntmps37
  go_wp2
  all_goals (go_ret)
  all_goals exact ⟨by rfl,by repeat (with_reducible exact HI0.out),by repeat (with_reducible exact HB.out),by repeat (with_reducible exact HK.out)⟩
 ·rw [if_neg c3] at H
  have aj:decide (a1≤0)=false:=zf c3
  clear c3
  by_cases c4:a1≤256
  ·rw [if_pos c4] at H
   have ak:decide (a1≤256)=true:=zt c4
   clear c4
   obtain ⟨⟨t105,t106,t107⟩,A5,H⟩:=bA H
   replace H:(if a1=0 then (none) else (some (Int.tmod t105 a1,t106,t107)))=some (r1,r2,r3):=H
   by_cases c6:a1=0
   ·rw [if_pos c6] at H
    exact absurd H (by simp)
   ·rw [if_neg c6] at H
    simp only [Option.some.injEq,Prod.mk.injEq] at H
    obtain ⟨rfl,rfl,rfl⟩:=H
    go_enter Tryz.func37,Tryz.ntmps37
    go_wp2_with (((with_reducible refine gate_callee (f:=81) rfl ?_);refine goesL_ (some 14) rfl rfl Tryz.func81 (by kernel_rfl) rfl #[.pointer (some ⟨g,0,none⟩)] rfl (by (try simp only [List.map_toArray,List.map_cons,List.map_nil]);rfl) ?_;(with_reducible refine (spec_l01Byte.calls g ab af ag t105 t106 t107 w0 _ ?side1 ?side2 A5.out).mono ?_);(case side1=>repeat (with_reducible exact HI0.out));(case side2=>repeat (with_reducible exact HB.out));rintro e w7 ⟨rfl,hi,hb,hk⟩;refine ⟨_,rfl,?_⟩;replace HK:=zA (KeepBut.trans HK.out hk (.inl rfl));replace HB:=zA (hb);replace HI0:=zA (hi);(try clear hb);(try clear hk);(try clear hi)))
    all_goals (go_ret)
    all_goals exact ⟨by rfl,by repeat (with_reducible exact HI0.out),by repeat (with_reducible exact HB.out),by repeat (with_reducible exact HK.out)⟩
  ·rw [if_neg c4] at H
   have ak:decide (a1≤256)=false:=zf c4
   clear c4
   obtain ⟨⟨t108,t109,t110⟩,A8,H⟩:=bA H
   replace H:((spec_l01Byte.f ab t109 t110).bind fun ae=>((spec_l01Byte.f ab ae.2.1 ae.2.2).bind fun ad=>((spec_l01Byte.f ab ad.2.1 ad.2.2).bind fun aa=>(if a1=0 then (none) else (some (Int.tmod (wrap64 ((wrap64 ((wrap64 ((wrap64 (t108*16777216))+(wrap64 (ae.1*65536))))+(wrap64 (ad.1*256))))+aa.1)) a1,aa.2.1,aa.2.2))))))=some (r1,r2,r3):=H
   obtain ⟨⟨t111,t112,t113⟩,A9,H⟩:=bA H
   replace H:((spec_l01Byte.f ab t112 t113).bind fun ad=>((spec_l01Byte.f ab ad.2.1 ad.2.2).bind fun aa=>(if a1=0 then (none) else (some (Int.tmod (wrap64 ((wrap64 ((wrap64 ((wrap64 (t108*16777216))+(wrap64 (t111*65536))))+(wrap64 (ad.1*256))))+aa.1)) a1,aa.2.1,aa.2.2)))))=some (r1,r2,r3):=H
   obtain ⟨⟨t114,t115,t116⟩,A10,H⟩:=bA H
   replace H:((spec_l01Byte.f ab t115 t116).bind fun aa=>(if a1=0 then (none) else (some (Int.tmod (wrap64 ((wrap64 ((wrap64 ((wrap64 (t108*16777216))+(wrap64 (t111*65536))))+(wrap64 (t114*256))))+aa.1)) a1,aa.2.1,aa.2.2))))=some (r1,r2,r3):=H
   obtain ⟨⟨t117,t118,t119⟩,A11,H⟩:=bA H
   replace H:(if a1=0 then (none) else (some (Int.tmod (wrap64 ((wrap64 ((wrap64 ((wrap64 (t108*16777216))+(wrap64 (t111*65536))))+(wrap64 (t114*256))))+t117)) a1,t118,t119)))=some (r1,r2,r3):=H
   by_cases c12:a1=0
   ·rw [if_pos c12] at H
    exact absurd H (by simp)
   ·rw [if_neg c12] at H
    simp only [Option.some.injEq,Prod.mk.injEq] at H
    obtain ⟨rfl,rfl,rfl⟩:=H
    go_enter Tryz.func37,Tryz.ntmps37
    go_wp2_with (first | ((with_reducible refine gate_callee (f:=81) rfl ?_);refine goesL_ (some 18) rfl rfl Tryz.func81 (by kernel_rfl) rfl #[.pointer (some ⟨g,0,none⟩)] rfl (by (try simp only [List.map_toArray,List.map_cons,List.map_nil]);rfl) ?_;(with_reducible refine (spec_l01Byte.calls g ab af ag t108 t109 t110 w0 _ ?side1 ?side2 A8.out).mono ?_);(case side1=>repeat (with_reducible exact HI0.out));(case side2=>repeat (with_reducible exact HB.out));rintro e w13 ⟨rfl,hi,hb,hk⟩;refine ⟨_,rfl,?_⟩;replace HK:=zA (KeepBut.trans HK.out hk (.inl rfl));replace HB:=zA (hb);replace HI0:=zA (hi);(try clear hb);(try clear hk);(try clear hi)) | ((with_reducible refine gate_callee (f:=81) rfl ?_);refine goesL_ (some 20) rfl rfl Tryz.func81 (by kernel_rfl) rfl #[.pointer (some ⟨g,0,none⟩)] rfl (by (try simp only [List.map_toArray,List.map_cons,List.map_nil]);rfl) ?_;(with_reducible refine (spec_l01Byte.calls g ab t109 t110 t111 t112 t113 w0 _ ?side1 ?side2 A9.out).mono ?_);(case side1=>repeat (with_reducible exact HI0.out));(case side2=>repeat (with_reducible exact HB.out));rintro e w14 ⟨rfl,hi,hb,hk⟩;refine ⟨_,rfl,?_⟩;replace HK:=zA (KeepBut.trans HK.out hk (.inl rfl));replace HB:=zA (hb);replace HI0:=zA (hi);(try clear hb);(try clear hk);(try clear hi)) | ((with_reducible refine gate_callee (f:=81) rfl ?_);refine goesL_ (some 22) rfl rfl Tryz.func81 (by kernel_rfl) rfl #[.pointer (some ⟨g,0,none⟩)] rfl (by (try simp only [List.map_toArray,List.map_cons,List.map_nil]);rfl) ?_;(with_reducible refine (spec_l01Byte.calls g ab t112 t113 t114 t115 t116 w0 _ ?side1 ?side2 A10.out).mono ?_);(case side1=>repeat (with_reducible exact HI0.out));(case side2=>repeat (with_reducible exact HB.out));rintro e w15 ⟨rfl,hi,hb,hk⟩;refine ⟨_,rfl,?_⟩;replace HK:=zA (KeepBut.trans HK.out hk (.inl rfl));replace HB:=zA (hb);replace HI0:=zA (hi);(try clear hb);(try clear hk);(try clear hi)) | ((with_reducible refine gate_callee (f:=81) rfl ?_);refine goesL_ (some 24) rfl rfl Tryz.func81 (by kernel_rfl) rfl #[.pointer (some ⟨g,0,none⟩)] rfl (by (try simp only [List.map_toArray,List.map_cons,List.map_nil]);rfl) ?_;(with_reducible refine (spec_l01Byte.calls g ab t115 t116 t117 t118 t119 w0 _ ?side1 ?side2 A11.out).mono ?_);(case side1=>repeat (with_reducible exact HI0.out));(case side2=>repeat (with_reducible exact HB.out));rintro e w16 ⟨rfl,hi,hb,hk⟩;refine ⟨_,rfl,?_⟩;replace HK:=zA (KeepBut.trans HK.out hk (.inl rfl));replace HB:=zA (hb);replace HI0:=zA (hi);(try clear hb);(try clear hk);(try clear hi)))
    all_goals (go_ret)
    all_goals exact ⟨by rfl,by repeat (with_reducible exact HI0.out),by repeat (with_reducible exact HB.out),by repeat (with_reducible exact HK.out)⟩
def spec_l01PickInt.f (ab:List Int) (ad:Int) (ae:Int) (l1:List Int):Option (Int×Int×Int):=(spec_l01Below.f ab ad ae (l1.length:Int)).bind fun aa=>(if 0≤aa.1 then (if aa.1<(l1.length:Int) then (some (rd l1 aa.1,aa.2.1,aa.2.2)) else (none)) else (none))
theorem spec_l01PickInt.calls (g:Nat) (ae:List Int) (af:Int) (ag:Int) (A1:Option Addr) (c1:Nat) (l1:List Int) (r1:Int) (r2:Int) (r3:Int) (w0 w:World) (hI:IsS87 w0 w g ae af ag) (hB:Below w0.heap.size w0 w) (hr1:Kd.C (Kd.int .i64) w A1 l1.length l1) (hc1:l1.length≤c1) (hf1:∀ ad,A1=some ad→0<l1.length→ad.block≠g) (h:spec_l01PickInt.f ae af ag l1=some (r1,r2,r3)) :
  Calls Tryz.prog 60 #[.pointer (some ⟨g,0,none⟩),.slice A1 l1.length c1] w fun e w'=>e=.returned (.int .i64 r1)∧IsS87 w0 w' g ae r2 r3∧Below w0.heap.size w0 w'∧KeepBut w w' g none:=by
 have HR1:=zA hr1
 clear hr1 hc1
 have HI0:=zA hI
 have HK:=zA (KeepBut.refl w g none)
 clear hI
 have HB:=zA hB
 clear hB
 have H:((spec_l01Below.f ae af ag (l1.length:Int)).bind fun aa=>(if 0≤aa.1 then (if aa.1<(l1.length:Int) then (some (rd l1 aa.1,aa.2.1,aa.2.2)) else (none)) else (none)))=some (r1,r2,r3):=h
 clear h
 obtain ⟨⟨t120,t121,t122⟩,A3,H⟩:=bA H
 replace H:(if 0≤t120 then (if t120<(l1.length:Int) then (some (rd l1 t120,t121,t122)) else (none)) else (none))=some (r1,r2,r3):=H
 by_cases c4:0≤t120
 ·rw [if_pos c4] at H
  have c4b0:decide (0≤t120)=true:=zt c4
  clear c4
  by_cases c5:t120<(l1.length:Int)
  ·rw [if_pos c5] at H
   have c5b0:decide (t120<(l1.length:Int))=true:=zt c5
   clear c5
   simp only [Option.some.injEq,Prod.mk.injEq] at H
   obtain ⟨rfl,rfl,rfl⟩:=H
   go_enter Tryz.func60,Tryz.ntmps60
   go_wp2_with (((with_reducible refine gate_callee (f:=37) rfl ?_);refine goesL_ (some 9) rfl rfl Tryz.func37 (by kernel_rfl) rfl #[.pointer (some ⟨g,0,none⟩),.int .i64 (l1.length:Int)] rfl (by (try simp only [List.map_toArray,List.map_cons,List.map_nil]);rfl) ?_;(with_reducible refine (spec_l01Below.calls g ae af ag (l1.length:Int) t120 t121 t122 w0 _ ?side1 ?side2 A3.out).mono ?_);(case side1=>repeat (with_reducible exact HI0.out));(case side2=>repeat (with_reducible exact HB.out));rintro e w6 ⟨rfl,hi,hb,hk⟩;refine ⟨_,rfl,?_⟩;replace HK:=zA (KeepBut.trans HK.out hk (.inl rfl));replace HB:=zA (hb);replace HI0:=zA (hi);(try clear hb);(try clear hk);(try clear hi);have ah:0≤(t120:Int):=ze;have ai:t120<(l1.length:Int):=ze;obtain ⟨ad123,aj,ab⟩:=Kd.at_int HR1.out t120 ah ai;cases aj;replace ab:=keep_cell HK.out ab (by (rw [add_block];exact hf1 _ rfl (by omega)));replace ah:=eq_true ah;replace ai:=eq_true ai))
   all_goals (go_ret)
   all_goals exact ⟨by rfl,by repeat (with_reducible exact HI0.out),by repeat (with_reducible exact HB.out),by repeat (with_reducible exact HK.out)⟩
  ·rw [if_neg c5] at H
   exact absurd H (by simp)
 ·rw [if_neg c4] at H
  exact absurd H (by simp)
def spec_UsedOn.l0:Nat→Int→Int→List (S45)→List (S47)→List (S47)→List ByteArray→Int→Int→Option (Int)
 | 0,_,_,_,_,_,_,_,_=>none
 | k+1,x3,x4,aa,ab,ad,ae,af,ag=>if x4<(aa.length:Int) then (if 0≤x4 then (spec_UsedOn.l0 k (wrap64 (x3+(((rd_T45 aa x4).f1).size:Int))) (wrap64 (x4+1)) aa ab ad ae af ag) else (none)) else (some x3)
def spec_UsedOn.f (k:Nat) (aa:List (S45)) (ab:List (S47)) (ad:List (S47)) (ae:List ByteArray) (af:Int) (ag:Int):Option (Int):=spec_UsedOn.l0 k 0 0 aa ab ad ae af ag
theorem spec_UsedOn.mono_l:∀ k,(∀ y0 y1 y2 y3 y4 y5 y6 y7,LeO (spec_UsedOn.l0 k y0 y1 y2 y3 y4 y5 y6 y7) (spec_UsedOn.l0 (k+1) y0 y1 y2 y3 y4 y5 y6 y7))
 | 0=>fun _ _ _ _ _ _ _ _ r h=>by simp [spec_UsedOn.l0] at h
 | k+1=>by
  have ih0:=spec_UsedOn.mono_l k
  ·intro y0 y1 y2 y3 y4 y5 y6 y7
   unfold spec_UsedOn.l0
   repeat' first | (with_reducible exact ih0 _ _ _ _ _ _ _ _) | (with_reducible exact LeO.refl _) | (with_reducible refine LeO.ite ?_ ?_)
theorem spec_UsedOn.mono:∀ a0 a1 a2 a3 a4 a5 k,LeO (spec_UsedOn.f k a0 a1 a2 a3 a4 a5) (spec_UsedOn.f (k+1) a0 a1 a2 a3 a4 a5):=by
 intro a0 a1 a2 a3 a4 a5 k
 have ih0:=spec_UsedOn.mono_l k
 unfold spec_UsedOn.f
 repeat' (with_reducible exact ih0 _ _ _ _ _ _ _ _)
theorem spec_UsedOn.calls (k:Nat) (an:Option Addr) (ao:Nat) (aa:List (S45)) (aq:Option Addr) (ar:Nat) (ae:List (S47)) (au:Option Addr) (av:Nat) (af:List (S47)) (aw:Option Addr) (ax:Nat) (ag:List ByteArray) (ak:Int) (al:Int) (r:Int) (w:World) (az:Kd.C k45 w an aa.length aa) (aC:aa.length≤ao) (aD:Kd.C k47 w aq ae.length ae) (aE:ae.length≤ar) (aF:Kd.C k47 w au af.length af) (aG:af.length≤av) (aH:Kd.C Kd.string w aw ag.length ag) (aI:ag.length≤ax) (h:spec_UsedOn.f k aa ae af ag ak al=some r) :
  Calls Tryz.prog 16 #[.agg #[.slice an aa.length ao,.slice aq ae.length ar,.slice au af.length av,.slice aw ag.length ax,.int .i64 ak,.int .i64 al]] w fun e w'=>e=.returned (.int .i64 r)∧Below w.heap.size w w':=by
 have aJ:=zA az
 clear az aC
 clear aD aE
 clear aF aG
 clear aH aI
 have HB:=zA (Below.refl w.heap.size w)
 have H:(spec_UsedOn.l0 k 0 0 aa ae af ag ak al)=some r:=h
 clear h
 have H':=zA H
 clear H
 go_enter Tryz.func16,Tryz.ntmps16
 go_wp2_with (((with_reducible refine gate_dst (N:=1) rfl ?_);refine box_event ?hg (N:=1) ?hd (cs:=#[.slice an aa.length ao,.slice aq ae.length ar,.slice au af.length av,.slice aw ag.length ax,.int .i64 ak,.int .i64 al]) (t:=28) ?hr ?_;(case hd=>rfl);(case hg=>rfl);(case hr=>(go_simp;done));intro aK hg w2 hbox hb;have ad:=zA (hbox);replace HB:=zs HB hb;clear hb hbox hg))
 go_loopg [3,4] k (fun kq v3 v4 w'=>∃ (ay:Int) (ab:Int),v3=.int .i64 ay∧v4=.int .i64 ab∧Aside0 (spec_UsedOn.l0 kq ay ab aa ae af ag ak al=some r)∧Aside0 (kq≤k)∧Aside0 (w'.heap[aK]? = some (.cells #[(.slice an aa.length ao),(.slice aq ae.length ar),(.slice au af.length av),(.slice aw ag.length ax),.int .i64 ak,.int .i64 al] 28 (0,0)))∧Aside0 (Below w.heap.size w w'))
 case atStart=>exact ⟨(0),(0),(by rfl),(by rfl),H',⟨Nat.le_refl _⟩,⟨by exact ad.out⟩,⟨by repeat (with_reducible exact HB.out)⟩⟩
 case round=>
  clear H'
  try clear c1
  try clear p2
  obtain ⟨ay,ab,rfl,rfl,HA,HK1,ad,HB⟩:=hrel
  cases gk with
  | zero=>exact absurd HA.out (by simp [spec_UsedOn.l0])
  | succ k1=>
   have H:=HA.out
   clear HA
   simp only [spec_UsedOn.l0] at H
   by_cases c3:ab<(aa.length:Int)
   ·rw [if_pos c3] at H
    have aL:decide (ab<(aa.length:Int))=true:=zt c3
    clear c3
    by_cases c4:0≤ab
    ·rw [if_pos c4] at H
     have c4b0:decide (0≤ab)=true:=zt c4
     clear c4
     have H':=zA H
     clear H
     obtain ⟨hcz5_0,hcz5_1,hcz5_2,hcz5_3,hcz5_4,hcz5_5⟩:=b6of ad.out
     obtain ⟨hfz5_0,hfz5_1,hfz5_2,hfz5_3,hfz5_4,hfz5_5⟩:=z6of ad.out
     have aA:0≤(ab:Int):=ze
     have aB:ab<(aa.length:Int):=ze
     obtain ⟨ad125,aM,ah,ai,aj⟩:=at_T45 aJ.out ab aA aB
     cases aM
     replace ah:=(HB.out.cell (World.block_lt_of_cell? w _ ah)).trans ah
     replace ai:=(HB.out.cell (World.block_lt_of_cell? w _ ai)).trans ai
     replace aj:=(HB.out.cell (World.block_lt_of_cell? w _ aj)).trans aj
     replace aA:=eq_true aA
     replace aB:=eq_true aB
     go_wp2
     go_roundg k1
     case measure=>have:=HK1.out;omega
     case rel=>exact ⟨(wrap64 (ay+(((rd_T45 aa ab).f1).size:Int))),(wrap64 (ab+1)),(by rfl),(by rfl),H',⟨by have:=HK1.out;omega⟩,⟨by exact ad.out⟩,⟨by repeat (with_reducible exact HB.out)⟩⟩
    ·rw [if_neg c4] at H
     exact absurd H (by simp)
   ·rw [if_neg c3] at H
    have aL:decide (ab<(aa.length:Int))=false:=zf c3
    clear c3
    obtain rfl:=Option.some.inj H
    obtain ⟨hcz6_0,hcz6_1,hcz6_2,hcz6_3,hcz6_4,hcz6_5⟩:=b6of ad.out
    obtain ⟨hfz6_0,hfz6_1,hfz6_2,hfz6_3,hfz6_4,hfz6_5⟩:=z6of ad.out
    go_wp2
    all_goals (go_ret)
    all_goals exact ⟨by rfl,by repeat (with_reducible exact HB.out)⟩
def spec_l01In.f (a0:Int) (a1:Int) (a2:Int):Option (Bool):=if a0≥a1 then (some (decide (a0≤a2))) else (some false)
theorem spec_l01In.calls (a0:Int) (a1:Int) (a2:Int) (r:Bool) (w:World) (h:spec_l01In.f a0 a1 a2=some r) :
  Calls Tryz.prog 51 #[.int .i64 a0,.int .i64 a1,.int .i64 a2] w fun e w'=>e=.returned (.bool r)∧Drawn0 w w':=by
 have H:(if a0≥a1 then (some (decide (a0≤a2))) else (some false))=some r:=h
 clear h
 by_cases c4:a0≥a1
 ·rw [if_pos c4] at H
  have aa:decide (a1≤a0)=true:=zt c4
  clear c4
  obtain rfl:=Option.some.inj H
  go_enter Tryz.func51,Tryz.ntmps51
  go_wp2
  all_goals (go_ret)
  exact ⟨by first | rfl | (simp;done) | (simp [*];done),by repeat (exact Drawn0.refl _)⟩
 ·rw [if_neg c4] at H
  have aa:decide (a1≤a0)=false:=zf c4
  clear c4
  obtain rfl:=Option.some.inj H
  go_enter Tryz.func51,Tryz.ntmps51
  go_wp2
  all_goals (go_ret)
  exact ⟨by first | rfl | (simp;done) | (simp [*];done),by repeat (exact Drawn0.refl _)⟩
def spec_l06Has.l0:Nat→List (S47)→ByteArray→Int→Option (Bool)
 | 0,_,_,_=>none
 | k+1,x0,x1,x5=>if x5<(x0.length:Int) then (if 0≤x5 then (if ((rd_T47 x0 x5).f0).toList=x1.toList then (some true) else (spec_l06Has.l0 k x0 x1 (wrap64 (x5+1)))) else (none)) else (some false)
def spec_l06Has.f (k:Nat) (l0:List (S47)) (a1:ByteArray):Option (Bool):=spec_l06Has.l0 k l0 a1 0
theorem spec_l06Has.mono_l:∀ k,(∀ y0 y1 y2,LeO (spec_l06Has.l0 k y0 y1 y2) (spec_l06Has.l0 (k+1) y0 y1 y2))
 | 0=>fun _ _ _ r h=>by simp [spec_l06Has.l0] at h
 | k+1=>by
  have ih0:=spec_l06Has.mono_l k
  ·intro y0 y1 y2
   unfold spec_l06Has.l0
   repeat' first | (with_reducible exact ih0 _ _ _) | (with_reducible exact LeO.refl _) | (with_reducible refine LeO.ite ?_ ?_)
theorem spec_l06Has.mono:∀ a0 a1 k,LeO (spec_l06Has.f k a0 a1) (spec_l06Has.f (k+1) a0 a1):=by
 intro a0 a1 k
 have ih0:=spec_l06Has.mono_l k
 unfold spec_l06Has.f
 repeat' (with_reducible exact ih0 _ _ _)
theorem spec_l06Has.calls (k:Nat) (A0:Option Addr) (c0:Nat) (l0:List (S47)) (a1:ByteArray) (r:Bool) (w:World) (hr0:Kd.C k47 w A0 l0.length l0) (hc0:l0.length≤c0) (h:spec_l06Has.f k l0 a1=some r) :
  Calls Tryz.prog 45 #[.slice A0 l0.length c0,.string a1] w fun e w'=>e=.returned (.bool r)∧Drawn0 w w':=by
 have HR0:=zA hr0
 clear hr0 hc0
 have H:(spec_l06Has.l0 k l0 a1 0)=some r:=h
 clear h
 have H':=zA H
 clear H
 go_enter Tryz.func45,Tryz.ntmps45
 go_wp2
 go_loopg [5] k (fun kq v5 w'=>∃ (aa:Int),v5=.int .i64 aa∧Aside0 (spec_l06Has.l0 kq l0 a1 aa=some r)∧Aside0 (kq≤k)∧Drawn0 w w')
 case atStart=>exact ⟨(0),(by rfl),H',⟨Nat.le_refl _⟩,by repeat (exact Drawn0.refl _)⟩
 case round=>
  clear H'
  try clear p2
  obtain ⟨aa,rfl,HA,HK1,⟨m1,rfl⟩⟩:=hrel
  cases gk with
  | zero=>exact absurd HA.out (by simp [spec_l06Has.l0])
  | succ k1=>
   have H:=HA.out
   clear HA
   simp only [spec_l06Has.l0] at H
   by_cases c3:aa<(l0.length:Int)
   ·rw [if_pos c3] at H
    have ai:decide (aa<(l0.length:Int))=true:=zt c3
    clear c3
    by_cases c4:0≤aa
    ·rw [if_pos c4] at H
     have c4b0:decide (0≤aa)=true:=zt c4
     clear c4
     by_cases c5:((rd_T47 l0 aa).f0).toList=a1.toList
     ·rw [if_pos c5] at H
      have aj:(((rd_T47 l0 aa).f0).toList == a1.toList)=true:=beq_iff_eq.mpr c5
      clear c5
      obtain rfl:=Option.some.inj H
      have ab:0≤(aa:Int):=ze
      have ad:aa<(l0.length:Int):=ze
      obtain ⟨ah,ag,ae,af⟩:=at_T47 HR0.out aa ab ad
      cases ag
      replace ab:=eq_true ab
      replace ad:=eq_true ad
      go_wp2
      all_goals (go_ret)
      exact ⟨by first | rfl | (simp;done) | (simp [*];done),by repeat (first | exact Drawn0.refl _ | apply Drawn0.step)⟩
     ·rw [if_neg c5] at H
      have aj:(((rd_T47 l0 aa).f0).toList == a1.toList)=false:=beq_eq_false_iff_ne.mpr c5
      have H':=zA H
      clear H
      have ab:0≤(aa:Int):=ze
      have ad:aa<(l0.length:Int):=ze
      obtain ⟨ah,ag,ae,af⟩:=at_T47 HR0.out aa ab ad
      cases ag
      replace ab:=eq_true ab
      replace ad:=eq_true ad
      go_wp2
      go_roundg k1
      case measure=>have:=HK1.out;omega
      case rel=>exact ⟨(wrap64 (aa+1)),(by rfl),H',⟨by have:=HK1.out;omega⟩,by repeat (first | exact Drawn0.refl _ | apply Drawn0.step)⟩
    ·rw [if_neg c4] at H
     exact absurd H (by simp)
   ·rw [if_neg c3] at H
    have ai:decide (aa<(l0.length:Int))=false:=zf c3
    clear c3
    obtain rfl:=Option.some.inj H
    go_wp2
    all_goals (go_ret)
    exact ⟨by first | rfl | (simp;done) | (simp [*];done),by repeat (first | exact Drawn0.refl _ | apply Drawn0.step)⟩
def spec_EntryAt.l0:Nat→List (S47)→ByteArray→Int→Option (Int)
 | 0,_,_,_=>none
 | k+1,x0,x1,x5=>if x5<(x0.length:Int) then (if 0≤x5 then (if ((rd_T47 x0 x5).f0).toList=x1.toList then (some ((rd_T47 x0 x5).f1)) else (spec_EntryAt.l0 k x0 x1 (wrap64 (x5+1)))) else (none)) else (some 0)
def spec_EntryAt.f (k:Nat) (l0:List (S47)) (a1:ByteArray):Option (Int):=spec_EntryAt.l0 k l0 a1 0
theorem spec_EntryAt.mono_l:∀ k,(∀ y0 y1 y2,LeO (spec_EntryAt.l0 k y0 y1 y2) (spec_EntryAt.l0 (k+1) y0 y1 y2))
 | 0=>fun _ _ _ r h=>by simp [spec_EntryAt.l0] at h
 | k+1=>by
  have ih0:=spec_EntryAt.mono_l k
  ·intro y0 y1 y2
   unfold spec_EntryAt.l0
   repeat' first | (with_reducible exact ih0 _ _ _) | (with_reducible exact LeO.refl _) | (with_reducible refine LeO.ite ?_ ?_)
theorem spec_EntryAt.mono:∀ a0 a1 k,LeO (spec_EntryAt.f k a0 a1) (spec_EntryAt.f (k+1) a0 a1):=by
 intro a0 a1 k
 have ih0:=spec_EntryAt.mono_l k
 unfold spec_EntryAt.f
 repeat' (with_reducible exact ih0 _ _ _)
theorem spec_EntryAt.calls (k:Nat) (A0:Option Addr) (c0:Nat) (l0:List (S47)) (a1:ByteArray) (r:Int) (w:World) (hr0:Kd.C k47 w A0 l0.length l0) (hc0:l0.length≤c0) (h:spec_EntryAt.f k l0 a1=some r) :
  Calls Tryz.prog 47 #[.slice A0 l0.length c0,.string a1] w fun e w'=>e=.returned (.int .i64 r)∧Drawn0 w w':=by
 have HR0:=zA hr0
 clear hr0 hc0
 have H:(spec_EntryAt.l0 k l0 a1 0)=some r:=h
 clear h
 have H':=zA H
 clear H
 go_enter Tryz.func47,Tryz.ntmps47
 go_wp2
 go_loopg [5] k (fun kq v5 w'=>∃ (aa:Int),v5=.int .i64 aa∧Aside0 (spec_EntryAt.l0 kq l0 a1 aa=some r)∧Aside0 (kq≤k)∧Drawn0 w w')
 case atStart=>exact ⟨(0),(by rfl),H',⟨Nat.le_refl _⟩,by repeat (exact Drawn0.refl _)⟩
 case round=>
  clear H'
  try clear p2
  obtain ⟨aa,rfl,HA,HK1,⟨m1,rfl⟩⟩:=hrel
  cases gk with
  | zero=>exact absurd HA.out (by simp [spec_EntryAt.l0])
  | succ k1=>
   have H:=HA.out
   clear HA
   simp only [spec_EntryAt.l0] at H
   by_cases c3:aa<(l0.length:Int)
   ·rw [if_pos c3] at H
    have al:decide (aa<(l0.length:Int))=true:=zt c3
    clear c3
    by_cases c4:0≤aa
    ·rw [if_pos c4] at H
     have c4b0:decide (0≤aa)=true:=zt c4
     clear c4
     by_cases c5:((rd_T47 l0 aa).f0).toList=a1.toList
     ·rw [if_pos c5] at H
      have an:(((rd_T47 l0 aa).f0).toList == a1.toList)=true:=beq_iff_eq.mpr c5
      clear c5
      obtain rfl:=Option.some.inj H
      have ab:0≤(aa:Int):=ze
      have ad:aa<(l0.length:Int):=ze
      obtain ⟨ag,ah,ae,af⟩:=at_T47 HR0.out aa ab ad
      cases ah
      replace ab:=eq_true ab
      replace ad:=eq_true ad
      have ai:0≤(aa:Int):=ze
      have aj:aa<(l0.length:Int):=ze
      obtain ⟨ak,ao,hx128_0,hx128_1⟩:=at_T47 HR0.out aa ai aj
      obtain rfl:ag=ak:=(by injection ao)
      replace ai:=eq_true ai
      replace aj:=eq_true aj
      go_wp2
      all_goals (go_ret)
      exact ⟨by first | rfl | (simp;done) | (simp [*];done),by repeat (first | exact Drawn0.refl _ | apply Drawn0.step)⟩
     ·rw [if_neg c5] at H
      have an:(((rd_T47 l0 aa).f0).toList == a1.toList)=false:=beq_eq_false_iff_ne.mpr c5
      have H':=zA H
      clear H
      have ab:0≤(aa:Int):=ze
      have ad:aa<(l0.length:Int):=ze
      obtain ⟨ag,ah,ae,af⟩:=at_T47 HR0.out aa ab ad
      cases ah
      replace ab:=eq_true ab
      replace ad:=eq_true ad
      go_wp2
      go_roundg k1
      case measure=>have:=HK1.out;omega
      case rel=>exact ⟨(wrap64 (aa+1)),(by rfl),H',⟨by have:=HK1.out;omega⟩,by repeat (first | exact Drawn0.refl _ | apply Drawn0.step)⟩
    ·rw [if_neg c4] at H
     exact absurd H (by simp)
   ·rw [if_neg c3] at H
    have al:decide (aa<(l0.length:Int))=false:=zf c3
    clear c3
    obtain rfl:=Option.some.inj H
    go_wp2
    all_goals (go_ret)
    exact ⟨by first | rfl | (simp;done) | (simp [*];done),by repeat (first | exact Drawn0.refl _ | apply Drawn0.step)⟩
def spec_Brought.j0:Nat→Int→Int→Int→Bool→Option (Int)
 | 0,_,_,_,_=>none
 | k+1,x0,x1,x2,x14=>if x14=true then (some x1) else (if x0>x2 then (some x2) else (some x0))
def spec_Brought.f (k:Nat) (a0:Int) (a1:Int) (a2:Int):Option (Int):=if a2<a1 then (spec_Brought.j0 k a0 a1 a2 true) else (spec_Brought.j0 k a0 a1 a2 (decide (a0<a1)))
theorem spec_Brought.mono_l:∀ k,(∀ y0 y1 y2 y3,LeO (spec_Brought.j0 k y0 y1 y2 y3) (spec_Brought.j0 (k+1) y0 y1 y2 y3))
 | 0=>fun _ _ _ _ r h=>by simp [spec_Brought.j0] at h
 | k+1=>by
  ·intro y0 y1 y2 y3
   unfold spec_Brought.j0
   repeat' (with_reducible exact LeO.refl _)
theorem spec_Brought.mono:∀ a0 a1 a2 k,LeO (spec_Brought.f k a0 a1 a2) (spec_Brought.f (k+1) a0 a1 a2):=by
 intro a0 a1 a2 k
 have ih0:=spec_Brought.mono_l k
 unfold spec_Brought.f
 repeat' first | (with_reducible exact ih0 _ _ _ _) | (with_reducible refine LeO.ite ?_ ?_)
theorem spec_Brought.calls (k:Nat) (a0:Int) (a1:Int) (a2:Int) (r:Int) (w:World) (h:spec_Brought.f k a0 a1 a2=some r) :
  Calls Tryz.prog 65 #[.int .i64 a0,.int .i64 a1,.int .i64 a2] w fun e w'=>e=.returned (.int .i64 r)∧Drawn0 w w':=by
 have H:(if a2<a1 then (spec_Brought.j0 k a0 a1 a2 true) else (spec_Brought.j0 k a0 a1 a2 (decide (a0<a1))))=some r:=h
 clear h
 have HC4:=zA H
 clear H
 go_enter Tryz.func65,Tryz.ntmps65
 go_upto_region 1 with (fail)
 go_cut [14] (fun v14 wc=>∃ (kq:Nat) (aa:Bool),v14=.bool aa∧Aside0 (spec_Brought.j0 kq a0 a1 a2 aa=some r)∧Aside0 (kq≤k)∧Drawn0 w wc)
 case first=>
  have H:=HC4.out
  clear HC4
  by_cases c5:a2<a1
  ·rw [if_pos c5] at H
   have ab:decide (a2<a1)=true:=zt c5
   clear c5
   (skip)
   have H':=zA H
   clear H
   go_wp2
   go_meet
   case rel=>exact ⟨_,(true),(by rfl),H',⟨by omega⟩,by repeat (exact Drawn0.refl _)⟩
  ·rw [if_neg c5] at H
   have ab:decide (a2<a1)=false:=zf c5
   clear c5
   (skip)
   have H':=zA H
   clear H
   go_wp2
   go_meet
   case rel=>exact ⟨_,(decide (a0<a1)),(by rfl),H',⟨by omega⟩,by repeat (exact Drawn0.refl _)⟩
 case rest=>
  clear HC4
  try clear p2
  try clear c5
  try clear ab
  obtain ⟨kq,aa,rfl,HA,HJ3,⟨mc3,rfl⟩⟩:=hcut
  cases kq with
  | zero=>exact absurd HA.out (by simp [spec_Brought.j0])
  | succ kj3=>
   have H:=HA.out
   clear HA
   simp only [spec_Brought.j0] at H
   by_cases c6:aa=true
   ·subst c6
    have H1:(some a1)=some r:=by rw [if_pos rfl] at H;exact H
    clear H
    have H:=H1
    clear H1
    obtain rfl:=Option.some.inj H
    go_wp2
    all_goals (go_ret)
    exact ⟨by first | rfl | (simp;done) | (simp [*];done),by repeat (first | exact Drawn0.refl _ | apply Drawn0.step)⟩
   ·replace c6:=Bool.eq_false_iff.mpr c6
    subst c6
    have H1:(if a0>a2 then (some a2) else (some a0))=some r:=by rw [if_neg (show ¬ (false=true) by decide)] at H;exact H
    clear H
    have H:=H1
    clear H1
    by_cases c7:a0>a2
    ·rw [if_pos c7] at H
     have ad:decide (a2<a0)=true:=zt c7
     clear c7
     obtain rfl:=Option.some.inj H
     go_wp2
     all_goals (go_ret)
     exact ⟨by first | rfl | (simp;done) | (simp [*];done),by repeat (first | exact Drawn0.refl _ | apply Drawn0.step)⟩
    ·rw [if_neg c7] at H
     have ad:decide (a2<a0)=false:=zf c7
     clear c7
     obtain rfl:=Option.some.inj H
     go_wp2
     all_goals (go_ret)
     exact ⟨by first | rfl | (simp;done) | (simp [*];done),by repeat (first | exact Drawn0.refl _ | apply Drawn0.step)⟩
end Go.Proofs.YtokcccejijmkmaaGreatDoor.MFnDeeds
