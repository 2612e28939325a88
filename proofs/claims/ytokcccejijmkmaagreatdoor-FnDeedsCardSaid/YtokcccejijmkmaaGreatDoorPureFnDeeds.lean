/- The law FnDeeds answers true for every draw: what was laid behind is read, what is full takes what it can, a name that is gone is not there, and the disk stays right. Conditions: those of the given row, and no others. -/
import Derived.Test.YtokcccejijmkmaaGreatDoorMFnDeedsx21
namespace Go.Proofs.YtokcccejijmkmaaGreatDoor.Pure
open Go.RowKit Go.Proofs.YtokcccejijmkmaaGreatDoor.MFnDeeds Go.Proofs.YtokcccejijmkmaaGreatDoorW.PrintWords Go.Proofs.YtokcccejijmkmaaGreatDoorW.PrintLast Go.Proofs.YtokcccejijmkmaaGreatDoorW.PrintMore
set_option linter.unusedVariables false
set_option linter.unusedSimpArgs false
theorem wrap64_id {x:Int} (h0 : -9223372036854775808≤x) (h1:x≤9223372036854775807):wrap64 x=x:=by unfold wrap64;omega
theorem bv_mask (j:Nat) (hj:j<64) (x:Int):(BitVec.ofInt 64 x &&& BitVec.ofInt 64 ((2 ^ j-1:Nat):Int)).toNat=(x % ((2 ^ j:Nat):Int)).toNat:=by
  have hle:2 ^ j≤2 ^ 63:=Nat.pow_le_pow_right (by decide) (by omega)
  have hpos:0<2 ^ j:=Nat.two_pow_pos j
  have hlt:2 ^ j-1<2 ^ 64:=by omega
  have hd:(2:Nat) ^ j ∣ 2 ^ 64:=Nat.pow_dvd_pow 2 (by omega)
  rw [BitVec.ofInt_natCast,BitVec.toNat_and,BitVec.toNat_ofNat,Nat.mod_eq_of_lt hlt,Nat.and_two_pow_sub_one_eq_mod,BitVec.toNat_ofInt]
  have h0:0≤x % ((2 ^ 64:Nat):Int):=Int.emod_nonneg _ (by simp)
  have h1:0≤x % ((2 ^ j:Nat):Int):=Int.emod_nonneg _ (by omega)
  have:(((x % ((2 ^ 64:Nat):Int)).toNat % 2 ^ j:Nat):Int)=x % ((2 ^ j:Nat):Int):=by
    rw [Int.natCast_emod,Int.toNat_of_nonneg h0]
    exact Int.emod_emod_of_dvd x (Int.natCast_dvd_natCast.mpr hd)
  omega
theorem i64_mask (j:Nat) (hj:j<64) (x:Int):Go.bits .and .i64 x (((2 ^ j-1:Nat):Int))=x % ((2 ^ j:Nat):Int):=by
  have hpos:0<2 ^ j:=Nat.two_pow_pos j
  have hle:2 ^ j≤2 ^ 63:=Nat.pow_le_pow_right (by decide) (by omega)
  show IntKind.i64.wrap (((BitVec.ofInt 64 x &&& BitVec.ofInt 64 ((2 ^ j-1:Nat):Int)).toNat:Nat):Int)=_
  rw [bv_mask j hj x]
  have h1:0≤x % ((2 ^ j:Nat):Int):=Int.emod_nonneg _ (by omega)
  have h2:x % ((2 ^ j:Nat):Int)<((2 ^ j:Nat):Int):=Int.emod_lt_of_pos _ (by omega)
  rw [Int.toNat_of_nonneg h1,IntKind.wrap_i64]
  have h3:((2 ^ j:Nat):Int)≤((2 ^ 63:Nat):Int):=Int.ofNat_le.mpr hle
  have h5:((2 ^ 63:Nat):Int)=9223372036854775808:=by decide
  omega
theorem i64_mask8 (x:Int):Go.bits .and .i64 x 255=x % 256:=i64_mask 8 (by decide) x
theorem bt_list (s:ByteArray) (i:Nat) (h:i<s.data.toList.length):bt s (i:Int)=((s.data.toList[i]).toNat:Int):=by
  have h':i<s.size:=by rw [Array.length_toList] at h;exact h
  have hn:(i:Int).toNat<s.size:=by rw [Int.toNat_natCast];exact h'
  rw [← bt_at s i hn]
  rfl
theorem size_list (s:ByteArray):s.data.toList.length=s.size:=by rw [Array.length_toList];rfl
theorem drop_cons (s:ByteArray) (i:Nat) (h:i<s.size):s.data.toList.drop i=s.data.toList[i]'(by rw [size_list];exact h) :: s.data.toList.drop (i+1):=
  List.drop_eq_getElem_cons (by rw [size_list];exact h)
section
variable {α:Type} {f g:Nat→Option α} {r:α} {c:Prop} [Decidable c]
theorem Ev.pos (h:c) (e:Ev f r):Ev (fun k=>if c then f k else g k) r:=Ev.congr (fun _=>if_pos h) e
theorem Ev.neg (h:¬ c) (e:Ev g r):Ev (fun k=>if c then f k else g k) r:=Ev.congr (fun _=>if_neg h) e
theorem Ev.const {o:Option α} (h:o=some r):Ev (fun _=>o) r:=⟨0,fun _ _=>h⟩
theorem Ev.at (K:Nat) (h:∀ k,K≤k→f k=some r):Ev f r:=⟨K,h⟩
theorem Ev.of_eq {r':α} (e:Ev f r) (h:r=r'):Ev f r':=h▸e
end
theorem big_f (l:List Int):laws_big.f l=some (decide ((l.length:Int)>1048576)):=rfl
theorem bl_irr:∀ a:List UInt8,Op.bytesLess a a=false
  | []=>rfl
  | a :: x=>by rw [Op.bytesLess,bl_irr x];simp
theorem bl_tri:∀ a b:List UInt8,Op.bytesLess a b=false→Op.bytesLess b a=false→a=b
  | [],[],_,_=>rfl
  | [],_ :: _,h,_=>by simp [Op.bytesLess] at h
  | _ :: _,[],_,h=>by simp [Op.bytesLess] at h
  | a :: x,b :: y,h1,h2=>by
    simp only [Op.bytesLess,Bool.or_eq_false_iff,Bool.and_eq_false_iff,decide_eq_false_iff_not,beq_eq_false_iff_ne] at h1 h2
    have hab:a=b:=UInt8.le_antisymm (UInt8.not_lt.mp h2.1) (UInt8.not_lt.mp h1.1)
    subst hab
    rw [bl_tri x y (h1.2.resolve_left fun e=>e rfl) (h2.2.resolve_left fun e=>e rfl)]
theorem bl_trans:∀ a b c:List UInt8,Op.bytesLess a b=true→Op.bytesLess b c=true→Op.bytesLess a c=true
  | _,_,[],_,h=>by simp [Op.bytesLess] at h
  | _,[],_ :: _,h,_=>by simp [Op.bytesLess] at h
  | [],_ :: _,_ :: _,_,_=>rfl
  | a :: x,b :: y,c :: z,h1,h2=>by
    simp only [Op.bytesLess,Bool.or_eq_true,Bool.and_eq_true,decide_eq_true_eq,beq_iff_eq] at h1 h2 ⊢
    rcases h1 with h1 | ⟨rfl,h1⟩
    · rcases h2 with h2 | ⟨rfl,h2⟩
      · exact .inl (UInt8.lt_trans h1 h2)
      · exact .inl h1
    · rcases h2 with h2 | ⟨rfl,h2⟩
      · exact .inl h2
      · exact .inr ⟨rfl,bl_trans x y z h1 h2⟩
theorem bl_asymm {a b:List UInt8} (h:Op.bytesLess a b=true):Op.bytesLess b a=false:=by
  cases h2:Op.bytesLess b a with
  | false=>rfl
  | true=>
    have:=bl_trans _ _ _ h h2
    rw [bl_irr] at this;cases this
theorem bl_not (a b:List UInt8):(!Op.bytesLess a b)=(Op.bytesLess b a || b == a):=by
  cases h:Op.bytesLess a b with
  | true=>
    rw [bl_asymm h,beq_eq_false_iff_ne.mpr (fun e=>by rw [e,bl_irr] at h;cases h)];rfl
  | false=>
    cases h2:Op.bytesLess b a with
    | true=>rfl
    | false=>rw [beq_iff_eq.mpr (bl_tri b a h2 h)];rfl
theorem nl_ext {a b:ByteArray} (h:a.toList=b.toList):a=b:=by
  rw [ByteArray.toList_eq,ByteArray.toList_eq] at h
  cases a;cases b
  congr 1
  exact Array.ext' h
theorem idxOf_span {α:Type} (p:α→Bool):∀ (l:List α) (i:Nat),(idxOf p l i = -1∧∀ x∈l,p x=false)∨∃ j,∃ h:j<l.length,idxOf p l i=((i+j:Nat):Int)∧p l[j]=true:=by
  intro l
  induction l with
  | nil=>intro i;exact .inl ⟨rfl,fun x hx=>absurd hx List.not_mem_nil⟩
  | cons x l ih=>
    intro i
    unfold idxOf
    by_cases h:p x=true
    · rw [if_pos h];exact .inr ⟨0,Nat.zero_lt_succ _,by omega,h⟩
    · rw [if_neg h]
      rcases ih (i+1) with ⟨h1,h2⟩ | ⟨j,hj,h1,h2⟩
      · refine .inl ⟨h1,fun y hy=>?_⟩
        rcases List.mem_cons.1 hy with e | hy
        · rw [e];exact Bool.eq_false_iff.mpr h
        · exact h2 y hy
      · exact .inr ⟨j+1,Nat.succ_lt_succ hj,by rw [h1];omega,h2⟩
theorem idxOf_range {α:Type} (p:α→Bool) (l:List α) : -1≤idxOf p l 0∧idxOf p l 0<(l.length:Int):=by
  rcases idxOf_span p l 0 with ⟨h,_⟩ | ⟨j,hj,h,_⟩ <;> omega
theorem idxOf_hit {α:Type} (p:α→Bool) (x:α) (l:List α) (i:Nat) (h:p x=true):idxOf p (x :: l) i=(i:Int):=if_pos h
theorem idxOf_miss {α:Type} (p:α→Bool) (x:α) (l:List α) (i:Nat) (h:p x=false):idxOf p (x :: l) i=idxOf p l (i+1):=if_neg (by rw [h];decide)
theorem rd_IEntry (xs:List S47) (i:Nat) (h:i<xs.length):rd_T47 xs (i:Int)=xs[i]:=by
  unfold rd_T47
  rw [Int.toNat_natCast,List.getD_eq_getElem?_getD,List.getElem?_eq_getElem h];rfl
def named (a:ByteArray):S47→Bool:=fun x=>x.f0.toList == a.toList
def placeE (l:List S47) (a:ByteArray):Int:=idxOf (named a) l 0
def entAt (l:List S47) (a:ByteArray):Int:=if placeE l a<0 then 0 else (rd_T47 l (placeE l a)).f1
theorem spec_EntryAt_l0 (l:List S47) (a:ByteArray) (hl:l.length≤1048576) (n:Nat):∀ i:Nat,i+n=l.length→Ev (fun k=>spec_EntryAt.l0 k l a (i:Int)) (if idxOf (named a) (l.drop i) i<0 then 0 else (rd_T47 l (idxOf (named a) (l.drop i) i)).f1):=by
  induction n with
  | zero=>
    intro i hi
    rw [List.drop_eq_nil_of_le (by omega)]
    refine Ev.of_eq (r:=0) ?_ (if_pos (show (-1:Int)<0 by decide)).symm
    refine Ev.step (fun k=>by rw [spec_EntryAt.l0]) ?_
    exact Ev.neg (by omega) (Ev.now _)
  | succ n ih=>
    intro i hi
    have hi2:i<l.length:=by omega
    refine Ev.step (fun k=>by rw [spec_EntryAt.l0]) (Ev.pos (by omega) (Ev.pos (by omega) ?_))
    rw [rd_IEntry l i hi2,List.drop_eq_getElem_cons hi2]
    by_cases h:l[i].f0.toList=a.toList
    · rw [idxOf_hit (named a) _ _ i (beq_iff_eq.mpr h)]
      refine Ev.of_eq (r:=l[i].f1) (Ev.pos h (Ev.now _)) ?_
      rw [if_neg (by omega),rd_IEntry l i hi2]
    · rw [idxOf_miss (named a) _ _ i (beq_eq_false_iff_ne.mpr h)]
      refine Ev.neg h ?_
      rw [wrap64_id (by omega) (by omega)]
      exact ih (i+1) (by omega)
theorem spec_EntryAt_ev (l:List S47) (a:ByteArray) (hl:l.length≤1048576):Ev (fun k=>spec_EntryAt.f k l a) (entAt l a):=by
  unfold spec_EntryAt.f
  exact spec_EntryAt_l0 l a hl l.length 0 (by omega)
def okc (c:UInt8):Bool:=decide (97≤c.toNat∧c.toNat≤122) || decide (48≤c.toNat∧c.toNat≤57) || decide (c.toNat=46) || decide (c.toNat=45)
def nameOk (l:List UInt8):Bool:=l.all okc && decide (1≤l.length∧l.length≤20)
theorem okc_true {c:UInt8} (h:(97≤c.toNat∧c.toNat≤122)∨(48≤c.toNat∧c.toNat≤57)∨c.toNat=46∨c.toNat=45):okc c=true:=by
  unfold okc
  rcases h with h | h | h | h
  · simp [h]
  · simp [h]
  · simp [h]
  · simp [h]
theorem okc_false {c:UInt8} (h1:¬ (97≤c.toNat∧c.toNat≤122)) (h2:¬ (48≤c.toNat∧c.toNat≤57)) (h3:¬ c.toNat=46) (h4:¬ c.toNat=45):okc c=false:=by
  unfold okc
  rw [zf h1,zf h2,zf h3,zf h4];rfl
def inOrder (l:List S47):Prop:=l.Pairwise fun x y=>Op.bytesLess x.f0.toList y.f0.toList=true
def dropS (l:List S47) (n:ByteArray):List S47:=l.filter fun x=>!(x.f0.toList == n.toList)
def putW (n:ByteArray) (id:Int):List S47→Bool→List S47
  | [],d=>if d=true then [] else [⟨n,id⟩]
  | x :: l,d=>(if (!d && !Op.bytesLess x.f0.toList n.toList)=true then [⟨n,id⟩] else [])++((if (x.f0.toList == n.toList)=true then [] else [x])++putW n id l (d || !Op.bytesLess x.f0.toList n.toList))
def putR (n:ByteArray) (id:Int):List S47→List S47
  | []=>[⟨n,id⟩]
  | x :: l=>if x.f0.toList=n.toList then ⟨n,id⟩ :: l else if Op.bytesLess n.toList x.f0.toList=true then ⟨n,id⟩ :: x :: l else x :: putR n id l
theorem nmOk_nameOk:nmOk=nameOk:=rfl
theorem putW_done (n:ByteArray) (id:Int):∀ l:List S47,(∀ x∈l,Op.bytesLess n.toList x.f0.toList=true)→putW n id l true=l
  | [],_=>rfl
  | x :: l,h=>by
    have hx:=h x (List.mem_cons_self ..)
    have hne:(x.f0.toList == n.toList)=false:=beq_eq_false_iff_ne.mpr fun e=>by rw [e,bl_irr] at hx;cases hx
    rw [putW,hne,Bool.true_or,putW_done n id l fun y hy=>h y (List.mem_cons_of_mem _ hy)]
    rfl
theorem putW_putR (n:ByteArray) (id:Int):∀ l:List S47,inOrder l→putW n id l false=putR n id l
  | [],_=>rfl
  | x :: l,h=>by
    obtain ⟨hx,hl⟩:=List.pairwise_cons.mp h
    rw [putR]
    by_cases he:x.f0.toList=n.toList
    · rw [if_pos he,putW,he,bl_irr,beq_self_eq_true]
      rw [show (false || !false)=true from rfl,putW_done n id l fun y hy=>by rw [← he];exact hx y hy]
      rfl
    · rw [if_neg he]
      have hne:(x.f0.toList == n.toList)=false:=beq_eq_false_iff_ne.mpr he
      by_cases hb:Op.bytesLess n.toList x.f0.toList=true
      · rw [if_pos hb,putW,hne,bl_asymm hb]
        rw [show (false || !false)=true from rfl,putW_done n id l fun y hy=>bl_trans _ _ _ hb (hx y hy)]
        rfl
      · rw [if_neg hb,putW,hne]
        have hb2:Op.bytesLess x.f0.toList n.toList=true:=by
          cases h2:Op.bytesLess x.f0.toList n.toList with
          | true=>rfl
          | false=>exact absurd (bl_tri _ _ h2 (Bool.eq_false_iff.mpr hb)) he
        rw [hb2,show (false || !true)=false from rfl,putW_putR n id l hl]
        rfl
theorem idxOf_succ {α:Type} (p:α→Bool):∀ (l:List α) (i:Nat),(idxOf p l i<0∧idxOf p l (i+1)<0)∨(0≤idxOf p l i∧idxOf p l (i+1)=idxOf p l i+1)
  | [],i=>.inl ⟨by rw [idxOf];decide,by rw [idxOf];decide⟩
  | x :: l,i=>by
    rw [idxOf,idxOf]
    cases h:p x with
    | true=>exact .inr ⟨by simp,by simp⟩
    | false=>simpa using idxOf_succ p l (i+1)
theorem set_putR (n:ByteArray) (id:Int) (x:S47) (l:List S47) (hne:¬ x.f0.toList=n.toList) (h:0≤idxOf (isName n) l 0):putI (x :: l) n id=x :: putI l n id:=by
  have hx:isName n x=false:=beq_eq_false_iff_ne.mpr hne
  have hr:=ix_range (isName n) l 0
  rcases idxOf_succ (isName n) l 0 with ⟨h1,_⟩ | ⟨_,h2⟩
  · omega
  unfold putI
  rw [idxOf_miss _ _ _ _ hx,h2,if_neg (by omega),if_neg (by omega)]
  obtain ⟨j,hj⟩:∃ j:Nat,idxOf (isName n) l 0=(j:Int):=⟨(idxOf (isName n) l 0).toNat,by omega⟩
  rw [hj] at hr ⊢
  rw [show ((j:Int)+1)=((j+1:Nat):Int) by omega,Int.toNat_natCast,Int.toNat_natCast,List.set_cons_succ,rd_IEntry _ _ (by simp only [List.length_cons];omega),rd_IEntry _ _ (by omega),List.getElem_cons_succ]
theorem new_putR (n:ByteArray) (id:Int) (x:S47) (l:List S47) (hne:¬ x.f0.toList=n.toList) (hb:Op.bytesLess n.toList x.f0.toList=false) (h:idxOf (isName n) l 0<0):putI (x :: l) n id=x :: putI l n id:=by
  have hx:isName n x=false:=beq_eq_false_iff_ne.mpr hne
  have ha:isAbove n x=false:=by
    unfold isAbove
    cases h2:Op.bytesLess x.f0.toList n.toList with
    | true=>rfl
    | false=>exact absurd (bl_tri _ _ h2 hb) hne
  have hr:=ix_range (isAbove n) l 0
  rcases idxOf_succ (isName n) l 0 with ⟨_,h2⟩ | ⟨h1,_⟩
  case inr=>omega
  unfold putI
  rw [idxOf_miss _ _ _ _ hx,if_pos h2,if_pos h]
  have hp:putAt (x :: l) n=putAt l n+1:=by
    unfold putAt
    rw [idxOf_miss _ _ _ _ ha]
    rcases idxOf_succ (isAbove n) l 0 with ⟨h3,h4⟩ | ⟨h3,h4⟩
    · rw [if_pos h4,if_pos h3,List.length_cons]
    · rw [if_neg (by omega),if_neg (by omega),h4];omega
  rw [hp,List.take_succ_cons,List.drop_succ_cons];rfl
theorem idxOf_all {α:Type} (p:α→Bool):∀ (l:List α) (i:Nat),(∀ x∈l,p x=false)→idxOf p l i<0
  | [],_,_=>by rw [idxOf];decide
  | x :: l,i,h=>by
    rw [idxOf_miss _ _ _ _ (h x (List.mem_cons_self ..))]
    exact idxOf_all p l _ fun y hy=>h y (List.mem_cons_of_mem _ hy)
theorem putI_putR (n:ByteArray) (id:Int):∀ l:List S47,inOrder l→putI l n id=putR n id l
  | [],_=>rfl
  | x :: l,h=>by
    obtain ⟨hx,hl⟩:=List.pairwise_cons.mp h
    rw [putR]
    by_cases he:x.f0.toList=n.toList
    · rw [if_pos he]
      unfold putI
      rw [idxOf_hit (isName n) x l 0 (beq_iff_eq.mpr he),if_neg (by decide)]
      show (x :: l).set 0 ⟨(rd_T47 (x :: l) ((0:Nat):Int)).f0,id⟩=_
      rw [rd_IEntry _ _ (by simp),List.set_cons_zero,List.getElem_cons_zero,nl_ext he]
    · rw [if_neg he]
      by_cases hb:Op.bytesLess n.toList x.f0.toList=true
      · rw [if_pos hb]
        have hno:∀ y∈x :: l,isName n y=false:=fun y hy=>beq_eq_false_iff_ne.mpr fun e=>by
          rcases List.mem_cons.mp hy with rfl | hy
          · exact he e
          · have:=bl_trans _ _ _ hb (hx y hy)
            rw [e,bl_irr] at this;cases this
        unfold putI
        rw [if_pos (idxOf_all _ _ _ hno)]
        have hp:putAt (x :: l) n=0:=by
          unfold putAt
          have ha:isAbove n x=true:=by
            unfold isAbove
            rw [bl_asymm hb,beq_eq_false_iff_ne.mpr he];rfl
          rw [idxOf_hit _ _ _ _ ha];rfl
        rw [hp];rfl
      · rw [if_neg hb,← putI_putR n id l hl]
        by_cases h2:0≤idxOf (isName n) l 0
        · exact set_putR n id x l he h2
        · exact new_putR n id x l he (Bool.eq_false_iff.mpr hb) (by omega)
theorem erase_dropS (n:ByteArray):∀ l:List S47,inOrder l→0≤idxOf (isName n) l 0→l.eraseIdx (idxOf (isName n) l 0).toNat=dropS l n
  | [],_,h=>by rw [idxOf] at h;exact absurd h (by decide)
  | x :: l,h,h0=>by
    obtain ⟨hx,hl⟩:=List.pairwise_cons.mp h
    unfold dropS
    by_cases he:x.f0.toList=n.toList
    · rw [idxOf_hit (isName n) x l 0 (beq_iff_eq.mpr he),List.filter_cons_of_neg (by rw [beq_iff_eq.mpr he];decide)]
      show l=_
      symm
      refine List.filter_eq_self.mpr fun y hy=>?_
      have:=hx y hy
      rw [beq_eq_false_iff_ne.mpr fun e=>by rw [he,e,bl_irr] at this;cases this];rfl
    · have hm:isName n x=false:=beq_eq_false_iff_ne.mpr he
      rw [idxOf_miss _ _ _ _ hm] at h0 ⊢
      rw [List.filter_cons_of_pos (by rw [beq_eq_false_iff_ne.mpr he];decide)]
      rcases idxOf_succ (isName n) l 0 with ⟨_,h2⟩ | ⟨h1,h2⟩
      · omega
      rw [h2]
      obtain ⟨j,hj⟩:∃ j:Nat,idxOf (isName n) l 0=(j:Int):=⟨(idxOf (isName n) l 0).toNat,by omega⟩
      have ih:=erase_dropS n l hl h1
      rw [hj,Int.toNat_natCast] at ih
      rw [hj,show ((j:Int)+1).toNat=j+1 by omega,List.eraseIdx_cons_succ,ih];rfl
theorem dropS_inOrder {l:List S47} (n:ByteArray) (h:inOrder l):inOrder (dropS l n):=List.Pairwise.filter _ h
theorem mem_putW (n:ByteArray) (id:Int):∀ (l:List S47) (d:Bool) (x:S47),x∈putW n id l d→x=⟨n,id⟩∨x∈l
  | [],d,x,h=>by
    rw [putW] at h
    split at h
    · cases h
    · exact .inl (List.mem_singleton.mp h)
  | y :: l,d,x,h=>by
    rw [putW] at h
    rcases List.mem_append.mp h with h | h
    · split at h
      · exact .inl (List.mem_singleton.mp h)
      · cases h
    · rcases List.mem_append.mp h with h | h
      · split at h
        · cases h
        · exact .inr (by rw [List.mem_singleton.mp h];exact List.mem_cons_self ..)
      · rcases mem_putW n id l _ x h with h | h
        · exact .inl h
        · exact .inr (List.mem_cons_of_mem _ h)
theorem putW_length (n:ByteArray) (id:Int):∀ (l:List S47) (d:Bool),(putW n id l d).length≤l.length+(if d=true then 0 else 1)
  | [],d=>by rw [putW];cases d <;> simp
  | y :: l,d=>by
    have h:=putW_length n id l (d || !Op.bytesLess y.f0.toList n.toList)
    rw [putW,List.length_append,List.length_append,List.length_cons]
    cases d <;> cases hb:Op.bytesLess y.f0.toList n.toList <;> cases hq:(y.f0.toList == n.toList) <;> rw [hb] at h <;> simp at h ⊢ <;> omega
def mkT (l:List UInt8):ByteArray:=⟨l.toArray⟩
theorem mkT_list (l:List UInt8):(mkT l).data.toList=l:=rfl
theorem ba_ext {a b:ByteArray} (h:a.data.toList=b.data.toList):a=b:=by
  cases a;cases b
  exact congrArg ByteArray.mk (Array.toList_inj.1 h)
theorem toList_app2 (a b:ByteArray):(a++b).data.toList=a.data.toList++b.data.toList:=by rw [ByteArray.data_append,Array.toList_append]
theorem mkT_size (l:List UInt8):(mkT l).size=l.length:=by rw [← size_list,mkT_list]
open Go.Lib (decDigits itoa)
def isDig (c:UInt8):Prop:=48≤c.toNat∧c.toNat≤57
def dval (acc:Nat) (l:List UInt8):Nat:=l.foldl (fun n c=>10*n+(c.toNat-48)) acc
theorem dval_nil (acc:Nat):dval acc []=acc:=rfl
theorem dval_cons (acc:Nat) (c:UInt8) (l:List UInt8):dval acc (c :: l)=dval (10*acc+(c.toNat-48)) l:=by unfold dval;rw [List.foldl_cons]
theorem dval_le:∀ (l:List UInt8) (acc:Nat),acc≤dval acc l:=by
  intro l
  induction l with
  | nil=>intro acc;exact Nat.le_refl _
  | cons c l ih=>intro acc;have:=ih (10*acc+(c.toNat-48));rw [dval_cons];omega
theorem dval_snoc (c:UInt8):∀ (l:List UInt8) (acc:Nat),dval acc (l++[c])=10*dval acc l+(c.toNat-48):=by
  intro l
  induction l with
  | nil=>intro acc;rw [List.nil_append,dval_cons,dval_nil,dval_nil]
  | cons d l ih=>intro acc;rw [List.cons_append,dval_cons,ih,dval_cons]
theorem ofNat_dig (n:Nat) (h:n<10):(UInt8.ofNat (48+n)).toNat=48+n:=by rw [UInt8.toNat_ofNat'];omega
theorem decDigits_dig (u:Nat):(∀ c∈decDigits u,isDig c)∧dval 0 (decDigits u)=u:=by
  induction u using Nat.strongRecOn with
  | _ u ih=>
    rw [decDigits]
    by_cases h:u<10
    · rw [dif_pos h]
      have e:=ofNat_dig u h
      refine ⟨fun c hc=>?_,?_⟩
      · rw [List.mem_singleton] at hc;subst hc;unfold isDig;omega
      · rw [dval_cons,dval_nil];omega
    · rw [dif_neg h]
      obtain ⟨h1,h2⟩:=ih (u / 10) (by omega)
      have e:=ofNat_dig (u % 10) (by omega)
      refine ⟨fun c hc=>?_,?_⟩
      · rcases List.mem_append.1 hc with h | h
        · exact h1 c h
        · rw [List.mem_singleton] at h;subst h;unfold isDig;omega
      · rw [dval_snoc,h2,e];omega
theorem decDigits_ne (u:Nat):decDigits u≠[]:=by
  rw [decDigits]
  split <;> simp
theorem decDigits_length (m:Nat):∀ u:Nat,u<10 ^ (m+1)→(decDigits u).length≤m+1:=by
  induction m with
  | zero=>
    intro u h
    rw [decDigits,dif_pos (by omega)];exact Nat.le_refl _
  | succ m ih=>
    intro u h
    rw [decDigits]
    by_cases c:u<10
    · rw [dif_pos c];show 1≤_;omega
    · rw [dif_neg c,List.length_append,List.length_singleton]
      have:=ih (u / 10) (Nat.div_lt_of_lt_mul (by rw [Nat.mul_comm,← Nat.pow_succ];exact h))
      omega
def IsDec (l:List UInt8) (v:Int):Prop:=0≤v∧v≤1000000000∧itoa v=l
theorem itoa_nat (u:Nat):itoa (u:Int)=decDigits u:=by
  unfold itoa
  rw [if_neg (by omega),Int.toNat_natCast]
theorem isDec_val {l:List UInt8} {v:Int} (h:IsDec l v):(∀ c∈l,isDig c)∧((dval 0 l:Nat):Int)=v∧l≠[]∧l.length≤10:=by
  obtain ⟨h0,h1,rfl⟩:=h
  obtain ⟨u,rfl⟩:=Int.eq_ofNat_of_zero_le h0
  rw [itoa_nat]
  obtain ⟨a,b⟩:=decDigits_dig u
  exact ⟨a,by rw [b],decDigits_ne u,decDigits_length 9 u (by omega)⟩
def decOut (s:ByteArray) (n:Nat):Int×Bool:=if n>1000000000 then (0,false) else if (mkT (itoa (n:Int))).toList=s.toList then ((n:Int),true) else (0,false)
open Classical in
noncomputable def readDec (s:ByteArray):Int×Bool:=if h:∃ v,IsDec s.data.toList v then (h.choose,true) else (0,false)
theorem readDec_of {s:ByteArray} {v:Int} (h:IsDec s.data.toList v):readDec s=(v,true):=by
  unfold readDec
  have hx:∃ v,IsDec s.data.toList v:=⟨v,h⟩
  rw [dif_pos hx]
  have e1:=(isDec_val hx.choose_spec).2.1
  have e2:=(isDec_val h).2.1
  rw [← e1,← e2]
theorem readDec_no {s:ByteArray} (h:¬ ∃ v,IsDec s.data.toList v):readDec s=(0,false):=by
  unfold readDec
  rw [dif_neg h]
theorem l01Figure_digit (n:Nat) (h:n<10):spec_l01Figure.f (n:Int)=some ((48+n:Nat):Int):=by
  unfold spec_l01Figure.f
  rw [if_pos (by omega),wrap64_id (by omega) (by omega)];congr 1;omega
open Go.Lib (decDigits itoa)
def digitsNZ (u:Nat):List UInt8:=if u=0 then [] else decDigits u
theorem digitsNZ_step {u:Nat} (h:u≠0):digitsNZ u=digitsNZ (u / 10)++[UInt8.ofNat (48+u % 10)]:=by
  unfold digitsNZ
  rw [if_neg h,decDigits]
  by_cases c:u<10
  · rw [dif_pos c,if_pos (by omega),Nat.mod_eq_of_lt c];rfl
  · rw [dif_neg c,if_neg (by omega)]
theorem one_text (n:Nat):(strOfNums [(n:Int)]).data.toList=[UInt8.ofNat n]:=by
  show [UInt8.ofNat ((n:Int)).toNat]=_
  rw [Int.toNat_natCast]
theorem spec_Decimal_l0 (b:Bool) (m:Nat):∀ (x:Int) (s:ByteArray),x.natAbs<10 ^ m→m≤30→s.size+m≤100→(-9223372036854775808≤x∧x≤9223372036854775807)→
    Ev (fun k=>spec_Decimal.l0 k x b s) (mkT ((if b then [45] else [])++digitsNZ x.natAbs++s.data.toList)):=by
  induction m with
  | zero=>
    intro x s hx _ hs _
    obtain rfl:x=0:=by simp at hx;omega
    refine Ev.step (fun k=>by rw [spec_Decimal.l0]) (Ev.pos rfl ?_)
    cases b with
    | true=>
      refine Ev.pos rfl (Ev.pos (by omega) (Ev.const ?_))
      refine congrArg some (ba_ext ?_)
      rw [toList_app2,mkT_list];rfl
    | false=>
      refine Ev.neg (by decide) (Ev.const ?_)
      refine congrArg some (ba_ext ?_)
      rw [mkT_list];rfl
  | succ m ih=>
    intro x s hx hm hs hb
    by_cases h0:x=0
    · subst h0
      refine Ev.step (fun k=>by rw [spec_Decimal.l0]) (Ev.pos rfl ?_)
      cases b with
      | true=>
        refine Ev.pos rfl (Ev.pos (by omega) (Ev.const ?_))
        refine congrArg some (ba_ext ?_)
        rw [toList_app2,mkT_list];rfl
      | false=>
        refine Ev.neg (by decide) (Ev.const ?_)
        refine congrArg some (ba_ext ?_)
        rw [mkT_list];rfl
    · have hlt:(Int.tdiv x 10).natAbs<10 ^ m:=by
        rw [Int.natAbs_tdiv]
        exact Nat.div_lt_of_lt_mul (by rw [Nat.pow_succ] at hx;rw [show (10:Int).natAbs=10 from rfl,Nat.mul_comm];exact hx)
      have hq:(Int.tdiv x 10).natAbs=x.natAbs / 10:=by rw [Int.natAbs_tdiv];rfl
      have hmod:(Int.tmod x 10).natAbs=x.natAbs % 10:=by rw [Int.natAbs_tmod];rfl
      have hsum:10*Int.tdiv x 10+Int.tmod x 10=x:=Int.mul_tdiv_add_tmod x 10
      have hqb : -9223372036854775808≤Int.tdiv x 10∧Int.tdiv x 10≤9223372036854775807:=by
        constructor <;> omega
      have go:∀ d:Nat,d=x.natAbs % 10→Ev (fun k=>(some (([((48+d:Nat):Int)]:List Int):List Int)).bind fun y=>if (strOfNums y).size+s.size≤9223372036854775807 then spec_Decimal.l0 k (wrap64 (Int.tdiv x 10)) b ((strOfNums y)++s) else none) (mkT ((if b then [45] else [])++digitsNZ x.natAbs++s.data.toList)):=by
        intro d hd
        have hz:(strOfNums [((48+d:Nat):Int)]).size=1:=by rw [strOfNums_size];rfl
        refine Ev.bind (Ev.const rfl) (Ev.pos (by rw [hz];omega) ?_)
        rw [wrap64_id hqb.1 hqb.2]
        have:=ih (Int.tdiv x 10) ((strOfNums [((48+d:Nat):Int)])++s) hlt (by omega) (by rw [ByteArray.size_append,hz];omega) hqb
        refine Ev.of_eq this ?_
        rw [toList_app2,one_text,hq,digitsNZ_step (u:=x.natAbs) (by omega),hd]
        simp only [List.append_assoc]
      refine Ev.step (fun k=>by rw [spec_Decimal.l0]) (Ev.neg h0 ?_)
      by_cases hneg:Int.tmod x 10<0
      · have e:wrap64 (-(Int.tmod x 10))=((x.natAbs % 10:Nat):Int):=by rw [wrap64_id (by omega) (by omega)];omega
        refine Ev.pos hneg ?_
        rw [e]
        exact Ev.bind (Ev.const (l01Figure_digit _ (by omega))) (go _ rfl)
      · have e:Int.tmod x 10=((x.natAbs % 10:Nat):Int):=by omega
        refine Ev.neg hneg ?_
        rw [e]
        exact Ev.bind (Ev.const (l01Figure_digit _ (by omega))) (go _ rfl)
theorem spec_Decimal_ev (n:Int) (hn : -9223372036854775808≤n∧n≤9223372036854775807):Ev (fun k=>spec_Decimal.f k n) (mkT (itoa n)):=by
  unfold spec_Decimal.f
  by_cases h:n=0
  · subst h
    refine Ev.pos rfl (Ev.const ?_)
    refine congrArg some (ba_ext ?_)
    rw [mkT_list]
    unfold itoa
    rw [if_neg (by decide),decDigits,dif_pos (by decide)];rfl
  · refine Ev.neg h ?_
    have:=spec_Decimal_l0 (decide (n<0)) 19 n (⟨#[]⟩:ByteArray) (Nat.lt_of_le_of_lt (m:=9223372036854775808) (by omega) (by decide)) (by decide) (by decide) hn
    refine Ev.of_eq this ?_
    refine ba_ext ?_
    rw [mkT_list,mkT_list]
    show (_++digitsNZ n.natAbs)++[]=_
    rw [List.append_nil]
    have hd:digitsNZ n.natAbs=decDigits n.natAbs:=if_neg (by omega)
    rw [hd]
    unfold itoa
    by_cases c:n<0
    · rw [zt c,if_pos c];rfl
    · rw [zf c,if_neg c,show n.natAbs=n.toNat by omega];rfl
theorem spec_ReadDecimal_l0 (s:ByteArray) (hs:s.size≤10) (m:Nat):∀ (i acc:Nat),i+m=s.size→acc<10 ^ i→
    ∃ r,Ev (fun k=>spec_ReadDecimal.l0 k s (acc:Int) (i:Int)) r∧((∀ c∈s.data.toList.drop i,isDig c)→r=decOut s (dval acc (s.data.toList.drop i)))∧(¬ (∀ c∈s.data.toList.drop i,isDig c)→r=(0,false)):=by
  induction m with
  | zero=>
    intro i acc hi ha
    have hp:10 ^ i≤10 ^ 10:=Nat.pow_le_pow_right (by decide) (by omega)
    rw [List.drop_eq_nil_of_le (by rw [size_list];omega)]
    refine ⟨decOut s acc,?_,fun _=>rfl,fun h=>absurd (fun c hc=>absurd hc List.not_mem_nil) h⟩
    refine Ev.step (fun k=>by rw [spec_ReadDecimal.l0]) (Ev.neg (by omega) ?_)
    unfold decOut
    by_cases c:acc>1000000000
    · refine Ev.of_eq (r:=(0,false)) ?_ (if_pos c).symm
      exact Ev.pos (by omega) (Ev.now _)
    · refine Ev.of_eq ?_ (if_neg c).symm
      refine Ev.neg (by omega) (Ev.bind (spec_Decimal_ev (acc:Int) (by omega)) ?_)
      by_cases e:(mkT (itoa (acc:Int))).toList=s.toList
      · refine Ev.of_eq (r:=((acc:Int),true)) ?_ (if_pos e).symm
        exact Ev.pos e (Ev.now _)
      · refine Ev.of_eq (r:=(0,false)) ?_ (if_neg e).symm
        exact Ev.neg e (Ev.now _)
  | succ m ih=>
    intro i acc hi ha
    have hp:10 ^ i≤10 ^ 9:=Nat.pow_le_pow_right (by decide) (by omega)
    have hlt:i<s.size:=by omega
    have hb:=bt_list s i (by rw [size_list];exact hlt)
    rw [drop_cons s i hlt]
    have hc:=(s.data.toList[i]'(by rw [size_list];exact hlt)).toNat_lt
    generalize (s.data.toList[i]'(by rw [size_list];exact hlt))=c at hc hb ⊢
    by_cases h1:48≤c.toNat
    · by_cases h2:c.toNat≤57
      · obtain ⟨r,hr,h3,h4⟩:=ih (i+1) (10*acc+(c.toNat-48)) (by omega) (by rw [Nat.pow_succ];omega)
        refine ⟨r,?_,fun h=>h3 fun d hd=>h d (List.mem_cons_of_mem _ hd),fun h=>h4 fun h'=>h fun d hd=>?_⟩
        · refine Ev.step (fun k=>by rw [spec_ReadDecimal.l0]) (Ev.pos (by omega) (Ev.pos (by omega) ?_))
          rw [hb]
          refine Ev.neg (by omega) (Ev.neg (by omega) ?_)
          rw [wrap64_id (x:=10*(acc:Int)) (by omega) (by omega),wrap64_id (x:=(c.toNat:Int)) (by omega) (by omega),wrap64_id (x:=10*(acc:Int)+(c.toNat:Int)) (by omega) (by omega),wrap64_id (by omega) (by omega),wrap64_id (by omega) (by omega)]
          rw [show 10*(acc:Int)+(c.toNat:Int)-48=((10*acc+(c.toNat-48):Nat):Int) by omega]
          exact hr
        · rcases List.mem_cons.1 hd with e | hd
          · rw [e];exact ⟨h1,h2⟩
          · exact h' d hd
      · refine ⟨(0,false),?_,fun h=>absurd (h c (List.mem_cons_self ..)).2 h2,fun _=>rfl⟩
        refine Ev.step (fun k=>by rw [spec_ReadDecimal.l0]) (Ev.pos (by omega) (Ev.pos (by omega) ?_))
        rw [hb]
        refine Ev.neg (by omega) ?_
        exact Ev.pos (by omega) (Ev.now _)
    · refine ⟨(0,false),?_,fun h=>absurd (h c (List.mem_cons_self ..)).1 h1,fun _=>rfl⟩
      refine Ev.step (fun k=>by rw [spec_ReadDecimal.l0]) (Ev.pos (by omega) (Ev.pos (by omega) ?_))
      rw [hb]
      exact Ev.pos (by omega) (Ev.now _)
theorem spec_ReadDecimal_ev (s:ByteArray) (hs:s.size≤140737488355328):Ev (fun k=>spec_ReadDecimal.f k s) (readDec s):=by
  unfold spec_ReadDecimal.f
  by_cases h:(s.size:Int)>10
  · rw [readDec_no]
    · exact Ev.pos h (Ev.now _)
    · rintro ⟨v,hv⟩
      have:=(isDec_val hv).2.2.2
      rw [size_list] at this
      omega
  · obtain ⟨r,hr,h3,h4⟩:=spec_ReadDecimal_l0 s (by omega) s.size 0 0 (by omega) (by decide)
    rw [List.drop_zero] at h3 h4
    refine Ev.neg h (Ev.of_eq hr ?_)
    by_cases hx:∃ v,IsDec s.data.toList v
    · obtain ⟨v,hv⟩:=hx
      obtain ⟨a,b,_,_⟩:=isDec_val hv
      rw [readDec_of hv,h3 a]
      unfold decOut
      obtain ⟨v0,v1,v2⟩:=hv
      rw [if_neg (by omega),if_pos,b]
      rw [ByteArray.toList_eq,ByteArray.toList_eq,mkT_list,b,v2]
    · rw [readDec_no hx]
      by_cases hd:∀ c∈s.data.toList,isDig c
      · rw [h3 hd]
        unfold decOut
        by_cases c1:dval 0 s.data.toList>1000000000
        · rw [if_pos c1]
        · rw [if_neg c1,if_neg]
          intro e
          rw [ByteArray.toList_eq,ByteArray.toList_eq,mkT_list] at e
          exact hx ⟨_,by omega,by omega,e⟩
      · exact h4 hd
theorem l01In_f (a b c:Int):spec_l01In.f a b c=some (decide (b≤a∧a≤c)):=by
  unfold spec_l01In.f
  by_cases h:a≥b
  · rw [if_pos h];congr 1;rw [decide_eq_decide];omega
  · rw [if_neg h];congr 1;symm;rw [decide_eq_false_iff_not];omega
theorem spec_NameOk_l0 (s:ByteArray) (hs:s.size≤140737488355328) (n:Nat):∀ (i:Nat),i+n=s.size→
    Ev (fun k=>spec_NameOk.l0 k s (i:Int)) ((s.data.toList.drop i).all okc && decide (1≤s.size∧s.size≤20)):=by
  induction n with
  | zero=>
    intro i hi
    refine Ev.step (fun k=>by rw [spec_NameOk.l0]) (Ev.neg (by omega) ?_)
    rw [l01In_f,List.drop_eq_nil_of_le (by rw [size_list];omega)]
    refine Ev.bind (Ev.const rfl) (Ev.const ?_)
    refine congrArg some ?_
    rw [List.all_nil,Bool.true_and,decide_eq_decide];omega
  | succ n ih=>
    intro i hi
    have hlt:i<s.size:=by omega
    refine Ev.step (fun k=>by rw [spec_NameOk.l0]) (Ev.pos (by omega) (Ev.pos (by omega) ?_))
    rw [bt_list s i (by rw [size_list];exact hlt),drop_cons s i hlt,List.all_cons]
    have hc:=(s.data.toList[i]'(by rw [size_list];exact hlt)).toNat_lt
    have ih:=ih (i+1) (by omega)
    generalize s.data.toList[i]'(by rw [size_list];exact hlt)=c at hc ⊢
    rw [wrap64_id (x:=(c.toNat:Int)) (by omega) (by omega),wrap64_id (x:=(i:Int)+1) (by omega) (by omega),l01In_f,l01In_f]
    refine Ev.bind (Ev.const rfl) ?_
    by_cases h1:97≤c.toNat∧c.toNat≤122
    · refine Ev.pos (zt (by omega)) ?_
      rw [okc_true (.inl h1),Bool.true_and];exact ih
    · refine Ev.neg (by rw [zf (by omega)];decide) (Ev.bind (Ev.const rfl) ?_)
      by_cases h2:48≤c.toNat∧c.toNat≤57
      · refine Ev.pos (zt (by omega)) ?_
        rw [okc_true (.inr (.inl h2)),Bool.true_and];exact ih
      · refine Ev.neg (by rw [zf (by omega)];decide) ?_
        by_cases h3:c.toNat=46
        · refine Ev.pos (by omega) ?_
          rw [okc_true (.inr (.inr (.inl h3))),Bool.true_and];exact ih
        · refine Ev.neg (by omega) ?_
          by_cases h4:c.toNat=45
          · refine Ev.pos (by omega) ?_
            rw [okc_true (.inr (.inr (.inr h4))),Bool.true_and];exact ih
          · refine Ev.neg (by omega) ?_
            rw [okc_false h1 h2 h3 h4,Bool.false_and,Bool.false_and];exact Ev.now _
theorem spec_NameOk_ev (s:ByteArray) (hs:s.size≤140737488355328):Ev (fun k=>spec_NameOk.f k s) (nameOk s.data.toList):=by
  unfold spec_NameOk.f nameOk
  rw [size_list]
  exact spec_NameOk_l0 s hs s.size 0 (by omega)
def noStep:ByteArray×ByteArray×Int×Bool:=(⟨#[]⟩,⟨#[]⟩,0,false)
noncomputable def stepFin (s n r:ByteArray):ByteArray×ByteArray×Int×Bool:=if bt s 0=62 then (n,r,0,nameOk r.data.toList && (n.toList != r.toList)) else (n,⟨#[]⟩,(readDec r).1,(readDec r).2 && nameOk n.data.toList)
noncomputable def stepOut (s:ByteArray) (i:Nat):Option (List UInt8×List UInt8)→ByteArray×ByteArray×Int×Bool
  | none=>noStep
  | some p=>stepFin s (s.extract 1 (i+p.1.length)) (s.extract (i+p.1.length+1) s.size)
noncomputable def l06step (s:ByteArray):ByteArray×ByteArray×Int×Bool:=if s.size<2 then noStep else if bt s 0=45 then (s.extract 1 s.size,⟨#[]⟩,0,true) else if bt s 0=43∨bt s 0=62 then stepOut s 1 (cutAt 58 (s.data.toList.drop 1)) else noStep
theorem ext_size (s:ByteArray) (a b:Nat):(s.extract a b).size≤s.size:=by rw [ByteArray.size_extract];omega
theorem l06Step_l0 (s:ByteArray) (hs:s.size≤1048576) (n:Nat):∀ i:Nat,i+n=s.size→1≤i→Ev (fun k=>spec_l06Step.l0 k s (i:Int)) (stepOut s i (cutAt 58 (s.data.toList.drop i))):=by
  induction n with
  | zero=>
    intro i hi h1
    rw [List.drop_eq_nil_of_le (by rw [size_list];omega)]
    refine Ev.step (fun k=>by rw [spec_l06Step.l0]) ?_
    exact Ev.neg (by omega) (Ev.now _)
  | succ n ih=>
    intro i hi h1
    have hlt:i<s.size:=by omega
    have ih:=ih (i+1) (by omega) (by omega)
    refine Ev.step (fun k=>by rw [spec_l06Step.l0]) ?_
    refine Ev.pos (by omega) (Ev.pos (by omega) ?_)
    have hb:=bt_list s i (by rw [size_list];exact hlt)
    rw [drop_cons s i hlt,cutAt]
    have e1:((i:Int)).toNat=i:=Int.toNat_natCast i
    have e2:wrap64 ((i:Int)+1)=((i+1:Nat):Int):=by rw [wrap64_id (by omega) (by omega)];omega
    have e3:((i+1:Nat):Int).toNat=i+1:=Int.toNat_natCast _
    by_cases hc:s.data.toList[i]'(by rw [size_list];exact hlt)=58
    · rw [if_pos hc]
      rw [hc] at hb
      replace hb:bt s (i:Int)=58:=hb
      show Ev _ (stepFin s (s.extract 1 (i+0)) (s.extract (i+0+1) s.size))
      rw [Nat.add_zero]
      have hn:=spec_NameOk_ev (s.extract 1 i) (by have:=ext_size s 1 i;omega)
      have hr:=spec_NameOk_ev (s.extract (i+1) s.size) (by have:=ext_size s (i+1) s.size;omega)
      have hd:=spec_ReadDecimal_ev (s.extract (i+1) s.size) (by have:=ext_size s (i+1) s.size;omega)
      refine Ev.pos hb (Ev.pos (by omega) ?_)
      unfold stepFin
      refine Ev.step (fun k=>by rw [spec_l06Step.j2]) ?_
      rw [e2,e1,e3]
      by_cases h62:bt s 0=62
      · refine Ev.of_eq ?_ (if_pos h62).symm
        refine Ev.pos (beq_iff_eq.mpr h62) (Ev.pos (by omega) (Ev.pos (by omega) (Ev.pos (by omega) (Ev.pos (by omega) (Ev.bind hr ?_)))))
        cases nameOk (s.extract (i+1) s.size).data.toList with
        | true=>exact Ev.pos rfl (Ev.now _)
        | false=>exact Ev.neg (by decide) (Ev.now _)
      · refine Ev.of_eq ?_ (if_neg h62).symm
        refine Ev.neg (by rw [beq_eq_false_iff_ne.mpr h62];decide) (Ev.pos (by omega) (Ev.pos (by omega) (Ev.pos hb (Ev.pos (by omega) (Ev.pos (by omega) (Ev.bind hd (Ev.pos (by omega) (Ev.pos (by omega) ?_))))))))
        cases hq:(readDec (s.extract (i+1) s.size)).2 with
        | true=>exact Ev.pos rfl (Ev.bind hn (Ev.now _))
        | false=>exact Ev.neg (by decide) (Ev.now _)
    · rw [if_neg hc]
      have hb2:¬ bt s (i:Int)=58:=by
        rw [hb]
        intro e
        exact hc (UInt8.toNat_inj.mp (Int.ofNat_inj.mp e))
      refine Ev.neg hb2 (Ev.step (fun k=>by rw [spec_l06Step.j2]) ?_)
      refine Ev.neg (by decide) (Ev.pos (by omega) (Ev.pos (by omega) (Ev.neg hb2 ?_)))
      rw [e2]
      refine Ev.of_eq ih ?_
      cases cutAt 58 (s.data.toList.drop (i+1)) with
      | none=>rfl
      | some p=>
        show stepFin s (s.extract 1 (i+1+p.1.length)) (s.extract (i+1+p.1.length+1) s.size)=stepFin s (s.extract 1 (i+(p.1.length+1))) (s.extract (i+(p.1.length+1)+1) s.size)
        rw [show i+1+p.1.length=i+(p.1.length+1) by omega]
theorem l06Step_ev (s:ByteArray) (hs:s.size≤1048576):Ev (fun k=>spec_l06Step.f k s) (l06step s):=by
  unfold spec_l06Step.f l06step
  by_cases h2:s.size<2
  · refine Ev.of_eq ?_ (if_pos h2).symm
    refine Ev.pos (by omega) (Ev.step (fun k=>by rw [spec_l06Step.j0]) ?_)
    exact Ev.pos rfl (Ev.now _)
  refine Ev.of_eq ?_ (if_neg h2).symm
  have hl:=l06Step_l0 s hs (s.size-1) 1 (by omega) (by omega)
  refine Ev.neg (by omega) (Ev.pos (by omega) ?_)
  by_cases h43:bt s 0=43
  · refine Ev.of_eq ?_ (if_neg (by omega)).symm
    refine Ev.of_eq ?_ (if_pos (.inl h43)).symm
    refine Ev.pos h43 (Ev.step (fun k=>by rw [spec_l06Step.j0]) ?_)
    exact Ev.neg (by decide) (Ev.pos (by omega) (Ev.neg (by omega) hl))
  refine Ev.neg h43 ?_
  by_cases h45:bt s 0=45
  · refine Ev.of_eq ?_ (if_pos h45).symm
    refine Ev.pos h45 (Ev.step (fun k=>by rw [spec_l06Step.j0]) ?_)
    exact Ev.neg (by decide) (Ev.pos (by omega) (Ev.pos h45 (Ev.pos (by omega) (Ev.now _))))
  refine Ev.neg h45 (Ev.of_eq ?_ (if_neg h45).symm)
  by_cases h62:bt s 0=62
  · refine Ev.of_eq ?_ (if_pos (.inr h62)).symm
    refine Ev.step (fun k=>by rw [spec_l06Step.j0]) ?_
    exact Ev.neg (by rw [h62];decide) (Ev.pos (by omega) (Ev.neg h45 hl))
  · refine Ev.of_eq ?_ (if_neg (by omega)).symm
    refine Ev.step (fun k=>by rw [spec_l06Step.j0]) ?_
    exact Ev.pos (bne_iff_ne.mpr h62) (Ev.now _)
theorem l06step_byte (s:ByteArray) (h:(l06step s).2.2.2=true):2≤s.size∧(bt s 0=43∨bt s 0=45∨bt s 0=62):=by
  unfold l06step at h
  by_cases h2:s.size<2
  · rw [if_pos h2] at h;cases h
  rw [if_neg h2] at h
  refine ⟨by omega,?_⟩
  by_cases h45:bt s 0=45
  · exact .inr (.inl h45)
  rw [if_neg h45] at h
  by_cases h4:bt s 0=43∨bt s 0=62
  · rcases h4 with h4 | h4
    · exact .inl h4
    · exact .inr (.inr h4)
  · rw [if_neg h4] at h;cases h
theorem l06step_size (s:ByteArray):(l06step s).1.size≤s.size∧(l06step s).2.1.size≤s.size:=by
  have hf:∀ n r:ByteArray,n.size≤s.size→r.size≤s.size→(stepFin s n r).1.size≤s.size∧(stepFin s n r).2.1.size≤s.size:=fun n r h1 h2=>by
    unfold stepFin
    split
    · exact ⟨h1,h2⟩
    · exact ⟨h1,Nat.zero_le _⟩
  have ho:∀ i o,(stepOut s i o).1.size≤s.size∧(stepOut s i o).2.1.size≤s.size:=fun i o=>by
    cases o with
    | none=>exact ⟨Nat.zero_le _,Nat.zero_le _⟩
    | some p=>exact hf _ _ (ext_size ..) (ext_size ..)
  unfold l06step
  split
  · exact ⟨Nat.zero_le _,Nat.zero_le _⟩
  split
  · exact ⟨ext_size ..,Nat.zero_le _⟩
  split
  · exact ho _ _
  · exact ⟨Nat.zero_le _,Nat.zero_le _⟩
theorem rd_INode (xs:List S45) (i:Nat) (h:i<xs.length):rd_T45 xs (i:Int)=xs[i]:=by
  unfold rd_T45
  rw [Int.toNat_natCast,List.getD_eq_getElem?_getD,List.getElem?_eq_getElem h];rfl
def idIs (n:Int):S45→Bool:=fun x=>x.f0 == n
def nodeIx (a:List S45) (n:Int):Int:=idxOf (idIs n) a 0
theorem spec_l05Node_l0 (a:List S45) (b c:List S47) (d:List ByteArray) (e f:Int) (v:Int) (hl:a.length≤1048576) (n:Nat):∀ i:Nat,i+n=a.length→Ev (fun k=>spec_l05Node.l0 k v (i:Int) a b c d e f) (idxOf (idIs v) (a.drop i) i):=by
  induction n with
  | zero=>
    intro i hi
    rw [List.drop_eq_nil_of_le (by omega)]
    refine Ev.step (fun k=>by rw [spec_l05Node.l0]) ?_
    exact Ev.neg (by omega) (Ev.now _)
  | succ n ih=>
    intro i hi
    have hi2:i<a.length:=by omega
    refine Ev.step (fun k=>by rw [spec_l05Node.l0]) (Ev.pos (by omega) (Ev.pos (by omega) ?_))
    rw [rd_INode a i hi2,List.drop_eq_getElem_cons hi2]
    by_cases h:a[i].f0=v
    · rw [idxOf_hit (idIs v) _ _ i (beq_iff_eq.mpr h)]
      exact Ev.pos h (Ev.now _)
    · rw [idxOf_miss (idIs v) _ _ i (beq_eq_false_iff_ne.mpr h)]
      refine Ev.neg h ?_
      rw [wrap64_id (by omega) (by omega)]
      exact ih (i+1) (by omega)
theorem spec_l05Node_ev (a:List S45) (b c:List S47) (d:List ByteArray) (e f:Int) (v:Int) (hl:a.length≤1048576):Ev (fun k=>spec_l05Node.f k a b c d e f v) (nodeIx a v):=by
  unfold spec_l05Node.f
  exact spec_l05Node_l0 a b c d e f v hl a.length 0 (by omega)
theorem spec_l06Has_l0 (l:List S47) (a:ByteArray) (hl:l.length≤1048576) (n:Nat):∀ i:Nat,i+n=l.length→Ev (fun k=>spec_l06Has.l0 k l a (i:Int)) (decide (0≤idxOf (named a) (l.drop i) i)):=by
  induction n with
  | zero=>
    intro i hi
    rw [List.drop_eq_nil_of_le (by omega)]
    refine Ev.step (fun k=>by rw [spec_l06Has.l0]) ?_
    exact Ev.neg (by omega) (Ev.now _)
  | succ n ih=>
    intro i hi
    have hi2:i<l.length:=by omega
    refine Ev.step (fun k=>by rw [spec_l06Has.l0]) (Ev.pos (by omega) (Ev.pos (by omega) ?_))
    rw [rd_IEntry l i hi2,List.drop_eq_getElem_cons hi2]
    by_cases h:l[i].f0.toList=a.toList
    · rw [idxOf_hit (named a) _ _ i (beq_iff_eq.mpr h),zt (by omega)]
      exact Ev.pos h (Ev.now _)
    · rw [idxOf_miss (named a) _ _ i (beq_eq_false_iff_ne.mpr h)]
      refine Ev.neg h ?_
      rw [wrap64_id (by omega) (by omega)]
      exact ih (i+1) (by omega)
theorem spec_l06Has_ev (l:List S47) (a:ByteArray) (hl:l.length≤1048576):Ev (fun k=>spec_l06Has.f k l a) (decide (0≤placeE l a)):=by
  unfold spec_l06Has.f
  exact spec_l06Has_l0 l a hl l.length 0 (by omega)
theorem placeE_range (l:List S47) (s:ByteArray) : -1≤placeE l s∧placeE l s<(l.length:Int):=idxOf_range _ l
theorem nodeIx_range (a:List S45) (v:Int) : -1≤nodeIx a v∧nodeIx a v<(a.length:Int):=idxOf_range _ a
def brought (n least most:Int):Int:=if most<least then least else if n<least then least else if n>most then most else n
theorem spec_Brought_ev (n a b:Int):Ev (fun k=>spec_Brought.f k n a b) (brought n a b):=by
  unfold spec_Brought.f
  by_cases h:b<a
  · refine Ev.of_eq (r:=a) ?_ (if_pos h).symm
    refine Ev.pos h (Ev.step (fun k=>by rw [spec_Brought.j0]) ?_)
    exact Ev.pos rfl (Ev.now _)
  · refine Ev.neg h (Ev.step (fun k=>by rw [spec_Brought.j0]) ?_)
    by_cases h1:n<a
    · refine Ev.of_eq (r:=a) ?_ ((if_neg h).trans (if_pos h1)).symm
      exact Ev.pos (by simpa using h1) (Ev.now _)
    · refine Ev.neg (by simpa using h1) ?_
      by_cases h2:n>b
      · refine Ev.of_eq (r:=b) ?_ ((if_neg h).trans ((if_neg h1).trans (if_pos h2))).symm
        exact Ev.pos h2 (Ev.now _)
      · refine Ev.of_eq (r:=n) ?_ ((if_neg h).trans ((if_neg h1).trans (if_neg h2))).symm
        exact Ev.neg h2 (Ev.now _)
theorem rd_S (xs:List ByteArray) (i:Nat) (h:i<xs.length):rdOf ByteArray.empty xs (i:Int)=xs[i]:=by
  unfold rdOf
  rw [Int.toNat_natCast,List.getD_eq_getElem?_getD,List.getElem?_eq_getElem h];rfl
noncomputable def stepS (l:List S47) (s:ByteArray):Option (List S47):=
  if (l06step s).2.2.2=true∧nameOk (l06step s).1.data.toList=true∧(bt s 0=43∨0≤placeE l (l06step s).1) then
    some (if bt s 0=43 then putW (l06step s).1 (l06step s).2.2.1 l false else if bt s 0=45 then dropS l (l06step s).1 else putW (l06step s).2.1 (entAt l (l06step s).1) (dropS l (l06step s).1) false)
  else none
noncomputable def doneS:List S47→List ByteArray→Option (List S47)
  | l,[]=>some l
  | l,s :: r=>match stepS l s with | none=>none | some l'=>doneS l' r
def doneRes:Option (List S47)→List S47×Bool
  | none=>([],false)
  | some l=>(l,true)
theorem stepS_length {l l':List S47} {s:ByteArray} (h:stepS l s=some l'):l'.length≤l.length+1:=by
  unfold stepS at h
  split at h
  · obtain rfl:=Option.some.inj h
    have hd:(dropS l (l06step s).1).length≤l.length:=List.length_filter_le ..
    split
    · exact putW_length ..
    split
    · omega
    · exact Nat.le_trans (putW_length ..) (by simpa using hd)
  · cases h
theorem stepS_small {l l':List S47} {s:ByteArray} (h:stepS l s=some l') (hl:∀ x∈l,x.f0.size≤1048576) (hs:s.size≤1048576):∀ x∈l',x.f0.size≤1048576:=by
  have hz:=l06step_size s
  unfold stepS at h
  split at h
  · obtain rfl:=Option.some.inj h
    intro x hx
    have hd:∀ y∈dropS l (l06step s).1,y.f0.size≤1048576:=fun y hy=>hl y (List.mem_filter.mp hy).1
    split at hx
    · rcases mem_putW _ _ _ _ _ hx with rfl | hx
      · exact Nat.le_trans hz.1 hs
      · exact hl x hx
    split at hx
    · exact hd x hx
    · rcases mem_putW _ _ _ _ _ hx with rfl | hx
      · exact Nat.le_trans hz.2 hs
      · exact hd x hx
  · cases h
theorem doneS_snoc:∀ (r:List ByteArray) (l:List S47) (s:ByteArray),doneS l (r++[s])=match doneS l r with | none=>none | some l'=>stepS l' s
  | [],l,s=>by
    show (match stepS l s with | none=>none | some l'=>some l')=stepS l s
    cases stepS l s <;> rfl
  | x :: r,l,s=>by
    rw [List.cons_append,doneS,doneS]
    cases stepS l x with
    | none=>rfl
    | some l2=>exact doneS_snoc r l2 s
theorem l06Put_l0 (n:ByteArray) (id:Int) (l:List S47) (hl:l.length≤1048576) (m:Nat):∀ (i:Nat) (acc:List S47) (d:Bool),i+m=l.length→acc.length≤2*i+1→
    Ev (fun k=>spec_l06Put.l0 k l acc d (i:Int) n id) (acc++putW n id (l.drop i) d):=by
  induction m with
  | zero=>
    intro i acc d hi ha
    rw [List.drop_eq_nil_of_le (by omega),putW]
    refine Ev.step (fun k=>by rw [spec_l06Put.l0]) ?_
    refine Ev.neg (by omega) ?_
    cases d with
    | true=>exact Ev.pos rfl (Ev.const (by rw [if_pos rfl,List.append_nil]))
    | false=>exact Ev.neg (by decide) (Ev.pos (by omega) (Ev.now _))
  | succ m ih=>
    intro i acc d hi ha
    have hi2:i<l.length:=by omega
    have hw:wrap64 ((i:Int)+1)=((i+1:Nat):Int):=by rw [wrap64_id (by omega) (by omega)];omega
    have hr:=rd_IEntry l i hi2
    rw [List.drop_eq_getElem_cons hi2,putW]
    refine Ev.step (fun k=>by rw [spec_l06Put.l0]) ?_
    refine Ev.pos (by omega) ?_
    have hput:∀ (aa:List S47) (d2:Bool),aa.length≤2*i+2→Ev (fun k=>if ((rd_T47 l (i:Int)).f0).toList=n.toList then (spec_l06Put.l0 k l aa d2 (wrap64 ((i:Int)+1)) n id) else (if aa.length<5864062014805 then (spec_l06Put.l0 k l (aa++[(⟨(rd_T47 l (i:Int)).f0,(rd_T47 l (i:Int)).f1⟩:S47)]) d2 (wrap64 ((i:Int)+1)) n id) else none)) (aa++((if (l[i].f0.toList == n.toList)=true then [] else [l[i]])++putW n id (l.drop (i+1)) d2)):=by
      intro aa d2 h2
      rw [hr,hw]
      by_cases he:l[i].f0.toList=n.toList
      · refine Ev.pos he ?_
        rw [if_pos (beq_iff_eq.mpr he),List.nil_append]
        exact ih (i+1) aa d2 (by omega) (by omega)
      · refine Ev.neg he (Ev.pos (by omega) ?_)
        rw [if_neg (by rw [beq_eq_false_iff_ne.mpr he];decide),← List.append_assoc]
        exact ih (i+1) (aa++[l[i]]) d2 (by omega) (by rw [List.length_append,List.length_singleton];omega)
    cases d with
    | true=>
      refine Ev.pos rfl (Ev.step (fun k=>by rw [spec_l06Put.j1]) ?_)
      refine Ev.neg (by decide) (Ev.pos (by omega) (Ev.pos (by omega) ?_))
      exact hput acc true (by omega)
    | false=>
      refine Ev.neg (by decide) (Ev.pos (by omega) (Ev.step (fun k=>by rw [spec_l06Put.j1]) ?_))
      cases hb:Op.bytesLess l[i].f0.toList n.toList with
      | true=>
        refine Ev.neg (by rw [hr,hb];decide) (Ev.pos (by omega) (Ev.pos (by omega) ?_))
        exact hput acc false (by omega)
      | false=>
        refine Ev.pos (by rw [hr,hb];rfl) (Ev.pos (by omega) (Ev.bind (Ev.const rfl) (Ev.pos (by omega) (Ev.pos (by omega) ?_))))
        refine Ev.of_eq (hput (acc++[⟨n,id⟩]) true (by rw [List.length_append,List.length_singleton];omega)) ?_
        rw [List.append_assoc];rfl
theorem l06Put_ev (n:ByteArray) (id:Int) (l:List S47) (hl:l.length≤1048576):Ev (fun k=>spec_l06Put.f k l n id) (putW n id l false):=by
  unfold spec_l06Put.f
  exact l06Put_l0 n id l hl l.length 0 [] false (by omega) (by simp)
theorem l06Drop_l0 (n:ByteArray) (l:List S47) (hl:l.length≤1048576) (m:Nat):∀ (i:Nat) (acc:List S47),i+m=l.length→acc.length≤i→
    Ev (fun k=>spec_l06Drop.l0 k l n acc (i:Int)) (acc++dropS (l.drop i) n):=by
  induction m with
  | zero=>
    intro i acc hi ha
    rw [List.drop_eq_nil_of_le (by omega)]
    refine Ev.step (fun k=>by rw [spec_l06Drop.l0]) ?_
    exact Ev.neg (by omega) (Ev.const (by rw [show dropS [] n=[] from rfl,List.append_nil]))
  | succ m ih=>
    intro i acc hi ha
    have hi2:i<l.length:=by omega
    have hw:wrap64 ((i:Int)+1)=((i+1:Nat):Int):=by rw [wrap64_id (by omega) (by omega)];omega
    rw [List.drop_eq_getElem_cons hi2]
    refine Ev.step (fun k=>by rw [spec_l06Drop.l0]) ?_
    refine Ev.pos (by omega) (Ev.pos (by omega) ?_)
    rw [rd_IEntry l i hi2,hw]
    by_cases he:l[i].f0.toList=n.toList
    · refine Ev.pos he ?_
      rw [show dropS (l[i] :: l.drop (i+1)) n=dropS (l.drop (i+1)) n from List.filter_cons_of_neg (by rw [beq_iff_eq.mpr he];decide)]
      exact ih (i+1) acc (by omega) (by omega)
    · refine Ev.neg he (Ev.pos (by omega) ?_)
      rw [show dropS (l[i] :: l.drop (i+1)) n=l[i] :: dropS (l.drop (i+1)) n from List.filter_cons_of_pos (by rw [beq_eq_false_iff_ne.mpr he];decide)]
      have:=ih (i+1) (acc++[l[i]]) (by omega) (by rw [List.length_append,List.length_singleton];omega)
      rw [List.append_assoc] at this
      exact this
theorem l06Drop_ev (n:ByteArray) (l:List S47) (hl:l.length≤1048576):Ev (fun k=>spec_l06Drop.f k l n) (dropS l n):=by
  unfold spec_l06Drop.f
  exact l06Drop_l0 n l hl l.length 0 [] (by omega) (by simp)
theorem StepsDone_l0 (steps:List ByteArray) (hn:steps.length≤1048576) (hs:∀ s∈steps,s.size≤1048576) (m:Nat) (hm:m≤steps.length) (n:Nat):∀ (i:Nat) (l:List S47),i+n=m→l.length+n≤1048576→
    Ev (fun k=>spec_StepsDone.l0 k steps (m:Int) l (i:Int)) (doneRes (doneS l ((steps.take m).drop i))):=by
  induction n with
  | zero=>
    intro i l hi hl
    rw [List.drop_eq_nil_of_le (by rw [List.length_take];omega)]
    refine Ev.step (fun k=>by rw [spec_StepsDone.l0]) ?_
    exact Ev.neg (by omega) (Ev.now _)
  | succ n ih=>
    intro i l hi hl
    have hi2:i<steps.length:=by omega
    have hw:wrap64 ((i:Int)+1)=((i+1:Nat):Int):=by rw [wrap64_id (by omega) (by omega)];omega
    have hr:=rd_S steps i hi2
    have hd:(steps.take m).drop i=steps[i] :: (steps.take m).drop (i+1):=by
      rw [List.drop_eq_getElem_cons (by rw [List.length_take];omega),List.getElem_take]
    have hz:=hs steps[i] (List.getElem_mem hi2)
    rw [hd,doneS]
    refine Ev.step (fun k=>by rw [spec_StepsDone.l0]) ?_
    refine Ev.pos (by omega) (Ev.pos (by omega) (Ev.pos (by omega) ?_))
    rw [hr]
    generalize steps[i]=s at hr hz
    have hsz:=l06step_size s
    have hby:=l06step_byte s
    refine Ev.bind (l06Step_ev s hz) ?_
    unfold stepS
    generalize l06step s=q at hsz hby
    obtain ⟨nm,tn,id,ok⟩:=q
    have nostep:Ev (fun k=>spec_StepsDone.j1 k steps (m:Int) l (i:Int) nm tn id true) (doneRes none):=by
      refine Ev.step (fun k=>by rw [spec_StepsDone.j1]) ?_
      exact Ev.pos rfl (Ev.now _)
    simp only at hsz hby ⊢
    cases ok with
    | false=>exact Ev.neg (by decide) (Ev.of_eq nostep (by rw [if_neg (fun h=>by cases h.1)]))
    | true=>
      obtain ⟨h2,hby⟩:=hby rfl
      refine Ev.pos rfl (Ev.bind (spec_NameOk_ev nm (by omega)) ?_)
      cases hno:nameOk nm.data.toList with
      | false=>exact Ev.neg (by decide) (Ev.of_eq nostep (by rw [if_neg (fun h=>by cases h.2.1)]))
      | true=>
        refine Ev.pos rfl (Ev.pos (by omega) ?_)
        have next:∀ id2:Int,(∀ l2,(if bt s 0=43 then putW nm id2 l false else if bt s 0=45 then dropS l nm else putW tn id2 (dropS l nm) false)=l2→l2.length≤l.length+1)→Ev (fun k=>spec_StepsDone.j2 k steps (m:Int) l (i:Int) nm tn id2) (doneRes (doneS (if bt s 0=43 then putW nm id2 l false else if bt s 0=45 then dropS l nm else putW tn id2 (dropS l nm) false) ((steps.take m).drop (i+1)))):=fun id2 hlen=>by
          refine Ev.step (fun k=>by rw [spec_StepsDone.j2]) ?_
          refine Ev.pos (by omega) (Ev.pos (by omega) ?_)
          rw [hr,hw]
          obtain ⟨l2,hl2⟩:∃ l2,(if bt s 0=43 then putW nm id2 l false else if bt s 0=45 then dropS l nm else putW tn id2 (dropS l nm) false)=l2:=⟨_,rfl⟩
          have ih2:=ih (i+1) l2 (by omega) (by have:=hlen l2 hl2;omega)
          rw [hl2]
          refine Ev.pos (by omega) ?_
          by_cases h43:bt s 0=43
          · rw [if_pos h43] at hl2
            subst hl2
            exact Ev.pos h43 (Ev.neg (by omega) (Ev.bind (l06Put_ev nm id2 l (by omega)) ih2))
          rw [if_neg h43] at hl2
          refine Ev.neg h43 (Ev.bind (l06Drop_ev nm l (by omega)) ?_)
          by_cases h45:bt s 0=45
          · rw [if_pos h45] at hl2
            subst hl2
            exact Ev.pos h45 ih2
          · rw [if_neg h45] at hl2
            subst hl2
            have hdl:(dropS l nm).length≤l.length:=List.length_filter_le ..
            exact Ev.neg h45 (Ev.bind (l06Put_ev tn id2 (dropS l nm) (by omega)) ih2)
        have go:∀ P:Prop,∀ dec:Decidable P,P→Ev (fun k=>spec_StepsDone.j1 k steps (m:Int) l (i:Int) nm tn id false) (doneRes (match (if P then some (if bt s 0=43 then putW nm id l false else if bt s 0=45 then dropS l nm else putW tn (entAt l nm) (dropS l nm) false) else none) with | none=>none | some l'=>doneS l' ((steps.take m).drop (i+1)))):=fun P dec hP=>by
          rw [if_pos hP]
          refine Ev.step (fun k=>by rw [spec_StepsDone.j1]) ?_
          refine Ev.neg (by decide) (Ev.pos (by omega) (Ev.pos (by omega) ?_))
          rw [hr]
          have hlen:∀ id2:Int,∀ l2,(if bt s 0=43 then putW nm id2 l false else if bt s 0=45 then dropS l nm else putW tn id2 (dropS l nm) false)=l2→l2.length≤l.length+1:=fun id2 l2 h=>by
            subst h
            have hdl:(dropS l nm).length≤l.length:=List.length_filter_le ..
            split
            · exact putW_length ..
            split
            · omega
            · exact Nat.le_trans (putW_length ..) (by simpa using hdl)
          refine Ev.pos (by omega) ?_
          by_cases h62:bt s 0=62
          · refine Ev.pos h62 (Ev.bind (spec_EntryAt_ev l nm (by omega)) ?_)
            refine Ev.of_eq (next (entAt l nm) (hlen _)) ?_
            simp only [if_neg (by omega:¬ bt s 0=43),if_neg (by omega:¬ bt s 0=45)]
          · refine Ev.neg h62 (Ev.of_eq (next id (hlen _)) ?_)
            rcases hby with h | h | h
            · simp only [if_pos h]
            · simp only [if_neg (by omega:¬ bt s 0=43),if_pos h]
            · exact absurd h h62
        by_cases h43:bt s 0=43
        · exact Ev.pos h43 (go _ _ ⟨rfl,rfl,.inl h43⟩)
        · refine Ev.neg h43 (Ev.bind (spec_l06Has_ev l nm (by omega)) ?_)
          by_cases hp:0≤placeE l nm
          · rw [zt hp]
            exact go _ _ ⟨rfl,rfl,.inr hp⟩
          · rw [zf hp]
            exact Ev.of_eq nostep (by rw [if_neg (fun h=>h.2.2.elim h43 hp)])
theorem StepsDone_ev (old:List S47) (steps:List ByteArray) (hn:old.length+steps.length≤1048576) (hs:∀ s∈steps,s.size≤1048576) (m:Nat) (hm:m≤steps.length) :
    Ev (fun k=>spec_StepsDone.f k old steps (m:Int)) (doneRes (doneS old (steps.take m))):=by
  unfold spec_StepsDone.f
  refine Ev.bind (Ev.const rfl) (Ev.pos (by simp;omega) (Ev.bind (spec_Brought_ev _ _ _) ?_))
  have hb:brought (m:Int) 0 (steps.length:Int)=(m:Int):=by
    unfold brought
    rw [if_neg (by omega),if_neg (by omega),if_neg (by omega)]
  rw [hb,List.nil_append]
  exact StepsDone_l0 steps (by omega) hs m hm m 0 old (by omega) (by omega)
theorem impl_Decimal_f (n:Int) (hn : -9223372036854775808≤n∧n≤9223372036854775807):impl_Decimal.f n=some (mkT (Go.Lib.itoa n)):=by
  unfold impl_Decimal.f
  rw [if_pos hn];rfl
theorem within_f (a b c:Int):impl_within.f a b c=some (decide (b≤a∧a≤c)):=by
  unfold impl_within.f
  by_cases h:a≥b
  · rw [if_pos h];congr 1;rw [decide_eq_decide];omega
  · rw [if_neg h];congr 1;symm;rw [decide_eq_false_iff_not];omega
theorem isNumber_f (a:Int):impl_isNumber.f a=some (decide (0≤a∧a≤1000000000)):=by
  unfold impl_isNumber.f
  rw [within_f];rfl
theorem parseUint10_dig:∀ (l:List UInt8) (acc:Nat),(∀ c∈l,isDig c)→dval acc l≤1000000000→Go.Lib.parseUint10 acc l=.ok (dval acc l):=by
  intro l
  induction l with
  | nil=>intro acc _ _;rfl
  | cons c l ih=>
    intro acc h hv
    have hc:=h c (List.mem_cons_self ..)
    unfold isDig at hc
    rw [dval_cons] at hv
    have h1:=dval_le l (10*acc+(c.toNat-48))
    have:=ih (10*acc+(c.toNat-48)) (fun d hd=>h d (List.mem_cons_of_mem _ hd)) hv
    rw [Go.Lib.parseUint10,if_pos hc,if_neg (by omega),if_neg (by omega),dval_cons,Nat.mul_comm acc 10]
    exact this
theorem atoiAll_dec {l:List UInt8} {v:Int} (h:IsDec l v):Go.Lib.atoiAll l=.ok v:=by
  obtain ⟨hd,hv,hne,_⟩:=isDec_val h
  obtain ⟨h0,h1,_⟩:=h
  cases l with
  | nil=>exact absurd rfl hne
  | cons c l=>
    have hc:=hd c (List.mem_cons_self ..)
    unfold isDig at hc
    have hp:=parseUint10_dig (c :: l) 0 hd (by omega)
    unfold Go.Lib.atoiAll
    simp only
    rw [if_neg (by omega)]
    unfold Go.Lib.parseMag
    rw [if_neg (by simp),hp]
    simp only
    rw [if_neg (by omega),if_neg (by omega),if_neg (by omega),hv]
theorem impl_ReadDecimal_f (s:ByteArray) (hs:s.size≤281474976710656):impl_ReadDecimal.f s=some (readDec s):=by
  unfold impl_ReadDecimal.f
  rw [if_pos hs]
  by_cases hx:∃ v,IsDec s.data.toList v
  · obtain ⟨v,hv⟩:=hx
    rw [readDec_of hv,atoiAll_dec hv]
    obtain ⟨v0,v1,v2⟩:=hv
    simp only
    rw [isNumber_f,impl_Decimal_f v (by omega)]
    simp only [Option.bind_some]
    rw [if_pos (zt ⟨v0,v1⟩),if_pos]
    rw [ByteArray.toList_eq,ByteArray.toList_eq,mkT_list,v2]
  · rw [readDec_no hx]
    cases hv:Go.Lib.atoiAll s.data.toList with
    | ok v=>
      simp only
      rw [isNumber_f]
      simp only [Option.bind_some]
      by_cases c:0≤v∧v≤1000000000
      · rw [if_pos (zt c),impl_Decimal_f v (by omega)]
        simp only [Option.bind_some]
        rw [if_neg]
        intro e
        rw [ByteArray.toList_eq,ByteArray.toList_eq,mkT_list] at e
        exact hx ⟨v,c.1,c.2,e⟩
      · rw [if_neg (by rw [zf c];decide)]
    | _=>rfl
theorem bt_get (s:ByteArray) (h:0<s.size):bt s 0=((s.get! 0).toNat:Int):=by
  have h1:=bt_list s 0 (by rw [size_list];exact h)
  have h2:s.get! 0=s.data.toList[0]'(by rw [size_list];exact h):=by
    show s.data[0]! = _
    rw [getElem!_pos s.data 0 h,Array.getElem_toList]
  rw [h2]
  exact h1
theorem get_iff (s:ByteArray) (h:0<s.size) (c:UInt8):s.get! 0=c↔bt s 0=(c.toNat:Int):=by
  rw [bt_get s h]
  exact ⟨fun e=>by rw [e],fun e=>UInt8.toNat_inj.mp (Int.ofNat_inj.mp e)⟩
theorem ext_list (s:ByteArray) (a b:Nat):(s.extract a b).data.toList=(s.data.toList.drop a).take (b-a):=by
  rw [ByteArray.data_extract,Array.toList_extract]
  first | done | rfl
theorem ba_of {l:List UInt8} {t:ByteArray} (h:t.data.toList=l):(⟨l.toArray⟩:ByteArray)=t:=by
  apply ByteArray.ext;apply Array.ext'
  exact h.symm
theorem cutR_eq (s:ByteArray):cutR (s.extract 1 s.size)=match cutAt 58 (s.data.toList.drop 1) with | none=>(s.extract 1 s.size,⟨#[]⟩,false) | some p=>(s.extract 1 (1+p.1.length),s.extract (1+p.1.length+1) s.size,true):=by
  have hu:(s.extract 1 s.size).data.toList=s.data.toList.drop 1:=by
    rw [ext_list,List.take_of_length_le (by rw [List.length_drop,size_list];exact Nat.le_refl _)]
  unfold cutR
  rw [hu]
  rcases cutAt_index 58 (s.data.toList.drop 1) with ⟨h,_⟩ | ⟨i,hi,_,h⟩
  · rw [h]
  · rw [h]
    have hl:((s.data.toList.drop 1).take i).length=i:=by rw [List.length_take];omega
    refine Prod.ext (ba_of ?_) (Prod.ext (ba_of ?_) rfl)
    · rw [ext_list,hl]
      congr 1
      omega
    · rw [ext_list,hl,List.drop_drop,List.take_of_length_le (by rw [List.length_drop,size_list];exact Nat.le_refl _),show 1+(i+1)=1+i+1 by omega]
theorem nameOk_nil:nameOk []=false:=rfl
theorem dropR_eq {l:List S47} (ho:inOrder l) (n:ByteArray):dropR l n=if 0≤placeE l n∧nameOk n.data.toList=true then (dropS l n,true) else ([],false):=by
  unfold dropR
  rw [nmOk_nameOk]
  by_cases h:0≤placeE l n∧nameOk n.data.toList=true
  · rw [if_pos h]
    refine (if_pos h).trans ?_
    rw [erase_dropS n l ho h.1]
  · rw [if_neg h]
    exact if_neg h
theorem stepR_eq {l:List S47} (ho:inOrder l) (s:ByteArray) (rd:ByteArray→Int×Bool) (hrd:s.get! 0=43→rd (cutR (s.extract 1 s.size)).2.1=readDec (cutR (s.extract 1 s.size)).2.1):stepR rd l s=doneRes (stepS l s):=by
  have no:(l06step s).2.2.2=false→doneRes (stepS l s)=([],false):=fun h=>by
    unfold stepS
    rw [if_neg (fun q=>by rw [h] at q;cases q.1)];rfl
  unfold stepR
  rw [nmOk_nameOk]
  by_cases h0:s.size=0
  · rw [if_pos h0,no]
    unfold l06step
    rw [if_pos (by omega:s.size<2)]
    rfl
  rw [if_neg h0]
  have hpos:0<s.size:=by omega
  have g43:=get_iff s hpos 43
  have g45:=get_iff s hpos 45
  have g62:=get_iff s hpos 62
  replace g43:s.get! 0=43↔bt s 0=43:=g43
  replace g45:s.get! 0=45↔bt s 0=45:=g45
  replace g62:s.get! 0=62↔bt s 0=62:=g62
  by_cases h43:s.get! 0=43
  · rw [if_pos h43,hrd h43]
    have b43:=g43.mp h43
    rw [cutR_eq]
    have hs:l06step s=if s.size<2 then noStep else stepOut s 1 (cutAt 58 (s.data.toList.drop 1)):=by
      unfold l06step
      rw [if_neg (by omega:¬ bt s 0=45),if_pos (Or.inl b43:bt s 0=43∨bt s 0=62)]
    cases hc:cutAt 58 (s.data.toList.drop 1) with
    | none=>
      rw [no (by rw [hs,hc];split <;> rfl)]
      exact if_neg fun h=>by cases h.1
    | some p=>
      have h2:¬ s.size<2:=fun h=>by
        rw [List.drop_eq_nil_of_le (by rw [size_list];omega)] at hc
        cases hc
      rw [hc,if_neg h2] at hs
      have hf:l06step s=(s.extract 1 (1+p.1.length),⟨#[]⟩,(readDec (s.extract (1+p.1.length+1) s.size)).1,(readDec (s.extract (1+p.1.length+1) s.size)).2 && nameOk (s.extract 1 (1+p.1.length)).data.toList):=by
        rw [hs]
        exact if_neg (by omega)
      simp only
      unfold stepS
      rw [hf]
      generalize s.extract (1+p.1.length+1) s.size=r
      generalize s.extract 1 (1+p.1.length)=n
      simp only
      rw [if_pos b43,putI_putR _ _ l ho,← putW_putR _ _ l ho]
      cases (readDec r).2 <;> cases nameOk n.data.toList <;> simp [b43,doneRes]
  rw [if_neg h43]
  by_cases h45:s.get! 0=45
  · rw [if_pos h45,dropR_eq ho]
    have b45:=g45.mp h45
    by_cases h2:s.size<2
    · have hs:l06step s=noStep:=by unfold l06step;rw [if_pos h2]
      rw [no (by rw [hs];rfl),if_neg]
      rw [ext_list,List.drop_eq_nil_of_le (by rw [size_list];omega),List.take_nil,nameOk_nil]
      intro h;cases h.2
    · have hs:l06step s=(s.extract 1 s.size,⟨#[]⟩,0,true):=by unfold l06step;rw [if_neg h2,if_pos b45]
      unfold stepS
      rw [hs]
      simp only
      rw [if_neg (by omega:¬ bt s 0=43),if_pos b45]
      by_cases hp:0≤placeE l (s.extract 1 s.size)∧nameOk (s.extract 1 s.size).data.toList=true
      · rw [if_pos hp,if_pos ⟨trivial,hp.2,.inr hp.1⟩];rfl
      · rw [if_neg hp,if_neg (fun h=>hp ⟨h.2.2.resolve_left (by omega),h.2.1⟩)];rfl
  rw [if_neg h45]
  by_cases h62:s.get! 0=62
  · rw [if_pos h62]
    have b62:=g62.mp h62
    rw [cutR_eq]
    have hs:l06step s=if s.size<2 then noStep else stepOut s 1 (cutAt 58 (s.data.toList.drop 1)):=by
      unfold l06step
      rw [if_neg (by omega:¬ bt s 0=45),if_pos (Or.inr b62:bt s 0=43∨bt s 0=62)]
    cases hc:cutAt 58 (s.data.toList.drop 1) with
    | none=>
      rw [no (by rw [hs,hc];split <;> rfl)]
      exact if_neg fun h=>by cases h.1
    | some p=>
      have h2:¬ s.size<2:=fun h=>by
        rw [List.drop_eq_nil_of_le (by rw [size_list];omega)] at hc
        cases hc
      rw [hc,if_neg h2] at hs
      have hf:l06step s=(s.extract 1 (1+p.1.length),s.extract (1+p.1.length+1) s.size,0,nameOk (s.extract (1+p.1.length+1) s.size).data.toList && ((s.extract 1 (1+p.1.length)).toList != (s.extract (1+p.1.length+1) s.size).toList)):=by
        rw [hs]
        exact if_pos b62
      simp only
      unfold stepS
      rw [hf]
      generalize s.extract (1+p.1.length+1) s.size=r
      generalize s.extract 1 (1+p.1.length)=n
      simp only
      rw [if_neg (by omega:¬ bt s 0=43),if_neg (by omega:¬ bt s 0=45),dropR_eq ho]
      have hent:entryAt l n=entAt l n:=rfl
      rw [hent]
      by_cases hp:0≤placeE l n∧nameOk n.data.toList=true
      · rw [if_pos hp,putI_putR _ _ _ (dropS_inOrder n ho),← putW_putR _ _ _ (dropS_inOrder n ho)]
        rw [hp.2]
        cases nameOk r.data.toList <;> cases hq:(n.toList == r.toList) <;> simp [bne,hq,hp.1,doneRes]
      · rw [if_neg hp,if_neg (fun h=>by cases h.2.1),if_neg (fun h=>hp ⟨h.2.2.resolve_left (by omega),h.2.1⟩)];rfl
  · rw [if_neg h62,no]
    unfold l06step
    have n45:¬ bt s 0=45:=fun e=>h45 (g45.mpr e)
    have n46:¬ (bt s 0=43∨bt s 0=62):=fun e=>e.elim (fun e=>h43 (g43.mpr e)) fun e=>h62 (g62.mpr e)
    rw [if_neg n45,if_neg n46]
    split <;> rfl
theorem impl_stepDone_f {l:List S47} (ho:inOrder l) (hl:l.length≤1048576) (s:ByteArray) (hs:s.size≤1048576):impl_stepDone.f l s=some (doneRes (stepS l s)):=by
  unfold impl_stepDone.f
  rw [if_pos ⟨by omega,by omega⟩]
  have hc:=(cutR_size (s.extract 1 s.size)).2
  have he:=ext_size s 1 s.size
  by_cases h:s.get! 0=43
  · rw [if_pos h,impl_ReadDecimal_f _ (by omega)]
    exact congrArg some (stepR_eq ho s _ fun _=>rfl)
  · rw [if_neg h,stepR_eq ho s _ fun e=>absurd e h]
def usedOn:List S45→Nat
  | []=>0
  | x :: l=>x.f1.size+usedOn l
theorem spec_UsedOn_l0 (a:List S45) (b c:List S47) (d:List ByteArray) (e f:Int) (hl:a.length≤1048576) (hu:usedOn a≤1048576) (n:Nat):∀ (i x:Nat),i+n=a.length→x+usedOn (a.drop i)=usedOn a→
    Ev (fun k=>spec_UsedOn.l0 k (x:Int) (i:Int) a b c d e f) ((usedOn a:Nat):Int):=by
  induction n with
  | zero=>
    intro i x hi hx
    refine Ev.step (fun k=>by rw [spec_UsedOn.l0]) (Ev.neg (by omega) (Ev.const ?_))
    rw [List.drop_eq_nil_of_le (by omega),usedOn] at hx
    rw [show x=usedOn a by omega]
  | succ n ih=>
    intro i x hi hx
    have hi2:i<a.length:=by omega
    rw [List.drop_eq_getElem_cons hi2,usedOn] at hx
    refine Ev.step (fun k=>by rw [spec_UsedOn.l0]) (Ev.pos (by omega) (Ev.pos (by omega) ?_))
    rw [rd_INode a i hi2,wrap64_id (x:=(i:Int)+1) (by omega) (by omega),wrap64_id (by omega) (by omega)]
    exact ih (i+1) (x+a[i].f1.size) (by omega) (by omega)
theorem spec_UsedOn_ev (a:List S45) (b c:List S47) (d:List ByteArray) (e f:Int) (hl:a.length≤1048576) (hu:usedOn a≤1048576) :
    Ev (fun k=>spec_UsedOn.f k a b c d e f) ((usedOn a:Nat):Int):=by
  unfold spec_UsedOn.f
  exact spec_UsedOn_l0 a b c d e f hl hu a.length 0 0 (by omega) (by rw [List.drop_zero];omega)
theorem impl_UsedOn_l0 (a:List S45) (hl:a.length≤1048576) (hu:usedOn a≤1048576) (n:Nat):∀ (i x:Nat),i+n=a.length→x+usedOn (a.drop i)=usedOn a→
    Ev (fun k=>impl_UsedOn.l0 k (x:Int) a (a.length:Int) (i:Int)) ((usedOn a:Nat):Int):=by
  induction n with
  | zero=>
    intro i x hi hx
    refine Ev.step (fun k=>by rw [impl_UsedOn.l0]) (Ev.neg (by omega) (Ev.const ?_))
    rw [List.drop_eq_nil_of_le (by omega),usedOn] at hx
    rw [show x=usedOn a by omega]
  | succ n ih=>
    intro i x hi hx
    have hi2:i<a.length:=by omega
    rw [List.drop_eq_getElem_cons hi2,usedOn] at hx
    refine Ev.step (fun k=>by rw [impl_UsedOn.l0]) (Ev.pos (by omega) (Ev.pos (by omega) (Ev.pos (by omega) ?_)))
    rw [rd_INode a i hi2,wrap64_id (x:=(i:Int)+1) (by omega) (by omega),wrap64_id (by omega) (by omega)]
    exact ih (i+1) (x+a[i].f1.size) (by omega) (by omega)
theorem impl_UsedOn_ev (a:List S45) (b c:List S47) (d:List ByteArray) (e f:Int) (hl:a.length≤1048576) (hu:usedOn a≤1048576) :
    Ev (fun k=>impl_UsedOn.f k a b c d e f) ((usedOn a:Nat):Int):=by
  unfold impl_UsedOn.f
  exact impl_UsedOn_l0 a hl hu a.length 0 0 (by omega) (by rw [List.drop_zero];omega)
def eqW {α:Type} (p:α→α→Bool):List α→List α→Bool
  | [],[]=>true
  | x :: xs,y :: ys=>p x y && eqW p xs ys
  | _,_=>false
theorem eqW_len {α:Type} (p:α→α→Bool):∀ (xs ys:List α),xs.length≠ys.length→eqW p xs ys=false
  | [],[],h=>absurd rfl h
  | [],_ :: _,_=>rfl
  | _ :: _,[],_=>rfl
  | x :: xs,y :: ys,h=>by
    unfold eqW
    rw [eqW_len p xs ys (by intro e;apply h;rw [List.length_cons,List.length_cons,e]),Bool.and_false]
theorem eqW_drop {α:Type} (p:α→α→Bool) (xs ys:List α) (i:Nat) (hx:i<xs.length) (hy:i<ys.length):eqW p (xs.drop i) (ys.drop i)=(p xs[i] ys[i] && eqW p (xs.drop (i+1)) (ys.drop (i+1))):=by
  rw [List.drop_eq_getElem_cons hx,List.drop_eq_getElem_cons hy];rfl
theorem eqW_end {α:Type} (p:α→α→Bool) (xs ys:List α) (i:Nat) (hx:xs.length≤i) (hy:ys.length≤i):eqW p (xs.drop i) (ys.drop i)=true:=by
  rw [List.drop_eq_nil_of_le hx,List.drop_eq_nil_of_le hy];rfl
theorem eqW_iff {α:Type} (p:α→α→Bool) (hp:∀ x y,p x y=true↔x=y):∀ (xs ys:List α),eqW p xs ys=true↔xs=ys
  | [],[]=>by simp [eqW]
  | [],_ :: _=>by simp [eqW]
  | _ :: _,[]=>by simp [eqW]
  | x :: xs,y :: ys=>by simp [eqW,hp,eqW_iff p hp xs ys]
theorem ba_eq_of_toList {x y:ByteArray}:x.toList=y.toList↔x=y:=by
  rw [ByteArray.toList_eq,ByteArray.toList_eq]
  constructor
  · intro h;cases x;cases y;simp only at h;rw [Array.toList_inj.1 h]
  · intro h;rw [h]
def eqE (x y:S47):Bool:=(x.f0.toList == y.f0.toList) && (x.f1 == y.f1)
theorem eqE_iff (x y:S47):eqE x y=true↔x=y:=by
  unfold eqE
  rw [Bool.and_eq_true,beq_iff_eq,beq_iff_eq,ba_eq_of_toList]
  cases x;cases y;simp
theorem eqE_not (x y:S47):(!(x.f0.toList == y.f0.toList) || !(x.f1 == y.f1))=!eqE x y:=by unfold eqE;rw [Bool.not_and]
theorem l06Same_l0 (xs ys:List S47) (hl:xs.length=ys.length) (hx:xs.length≤140737488355328) (n:Nat):∀ (i:Nat),i+n=xs.length→
    Ev (fun k=>spec_l06Same.l0 k xs ys (i:Int)) (eqW eqE (xs.drop i) (ys.drop i)):=by
  induction n with
  | zero=>
    intro i hi
    rw [eqW_end _ _ _ _ (by omega) (by omega)]
    refine Ev.step (fun k=>by rw [spec_l06Same.l0]) ?_
    exact Ev.neg (by omega) (Ev.now _)
  | succ n ih=>
    intro i hi
    rw [eqW_drop _ _ _ _ (by omega) (by omega)]
    refine Ev.step (fun k=>by rw [spec_l06Same.l0]) (Ev.pos (by omega) (Ev.pos (by omega) (Ev.pos (by omega) ?_)))
    rw [rd_IEntry xs i (by omega),rd_IEntry ys i (by omega),eqE_not]
    by_cases h:eqE (xs[i]'(by omega)) (ys[i]'(by omega))=true
    · rw [h,Bool.true_and]
      refine Ev.neg (by decide) ?_
      rw [wrap64_id (by omega) (by omega)]
      exact ih (i+1) (by omega)
    · rw [Bool.eq_false_iff.2 h,Bool.false_and]
      exact Ev.pos (by decide) (Ev.now _)
theorem l06Same_ev (xs ys:List S47) (hx:xs.length≤140737488355328):Ev (fun k=>spec_l06Same.f k xs ys) (eqW eqE xs ys):=by
  unfold spec_l06Same.f
  by_cases h:xs.length=ys.length
  · exact Ev.pos (by omega) (l06Same_l0 xs ys h hx xs.length 0 (by omega))
  · rw [eqW_len _ _ _ h]
    exact Ev.neg (by omega) (Ev.now _)
theorem slicesEqualEntry_l0 (xs ys:List S47) (hl:xs.length=ys.length) (hx:xs.length≤140737488355328) (n:Nat):∀ (i:Nat),i+n=xs.length→
    Ev (fun k=>impl_Entry_74.l0 k xs ys (xs.length:Int) (i:Int)) (eqW eqE (xs.drop i) (ys.drop i)):=by
  induction n with
  | zero=>
    intro i hi
    rw [eqW_end _ _ _ _ (by omega) (by omega)]
    refine Ev.step (fun k=>by rw [impl_Entry_74.l0]) ?_
    exact Ev.neg (by omega) (Ev.now _)
  | succ n ih=>
    intro i hi
    rw [eqW_drop _ _ _ _ (by omega) (by omega)]
    refine Ev.step (fun k=>by rw [impl_Entry_74.l0]) (Ev.pos (by omega) (Ev.pos (by omega) (Ev.pos (by omega) (Ev.pos (by omega) ?_))))
    rw [rd_IEntry xs i (by omega),rd_IEntry ys i (by omega)]
    rw [eqE_not]
    by_cases h:eqE (xs[i]'(by omega)) (ys[i]'(by omega))=true
    · rw [h,Bool.true_and]
      refine Ev.neg (by decide) ?_
      rw [wrap64_id (by omega) (by omega)]
      exact ih (i+1) (by omega)
    · rw [Bool.eq_false_iff.2 h,Bool.false_and]
      exact Ev.pos (by decide) (Ev.now _)
theorem slicesEqualEntry_ev (xs ys:List S47) (hx:xs.length≤140737488355328):Ev (fun k=>impl_Entry_74.f k xs ys) (eqW eqE xs ys):=by
  unfold impl_Entry_74.f
  by_cases h:xs.length=ys.length
  · exact Ev.pos (by omega) (slicesEqualEntry_l0 xs ys h hx xs.length 0 (by omega))
  · rw [eqW_len _ _ _ h]
    exact Ev.neg (by omega) (Ev.now _)
def fine (a:List S45) (l:List S47):Bool:=entriesFine a none l && decide ((l.length:Int)≤16)
theorem entriesFine_order (a:List S45):∀ (l:List S47) (p:Option ByteArray),entriesFine a p l=true→(∀ q,p=some q→∀ x∈l,Op.bytesLess q.toList x.f0.toList=true)∧inOrder l
  | [],_,_=>⟨fun _ _ _ h=>absurd h List.not_mem_nil,List.Pairwise.nil⟩
  | x :: l,p,h=>by
    rw [entriesFine,Bool.and_eq_true] at h
    obtain ⟨h1,h2⟩:=h
    obtain ⟨i1,i2⟩:=entriesFine_order a l (some x.f0) h2
    refine ⟨fun q hq y hy=>?_,List.pairwise_cons.mpr ⟨i1 x.f0 rfl,i2⟩⟩
    subst hq
    have hqx:Op.bytesLess q.toList x.f0.toList=true:=by
      unfold entryFine at h1
      rw [Bool.and_eq_true] at h1
      have h3:=h1.1
      replace h3:(!nameLe x.f0 q)=true:=h3
      unfold nameLe at h3
      rw [← bl_not,Bool.not_not] at h3
      exact h3
    rcases List.mem_cons.mp hy with rfl | hy
    · exact hqx
    · exact bl_trans _ _ _ hqx (i1 x.f0 rfl y hy)
theorem fine_order {a:List S45} {l:List S47} (h:fine a l=true):inOrder l:=by
  unfold fine at h
  rw [Bool.and_eq_true] at h
  exact (entriesFine_order a l none h.1).2
section
variable (a:List S45) (b c:List S47) (d:List ByteArray) (e f:Int)
theorem entS_ev (ha:a.length≤1048576):∀ (l:List S47) (p:Option ByteArray),(∀ x∈l,x.f0.size≤1048576)→Ev (fun k=>entS k a b c d e f p l) (entriesFine a p l)
  | [],p,_=>by
    refine Ev.congr (fun k=>by rw [entS]) ?_
    exact Ev.now _
  | x :: l,p,h=>by
    have ih:=entS_ev ha l (some x.f0) fun y hy=>h y (List.mem_cons_of_mem _ hy)
    have hx:=h x (List.mem_cons_self ..)
    rw [entriesFine]
    unfold entryFine
    rw [nmOk_nameOk]
    refine Ev.congr (g:=fun k=>(spec_NameOk.f k x.f0).bind fun t=>if t=true then ((spec_l05Node.f k a b c d e f x.f1).bind fun t=>if t<0 then some false else if (match p with | none=>false | some q=>!Op.bytesLess q.toList x.f0.toList)=true then some false else entS k a b c d e f (some x.f0) l) else some false) (fun k=>rfl) ?_
    refine Ev.bind (spec_NameOk_ev x.f0 (by omega)) ?_
    cases nameOk x.f0.data.toList with
    | false=>exact Ev.of_eq (Ev.neg (by decide) (Ev.now false)) (by simp)
    | true=>
      refine Ev.pos rfl (Ev.bind (spec_l05Node_ev a b c d e f x.f1 ha) ?_)
      have hi:idxOf (fun n:S45=>n.f0 == x.f1) a 0=nodeIx a x.f1:=rfl
      rw [hi]
      by_cases hn:nodeIx a x.f1<0
      · exact Ev.of_eq (Ev.pos hn (Ev.now false)) (by rw [zf (by omega)];simp)
      · refine Ev.neg hn ?_
        rw [zt (by omega)]
        cases p with
        | none=>exact Ev.of_eq (Ev.neg (fun h=>by cases h) ih) (by simp)
        | some q=>
          simp only [nameLe]
          rw [← bl_not,Bool.not_not]
          by_cases hb:Op.bytesLess q.toList x.f0.toList=true
          · exact Ev.of_eq (Ev.neg (by rw [hb];decide) ih) (by rw [hb];simp)
          · have hb:=Bool.eq_false_iff.mpr hb
            exact Ev.of_eq (Ev.pos (by rw [hb];rfl) (Ev.now false)) (by rw [hb];simp)
theorem l05Entries_ev (ha:a.length≤1048576) (l:List S47) (hl:∀ x∈l,x.f0.size≤1048576):Ev (fun k=>spec_l05Entries.f k a b c d e f l) (fine a l):=by
  unfold spec_l05Entries.f fine
  refine Ev.bind (entS_ev a b c d e f ha l none hl) ?_
  cases entriesFine a none l with
  | false=>exact Ev.neg (by decide) (Ev.now _)
  | true=>exact Ev.pos rfl (Ev.now _)
theorem areEntries_f (l:List S47) (hl:∀ x∈l,x.f0.size≤1048576):impl_Disk_areEntries.f a b c d e f l=some (fine a l):=by
  unfold impl_Disk_areEntries.f fine
  rw [if_pos (fun x hx=>Nat.le_trans (hl x hx) (by decide))]
noncomputable def okFrom:List S47→List ByteArray→Bool
  | now,[]=>fine a now && eqW eqE now b
  | now,s :: r=>fine a now && (match stepS now s with | none=>false | some l=>okFrom l r)
theorem impl_DiskOk_l0 (hd:d.length≤1048576) (hs:∀ s∈d,s.size≤1048576) (n:Nat):∀ (i:Nat) (now:List S47),i+n=d.length→(∀ x∈now,x.f0.size≤1048576)→now.length+n≤1048576→
    Ev (fun k=>impl_DiskOk.l0 k now (i:Int) a b c d e f) (okFrom a b now (d.drop i)):=by
  induction n with
  | zero=>
    intro i now hi hx hl
    rw [List.drop_eq_nil_of_le (by omega),okFrom]
    refine Ev.step (fun k=>by rw [impl_DiskOk.l0]) ?_
    refine Ev.bind (Ev.const (areEntries_f a b c d e f now hx)) ?_
    cases fine a now with
    | false=>exact Ev.neg (by decide) (Ev.now _)
    | true=>exact Ev.pos rfl (Ev.pos (by omega) (Ev.bind (slicesEqualEntry_ev now b (by omega)) (Ev.now _)))
  | succ n ih=>
    intro i now hi hx hl
    have hi2:i<d.length:=by omega
    rw [List.drop_eq_getElem_cons hi2,okFrom]
    refine Ev.step (fun k=>by rw [impl_DiskOk.l0]) ?_
    refine Ev.bind (Ev.const (areEntries_f a b c d e f now hx)) ?_
    cases hf:fine a now with
    | false=>exact Ev.neg (by decide) (Ev.now _)
    | true=>
      have hz:=hs d[i] (List.getElem_mem hi2)
      refine Ev.pos rfl (Ev.neg (by omega) (Ev.pos (by omega) (Ev.pos (by omega) ?_)))
      rw [rd_S d i hi2]
      refine Ev.bind (Ev.const (impl_stepDone_f (fine_order hf) (by omega) d[i] hz)) ?_
      cases hst:stepS now d[i] with
      | none=>exact Ev.neg (by decide) (Ev.now _)
      | some l=>
        have:=stepS_length hst
        refine Ev.pos rfl ?_
        rw [show wrap64 ((i:Int)+1)=((i+1:Nat):Int) by rw [wrap64_id (by omega) (by omega)];omega]
        exact ih (i+1) l (by omega) (stepS_small hst hx hz) (by omega)
theorem doneS_small:∀ (r:List ByteArray) (l l':List S47),(∀ s∈r,s.size≤1048576)→(∀ x∈l,x.f0.size≤1048576)→doneS l r=some l'→l'.length≤l.length+r.length∧∀ x∈l',x.f0.size≤1048576
  | [],l,l',_,hl,h=>by
    obtain rfl:l=l':=Option.some.inj h
    exact ⟨Nat.le_refl _,hl⟩
  | s :: r,l,l',hs,hl,h=>by
    rw [doneS] at h
    cases hst:stepS l s with
    | none=>rw [hst] at h;cases h
    | some l2=>
      rw [hst] at h
      have h1:=stepS_length hst
      have h2:=doneS_small r l2 l' (fun s hs'=>hs s (List.mem_cons_of_mem _ hs')) (stepS_small hst hl (hs s (List.mem_cons_self ..))) h
      exact ⟨by rw [List.length_cons];omega,h2.2⟩
def okRest (o:Option (List S47)) (g:List S47→Bool):Bool:=match o with | none=>false | some now=>g now
theorem spec_DiskOk_l1 (ha:a.length≤1048576) (hcd:c.length+d.length≤1048576) (hs:∀ s∈d,s.size≤1048576) (hc:∀ x∈c,x.f0.size≤1048576) (n:Nat):∀ (i:Nat),i+n=d.length→
    Ev (fun k=>spec_DiskOk.l1 k (i:Int) a b c d e f) (okRest (doneS c (d.take i)) fun now=>okFrom a b now (d.drop i)):=by
  induction n with
  | zero=>
    intro i hi
    have hst:∀ s∈d.take i,s.size≤1048576:=fun s h=>hs s (List.mem_of_mem_take h)
    refine Ev.step (fun k=>by rw [spec_DiskOk.l1]) ?_
    refine Ev.pos (by omega) (Ev.bind (StepsDone_ev c d hcd hs i (by omega)) ?_)
    rw [List.drop_eq_nil_of_le (by omega)]
    cases ho:doneS c (d.take i) with
    | none=>exact Ev.neg (by decide) (Ev.now _)
    | some now=>
      obtain ⟨h1,h2⟩:=doneS_small (d.take i) c now hst hc ho
      rw [List.length_take] at h1
      refine Ev.pos rfl (Ev.bind (l05Entries_ev a b c d e f ha now h2) ?_)
      show Ev _ (okFrom a b now [])
      rw [okFrom]
      cases fine a now with
      | false=>exact Ev.neg (by decide) (Ev.now _)
      | true=>
        refine Ev.pos rfl (Ev.pos (by omega) (Ev.bind (l06Same_ev now b (by omega)) ?_))
        cases eqW eqE now b with
        | false=>exact Ev.neg (by decide) (Ev.now _)
        | true=>
          refine Ev.pos rfl ?_
          rw [show wrap64 ((i:Int)+1)=((i+1:Nat):Int) by rw [wrap64_id (by omega) (by omega)];omega]
          refine Ev.step (fun k=>by rw [spec_DiskOk.l1]) ?_
          exact Ev.neg (by omega) (Ev.now _)
  | succ n ih=>
    intro i hi
    have hi2:i<d.length:=by omega
    have ih:=ih (i+1) (by omega)
    have hst:∀ s∈d.take i,s.size≤1048576:=fun s h=>hs s (List.mem_of_mem_take h)
    refine Ev.step (fun k=>by rw [spec_DiskOk.l1]) ?_
    refine Ev.pos (by omega) (Ev.bind (StepsDone_ev c d hcd hs i (by omega)) ?_)
    rw [List.take_succ_eq_append_getElem hi2,doneS_snoc] at ih
    rw [List.drop_eq_getElem_cons hi2]
    cases ho:doneS c (d.take i) with
    | none=>exact Ev.neg (by decide) (Ev.now _)
    | some now=>
      rw [ho] at ih
      obtain ⟨h1,h2⟩:=doneS_small (d.take i) c now hst hc ho
      refine Ev.pos rfl (Ev.bind (l05Entries_ev a b c d e f ha now h2) ?_)
      show Ev _ (okFrom a b now (d[i] :: d.drop (i+1)))
      rw [okFrom]
      cases fine a now with
      | false=>exact Ev.neg (by decide) (Ev.now _)
      | true=>
        refine Ev.pos rfl (Ev.neg (by omega) ?_)
        rw [show wrap64 ((i:Int)+1)=((i+1:Nat):Int) by rw [wrap64_id (by omega) (by omega)];omega]
        refine Ev.of_eq ih ?_
        show okRest (stepS now d[i]) _=_
        cases stepS now d[i] <;> rfl
theorem inR_eq (n low high:Int):inR n low high=decide (low≤n∧n≤high):=by
  unfold inR
  by_cases h1:low≤n <;> by_cases h2:n≤high <;> simp [h1,h2]
theorem spec_DiskOk_l0 (R:Bool) (ha:a.length≤1048576) (hR:Ev (fun k=>spec_DiskOk.l1 k 0 a b c d e f) R) (n:Nat):∀ (i:Nat),i+n=a.length→
    Ev (fun k=>spec_DiskOk.l0 k (i:Int) a b c d e f) (nodesFine f (prevN a i) (a.drop i) && R):=by
  induction n with
  | zero=>
    intro i hi
    rw [List.drop_eq_nil_of_le (by omega),nodesFine,Bool.true_and]
    refine Ev.step (fun k=>by rw [spec_DiskOk.l0]) ?_
    exact Ev.neg (by omega) hR
  | succ n ih=>
    intro i hi
    have hi2:i<a.length:=by omega
    have ih:=ih (i+1) (by omega)
    have hp:prevN a (i+1)=some a[i].f0:=by show some (rd_T45 a (i:Int)).f0=_;rw [rd_INode a i hi2]
    rw [hp] at ih
    rw [List.drop_eq_getElem_cons hi2,nodesFine]
    unfold nodeFine
    rw [inR_eq,inR_eq]
    refine Ev.step (fun k=>by rw [spec_DiskOk.l0]) ?_
    refine Ev.pos (by omega) (Ev.pos (by omega) ?_)
    rw [rd_INode a i hi2]
    refine Ev.bind (Ev.const (l01In_f _ _ _)) ?_
    have hw:wrap64 ((i:Int)+1)=((i+1:Nat):Int):=by rw [wrap64_id (by omega) (by omega)];omega
    cases decide (1≤a[i].f0∧a[i].f0≤wrap64 (f-1)) with
    | false=>exact Ev.of_eq (Ev.neg (by decide) (Ev.now false)) (by simp)
    | true=>
      refine Ev.pos rfl ?_
      have rest:∀ t:Bool,t=true→Ev (fun k=>(spec_l01In.f a[i].f2 0 (a[i].f1.size:Int)).bind fun t=>if t=true then (spec_DiskOk.l0 k (wrap64 ((i:Int)+1)) a b c d e f) else (some false)) ((t && (true && decide (0≤a[i].f2∧a[i].f2≤(a[i].f1.size:Int)))) && nodesFine f (some a[i].f0) (a.drop (i+1)) && R):=fun t ht=>by
        subst ht
        refine Ev.bind (Ev.const (l01In_f _ _ _)) ?_
        rw [hw]
        cases decide (0≤a[i].f2∧a[i].f2≤(a[i].f1.size:Int)) with
        | false=>exact Ev.neg (by decide) (Ev.now _)
        | true=>exact Ev.pos rfl ih
      cases i with
      | zero=>exact Ev.neg (by decide) (rest true rfl)
      | succ j=>
        have hq:prevN a (j+1)=some (a[j]'(by omega)).f0:=by show some (rd_T45 a (j:Int)).f0=_;rw [rd_INode a j (by omega)]
        rw [hq]
        have hwj:wrap64 (((j+1:Nat):Int)-1)=(j:Int):=by rw [wrap64_id (by omega) (by omega)];omega
        refine Ev.pos (by omega) ?_
        rw [hwj,rd_INode a j (by omega)]
        refine Ev.pos (by omega) (Ev.pos (by omega) ?_)
        by_cases hge:(a[j]'(by omega)).f0≥a[j+1].f0
        · refine Ev.of_eq (Ev.pos hge (Ev.now false)) ?_
          have aa:a[j+1].f0≤(a[j]'(by omega)).f0:=hge
          simp only [zt aa]
          simp
        · have aa:¬ a[j+1].f0≤(a[j]'(by omega)).f0:=hge
          refine Ev.neg hge (Ev.of_eq (rest true rfl) ?_)
          simp only [zf aa]
          simp
noncomputable def diskOk:Bool:=decide (a.length≤64) && (decide (0≤e∧e≤1000000000) && (decide (1≤f∧f≤1000000000) && (decide ((usedOn a:Int)≤e) && (nodesFine f none a && okFrom a b c d))))
theorem spec_DiskOk_ev (ha:a.length≤1048576) (hu:usedOn a≤1048576) (hcd:c.length+d.length≤1048576) (hs:∀ s∈d,s.size≤1048576) (hc:∀ x∈c,x.f0.size≤1048576):Ev (fun k=>spec_DiskOk.f k a b c d e f) (diskOk a b c d e f):=by
  have no:Ev (fun k=>spec_DiskOk.j0 k true a b c d e f) false:=by
    refine Ev.step (fun k=>by rw [spec_DiskOk.j0]) ?_
    exact Ev.pos rfl (Ev.now _)
  have h1:=spec_DiskOk_l1 a b c d e f ha hcd hs hc d.length 0 (by omega)
  replace h1:Ev (fun k=>spec_DiskOk.l1 k 0 a b c d e f) (okFrom a b c d):=h1
  have h0:=spec_DiskOk_l0 a b c d e f (okFrom a b c d) ha h1 a.length 0 (by omega)
  replace h0:Ev (fun k=>spec_DiskOk.l0 k 0 a b c d e f) (nodesFine f none a && okFrom a b c d):=h0
  unfold spec_DiskOk.f diskOk
  by_cases g1:a.length≤64
  case neg=>exact Ev.of_eq (Ev.pos (by omega) no) (by rw [zf g1];rfl)
  rw [zt g1,Bool.true_and]
  refine Ev.neg (by omega) (Ev.bind (Ev.const (l01In_f _ _ _)) ?_)
  cases decide (0≤e∧e≤1000000000) with
  | false=>exact Ev.neg (by decide) no
  | true=>
    refine Ev.pos rfl (Ev.bind (Ev.const (l01In_f _ _ _)) ?_)
    cases decide (1≤f∧f≤1000000000) with
    | false=>exact Ev.neg (by decide) no
    | true=>
      refine Ev.pos rfl (Ev.bind (spec_UsedOn_ev a b c d e f ha hu) ?_)
      by_cases g2:(usedOn a:Int)≤e
      · rw [zt g2,zf (by omega:¬ (usedOn a:Int)>e)]
        refine Ev.step (fun k=>by rw [spec_DiskOk.j0]) ?_
        exact Ev.neg (by decide) h0
      · rw [zf g2,zt (by omega:(usedOn a:Int)>e)]
        exact no
theorem impl_DiskOk_ev (ha:a.length≤1048576) (hu:usedOn a≤1048576) (hcd:c.length+d.length≤1048576) (hs:∀ s∈d,s.size≤1048576) (hc:∀ x∈c,x.f0.size≤1048576):Ev (fun k=>impl_DiskOk.f k a b c d e f) (diskOk a b c d e f):=by
  have no:Ev (fun k=>impl_DiskOk.j0 k true a b c d e f) false:=by
    refine Ev.step (fun k=>by rw [impl_DiskOk.j0]) ?_
    exact Ev.pos rfl (Ev.now _)
  have h0:=impl_DiskOk_l0 a b c d e f (by omega) hs d.length 0 c (by omega) hc (by omega)
  replace h0:Ev (fun k=>impl_DiskOk.l0 k c 0 a b c d e f) (okFrom a b c d):=h0
  have hcl:impl_Entry_83.f c=some c:=by
    unfold impl_Entry_83.f
    exact if_pos (by omega)
  have hn:impl_Disk_areNodes.f a b c d e f=some (nodesFine f none a && decide (a.length≤64)):=by
    unfold impl_Disk_areNodes.f
    congr 2
    rw [decide_eq_decide];omega
  unfold impl_DiskOk.f diskOk
  refine Ev.bind (Ev.const (isNumber_f _)) ?_
  cases decide (0≤e∧e≤1000000000) with
  | false=>exact Ev.of_eq (Ev.neg (by decide) no) (by simp)
  | true=>
    refine Ev.pos rfl (Ev.bind (Ev.const (within_f _ _ _)) ?_)
    cases decide (1≤f∧f≤1000000000) with
    | false=>exact Ev.of_eq (Ev.neg (by decide) no) (by simp)
    | true=>
      refine Ev.pos rfl (Ev.bind (Ev.const hn) ?_)
      cases nodesFine f none a with
      | false=>exact Ev.of_eq (Ev.neg (by simp) no) (by simp)
      | true=>
        cases decide (a.length≤64) with
        | false=>exact Ev.of_eq (Ev.neg (by decide) no) (by simp)
        | true=>
          refine Ev.pos rfl (Ev.bind (impl_UsedOn_ev a b c d e f ha hu) ?_)
          by_cases g2:(usedOn a:Int)≤e
          · rw [zt g2,zf (by omega:¬ (usedOn a:Int)>e)]
            refine Ev.step (fun k=>by rw [impl_DiskOk.j0]) ?_
            refine Ev.neg (by decide) (Ev.bind (Ev.const hcl) (Ev.of_eq h0 ?_))
            simp
          · rw [zf g2,zt (by omega:(usedOn a:Int)>e)]
            exact Ev.of_eq no (by simp)
end
section
variable (a:List S45) (b c:List S47) (d:List ByteArray) (e f:Int)
theorem l05Copy_f (ha:a.length≤1048576) (hb:b.length≤1048576) (hc:c.length≤1048576) (hd:d.length≤1048576):spec_l05Copy.f a b c d e f=some (a,b,c,d,e,f):=by
  unfold spec_l05Copy.f
  simp only [Option.bind_some,List.length_nil,List.nil_append]
  rw [if_pos (by omega),if_pos (by omega),if_pos (by omega),if_pos (by omega)]
theorem okFrom_fine:∀ (steps:List ByteArray) (now:List S47),okFrom a b now steps=true→fine a b=true
  | [],now,h=>by
    rw [okFrom,Bool.and_eq_true] at h
    rw [← (eqW_iff eqE eqE_iff now b).mp h.2];exact h.1
  | s :: r,now,h=>by
    rw [okFrom,Bool.and_eq_true] at h
    have h2:=h.2
    cases hs:stepS now s with
    | none=>rw [hs] at h2;cases h2
    | some l=>rw [hs] at h2;exact okFrom_fine r l h2
theorem entriesFine_node:∀ (l:List S47) (p:Option ByteArray),entriesFine a p l=true→∀ x∈l,0≤nodeIx a x.f1
  | [],_,_,_,hx=>absurd hx List.not_mem_nil
  | y :: l,p,h,x,hx=>by
    rw [entriesFine,Bool.and_eq_true] at h
    rcases List.mem_cons.mp hx with rfl | hx
    · have h1:=h.1
      unfold entryFine at h1
      rw [Bool.and_eq_true,Bool.and_eq_true] at h1
      exact zd h1.2.2
    · exact entriesFine_node l _ h.2 x hx
theorem diskOk_node (h:diskOk a b c d e f=true) (s:ByteArray) (hp:0≤placeE b s):entAt b s=(rd_T47 b (placeE b s)).f1∧0≤nodeIx a (entAt b s):=by
  have he:entAt b s=(rd_T47 b (placeE b s)).f1:=if_neg (by omega)
  refine ⟨he,?_⟩
  rw [he]
  unfold diskOk at h
  simp only [Bool.and_eq_true] at h
  have hf:=okFrom_fine a b d c h.2.2.2.2.2
  unfold fine at hf
  rw [Bool.and_eq_true] at hf
  have hr:=placeE_range b s
  obtain ⟨j,hj⟩:∃ j:Nat,placeE b s=(j:Int):=⟨(placeE b s).toNat,by omega⟩
  have hjl:j<b.length:=by omega
  rw [hj,rd_IEntry b j hjl]
  exact entriesFine_node a b none hf.1 _ (List.getElem_mem hjl)
end
def anyId (l:List S47) (id:Int):Bool:=l.any fun x=>x.f1 == id
noncomputable def stAt (c:List S47) (d:List ByteArray) (k:Nat):List S47:=(doneRes (doneS c (d.take k))).1
noncomputable def usedFrom (c:List S47) (d:List ByteArray) (id:Int):Nat→Nat→Bool
  | 0,_=>false
  | n+1,k=>anyId (stAt c d k) id || usedFrom c d id n (k+1)
noncomputable def cleanS (a:List S45) (c:List S47) (d:List ByteArray):List S45:=a.filter fun x=>usedFrom c d x.f0 (d.length+1) 0
section
variable (a:List S45) (b c:List S47) (d:List ByteArray) (e f:Int)
theorem clean_l2 (acc:List S45) (i q:Nat) (hi:i<a.length) (ha:a.length≤1048576) (lst:List S47) (hl:lst.length≤2097152) (hq:q≤1048576) (R:List S45×List S47×List S47×List ByteArray×Int×Int) (n:Nat):∀ (j:Nat) (fl:Bool),j+n=lst.length→
    Ev (fun k=>spec_l06Clean.l1 k acc (i:Int) (fl || anyId (lst.drop j) (a[i]).f0) ((q+1:Nat):Int) a b c d e f) R→Ev (fun k=>spec_l06Clean.l2 k acc (i:Int) fl (q:Int) lst (j:Int) a b c d e f) R:=by
  induction n with
  | zero=>
    intro j fl hj hK
    rw [List.drop_of_length_le (by omega)] at hK
    have hK:Ev (fun k=>spec_l06Clean.l1 k acc (i:Int) fl ((q+1:Nat):Int) a b c d e f) R:=by simpa [anyId] using hK
    refine Ev.step (fun k=>by rw [spec_l06Clean.l2]) ?_
    refine Ev.neg (by omega) ?_
    rw [show wrap64 ((q:Int)+1)=((q+1:Nat):Int) by rw [wrap64_id (by omega) (by omega)];omega]
    exact hK
  | succ n ih=>
    intro j fl hj hK
    have hjl:j<lst.length:=by omega
    rw [List.drop_eq_getElem_cons hjl] at hK
    refine Ev.step (fun k=>by rw [spec_l06Clean.l2]) ?_
    have hw:wrap64 ((j:Int)+1)=((j+1:Nat):Int):=by rw [wrap64_id (by omega) (by omega)];omega
    refine Ev.pos (by omega) ?_
    rw [hw]
    cases fl with
    | true=>
      refine Ev.pos rfl (ih (j+1) true (by omega) ?_)
      simpa using hK
    | false=>
      refine Ev.neg (by decide) (Ev.pos (by omega) (Ev.pos (by omega) (Ev.pos (by omega) ?_)))
      rw [rd_IEntry lst j hjl,rd_INode a i hi]
      refine ih (j+1) _ (by omega) ?_
      rw [show (false || anyId (lst[j] :: lst.drop (j+1)) (a[i]).f0)=((lst[j].f1 == (a[i]).f0) || anyId (lst.drop (j+1)) (a[i]).f0) from by simp only [anyId,List.any_cons,Bool.false_or]] at hK
      exact hK
theorem clean_l1 (hcd:c.length+d.length≤1048576) (hs:∀ s∈d,s.size≤1048576) (hc:∀ x∈c,x.f0.size≤1048576) (acc:List S45) (hacc:acc.length≤1048576) (i:Nat) (hi:i<a.length) (ha:a.length≤1048576) (R:List S45×List S47×List S47×List ByteArray×Int×Int) (n:Nat):∀ (q:Nat) (fl:Bool),q+n=d.length+1→
    Ev (fun k=>spec_l06Clean.l0 k (if (fl || usedFrom c d (a[i]).f0 n q)=true then acc++[a[i]] else acc) ((i+1:Nat):Int) a b c d e f) R→Ev (fun k=>spec_l06Clean.l1 k acc (i:Int) fl (q:Int) a b c d e f) R:=by
  have hw:wrap64 ((i:Int)+1)=((i+1:Nat):Int):=by rw [wrap64_id (by omega) (by omega)];omega
  have yes:∀ q:Int,Ev (fun k=>spec_l06Clean.l0 k (acc++[a[i]]) ((i+1:Nat):Int) a b c d e f) R→Ev (fun k=>spec_l06Clean.j2 k acc (i:Int) true q false a b c d e f) R:=fun q hK=>by
    refine Ev.step (fun k=>by rw [spec_l06Clean.j2]) ?_
    refine Ev.neg (by decide) (Ev.pos rfl (Ev.pos (by omega) (Ev.pos (by omega) (Ev.pos (by omega) ?_))))
    rw [rd_INode a i hi,hw]
    exact hK
  induction n with
  | zero=>
    intro q fl hq hK
    refine Ev.step (fun k=>by rw [spec_l06Clean.l1]) ?_
    refine Ev.neg (by omega) ?_
    cases fl with
    | true=>exact yes _ (by simpa [usedFrom] using hK)
    | false=>
      refine Ev.step (fun k=>by rw [spec_l06Clean.j2]) ?_
      refine Ev.neg (by decide) (Ev.neg (by decide) ?_)
      rw [hw]
      simpa [usedFrom] using hK
  | succ n ih=>
    intro q fl hq hK
    refine Ev.step (fun k=>by rw [spec_l06Clean.l1]) ?_
    refine Ev.pos (by omega) ?_
    cases fl with
    | true=>exact yes _ (by simpa using hK)
    | false=>
      refine Ev.step (fun k=>by rw [spec_l06Clean.j2]) ?_
      refine Ev.pos rfl (Ev.bind (StepsDone_ev c d hcd hs q (by omega)) ?_)
      have hlen:(stAt c d q).length≤2097152:=by
        unfold stAt
        cases ho:doneS c (d.take q) with
        | none=>exact Nat.zero_le _
        | some l=>
          have:=(doneS_small (d.take q) c l (fun s h=>hs s (List.mem_of_mem_take h)) hc ho).1
          rw [List.length_take] at this
          show l.length≤_
          omega
      refine clean_l2 a b c d e f acc i q hi ha (stAt c d q) hlen (by omega) R _ 0 false (Nat.zero_add _) ?_
      rw [List.drop_zero]
      refine ih (q+1) _ (by omega) ?_
      rw [usedFrom] at hK
      simpa [Bool.or_assoc] using hK
theorem clean_l0 (hcd:c.length+d.length≤1048576) (hs:∀ s∈d,s.size≤1048576) (hc:∀ x∈c,x.f0.size≤1048576) (ha:a.length≤1048576) (n:Nat):∀ (i:Nat) (acc:List S45),i+n=a.length→acc.length≤i→
    Ev (fun k=>spec_l06Clean.l0 k acc (i:Int) a b c d e f) (acc++(a.drop i).filter (fun x=>usedFrom c d x.f0 (d.length+1) 0),b,c,d,e,f):=by
  induction n with
  | zero=>
    intro i acc hi hl
    rw [List.drop_of_length_le (by omega),List.filter_nil,List.append_nil]
    refine Ev.step (fun k=>by rw [spec_l06Clean.l0]) ?_
    exact Ev.neg (by omega) (Ev.now _)
  | succ n ih=>
    intro i acc hi hl
    have hil:i<a.length:=by omega
    refine Ev.step (fun k=>by rw [spec_l06Clean.l0]) ?_
    refine Ev.pos (by omega) (clean_l1 a b c d e f hcd hs hc acc (by omega) i hil ha _ (d.length+1) 0 false (Nat.zero_add _) ?_)
    rw [List.drop_eq_getElem_cons hil,List.filter_cons,Bool.false_or]
    cases hu:usedFrom c d (a[i]).f0 (d.length+1) 0 with
    | true=>
      have:=ih (i+1) (acc++[a[i]]) (by omega) (by rw [List.length_append];simp;omega)
      rw [List.append_assoc] at this
      simpa using this
    | false=>
      have:=ih (i+1) acc (by omega) (by omega)
      simpa using this
theorem spec_l06Clean_ev (ha:a.length≤1048576) (hcd:c.length+d.length≤1048576) (hs:∀ s∈d,s.size≤1048576) (hc:∀ x∈c,x.f0.size≤1048576):Ev (fun k=>spec_l06Clean.f k a b c d e f) (cleanS a c d,b,c,d,e,f):=
  clean_l0 a b c d e f hcd hs hc ha a.length 0 [] (Nat.zero_add _) (Nat.le_refl _)
end
noncomputable def chainOk:List S47→List ByteArray→Prop
  | _,[]=>True
  | now,s :: r=>inOrder now∧∃ l,stepS now s=some l∧chainOk l r
theorem okFrom_chain (a:List S45) (b:List S47):∀ (d:List ByteArray) (now:List S47),okFrom a b now d=true→chainOk now d∧doneS now d=some b∧fine a now=true
  | [],now,h=>by
    rw [okFrom,Bool.and_eq_true] at h
    exact ⟨trivial,by rw [doneS,(eqW_iff eqE eqE_iff now b).mp h.2],h.1⟩
  | s :: r,now,h=>by
    rw [okFrom,Bool.and_eq_true] at h
    have h2:=h.2
    cases hs:stepS now s with
    | none=>rw [hs] at h2;cases h2
    | some l=>
      rw [hs] at h2
      obtain ⟨i1,i2,_⟩:=okFrom_chain a b r l h2
      exact ⟨⟨fine_order h.1,l,hs,i1⟩,by rw [doneS,hs];exact i2,h.1⟩
theorem chain_snoc:∀ (d:List ByteArray) (c b b':List S47) (s:ByteArray),chainOk c d→doneS c d=some b→inOrder b→stepS b s=some b'→chainOk c (d++[s])∧doneS c (d++[s])=some b'
  | [],c,b,b',s,_,h,ho,hs=>by
    obtain rfl:c=b:=Option.some.inj h
    exact ⟨⟨ho,b',hs,trivial⟩,by rw [List.nil_append,doneS,hs];rfl⟩
  | x :: d,c,b,b',s,hc,h,ho,hs=>by
    obtain ⟨h1,l,h2,h3⟩:=hc
    rw [doneS,h2] at h
    obtain ⟨i1,i2⟩:=chain_snoc d l b b' s h3 h ho hs
    exact ⟨⟨h1,l,h2,i1⟩,by rw [List.cons_append,doneS,h2];exact i2⟩
theorem usedFrom_cons (c l:List S47) (x:ByteArray) (d:List ByteArray) (id:Int) (h:stepS c x=some l):∀ (n k:Nat),usedFrom c (x :: d) id n (k+1)=usedFrom l d id n k
  | 0,_=>rfl
  | n+1,k=>by
    have:stAt c (x :: d) (k+1)=stAt l d k:=by
      unfold stAt
      rw [List.take_succ_cons,doneS,h]
    rw [usedFrom,usedFrom,this,usedFrom_cons c l x d id h n (k+1)]
theorem contains_map (l:List S47) (id:Int):(l.map fun x=>x.f1).contains id=anyId l id:=by
  unfold anyId
  rw [Bool.eq_iff_iff]
  simp only [List.contains_iff_mem,List.mem_map,List.any_eq_true,beq_iff_eq]
theorem app_list (x y:ByteArray):(x++y).data.toList=x.data.toList++y.data.toList:=by
  rw [ByteArray.data_append,Array.toList_append]
theorem ba_same {x y:ByteArray} (h:x.data.toList=y.data.toList):x=y:=by
  apply ByteArray.ext
  exact Array.toList_inj.mp h
theorem idxOf_some {α:Type} (p:α→Bool):∀ (l:List α) (i:Nat),0≤idxOf p l i→∃ x∈l,p x=true
  | [],_,h=>by rw [idxOf] at h;omega
  | x :: l,i,h=>by
    rw [idxOf] at h
    cases hp:p x with
    | true=>exact ⟨x,List.mem_cons_self ..,hp⟩
    | false=>
      rw [hp,if_neg (by decide)] at h
      obtain ⟨y,hy,hq⟩:=idxOf_some p l (i+1) h
      exact ⟨y,List.mem_cons_of_mem _ hy,hq⟩
theorem entriesFine_name (a:List S45):∀ (l:List S47) (p:Option ByteArray),entriesFine a p l=true→∀ x∈l,nameOk x.f0.data.toList=true
  | [],_,_,_,hx=>absurd hx List.not_mem_nil
  | y :: l,p,h,x,hx=>by
    rw [entriesFine,Bool.and_eq_true] at h
    rcases List.mem_cons.mp hx with rfl | hx
    · have h1:=h.1
      unfold entryFine at h1
      rw [Bool.and_eq_true,Bool.and_eq_true,nmOk_nameOk] at h1
      exact h1.2.1
    · exact entriesFine_name a l _ h.2 x hx
section
variable (a:List S45) (b c:List S47) (d:List ByteArray) (e f:Int)
theorem diskOk_all (h:diskOk a b c d e f=true):a.length≤64∧(0≤e∧e≤1000000000)∧(1≤f∧f≤1000000000)∧(usedOn a:Int)≤e∧nodesFine f none a=true∧okFrom a b c d=true:=by
  unfold diskOk at h
  simp only [Bool.and_eq_true,decide_eq_true_eq] at h
  exact ⟨h.1,h.2.1,h.2.2.1,h.2.2.2.1,h.2.2.2.2.1,h.2.2.2.2.2⟩
theorem diskOk_chain (h:diskOk a b c d e f=true):chainOk c d∧doneS c d=some b∧fine a c=true∧fine a b=true∧inOrder b:=by
  have ho:=(diskOk_all a b c d e f h).2.2.2.2.2
  obtain ⟨h1,h2,h3⟩:=okFrom_chain a b d c ho
  have h4:=okFrom_fine a b d c ho
  exact ⟨h1,h2,h3,h4,fine_order h4⟩
theorem fine_has {l:List S47} (h:fine a l=true) (s:ByteArray) (hp:0≤placeE l s):nameOk s.data.toList=true:=by
  unfold fine at h
  rw [Bool.and_eq_true] at h
  obtain ⟨x,hx,hn⟩:=idxOf_some _ l 0 hp
  have he:x.f0=s:=nl_ext (by simpa [named] using hn)
  rw [← he]
  exact entriesFine_name a l none h.1 x hx
theorem fine_len {l:List S47} (h:fine a l=true):l.length≤16:=by
  unfold fine at h
  rw [Bool.and_eq_true,decide_eq_true_eq] at h
  omega
end
theorem bt_zero {s:ByteArray} {z:UInt8} {l:List UInt8} (h:s.data.toList=z :: l):bt s 0=(z.toNat:Int):=by
  have h0:0<s.data.toList.length:=by rw [h];exact Nat.succ_pos _
  have:=bt_list s 0 h0
  rw [show ((0:Nat):Int)=0 from rfl] at this
  rw [this]
  simp [h]
theorem nameOk_pos {l:List UInt8} (h:nameOk l=true):1≤l.length∧l.length≤20:=by
  unfold nameOk at h
  rw [Bool.and_eq_true,decide_eq_true_eq] at h
  exact h.2
theorem nameOk_no58 {l:List UInt8} (h:nameOk l=true):∀ c∈l,c≠58:=fun c hc e=>by
  unfold nameOk at h
  rw [Bool.and_eq_true,List.all_eq_true] at h
  have:=h.1 c hc
  rw [e] at this
  exact absurd this (by decide)
theorem cutAt_first (z:UInt8) (r:List UInt8):∀ l:List UInt8,(∀ c∈l,c≠z)→cutAt z (l++z :: r)=some (l,r)
  | [],_=>by rw [List.nil_append,cutAt,if_pos rfl]
  | x :: l,h=>by
    rw [List.cons_append,cutAt,if_neg (h x (List.mem_cons_self ..)),cutAt_first z r l fun c hc=>h c (List.mem_cons_of_mem _ hc)]
    rfl
theorem stepS_minus {b:List S47} {s:ByteArray} (hn:nameOk s.data.toList=true) (hp:0≤placeE b s):stepS b ((⟨#[45]⟩:ByteArray)++s)=some (dropS b s):=by
  have hl:((⟨#[45]⟩:ByteArray)++s).data.toList=45 :: s.data.toList:=by rw [app_list];rfl
  have hz:((⟨#[45]⟩:ByteArray)++s).size=1+s.size:=by rw [ByteArray.size_append];rfl
  have hb:=bt_zero hl
  have hs1:=nameOk_pos hn
  rw [size_list] at hs1
  have hx:((⟨#[45]⟩:ByteArray)++s).extract 1 ((⟨#[45]⟩:ByteArray)++s).size=s:=ba_same (by
    rw [ext_list,hl,hz,List.drop_one,List.tail_cons,List.take_of_length_le (by rw [size_list];omega)])
  have h1:l06step ((⟨#[45]⟩:ByteArray)++s)=(s,⟨#[]⟩,0,true):=by
    unfold l06step
    rw [if_neg (by omega),if_pos (by rw [hb];rfl),hx]
  unfold stepS
  rw [h1,if_pos ⟨rfl,hn,.inr hp⟩,if_neg (by rw [hb];decide),if_pos (by rw [hb];rfl)]
theorem okFrom_at (a:List S45) (b:List S47):∀ (d:List ByteArray) (now:List S47) (m:Nat),m≤d.length→okFrom a b now d=true→∃ l,doneS now (d.take m)=some l∧fine a l=true∧chainOk now (d.take m)
  | d,now,0,_,h=>⟨now,rfl,(okFrom_chain a b d now h).2.2,trivial⟩
  | [],now,m+1,hm,h=>absurd hm (Nat.not_succ_le_zero _)
  | s :: r,now,m+1,hm,h=>by
    rw [okFrom,Bool.and_eq_true] at h
    have h2:=h.2
    cases hs:stepS now s with
    | none=>rw [hs] at h2;cases h2
    | some l=>
      rw [hs] at h2
      obtain ⟨l',i1,i2,i3⟩:=okFrom_at a b r l m (Nat.le_of_succ_le_succ hm) h2
      rw [List.take_succ_cons]
      exact ⟨l',by rw [doneS,hs];exact i1,i2,fine_order h.1,l,hs,i3⟩
theorem nodeIx_pos {a:List S45} {v:Int}:0≤nodeIx a v↔∃ x∈a,x.f0=v:=by
  unfold nodeIx
  rcases idxOf_span (idIs v) a 0 with ⟨h,h2⟩ | ⟨j,hj,h,h2⟩
  · rw [h]
    constructor
    · intro h;omega
    · rintro ⟨x,hx,e⟩
      have:=h2 x hx
      unfold idIs at this
      rw [e,beq_self_eq_true] at this
      cases this
  · rw [h]
    constructor
    · intro _;exact ⟨a[j],List.getElem_mem hj,by unfold idIs at h2;exact beq_iff_eq.mp h2⟩
    · intro _;omega
def spanN (f:Int) (a:List S45):Prop:=(∀ x∈a,(1≤x.f0∧x.f0≤wrap64 (f-1))∧0≤x.f2∧x.f2≤(x.f1.size:Int))∧(a.map fun x=>x.f0).Pairwise (· < ·)
theorem nodesFine_iff (f:Int):∀ (a:List S45) (p:Option Int),nodesFine f p a=true↔(spanN f a∧∀ q,p=some q→∀ x∈a,q<x.f0)
  | [],p=>by
    rw [nodesFine]
    exact ⟨fun _=>⟨⟨fun x h=>absurd h List.not_mem_nil,List.Pairwise.nil⟩,fun _ _ x h=>absurd h List.not_mem_nil⟩,fun _=>rfl⟩
  | y :: l,p=>by
    rw [nodesFine,Bool.and_eq_true,nodesFine_iff f l (some y.f0)]
    unfold nodeFine spanN
    rw [Bool.and_eq_true,Bool.and_eq_true,inR_eq,inR_eq,decide_eq_true_eq,decide_eq_true_eq,List.map_cons,List.pairwise_cons]
    constructor
    · rintro ⟨⟨h1,h2,h3⟩,⟨h4,h5⟩,h6⟩
      refine ⟨⟨fun x hx=>?_,fun z hz=>?_,h5⟩,fun q hq x hx=>?_⟩
      · rcases List.mem_cons.mp hx with rfl | hx
        · exact ⟨h2,h3⟩
        · exact h4 x hx
      · obtain ⟨x,hx,rfl⟩:=List.mem_map.mp hz
        exact h6 _ rfl x hx
      · subst hq
        have hy:q<y.f0:=by simpa using h1
        rcases List.mem_cons.mp hx with rfl | hx
        · exact hy
        · exact Int.lt_trans hy (h6 _ rfl x hx)
    · rintro ⟨⟨h1,h2,h3⟩,h4⟩
      refine ⟨⟨?_,(h1 y (List.mem_cons_self ..)).1,(h1 y (List.mem_cons_self ..)).2⟩,⟨fun x hx=>h1 x (List.mem_cons_of_mem _ hx),h3⟩,fun q hq x hx=>?_⟩
      · cases p with
        | none=>rfl
        | some q=>simpa using h4 q rfl y (List.mem_cons_self ..)
      · obtain rfl:=Option.some.inj hq
        exact h2 _ (List.mem_map.mpr ⟨x,hx,rfl⟩)
theorem nodesFine_span (f:Int) (a:List S45):nodesFine f none a=true↔spanN f a:=
  (nodesFine_iff f a none).trans ⟨fun h=>h.1,fun h=>⟨h,fun _ h=>by cases h⟩⟩
theorem spanN_sub {f:Int} {a a':List S45} (h:spanN f a) (hs:a'.Sublist a):spanN f a':=
  ⟨fun x hx=>h.1 x (hs.mem hx),h.2.sublist (hs.map _)⟩
theorem spanN_set {f:Int} {a:List S45} (h:spanN f a) (i:Nat) (hi:i<a.length) (x:S45) (h0:x.f0=a[i].f0) (h2:0≤x.f2∧x.f2≤(x.f1.size:Int)):spanN f (a.set i x):=by
  refine ⟨fun y hy=>?_,?_⟩
  · rcases List.mem_or_eq_of_mem_set hy with hy | rfl
    · exact h.1 y hy
    · exact ⟨by rw [h0];exact (h.1 _ (List.getElem_mem hi)).1,h2⟩
  · have e:(a.set i x).map (fun x=>x.f0)=a.map fun x=>x.f0:=by
      rw [List.map_set,h0]
      have hm:i<(a.map fun x=>x.f0).length:=by rw [List.length_map];exact hi
      have:=List.set_getElem_self hm
      rw [List.getElem_map] at this
      exact this
    rw [e];exact h.2
theorem usedOn_sub {a' a:List S45} (h:a'.Sublist a):usedOn a'≤usedOn a:=by
  induction h with
  | slnil=>exact Nat.le_refl _
  | cons x _ ih=>show _≤x.f1.size+_;omega
  | cons_cons x _ ih=>show x.f1.size+_≤x.f1.size+_;omega
theorem usedOn_snoc (x:S45):∀ a:List S45,usedOn (a++[x])=usedOn a+x.f1.size
  | []=>by show x.f1.size+0=0+x.f1.size;omega
  | y :: l=>by
    rw [List.cons_append]
    show y.f1.size+usedOn (l++[x])=y.f1.size+usedOn l+x.f1.size
    rw [usedOn_snoc x l];omega
theorem usedOn_set (x:S45):∀ (a:List S45) (i:Nat) (h:i<a.length),usedOn (a.set i x)+a[i].f1.size=usedOn a+x.f1.size
  | y :: l,0,_=>by show x.f1.size+usedOn l+y.f1.size=y.f1.size+usedOn l+x.f1.size;omega
  | y :: l,i+1,h=>by
    have hi:=Nat.lt_of_succ_lt_succ h
    have:=usedOn_set x l i hi
    show y.f1.size+usedOn (l.set i x)+(l[i]'hi).f1.size=y.f1.size+usedOn l+x.f1.size
    omega
theorem nodeIx_set {a:List S45} (i:Nat) (hi:i<a.length) (x:S45) (h0:x.f0=a[i].f0) (v:Int):nodeIx (a.set i x) v=nodeIx a v:=by
  have key:∀ (a:List S45) (i k:Nat) (hi:i<a.length),x.f0=a[i].f0→idxOf (idIs v) (a.set i x) k=idxOf (idIs v) a k:=by
    intro a
    induction a with
    | nil=>intro i k hi;exact absurd hi (Nat.not_lt_zero _)
    | cons y l ih=>
      intro i k hi h0
      cases i with
      | zero=>
        have h0:x.f0=y.f0:=h0
        rw [List.set_cons_zero,idxOf,idxOf]
        unfold idIs
        rw [h0]
      | succ i=>
        rw [List.set_cons_succ,idxOf,idxOf,ih i (k+1) (Nat.lt_of_succ_lt_succ hi) h0]
  exact key a i 0 hi h0
def goodE (a:List S45) (l:List S47):Prop:=(∀ x∈l,nameOk x.f0.data.toList=true∧0≤nodeIx a x.f1)∧inOrder l
theorem entriesFine_of (a:List S45):∀ (l:List S47) (p:Option ByteArray),goodE a l→(∀ q,p=some q→∀ x∈l,Op.bytesLess q.toList x.f0.toList=true)→entriesFine a p l=true
  | [],_,_,_=>rfl
  | y :: l,p,h,hp=>by
    obtain ⟨h1,h2⟩:=List.pairwise_cons.mp h.2
    have hy:=h.1 y (List.mem_cons_self ..)
    rw [entriesFine,entriesFine_of a l (some y.f0) ⟨fun x hx=>h.1 x (List.mem_cons_of_mem _ hx),h2⟩ (fun q hq x hx=>by obtain rfl:=Option.some.inj hq;exact h1 x hx),Bool.and_true]
    have hi:idxOf (fun n:S45=>n.f0 == y.f1) a 0=nodeIx a y.f1:=rfl
    unfold entryFine
    rw [nmOk_nameOk,hy.1,hi,zt hy.2,Bool.and_true,Bool.and_true]
    cases p with
    | none=>rfl
    | some q=>
      have:=hp q rfl y (List.mem_cons_self ..)
      show (!nameLe y.f0 q)=true
      unfold nameLe
      rw [← bl_not,Bool.not_not]
      exact this
theorem fine_good {a:List S45} {l:List S47}:fine a l=true↔goodE a l∧l.length≤16:=by
  constructor
  · intro h
    refine ⟨⟨fun x hx=>?_,fine_order h⟩,fine_len a h⟩
    unfold fine at h
    rw [Bool.and_eq_true] at h
    exact ⟨entriesFine_name a l none h.1 x hx,entriesFine_node a l none h.1 x hx⟩
  · intro h
    unfold fine
    rw [entriesFine_of a l none h.1 (fun _ h=>by cases h),zt (by have:=h.2;omega)];rfl
theorem goodE_mono {a a':List S45} {l:List S47} (h:goodE a l) (hn:∀ x∈l,0≤nodeIx a x.f1→0≤nodeIx a' x.f1):goodE a' l:=
  ⟨fun x hx=>⟨(h.1 x hx).1,hn x hx (h.1 x hx).2⟩,h.2⟩
theorem fine_mono {a a':List S45} {l:List S47} (h:fine a l=true) (hn:∀ x∈l,0≤nodeIx a x.f1→0≤nodeIx a' x.f1):fine a' l=true:=by
  rw [fine_good] at h ⊢
  exact ⟨goodE_mono h.1 hn,h.2⟩
theorem putR_order (n:ByteArray) (id:Int):∀ l:List S47,inOrder l→inOrder (putR n id l)∧∀ (m:ByteArray),Op.bytesLess m.toList n.toList=true→(∀ x∈l,Op.bytesLess m.toList x.f0.toList=true)→∀ x∈putR n id l,Op.bytesLess m.toList x.f0.toList=true
  | [],_=>⟨List.pairwise_singleton ..,fun m h _ x hx=>by rw [List.mem_singleton.mp hx];exact h⟩
  | x :: l,h=>by
    obtain ⟨hx,hl⟩:=List.pairwise_cons.mp h
    obtain ⟨i1,i2⟩:=putR_order n id l hl
    rw [putR]
    by_cases he:x.f0.toList=n.toList
    · rw [if_pos he]
      refine ⟨List.pairwise_cons.mpr ⟨fun y hy=>by show Op.bytesLess n.toList _=true;rw [← he];exact hx y hy,hl⟩,fun m hm ha y hy=>?_⟩
      rcases List.mem_cons.mp hy with rfl | hy
      · exact hm
      · exact ha y (List.mem_cons_of_mem _ hy)
    · rw [if_neg he]
      by_cases hb:Op.bytesLess n.toList x.f0.toList=true
      · rw [if_pos hb]
        refine ⟨List.pairwise_cons.mpr ⟨fun y hy=>?_,h⟩,fun m hm ha y hy=>?_⟩
        · rcases List.mem_cons.mp hy with rfl | hy
          · exact hb
          · exact bl_trans _ _ _ hb (hx y hy)
        · rcases List.mem_cons.mp hy with rfl | hy
          · exact hm
          · exact ha y hy
      · rw [if_neg hb]
        have hb2:Op.bytesLess x.f0.toList n.toList=true:=by
          cases h2:Op.bytesLess x.f0.toList n.toList with
          | true=>rfl
          | false=>exact absurd (bl_tri _ _ h2 (Bool.eq_false_iff.mpr hb)) he
        refine ⟨List.pairwise_cons.mpr ⟨i2 x.f0 hb2 hx,i1⟩,fun m hm ha y hy=>?_⟩
        rcases List.mem_cons.mp hy with rfl | hy
        · exact ha _ (List.mem_cons_self ..)
        · exact i2 m hm (fun z hz=>ha z (List.mem_cons_of_mem _ hz)) y hy
theorem putW_order {n:ByteArray} {id:Int} {l:List S47} (h:inOrder l):inOrder (putW n id l false):=by
  rw [putW_putR n id l h];exact (putR_order n id l h).1
theorem putW_good {a:List S45} {n:ByteArray} {id:Int} {l:List S47} (h:goodE a l) (hn:nameOk n.data.toList=true) (hi:0≤nodeIx a id):goodE a (putW n id l false):=
  ⟨fun x hx=>by
    rcases mem_putW n id l false x hx with rfl | hx
    · exact ⟨hn,hi⟩
    · exact h.1 x hx,putW_order h.2⟩
theorem dropS_good {a:List S45} {n:ByteArray} {l:List S47} (h:goodE a l):goodE a (dropS l n):=
  ⟨fun x hx=>h.1 x (List.mem_filter.mp hx).1,dropS_inOrder n h.2⟩
theorem placeE_pos {l:List S47} {s:ByteArray}:0≤placeE l s↔∃ x∈l,x.f0=s:=by
  unfold placeE
  rcases idxOf_span (named s) l 0 with ⟨h,h2⟩ | ⟨j,hj,h,h2⟩
  · rw [h]
    constructor
    · intro h;omega
    · rintro ⟨x,hx,e⟩
      have:=h2 x hx
      unfold named at this
      rw [e,beq_self_eq_true] at this
      cases this
  · rw [h]
    constructor
    · intro _;exact ⟨l[j],List.getElem_mem hj,by unfold named at h2;exact nl_ext (beq_iff_eq.mp h2)⟩
    · intro _;omega
theorem dropS_short {l:List S47} {s:ByteArray} (h:0≤placeE l s):(dropS l s).length+1≤l.length:=by
  obtain ⟨x,hx,e⟩:=placeE_pos.mp h
  have hlt:(dropS l s).length<l.length:=by
    unfold dropS
    rw [List.length_filter_lt_length_iff_exists]
    exact ⟨x,hx,by rw [e];simp⟩
  omega
theorem okFrom_of (a:List S45) (b:List S47):∀ (d:List ByteArray) (now:List S47),(∀ m,m≤d.length→∃ l,doneS now (d.take m)=some l∧fine a l=true)→doneS now d=some b→okFrom a b now d=true
  | [],now,h,hb=>by
    obtain ⟨l,h1,h2⟩:=h 0 (Nat.le_refl _)
    obtain rfl:now=l:=Option.some.inj h1
    obtain rfl:now=b:=Option.some.inj hb
    rw [okFrom,h2,(eqW_iff eqE eqE_iff now now).mpr rfl];rfl
  | s :: r,now,h,hb=>by
    obtain ⟨l,h1,h2⟩:=h 0 (Nat.zero_le _)
    obtain rfl:now=l:=Option.some.inj h1
    rw [okFrom,h2,Bool.true_and]
    rw [doneS] at hb
    cases hs:stepS now s with
    | none=>rw [hs] at hb;cases hb
    | some l=>
      rw [hs] at hb
      refine okFrom_of a b r l (fun m hm=>?_) hb
      obtain ⟨l2,h3,h4⟩:=h (m+1) (Nat.succ_le_succ hm)
      rw [List.take_succ_cons,doneS,hs] at h3
      exact ⟨l2,h3,h4⟩
theorem okFrom_iff {a:List S45} {b c:List S47} {d:List ByteArray}:okFrom a b c d=true↔(∀ m,m≤d.length→∃ l,doneS c (d.take m)=some l∧fine a l=true)∧doneS c d=some b:=by
  constructor
  · intro h
    refine ⟨fun m hm=>?_,(okFrom_chain a b d c h).2.1⟩
    obtain ⟨l,h1,h2,_⟩:=okFrom_at a b d c m hm h
    exact ⟨l,h1,h2⟩
  · intro h;exact okFrom_of a b d c h.1 h.2
theorem okFrom_mono {a a':List S45} {b c:List S47} {d:List ByteArray} (h:okFrom a b c d=true) (hn:∀ id,0≤nodeIx a id→0≤nodeIx a' id):okFrom a' b c d=true:=by
  rw [okFrom_iff] at h ⊢
  refine ⟨fun m hm=>?_,h.2⟩
  obtain ⟨l,h1,h2⟩:=h.1 m hm
  exact ⟨l,h1,fine_mono h2 fun x _=>hn x.f1⟩
theorem usedFrom_iff (c:List S47) (d:List ByteArray) (id:Int):∀ (n k:Nat),usedFrom c d id n k=true↔∃ m,k≤m∧m<k+n∧anyId (stAt c d m) id=true
  | 0,k=>by
    rw [usedFrom]
    exact ⟨fun h=>(by cases h),fun ⟨m,h1,h2,_⟩=>(by omega)⟩
  | n+1,k=>by
    rw [usedFrom,Bool.or_eq_true,usedFrom_iff c d id n (k+1)]
    constructor
    · rintro (h | ⟨m,h1,h2,h3⟩)
      · exact ⟨k,Nat.le_refl _,by omega,h⟩
      · exact ⟨m,by omega,by omega,h3⟩
    · rintro ⟨m,h1,h2,h3⟩
      by_cases e:m=k
      · exact .inl (e▸h3)
      · exact .inr ⟨m,by omega,by omega,h3⟩
theorem anyId_mem {l:List S47} {x:S47} (h:x∈l):anyId l x.f1=true:=by
  unfold anyId
  rw [List.any_eq_true]
  exact ⟨x,h,beq_self_eq_true _⟩
theorem stAt_some {c:List S47} {d:List ByteArray} {m:Nat} {l:List S47} (h:doneS c (d.take m)=some l):stAt c d m=l:=by
  unfold stAt;rw [h];rfl
theorem cleanS_sub (a:List S45) (c:List S47) (d:List ByteArray):(cleanS a c d).Sublist a:=List.filter_sublist
theorem cleanS_keeps {a:List S45} {c:List S47} {d:List ByteArray} {m:Nat} {l:List S47} (hm:m≤d.length) (h:doneS c (d.take m)=some l) {x:S47} (hx:x∈l) (hn:0≤nodeIx a x.f1):0≤nodeIx (cleanS a c d) x.f1:=by
  rw [nodeIx_pos] at hn ⊢
  obtain ⟨y,hy,e⟩:=hn
  refine ⟨y,List.mem_filter.mpr ⟨hy,?_⟩,e⟩
  rw [usedFrom_iff]
  exact ⟨m,Nat.zero_le _,by omega,by rw [stAt_some h,e];exact anyId_mem hx⟩
theorem okFrom_clean {a:List S45} {b c:List S47} {d:List ByteArray} (h:okFrom a b c d=true):okFrom (cleanS a c d) b c d=true:=by
  rw [okFrom_iff] at h ⊢
  refine ⟨fun m hm=>?_,h.2⟩
  obtain ⟨l,h1,h2⟩:=h.1 m hm
  exact ⟨l,h1,fine_mono h2 fun x hx hn=>cleanS_keeps hm h1 hx hn⟩
theorem okFrom_snoc {a:List S45} {b b' c:List S47} {d:List ByteArray} {s:ByteArray} (h:okFrom a b c d=true) (hs:stepS b s=some b') (hf:fine a b'=true):okFrom a b' c (d++[s])=true:=by
  rw [okFrom_iff] at h ⊢
  have hd:doneS c (d++[s])=some b':=by rw [doneS_snoc,h.2];exact hs
  refine ⟨fun m hm=>?_,hd⟩
  rw [List.length_append,List.length_singleton] at hm
  by_cases e:m≤d.length
  · rw [List.take_append_of_le_length e];exact h.1 m e
  · rw [List.take_of_length_le (by rw [List.length_append,List.length_singleton];omega)]
    exact ⟨b',hd,hf⟩
section
variable {a:List S45} {b c:List S47} {d:List ByteArray} {e f:Int}
theorem diskOk_iff:diskOk a b c d e f=true↔a.length≤64∧(0≤e∧e≤1000000000)∧(1≤f∧f≤1000000000)∧(usedOn a:Int)≤e∧spanN f a∧okFrom a b c d=true:=by
  unfold diskOk
  simp only [Bool.and_eq_true,decide_eq_true_eq,nodesFine_span]
theorem diskOk_clean (h:diskOk a b c d e f=true):diskOk (cleanS a c d) b c d e f=true:=by
  rw [diskOk_iff] at h ⊢
  obtain ⟨h1,h2,h3,h4,h5,h6⟩:=h
  have hs:=cleanS_sub a c d
  have:=usedOn_sub hs
  exact ⟨Nat.le_trans hs.length_le h1,h2,h3,by omega,spanN_sub h5 hs,okFrom_clean h6⟩
theorem diskOk_snoc (h:diskOk a b c d e f=true) {b':List S47} {s:ByteArray} (hs:stepS b s=some b') (hf:fine a b'=true):diskOk (cleanS a c (d++[s])) b' c (d++[s]) e f=true:=by
  refine diskOk_clean ?_
  rw [diskOk_iff] at h ⊢
  obtain ⟨h1,h2,h3,h4,h5,h6⟩:=h
  exact ⟨h1,h2,h3,h4,h5,okFrom_snoc h6 hs hf⟩
theorem diskOk_set (h:diskOk a b c d e f=true) (i:Nat) (hi:i<a.length) (x:S45) (h0:x.f0=a[i].f0) (h2:0≤x.f2∧x.f2≤(x.f1.size:Int)) (hu:(usedOn a:Int)+x.f1.size≤e+a[i].f1.size):diskOk (a.set i x) b c d e f=true:=by
  rw [diskOk_iff] at h ⊢
  obtain ⟨h1,h3,h4,h5,h6,h7⟩:=h
  have:=usedOn_set x a i hi
  exact ⟨by rw [List.length_set];exact h1,h3,h4,by omega,spanN_set h6 i hi x h0 h2,okFrom_mono h7 fun id hn=>by rw [nodeIx_set i hi x h0];exact hn⟩
theorem diskOk_goodE (h:diskOk a b c d e f=true):goodE a b∧b.length≤16:=fine_good.mp (diskOk_chain a b c d e f h).2.2.2.1
theorem diskOk_new (h:diskOk a b c d e f=true) (hl:a.length<64) (hf:f<1000000000):diskOk (a++[⟨f,⟨#[]⟩,0⟩]) b c d e (wrap64 (f+1))=true:=by
  rw [diskOk_iff] at h ⊢
  obtain ⟨h1,h2,h3,h4,h5,h6⟩:=h
  have e1:wrap64 (f+1)=f+1:=wrap64_id (by omega) (by omega)
  have e2:wrap64 (f-1)=f-1:=wrap64_id (by omega) (by omega)
  have e3:wrap64 (f+1-1)=f:=by rw [wrap64_id (by omega) (by omega)];omega
  rw [e1]
  refine ⟨by rw [List.length_append,List.length_singleton];omega,h2,by omega,by rw [usedOn_snoc];show ((usedOn a+0:Nat):Int)≤e;omega,⟨fun x hx=>?_,?_⟩,okFrom_mono h6 fun id hn=>?_⟩
  · rw [e3]
    rcases List.mem_append.mp hx with hx | hx
    · have:=h5.1 x hx
      rw [e2] at this
      exact ⟨by omega,this.2⟩
    · rw [List.mem_singleton.mp hx]
      exact ⟨by show 1≤f∧f≤f;omega,by show (0:Int)≤0∧(0:Int)≤((0:Nat):Int);omega⟩
  · rw [List.map_append,List.pairwise_append]
    refine ⟨h5.2,List.pairwise_singleton ..,fun x hx y hy=>?_⟩
    obtain ⟨z,hz,rfl⟩:=List.mem_map.mp hx
    have:=(h5.1 z hz).1
    rw [e2] at this
    rw [show y=f by simpa using hy]
    omega
  · rw [nodeIx_pos] at hn ⊢
    obtain ⟨x,hx,e⟩:=hn
    exact ⟨x,List.mem_append_left _ hx,e⟩
end
section
variable (a:List S45) (b c:List S47) (d:List ByteArray) (e f:Int)
noncomputable def syncOut (s:ByteArray):List S45×List S47×List S47×List ByteArray×Int×Int×Int:=
  if diskOk a b c d e f=true∧0≤placeE b s then (a.set (nodeIx a (entAt b s)).toNat ⟨(rd_T45 a (nodeIx a (entAt b s))).f0,(rd_T45 a (nodeIx a (entAt b s))).f1,((rd_T45 a (nodeIx a (entAt b s))).f1.size:Int)⟩,b,c,d,e,f,0) else (a,b,c,d,e,f,3)
end
theorem usedOn_at:∀ (a:List S45) (i:Nat) (h:i<a.length),a[i].f1.size≤usedOn a
  | x :: l,0,_=>by show x.f1.size≤x.f1.size+usedOn l;omega
  | x :: l,i+1,h=>by
    exact Nat.le_trans (usedOn_at l i (Nat.lt_of_succ_lt_succ h)) (Nat.le_add_left _ _)
theorem extract_sz (t:ByteArray) (n:Nat) (h:n≤t.size):(t.extract 0 n).size=n:=by
  rw [ByteArray.size_extract];omega
theorem extract_self (t:ByteArray):t.extract 0 t.size=t:=by
  apply ByteArray.ext
  rw [ByteArray.data_extract]
  exact Array.extract_size
section
variable (a:List S45) (b c:List S47) (d:List ByteArray) (e f:Int)
noncomputable def appendOut (s t:ByteArray):List S45×List S47×List S47×List ByteArray×Int×Int×Int:=
  if diskOk a b c d e f=true∧0≤placeE b s then
    if (t.size:Int)>e-usedOn a then (a.set (nodeIx a (entAt b s)).toNat ⟨(rd_T45 a (nodeIx a (entAt b s))).f0,(rd_T45 a (nodeIx a (entAt b s))).f1++t.extract 0 (e-usedOn a).toNat,(rd_T45 a (nodeIx a (entAt b s))).f2⟩,b,c,d,e,f,5)
    else (a.set (nodeIx a (entAt b s)).toNat ⟨(rd_T45 a (nodeIx a (entAt b s))).f0,(rd_T45 a (nodeIx a (entAt b s))).f1++t,(rd_T45 a (nodeIx a (entAt b s))).f2⟩,b,c,d,e,f,0)
  else (a,b,c,d,e,f,3)
theorem diskOk_room (h:diskOk a b c d e f=true):0≤e∧e≤1000000000∧(usedOn a:Int)≤e:=by
  unfold diskOk at h
  simp only [Bool.and_eq_true,decide_eq_true_eq] at h
  exact ⟨h.2.1.1,h.2.1.2,h.2.2.2.1⟩
theorem node_sz (i:Int) (h0:0≤i) (h1:i<(a.length:Int)):(rd_T45 a i).f1.size≤usedOn a:=by
  obtain ⟨j,rfl⟩:∃ j:Nat,i=(j:Int):=⟨i.toNat,by omega⟩
  rw [rd_INode a j (by omega)]
  exact usedOn_at a j (by omega)
end
section
variable (a:List S45) (b c:List S47) (d:List ByteArray) (e f:Int)
noncomputable def namesOut:List S45×List S47×List S47×List ByteArray×Int×Int:=
  if diskOk a b c d e f=true then (cleanS a b [],b,b,[],e,f) else (a,b,c,d,e,f)
end
theorem snoc_sizes {d:List ByteArray} {s:ByteArray} (h:∀ x∈d,x.size≤1048576) (hs:s.size≤1048576):∀ x∈d++[s],x.size≤1048576:=fun x hx=>by
  rcases List.mem_append.mp hx with hx | hx
  · exact h x hx
  · rw [List.mem_singleton.mp hx];exact hs
section
variable (a:List S45) (b c:List S47) (d:List ByteArray) (e f:Int)
noncomputable def removeOut (s:ByteArray):List S45×List S47×List S47×List ByteArray×Int×Int×Int:=
  if diskOk a b c d e f=true∧0≤placeE b s then (cleanS a c (d++[(⟨#[45]⟩:ByteArray)++s]),dropS b s,c,d++[(⟨#[45]⟩:ByteArray)++s],e,f,0) else (a,b,c,d,e,f,3)
end
theorem stepS_plus {b:List S47} {s:ByteArray} {f:Int} (hn:nameOk s.data.toList=true) (hf:0≤f∧f≤1000000000):stepS b ((((⟨#[43]⟩:ByteArray)++s)++⟨#[58]⟩)++mkT (itoa f))=some (putW s f b false):=by
  generalize ht:mkT (itoa f)=t
  have htl:t.data.toList=itoa f:=by rw [← ht,mkT_list]
  generalize hK:(((⟨#[43]⟩:ByteArray)++s)++⟨#[58]⟩)++t=K
  have hl:K.data.toList=43 :: (s.data.toList++58 :: t.data.toList):=by
    rw [← hK,app_list,app_list,app_list]
    show [43]++s.data.toList++[58]++t.data.toList=_
    simp
  have hz:K.size=2+s.size+t.size:=by
    rw [← hK,ByteArray.size_append,ByteArray.size_append,ByteArray.size_append]
    show 1+s.size+1+t.size=_
    omega
  have hsl:=size_list s
  have htz:=size_list t
  have hb:=bt_zero hl
  have h1:K.extract 1 (1+s.data.toList.length)=s:=ba_same (by
    rw [ext_list,hl,List.drop_one,List.tail_cons,show 1+s.data.toList.length-1=s.data.toList.length by omega,List.take_left])
  have h2:K.extract (1+s.data.toList.length+1) K.size=t:=ba_same (by
    rw [ext_list,hl,show 1+s.data.toList.length+1=(s.data.toList.length+1)+1 by omega,List.drop_succ_cons,hz,List.take_of_length_le (by rw [List.length_drop,List.length_append,List.length_cons];omega)]
    rw [show s.data.toList++58 :: t.data.toList=(s.data.toList++[58])++t.data.toList by simp,List.drop_left' (by simp)])
  have aa:bt K 0=43:=by rw [hb];rfl
  have hr:readDec t=(f,true):=readDec_of ⟨hf.1,hf.2,htl.symm⟩
  have h3:l06step K=(s,⟨#[]⟩,f,true):=by
    have hns:=nameOk_pos hn
    unfold l06step
    rw [if_neg (by omega),if_neg (by omega),if_pos (.inl aa),hl,List.drop_one,List.tail_cons,cutAt_first 58 _ _ (nameOk_no58 hn)]
    show stepFin K (K.extract 1 (1+s.data.toList.length)) (K.extract (1+s.data.toList.length+1) K.size)=_
    rw [h1,h2]
    unfold stepFin
    rw [if_neg (by omega),hr,hn]
    rfl
  unfold stepS
  rw [h3,if_pos ⟨rfl,hn,.inl aa⟩,if_pos aa]
section
variable (a:List S45) (b c:List S47) (d:List ByteArray) (e f:Int)
noncomputable def createOut (s:ByteArray):List S45×List S47×List S47×List ByteArray×Int×Int×Int:=
  if diskOk a b c d e f=true then
    if nameOk s.data.toList=true then
      if 0≤placeE b s then (a,b,c,d,e,f,2)
      else if 16≤b.length∨64≤a.length∨1000000000≤f then (a,b,c,d,e,f,4)
      else (cleanS (a++[⟨f,⟨#[]⟩,0⟩]) c (d++[(((⟨#[43]⟩:ByteArray)++s)++⟨#[58]⟩)++mkT (itoa f)]),putW s f b false,c,d++[(((⟨#[43]⟩:ByteArray)++s)++⟨#[58]⟩)++mkT (itoa f)],e,wrap64 (f+1),0)
    else (a,b,c,d,e,f,1)
  else (a,b,c,d,e,f,3)
theorem numeral_size {f:Int} (hf:0≤f∧f≤1000000000):(mkT (itoa f)).size≤10:=by
  rw [mkT_size]
  exact (isDec_val ⟨hf.1,hf.2,rfl⟩).2.2.2
theorem plus_size {s t:ByteArray} (hs:s.size≤20) (ht:t.size≤10):((((⟨#[43]⟩:ByteArray)++s)++⟨#[58]⟩)++t).size≤1048576:=by
  rw [ByteArray.size_append,ByteArray.size_append,ByteArray.size_append]
  show 1+s.size+1+t.size≤_
  omega
end
theorem toList_data (s:ByteArray):s.toList=s.data.toList:=by rw [ByteArray.toList_eq]
theorem stepS_gt {b:List S47} {s t:ByteArray} (hn:nameOk s.data.toList=true) (hp:0≤placeE b s) (ht:nameOk t.data.toList=true) (hne:(s.toList == t.toList)=false):stepS b ((((⟨#[62]⟩:ByteArray)++s)++⟨#[58]⟩)++t)=some (putW t (entAt b s) (dropS b s) false):=by
  generalize hK:(((⟨#[62]⟩:ByteArray)++s)++⟨#[58]⟩)++t=K
  have hl:K.data.toList=62 :: (s.data.toList++58 :: t.data.toList):=by
    rw [← hK,app_list,app_list,app_list]
    show [62]++s.data.toList++[58]++t.data.toList=_
    simp
  have hz:K.size=2+s.size+t.size:=by
    rw [← hK,ByteArray.size_append,ByteArray.size_append,ByteArray.size_append]
    show 1+s.size+1+t.size=_
    omega
  have hsl:=size_list s
  have htl:=size_list t
  have hb:=bt_zero hl
  have h1:K.extract 1 (1+s.data.toList.length)=s:=ba_same (by
    rw [ext_list,hl,List.drop_one,List.tail_cons,show 1+s.data.toList.length-1=s.data.toList.length by omega,List.take_left])
  have h2:K.extract (1+s.data.toList.length+1) K.size=t:=ba_same (by
    rw [ext_list,hl,show 1+s.data.toList.length+1=(s.data.toList.length+1)+1 by omega,List.drop_succ_cons,hz,List.take_of_length_le (by rw [List.length_drop,List.length_append,List.length_cons];omega)]
    rw [show s.data.toList++58 :: t.data.toList=(s.data.toList++[58])++t.data.toList by simp,List.drop_left' (by simp)])
  have aa:bt K 0=62:=by rw [hb];rfl
  have h3:l06step K=(s,t,0,true):=by
    unfold l06step
    rw [if_neg (by omega),if_neg (by omega),if_pos (.inr aa),hl,List.drop_one,List.tail_cons,cutAt_first 58 _ _ (nameOk_no58 hn)]
    show stepFin K (K.extract 1 (1+s.data.toList.length)) (K.extract (1+s.data.toList.length+1) K.size)=_
    rw [h1,h2]
    unfold stepFin
    rw [if_pos aa,ht,Bool.true_and,bne,hne]
    rfl
  unfold stepS
  rw [h3,if_pos ⟨rfl,hn,.inr hp⟩,if_neg (by omega),if_neg (by omega)]
section
variable (a:List S45) (b c:List S47) (d:List ByteArray) (e f:Int)
noncomputable def renameOut (s t:ByteArray):List S45×List S47×List S47×List ByteArray×Int×Int×Int:=
  if diskOk a b c d e f=true∧0≤placeE b s then
    if nameOk t.data.toList=true∧(s.toList == t.toList)=false then (cleanS a c (d++[(((⟨#[62]⟩:ByteArray)++s)++⟨#[58]⟩)++t]),putW t (entAt b s) (dropS b s) false,c,d++[(((⟨#[62]⟩:ByteArray)++s)++⟨#[58]⟩)++t],e,f,0)
    else (a,b,c,d,e,f,1)
  else (a,b,c,d,e,f,3)
theorem name_small {s:ByteArray} (h:nameOk s.data.toList=true):s.size≤20:=by
  have:=nameOk_pos h
  rw [size_list] at this
  exact this.2
theorem gt_size {s t:ByteArray} (hs:s.size≤20) (ht:t.size≤20):((((⟨#[62]⟩:ByteArray)++s)++⟨#[58]⟩)++t).size≤1048576:=by
  rw [ByteArray.size_append,ByteArray.size_append,ByteArray.size_append]
  show 1+s.size+1+t.size≤_
  omega
theorem dropS_length (l:List S47) (s:ByteArray):(dropS l s).length≤l.length:=List.length_filter_le ..
end
section
variable {a:List S45} {b c:List S47} {d:List ByteArray} {e f:Int}
theorem node_at (h:diskOk a b c d e f=true) {s:ByteArray} (hp:0≤placeE b s):∃ j:Nat,∃ hj:j<a.length,nodeIx a (entAt b s)=(j:Int)∧rd_T45 a (nodeIx a (entAt b s))=a[j]:=by
  have h0:=(diskOk_node a b c d e f h s hp).2
  have h1:=(nodeIx_range a (entAt b s)).2
  refine ⟨(nodeIx a (entAt b s)).toNat,by omega,by omega,?_⟩
  obtain ⟨j,hj⟩:∃ j:Nat,nodeIx a (entAt b s)=(j:Int):=⟨(nodeIx a (entAt b s)).toNat,by omega⟩
  have hjl:j<a.length:=by omega
  simp only [hj,Int.toNat_natCast]
  exact rd_INode a j hjl
theorem diskOk_at (h:diskOk a b c d e f=true) {j:Nat} (hj:j<a.length):0≤a[j].f2∧a[j].f2≤(a[j].f1.size:Int):=((diskOk_iff.mp h).2.2.2.2.1.1 _ (List.getElem_mem hj)).2
theorem sync_ok (h:diskOk a b c d e f=true) (s:ByteArray):diskOk (syncOut a b c d e f s).1 (syncOut a b c d e f s).2.1 (syncOut a b c d e f s).2.2.1 (syncOut a b c d e f s).2.2.2.1 (syncOut a b c d e f s).2.2.2.2.1 (syncOut a b c d e f s).2.2.2.2.2.1=true:=by
  unfold syncOut
  by_cases hp:0≤placeE b s
  · rw [if_pos (⟨h,hp⟩:diskOk a b c d e f=true∧0≤placeE b s)]
    obtain ⟨j,hj,e1,e2⟩:=node_at h hp
    rw [e2,e1,Int.toNat_natCast]
    exact diskOk_set h j hj _ rfl ⟨Int.natCast_nonneg _,Int.le_refl _⟩ (by have:=(diskOk_iff.mp h).2.2.2.1;show (usedOn a:Int)+a[j].f1.size≤_;omega)
  · rw [if_neg (fun q=>hp q.2:¬ (diskOk a b c d e f=true∧0≤placeE b s))]
    exact h
theorem append_ok (h:diskOk a b c d e f=true) (s t:ByteArray):diskOk (appendOut a b c d e f s t).1 (appendOut a b c d e f s t).2.1 (appendOut a b c d e f s t).2.2.1 (appendOut a b c d e f s t).2.2.2.1 (appendOut a b c d e f s t).2.2.2.2.1 (appendOut a b c d e f s t).2.2.2.2.2.1=true:=by
  unfold appendOut
  by_cases hp:0≤placeE b s
  · rw [if_pos (⟨h,hp⟩:diskOk a b c d e f=true∧0≤placeE b s)]
    obtain ⟨j,hj,e1,e2⟩:=node_at h hp
    have hu:=(diskOk_iff.mp h).2.2.2.1
    have hs:=diskOk_at h hj
    rw [e2,e1,Int.toNat_natCast]
    split
    · have hx:=extract_sz t (e-usedOn a).toNat (by omega)
      refine diskOk_set h j hj _ rfl ⟨hs.1,?_⟩ ?_
      · show a[j].f2≤((a[j].f1++_).size:Int)
        rw [ByteArray.size_append];omega
      · show (usedOn a:Int)+((a[j].f1++_).size:Int)≤_
        rw [ByteArray.size_append,hx];omega
    · refine diskOk_set h j hj _ rfl ⟨hs.1,?_⟩ ?_
      · show a[j].f2≤((a[j].f1++_).size:Int)
        rw [ByteArray.size_append];omega
      · show (usedOn a:Int)+((a[j].f1++_).size:Int)≤_
        rw [ByteArray.size_append];omega
  · rw [if_neg (fun q=>hp q.2:¬ (diskOk a b c d e f=true∧0≤placeE b s))]
    exact h
theorem remove_ok (h:diskOk a b c d e f=true) (s:ByteArray):diskOk (removeOut a b c d e f s).1 (removeOut a b c d e f s).2.1 (removeOut a b c d e f s).2.2.1 (removeOut a b c d e f s).2.2.2.1 (removeOut a b c d e f s).2.2.2.2.1 (removeOut a b c d e f s).2.2.2.2.2.1=true:=by
  unfold removeOut
  by_cases hp:0≤placeE b s
  · rw [if_pos (⟨h,hp⟩:diskOk a b c d e f=true∧0≤placeE b s)]
    obtain ⟨hg,hl⟩:=diskOk_goodE h
    have hn:=fine_has a (diskOk_chain a b c d e f h).2.2.2.1 s hp
    have:=dropS_short hp
    exact diskOk_snoc h (stepS_minus hn hp) (fine_good.mpr ⟨dropS_good hg,by show (dropS b s).length≤16;omega⟩)
  · rw [if_neg (fun q=>hp q.2:¬ (diskOk a b c d e f=true∧0≤placeE b s))]
    exact h
theorem create_ok (h:diskOk a b c d e f=true) (s:ByteArray):diskOk (createOut a b c d e f s).1 (createOut a b c d e f s).2.1 (createOut a b c d e f s).2.2.1 (createOut a b c d e f s).2.2.2.1 (createOut a b c d e f s).2.2.2.2.1 (createOut a b c d e f s).2.2.2.2.2.1=true:=by
  unfold createOut
  rw [if_pos h]
  split
  case isFalse=>exact h
  rename_i hn
  split
  · exact h
  split
  · exact h
  rename_i hq
  obtain ⟨hg,hl⟩:=diskOk_goodE h
  have h2:=diskOk_iff.mp h
  refine diskOk_snoc (diskOk_new h (by omega) (by omega)) (stepS_plus hn (by omega)) (fine_good.mpr ⟨putW_good (goodE_mono hg fun x _ hx=>?_) hn ?_,?_⟩)
  · rw [nodeIx_pos] at hx ⊢
    obtain ⟨y,hy,e⟩:=hx
    exact ⟨y,List.mem_append_left _ hy,e⟩
  · rw [nodeIx_pos]
    exact ⟨_,List.mem_append_right _ (List.mem_singleton.mpr rfl),rfl⟩
  · have:=putW_length s f b false
    simp at this
    show (putW s f b false).length≤16
    omega
theorem rename_ok (h:diskOk a b c d e f=true) (s t:ByteArray):diskOk (renameOut a b c d e f s t).1 (renameOut a b c d e f s t).2.1 (renameOut a b c d e f s t).2.2.1 (renameOut a b c d e f s t).2.2.2.1 (renameOut a b c d e f s t).2.2.2.2.1 (renameOut a b c d e f s t).2.2.2.2.2.1=true:=by
  unfold renameOut
  by_cases hp:0≤placeE b s
  · rw [if_pos (⟨h,hp⟩:diskOk a b c d e f=true∧0≤placeE b s)]
    split
    case isFalse=>exact h
    rename_i ht
    obtain ⟨hg,hl⟩:=diskOk_goodE h
    have hn:=fine_has a (diskOk_chain a b c d e f h).2.2.2.1 s hp
    have:=dropS_short hp
    have h3:=putW_length t (entAt b s) (dropS b s) false
    simp at h3
    exact diskOk_snoc h (stepS_gt hn hp ht.1 ht.2) (fine_good.mpr ⟨putW_good (dropS_good hg) ht.1 (diskOk_node a b c d e f h s hp).2,by show (putW t (entAt b s) (dropS b s) false).length≤16;omega⟩)
  · rw [if_neg (fun q=>hp q.2:¬ (diskOk a b c d e f=true∧0≤placeE b s))]
    exact h
theorem names_ok (h:diskOk a b c d e f=true):diskOk (namesOut a b c d e f).1 (namesOut a b c d e f).2.1 (namesOut a b c d e f).2.2.1 (namesOut a b c d e f).2.2.2.1 (namesOut a b c d e f).2.2.2.2.1 (namesOut a b c d e f).2.2.2.2.2=true:=by
  unfold namesOut
  rw [if_pos h]
  refine diskOk_clean ?_
  have hf:=(diskOk_chain a b c d e f h).2.2.2.1
  rw [diskOk_iff] at h ⊢
  obtain ⟨h1,h2,h3,h4,h5,_⟩:=h
  refine ⟨h1,h2,h3,h4,h5,okFrom_of a b [] b (fun m _=>⟨b,?_,hf⟩) rfl⟩
  rw [List.take_nil];rfl
end
def lessZ (s:ByteArray):Prop:=Op.bytesLess s.toList [122]=true
structure Drawn (n:Nat) (a:List S45) (b c:List S47) (d:List ByteArray) (e f:Int):Prop where
  ok:diskOk a b c d e f=true
  room:e≤4000
  steps:d.length≤n
  next:f≤(n:Int)+1
  sz:∀ s∈d,s.size≤100
  nb:∀ x∈b,lessZ x.f0
  nc:∀ x∈c,lessZ x.f0
structure Fits (a:List S45) (b c:List S47) (d:List ByteArray):Prop where
  ha:a.length≤100
  hb:b.length≤100
  hu:usedOn a≤10000
  hc:c.length≤100
  hd:d.length≤100
  hs:∀ s∈d,s.size≤1000
  nb:∀ x∈b,x.f0.size≤1000
  nc:∀ x∈c,x.f0.size≤1000
theorem good_small {a:List S45} {l:List S47} (h:fine a l=true):l.length≤16∧∀ x∈l,x.f0.size≤20:=by
  obtain ⟨h1,h2⟩:=fine_good.mp h
  exact ⟨h2,fun x hx=>name_small (h1.1 x hx).1⟩
theorem fits_ok {a:List S45} {b c:List S47} {d:List ByteArray} {e f:Int} (h:diskOk a b c d e f=true) (he:e≤10000) (hd:d.length≤100) (hs:∀ s∈d,s.size≤1000):Fits a b c d:=by
  have h1:=diskOk_iff.mp h
  obtain ⟨_,_,h2,h3,_⟩:=diskOk_chain a b c d e f h
  have h2:=good_small h2
  have h3:=good_small h3
  exact ⟨by omega,by omega,by omega,by omega,hd,hs,fun x hx=>by have:=h3.2 x hx;omega,fun x hx=>by have:=h2.2 x hx;omega⟩
theorem Drawn.fits {n:Nat} {a:List S45} {b c:List S47} {d:List ByteArray} {e f:Int} (h:Drawn n a b c d e f) (hn:n≤100):Fits a b c d:=
  fits_ok h.ok (by have:=h.room;omega) (by have:=h.steps;omega) fun s hs=>by have:=h.sz s hs;omega
theorem Fits.big {a:List S45} {b c:List S47} {d:List ByteArray} (h:Fits a b c d):a.length≤1048576∧b.length≤1048576∧usedOn a≤1048576∧c.length+d.length≤1048576∧(∀ s∈d,s.size≤1048576)∧(∀ x∈c,x.f0.size≤1048576)∧(∀ x∈b,x.f0.size≤1048576)∧c.length+d.length<1048570:=by
  obtain ⟨h1,h2,h3,h4,h5,h6,h7,h8⟩:=h
  exact ⟨by omega,by omega,by omega,by omega,fun s hs=>by have:=h6 s hs;omega,fun x hx=>by have:=h8 x hx;omega,fun x hx=>by have:=h7 x hx;omega,by omega⟩
section
variable {n:Nat} {a:List S45} {b c:List S47} {d:List ByteArray} {e f:Int}
def Drawn6 (n:Nat) (D:List S45×List S47×List S47×List ByteArray×Int×Int):Prop:=Drawn n D.1 D.2.1 D.2.2.1 D.2.2.2.1 D.2.2.2.2.1 D.2.2.2.2.2
theorem Drawn.up (h:Drawn n a b c d e f):Drawn (n+1) a b c d e f:=⟨h.ok,h.room,by have:=h.steps;omega,by have:=h.next;omega,h.sz,h.nb,h.nc⟩
theorem small_snoc (h:∀ s∈d,s.size≤100) {s:ByteArray} (hs:s.size≤100):∀ x∈d++[s],x.size≤100:=fun x hx=>by
  rcases List.mem_append.mp hx with hx | hx
  · exact h x hx
  · rw [List.mem_singleton.mp hx];exact hs
theorem drop_less (h:∀ x∈b,lessZ x.f0) (s:ByteArray):∀ x∈dropS b s,lessZ x.f0:=fun x hx=>h x (List.mem_filter.mp hx).1
theorem put_less (h:∀ x∈b,lessZ x.f0) {s:ByteArray} (hs:lessZ s) (i:Int):∀ x∈putW s i b false,lessZ x.f0:=fun x hx=>by
  rcases mem_putW s i b false x hx with rfl | hx
  · exact hs
  · exact h x hx
theorem Drawn.sync (h:Drawn n a b c d e f) (s:ByteArray):Drawn (n+1) (syncOut a b c d e f s).1 (syncOut a b c d e f s).2.1 (syncOut a b c d e f s).2.2.1 (syncOut a b c d e f s).2.2.2.1 (syncOut a b c d e f s).2.2.2.2.1 (syncOut a b c d e f s).2.2.2.2.2.1:=by
  have k:=sync_ok h.ok s
  unfold syncOut at k ⊢
  split at k
  · rw [if_pos (by assumption)];exact ⟨k,h.room,h.up.steps,h.up.next,h.sz,h.nb,h.nc⟩
  · rw [if_neg (by assumption)];exact h.up
theorem Drawn.append (h:Drawn n a b c d e f) (s t:ByteArray):Drawn n (appendOut a b c d e f s t).1 (appendOut a b c d e f s t).2.1 (appendOut a b c d e f s t).2.2.1 (appendOut a b c d e f s t).2.2.2.1 (appendOut a b c d e f s t).2.2.2.2.1 (appendOut a b c d e f s t).2.2.2.2.2.1:=by
  have k:=append_ok h.ok s t
  unfold appendOut at k ⊢
  split at k
  · rw [if_pos (by assumption)]
    split at k
    · rw [if_pos (by assumption)];exact ⟨k,h.room,h.steps,h.next,h.sz,h.nb,h.nc⟩
    · rw [if_neg (by assumption)];exact ⟨k,h.room,h.steps,h.next,h.sz,h.nb,h.nc⟩
  · rw [if_neg (by assumption)];exact h
theorem Drawn.remove (h:Drawn n a b c d e f) (s:ByteArray):Drawn (n+1) (removeOut a b c d e f s).1 (removeOut a b c d e f s).2.1 (removeOut a b c d e f s).2.2.1 (removeOut a b c d e f s).2.2.2.1 (removeOut a b c d e f s).2.2.2.2.1 (removeOut a b c d e f s).2.2.2.2.2.1:=by
  have k:=remove_ok h.ok s
  unfold removeOut at k ⊢
  split at k
  · rename_i hh
    rw [if_pos (by assumption)]
    have hn:=name_small (fine_has a (diskOk_chain a b c d e f h.ok).2.2.2.1 s hh.2)
    refine ⟨k,h.room,?_,h.up.next,small_snoc h.sz ?_,drop_less h.nb s,h.nc⟩
    · have:=h.steps
      rw [List.length_append];show _+1≤_;omega
    · rw [ByteArray.size_append];show 1+s.size≤_;omega
  · rw [if_neg (by assumption)];exact h.up
theorem Drawn.create (h:Drawn n a b c d e f) (s:ByteArray) (hz:lessZ s):Drawn (n+1) (createOut a b c d e f s).1 (createOut a b c d e f s).2.1 (createOut a b c d e f s).2.2.1 (createOut a b c d e f s).2.2.2.1 (createOut a b c d e f s).2.2.2.2.1 (createOut a b c d e f s).2.2.2.2.2.1:=by
  have k:=create_ok h.ok s
  have hf:=(diskOk_iff.mp h.ok).2.2.1
  unfold createOut at k ⊢
  rw [if_pos h.ok] at k ⊢
  by_cases hn:nameOk s.data.toList=true
  case neg=>rw [if_neg hn];exact h.up
  rw [if_pos hn] at k ⊢
  by_cases hp:0≤placeE b s
  · rw [if_pos hp];exact h.up
  rw [if_neg hp] at k ⊢
  by_cases hq:16≤b.length∨64≤a.length∨1000000000≤f
  · rw [if_pos hq];exact h.up
  rw [if_neg hq] at k ⊢
  have h1:=name_small hn
  have h2:(mkT (itoa f)).size≤10:=numeral_size ⟨by omega,by omega⟩
  refine ⟨k,h.room,?_,?_,small_snoc h.sz ?_,put_less h.nb hz f,h.nc⟩
  · have:=h.steps
    rw [List.length_append];show _+1≤_;omega
  · have:=h.next
    show wrap64 (f+1)≤_
    rw [wrap64_id (by omega) (by omega)];omega
  · rw [ByteArray.size_append,ByteArray.size_append,ByteArray.size_append]
    show 1+s.size+1+(mkT (itoa f)).size≤_
    omega
theorem Drawn.rename (h:Drawn n a b c d e f) (s t:ByteArray) (hz:lessZ t):Drawn (n+1) (renameOut a b c d e f s t).1 (renameOut a b c d e f s t).2.1 (renameOut a b c d e f s t).2.2.1 (renameOut a b c d e f s t).2.2.2.1 (renameOut a b c d e f s t).2.2.2.2.1 (renameOut a b c d e f s t).2.2.2.2.2.1:=by
  have k:=rename_ok h.ok s t
  unfold renameOut at k ⊢
  by_cases hp:diskOk a b c d e f=true∧0≤placeE b s
  case neg=>rw [if_neg hp];exact h.up
  rw [if_pos hp] at k ⊢
  by_cases ht:nameOk t.data.toList=true∧(s.toList == t.toList)=false
  case neg=>rw [if_neg ht];exact h.up
  rw [if_pos ht] at k ⊢
  have hn:=name_small (fine_has a (diskOk_chain a b c d e f h.ok).2.2.2.1 s hp.2)
  have h2:=name_small ht.1
  refine ⟨k,h.room,?_,h.up.next,small_snoc h.sz ?_,put_less (drop_less h.nb s) hz _,h.nc⟩
  · have:=h.steps
    rw [List.length_append];show _+1≤_;omega
  · rw [ByteArray.size_append,ByteArray.size_append,ByteArray.size_append]
    show 1+s.size+1+t.size≤_
    omega
theorem Drawn.names (h:Drawn n a b c d e f):Drawn (n+1) (namesOut a b c d e f).1 (namesOut a b c d e f).2.1 (namesOut a b c d e f).2.2.1 (namesOut a b c d e f).2.2.2.1 (namesOut a b c d e f).2.2.2.2.1 (namesOut a b c d e f).2.2.2.2.2:=by
  have k:=names_ok h.ok
  unfold namesOut at k ⊢
  rw [if_pos h.ok] at k ⊢
  exact ⟨k,h.room,Nat.zero_le _,h.up.next,fun s hs=>absurd hs List.not_mem_nil,h.nb,h.nb⟩
theorem Drawn.zero (r:Int) (h0:0≤r) (h1:r≤4000):Drawn 0 [] [] [] [] r 1:=by
  refine ⟨?_,h1,Nat.le_refl _,by omega,fun s hs=>absurd hs List.not_mem_nil,fun x hx=>absurd hx List.not_mem_nil,fun x hx=>absurd hx List.not_mem_nil⟩
  rw [diskOk_iff]
  refine ⟨by simp,by omega,by decide,by show ((0:Nat):Int)≤r;omega,⟨fun x hx=>absurd hx List.not_mem_nil,List.Pairwise.nil⟩,?_⟩
  exact okFrom_of [] [] [] [] (fun m _=>⟨[],by rw [List.take_nil];rfl,rfl⟩) rfl
end
section
variable (a:List S45) (b c:List S47) (d:List ByteArray) (e f:Int)
theorem spec_SyncFile_ev (s:ByteArray) (ha:a.length≤1048576) (hb:b.length≤1048576) (hu:usedOn a≤1048576) (hcd:c.length+d.length≤1048576) (hs:∀ s∈d,s.size≤1048576) (hc:∀ x∈c,x.f0.size≤1048576):Ev (fun k=>spec_SyncFile.f k a b c d e f s) (syncOut a b c d e f s):=by
  unfold spec_SyncFile.f
  rw [l05Copy_f a b c d e f ha hb (by omega) (by omega)]
  refine Ev.bind (Ev.const rfl) (Ev.bind (spec_DiskOk_ev a b c d e f ha hu hcd hs hc) ?_)
  unfold syncOut
  by_cases h:diskOk a b c d e f=true
  · refine Ev.pos h (Ev.bind (spec_l06Has_ev b s hb) ?_)
    by_cases hp:0≤placeE b s
    · rw [if_pos (⟨h,hp⟩:diskOk a b c d e f=true∧0≤placeE b s),zt hp]
      have hn:=(diskOk_node a b c d e f h s hp).2
      exact Ev.pos rfl (Ev.bind (spec_EntryAt_ev b s hb) (Ev.bind (spec_l05Node_ev a b c d e f _ ha) (Ev.pos ⟨hn,(nodeIx_range a _).2⟩ (Ev.now _))))
    · rw [if_neg (fun q=>hp q.2:¬ (diskOk a b c d e f=true∧0≤placeE b s)),zf hp]
      exact Ev.neg (by decide) (Ev.now _)
  · rw [if_neg (fun q=>h q.1:¬ (diskOk a b c d e f=true∧0≤placeE b s))]
    exact Ev.neg h (Ev.now _)
end
section
variable (a:List S45) (b c:List S47) (d:List ByteArray) (e f:Int)
theorem spec_AppendFile_ev (s t:ByteArray) (ht:t.size≤1048576) (ha:a.length≤1048576) (hb:b.length≤1048576) (hu:usedOn a≤1048576) (hcd:c.length+d.length≤1048576) (hs:∀ s∈d,s.size≤1048576) (hc:∀ x∈c,x.f0.size≤1048576):Ev (fun k=>spec_AppendFile.f k a b c d e f s t) (appendOut a b c d e f s t):=by
  unfold spec_AppendFile.f
  rw [l05Copy_f a b c d e f ha hb (by omega) (by omega)]
  refine Ev.bind (Ev.const rfl) (Ev.bind (spec_DiskOk_ev a b c d e f ha hu hcd hs hc) ?_)
  unfold appendOut
  by_cases h:diskOk a b c d e f=true
  · refine Ev.pos h (Ev.bind (spec_l06Has_ev b s hb) ?_)
    by_cases hp:0≤placeE b s
    · rw [if_pos (⟨h,hp⟩:diskOk a b c d e f=true∧0≤placeE b s),zt hp]
      have hn:=(diskOk_node a b c d e f h s hp).2
      have hr:=(nodeIx_range a (entAt b s)).2
      have hz:=node_sz a _ hn hr
      obtain ⟨r0,r1,r2⟩:=diskOk_room a b c d e f h
      refine Ev.pos rfl (Ev.bind (spec_EntryAt_ev b s hb) (Ev.bind (spec_l05Node_ev a b c d e f _ ha) (Ev.bind (spec_UsedOn_ev a b c d e f ha hu) ?_)))
      rw [wrap64_id (x:=e-(usedOn a:Int)) (by omega) (by omega)]
      refine Ev.pos ⟨⟨hn,hr⟩,by show (rd_T45 a (nodeIx a (entAt b s))).f1.size+_≤_;omega⟩ ?_
      by_cases hl:(t.size:Int)>e-usedOn a
      · refine Ev.of_eq ?_ (if_pos hl).symm
        exact Ev.pos hl (Ev.pos (by omega) (Ev.now _))
      · refine Ev.of_eq ?_ (if_neg hl).symm
        exact Ev.neg hl (Ev.now _)
    · rw [if_neg (fun q=>hp q.2:¬ (diskOk a b c d e f=true∧0≤placeE b s)),zf hp]
      exact Ev.neg (by decide) (Ev.now _)
  · rw [if_neg (fun q=>h q.1:¬ (diskOk a b c d e f=true∧0≤placeE b s))]
    exact Ev.neg h (Ev.now _)
end
section
variable (a:List S45) (b c:List S47) (d:List ByteArray) (e f:Int)
theorem spec_SyncNames_ev (ha:a.length≤1048576) (hb:b.length≤1048576) (hu:usedOn a≤1048576) (hcd:c.length+d.length≤1048576) (hs:∀ s∈d,s.size≤1048576) (hc:∀ x∈c,x.f0.size≤1048576) (hbs:∀ x∈b,x.f0.size≤1048576):Ev (fun k=>spec_SyncNames.f k a b c d e f) (namesOut a b c d e f):=by
  unfold spec_SyncNames.f
  rw [l05Copy_f a b c d e f ha hb (by omega) (by omega)]
  refine Ev.bind (Ev.const rfl) (Ev.bind (spec_DiskOk_ev a b c d e f ha hu hcd hs hc) ?_)
  unfold namesOut
  by_cases h:diskOk a b c d e f=true
  · rw [if_pos h]
    refine Ev.pos h (Ev.pos (by show b.length*24≤_;omega) ?_)
    exact spec_l06Clean_ev a b b [] e f ha (by rw [List.length_nil];omega) (fun s h=>absurd h List.not_mem_nil) hbs
  · rw [if_neg h]
    exact Ev.neg h (Ev.now _)
end
section
variable (a:List S45) (b c:List S47) (d:List ByteArray) (e f:Int)
theorem spec_RemoveFile_ev (s:ByteArray) (hsz:s.size≤1048576) (ha:a.length≤1048576) (hb:b.length≤1048576) (hu:usedOn a≤1048576) (hcd:c.length+d.length≤1048576) (hs:∀ s∈d,s.size≤1048576) (hc:∀ x∈c,x.f0.size≤1048576) (hroom:diskOk a b c d e f=true→c.length+d.length<1048570):Ev (fun k=>spec_RemoveFile.f k a b c d e f s) (removeOut a b c d e f s):=by
  unfold spec_RemoveFile.f
  rw [l05Copy_f a b c d e f ha hb (by omega) (by omega)]
  refine Ev.bind (Ev.const rfl) (Ev.bind (spec_DiskOk_ev a b c d e f ha hu hcd hs hc) ?_)
  unfold removeOut
  by_cases h:diskOk a b c d e f=true
  · refine Ev.pos h (Ev.bind (spec_l06Has_ev b s hb) ?_)
    by_cases hp:0≤placeE b s
    · rw [if_pos (⟨h,hp⟩:diskOk a b c d e f=true∧0≤placeE b s),zt hp]
      have hr:=hroom h
      obtain ⟨_,_,_,hf,_⟩:=diskOk_chain a b c d e f h
      have hn:=nameOk_pos (fine_has a hf s hp)
      rw [size_list] at hn
      have hz:((⟨#[45]⟩:ByteArray)++s).size≤1048576:=by rw [ByteArray.size_append];show 1+s.size≤_;omega
      have hl:(d++[(⟨#[45]⟩:ByteArray)++s]).length=d.length+1:=by simp
      exact Ev.pos rfl (Ev.bind (l06Drop_ev s b hb) (Ev.pos ⟨by omega,by show (d.length+1)*16≤_;omega⟩ (Ev.bind (spec_l06Clean_ev a (dropS b s) c (d++[(⟨#[45]⟩:ByteArray)++s]) e f ha (by omega) (snoc_sizes hs hz) hc) (Ev.now _))))
    · rw [if_neg (fun q=>hp q.2:¬ (diskOk a b c d e f=true∧0≤placeE b s)),zf hp]
      exact Ev.neg (by decide) (Ev.now _)
  · rw [if_neg (fun q=>h q.1:¬ (diskOk a b c d e f=true∧0≤placeE b s))]
    exact Ev.neg h (Ev.now _)
end
section
variable (a:List S45) (b c:List S47) (d:List ByteArray) (e f:Int)
theorem spec_CreateFile_ev (s:ByteArray) (hsz:s.size≤1048576) (ha:a.length≤1048576) (hb:b.length≤1048576) (hu:usedOn a≤1048576) (hcd:c.length+d.length≤1048576) (hs:∀ s∈d,s.size≤1048576) (hc:∀ x∈c,x.f0.size≤1048576) (hroom:diskOk a b c d e f=true→c.length+d.length<1048570):Ev (fun k=>spec_CreateFile.f k a b c d e f s) (createOut a b c d e f s):=by
  unfold spec_CreateFile.f
  rw [l05Copy_f a b c d e f ha hb (by omega) (by omega)]
  refine Ev.bind (Ev.const rfl) (Ev.bind (spec_DiskOk_ev a b c d e f ha hu hcd hs hc) ?_)
  unfold createOut
  by_cases h:diskOk a b c d e f=true
  · rw [if_pos h]
    have hr:=hroom h
    obtain ⟨_,_,hff,_⟩:=diskOk_all a b c d e f h
    refine Ev.pos h (Ev.bind (spec_NameOk_ev s (by omega)) ?_)
    by_cases hn:nameOk s.data.toList=true
    · rw [if_pos hn]
      refine Ev.pos hn (Ev.bind (spec_l06Has_ev b s hb) ?_)
      by_cases hp:0≤placeE b s
      · rw [if_pos hp,zt hp]
        exact Ev.pos rfl (Ev.now _)
      rw [if_neg hp,zf hp]
      refine Ev.neg (by decide) ?_
      by_cases t1:16≤b.length
      · rw [if_pos (.inl t1:16≤b.length∨64≤a.length∨1000000000≤f)]
        exact Ev.pos t1 (Ev.now _)
      refine Ev.neg t1 ?_
      by_cases t2:64≤a.length
      · rw [if_pos (.inr (.inl t2):16≤b.length∨64≤a.length∨1000000000≤f)]
        exact Ev.pos t2 (Ev.now _)
      refine Ev.neg t2 ?_
      by_cases t3:1000000000≤f
      · rw [if_pos (.inr (.inr t3):16≤b.length∨64≤a.length∨1000000000≤f)]
        exact Ev.pos t3 (Ev.now _)
      refine Ev.neg t3 ?_
      rw [if_neg (by omega:¬ (16≤b.length∨64≤a.length∨1000000000≤f))]
      have hz1:=nameOk_pos hn
      rw [size_list] at hz1
      have hz2:(mkT (itoa f)).size≤10:=numeral_size ⟨by omega,by omega⟩
      have hz:=plus_size hz1.2 hz2
      have hl:(d++[(((⟨#[43]⟩:ByteArray)++s)++⟨#[58]⟩)++mkT (itoa f)]).length=d.length+1:=by simp
      have hla:(a++[(⟨f,⟨#[]⟩,0⟩:S45)]).length=a.length+1:=by simp
      refine Ev.bind (l06Put_ev s f b (by omega)) (Ev.bind (spec_Decimal_ev f ⟨by omega,by omega⟩) (Ev.pos ⟨⟨by omega,by omega⟩,by show (d.length+1)*16≤_;omega,by show (a.length+1)*32≤_;omega⟩ ?_))
      exact Ev.bind (spec_l06Clean_ev (a++[⟨f,⟨#[]⟩,0⟩]) (putW s f b false) c (d++[(((⟨#[43]⟩:ByteArray)++s)++⟨#[58]⟩)++mkT (itoa f)]) e (wrap64 (f+1)) (by omega) (by omega) (snoc_sizes hs hz) hc) (Ev.now _)
    · rw [if_neg hn]
      exact Ev.neg hn (Ev.now _)
  · rw [if_neg h]
    exact Ev.neg h (Ev.now _)
end
section
variable (a:List S45) (b c:List S47) (d:List ByteArray) (e f:Int)
theorem spec_RenameFile_ev (s t:ByteArray) (hsz:s.size≤1048576) (htz:t.size≤1048576) (ha:a.length≤1048576) (hb:b.length≤1048576) (hu:usedOn a≤1048576) (hcd:c.length+d.length≤1048576) (hs:∀ s∈d,s.size≤1048576) (hc:∀ x∈c,x.f0.size≤1048576) (hroom:diskOk a b c d e f=true→c.length+d.length<1048570):Ev (fun k=>spec_RenameFile.f k a b c d e f s t) (renameOut a b c d e f s t):=by
  unfold spec_RenameFile.f
  rw [l05Copy_f a b c d e f ha hb (by omega) (by omega)]
  refine Ev.bind (Ev.const rfl) (Ev.bind (spec_DiskOk_ev a b c d e f ha hu hcd hs hc) ?_)
  unfold renameOut
  by_cases h:diskOk a b c d e f=true
  · refine Ev.pos h (Ev.bind (spec_l06Has_ev b s hb) ?_)
    by_cases hp:0≤placeE b s
    · rw [if_pos (⟨h,hp⟩:diskOk a b c d e f=true∧0≤placeE b s),zt hp]
      have hr:=hroom h
      obtain ⟨_,_,_,hf,_⟩:=diskOk_chain a b c d e f h
      have hn:=fine_has a hf s hp
      have hbl:=fine_len a hf
      refine Ev.pos rfl (Ev.bind (spec_NameOk_ev t (by omega)) ?_)
      by_cases ht:nameOk t.data.toList=true
      · refine Ev.pos ht ?_
        cases hq:(s.toList == t.toList) with
        | true=>
          rw [if_neg (fun q=>by cases q.2:¬ (nameOk t.data.toList=true∧true=false))]
          exact Ev.pos rfl (Ev.now _)
        | false=>
          rw [if_pos (⟨ht,rfl⟩:nameOk t.data.toList=true∧false=false)]
          have hz:=gt_size (name_small hn) (name_small ht)
          have hns:=name_small hn
          have hnt:=name_small ht
          have hl:(d++[(((⟨#[62]⟩:ByteArray)++s)++⟨#[58]⟩)++t]).length=d.length+1:=by simp
          have hd:=dropS_length b s
          exact Ev.neg (by decide) (Ev.bind (spec_EntryAt_ev b s hb) (Ev.bind (l06Drop_ev s b hb) (Ev.bind (l06Put_ev t (entAt b s) (dropS b s) (by omega)) (Ev.pos ⟨⟨by omega,by omega⟩,by show (d.length+1)*16≤_;omega⟩ (Ev.bind (spec_l06Clean_ev a (putW t (entAt b s) (dropS b s) false) c (d++[(((⟨#[62]⟩:ByteArray)++s)++⟨#[58]⟩)++t]) e f ha (by omega) (snoc_sizes hs hz) hc) (Ev.now _))))))
      · rw [if_neg (fun q=>ht q.1:¬ (nameOk t.data.toList=true∧(s.toList == t.toList)=false))]
        exact Ev.neg ht (Ev.now _)
    · rw [if_neg (fun q=>hp q.2:¬ (diskOk a b c d e f=true∧0≤placeE b s)),zf hp]
      exact Ev.neg (by decide) (Ev.now _)
  · rw [if_neg (fun q=>h q.1:¬ (diskOk a b c d e f=true∧0≤placeE b s))]
    exact Ev.neg h (Ev.now _)
end
def Inside (b:List Int) (i:Int):Prop:=0≤i∧i≤(b.length:Int)
theorem l01Byte_f (b:List Int) (hb:b.length≤140737488355328) (i h:Int) (hi:Inside b i):∃ x i' h',spec_l01Byte.f b i h=some (x,i',h')∧(0≤x∧x≤255)∧Inside b i':=by
  unfold Inside at *
  unfold spec_l01Byte.f
  by_cases c:i<(b.length:Int)
  · rw [if_pos c,if_pos hi.1,i64_mask8,wrap64_id (x:=i+1) (by omega) (by omega)]
    refine ⟨_,_,_,rfl,⟨?_,?_⟩,by omega⟩
    · exact Int.emod_nonneg _ (by decide)
    · have:=Int.emod_lt_of_pos (wrap64 (Go.bits .and .i64 (Go.bits .xor .i64 ((wrap64 ((wrap64 (h*6364136223846793005))+1442695040888963407)) / 8589934592) ((wrap64 ((wrap64 (h*6364136223846793005))+1442695040888963407)) / 35184372088832)) 255+wrap64 (rd b i))) (show (0:Int)<256 by decide)
      omega
  · rw [if_neg c,i64_mask8]
    refine ⟨_,_,_,rfl,⟨?_,?_⟩,hi⟩
    · exact Int.emod_nonneg _ (by decide)
    · have:=Int.emod_lt_of_pos (Go.bits .xor .i64 ((wrap64 ((wrap64 (h*6364136223846793005))+1442695040888963407)) / 8589934592) ((wrap64 ((wrap64 (h*6364136223846793005))+1442695040888963407)) / 35184372088832)) (show (0:Int)<256 by decide)
      omega
theorem l01Below_f (b:List Int) (hb:b.length≤140737488355328) (i h:Int) (hi:Inside b i) (n:Int):∃ x i' h',spec_l01Below.f b i h n=some (x,i',h')∧0≤x∧(1≤n→x<n)∧(n≤0→x=0)∧Inside b i':=by
  unfold spec_l01Below.f
  by_cases c0:n≤0
  · rw [if_pos c0];exact ⟨0,i,h,rfl,by decide,fun h=>by omega,fun _=>rfl,hi⟩
  rw [if_neg c0]
  by_cases c1:n≤256
  · rw [if_pos c1]
    obtain ⟨x,i1,h1,e1,hx,hi1⟩:=l01Byte_f b hb i h hi
    rw [e1]
    simp only [Option.bind_some]
    rw [if_neg (by omega)]
    refine ⟨_,_,_,rfl,?_,fun _=>?_,fun h=>by omega,hi1⟩
    · rw [Int.tmod_eq_emod_of_nonneg hx.1];exact Int.emod_nonneg _ (by omega)
    · rw [Int.tmod_eq_emod_of_nonneg hx.1];exact Int.emod_lt_of_pos _ (by omega)
  · rw [if_neg c1]
    obtain ⟨x,i1,h1,e1,hx,hi1⟩:=l01Byte_f b hb i h hi
    obtain ⟨y,i2,h2,e2,hy,hi2⟩:=l01Byte_f b hb i1 h1 hi1
    obtain ⟨z,i3,h3,e3,hz,hi3⟩:=l01Byte_f b hb i2 h2 hi2
    obtain ⟨w,i4,h4,e4,hw,hi4⟩:=l01Byte_f b hb i3 h3 hi3
    rw [e1];simp only [Option.bind_some]
    rw [e2];simp only [Option.bind_some]
    rw [e3];simp only [Option.bind_some]
    rw [e4];simp only [Option.bind_some]
    rw [if_neg (by omega),wrap64_id (x:=x*16777216) (by omega) (by omega),wrap64_id (x:=y*65536) (by omega) (by omega),wrap64_id (x:=z*256) (by omega) (by omega),wrap64_id (x:=x*16777216+y*65536) (by omega) (by omega),wrap64_id (x:=x*16777216+y*65536+z*256) (by omega) (by omega),wrap64_id (by omega) (by omega)]
    have hs:0≤x*16777216+y*65536+z*256+w:=by omega
    refine ⟨_,_,_,rfl,?_,fun _=>?_,fun h=>by omega,hi4⟩
    · rw [Int.tmod_eq_emod_of_nonneg hs];exact Int.emod_nonneg _ (by omega)
    · rw [Int.tmod_eq_emod_of_nonneg hs];exact Int.emod_lt_of_pos _ (by omega)
theorem l01Pick_f (b:List Int) (hb:b.length≤140737488355328) (i h:Int) (hi:Inside b i) (l:List ByteArray) (hl:l≠[]):∃ x i' h',spec_l01Pick.f b i h l=some (x,i',h')∧x∈l∧Inside b i':=by
  obtain ⟨x,i1,h1,e1,h0,hlt,_,hi1⟩:=l01Below_f b hb i h hi (l.length:Int)
  have hpos:1≤(l.length:Int):=by have:=List.length_pos_iff.mpr hl;omega
  unfold spec_l01Pick.f
  rw [e1]
  simp only [Option.bind_some]
  rw [if_pos h0,if_pos (hlt hpos)]
  refine ⟨_,_,_,rfl,?_,hi1⟩
  have hx:x.toNat<l.length:=by have:=hlt hpos;omega
  unfold rdOf
  rw [List.getD_eq_getElem?_getD,List.getElem?_eq_getElem hx]
  exact List.getElem_mem hx
theorem l01PickInt_f (b:List Int) (hb:b.length≤140737488355328) (i h:Int) (hi:Inside b i) (l:List Int) (hl:l≠[]):∃ x i' h',spec_l01PickInt.f b i h l=some (x,i',h')∧x∈l∧Inside b i':=by
  obtain ⟨x,i1,h1,e1,h0,hlt,_,hi1⟩:=l01Below_f b hb i h hi (l.length:Int)
  have hpos:1≤(l.length:Int):=by have:=List.length_pos_iff.mpr hl;omega
  unfold spec_l01PickInt.f
  rw [e1]
  simp only [Option.bind_some]
  rw [if_pos h0,if_pos (hlt hpos)]
  refine ⟨_,_,_,rfl,?_,hi1⟩
  have hx:x.toNat<l.length:=by have:=hlt hpos;omega
  unfold rd
  rw [List.getD_eq_getElem?_getD,List.getElem?_eq_getElem hx]
  exact List.getElem_mem hx
theorem l01Text_l0 (b:List Int) (hb:b.length≤140737488355328) (n:Int) (hn:n≤5000) (m:Nat):∀ (j:Nat) (acc:List Int) (i h:Int),((j:Int)+m=n∨(m=0∧n≤j))→acc.length=j→j≤5000→Inside b i→
    ∃ s i' h',Ev (fun k=>spec_l01Text.l0 k n acc (j:Int) b i h) (s,i',h')∧s.size≤5000∧Inside b i':=by
  induction m with
  | zero=>
    intro j acc i h hj ha hj2 hi
    refine ⟨strOfNums acc,i,h,?_,by rw [strOfNums_size];omega,hi⟩
    refine Ev.step (fun k=>by rw [spec_l01Text.l0]) ?_
    exact Ev.neg (by omega) (Ev.now _)
  | succ m ih=>
    intro j acc i h hj ha hj2 hi
    obtain ⟨x,i1,h1,e1,hx,hi1⟩:=l01Byte_f b hb i h hi
    obtain ⟨s,i',h',e,hs,hi'⟩:=ih (j+1) (acc++[x % 256]) i1 h1 (by omega) (by rw [List.length_append,List.length_singleton];omega) (by omega) hi1
    refine ⟨s,i',h',?_,hs,hi'⟩
    refine Ev.step (fun k=>by rw [spec_l01Text.l0]) (Ev.pos (by omega) ?_)
    rw [e1,wrap64_id (by omega) (by omega)]
    refine Ev.bind (Ev.const rfl) ?_
    exact Ev.pos (by omega) e
theorem l01Text_ev (b:List Int) (hb:b.length≤140737488355328) (i h:Int) (hi:Inside b i) (n:Int):∃ s i' h',Ev (fun k=>spec_l01Text.f k b i h n) (s,i',h')∧s.size≤5000∧Inside b i':=by
  by_cases c:n>5000
  · obtain ⟨s,i',h',e,hs,hi'⟩:=l01Text_l0 b hb 5000 (by decide) 5000 0 [] i h (.inl (by decide)) rfl (by decide) hi
    refine ⟨s,i',h',?_,hs,hi'⟩
    unfold spec_l01Text.f
    refine Ev.pos c (Ev.step (fun k=>by rw [spec_l01Text.j0]) ?_)
    exact e
  · obtain ⟨s,i',h',e,hs,hi'⟩:=l01Text_l0 b hb n (by omega) n.toNat 0 [] i h (by omega) rfl (by decide) hi
    refine ⟨s,i',h',?_,hs,hi'⟩
    unfold spec_l01Text.f
    refine Ev.neg c (Ev.step (fun k=>by rw [spec_l01Text.j0]) ?_)
    exact e
theorem l01New_l0 (b:List Int) (m:Nat):∀ (j:Nat) (h:Int),j+m=4001→∃ h',Ev (fun k=>spec_l01New.l0 k b h (j:Int)) (b,0,h'):=by
  induction m with
  | zero=>
    intro j h hj
    refine ⟨h,Ev.step (fun k=>by rw [spec_l01New.l0]) ?_⟩
    by_cases c:(j:Int)<(b.length:Int)
    · exact Ev.pos c (Ev.neg (by omega) (Ev.now _))
    · exact Ev.neg c (Ev.now _)
  | succ m ih=>
    intro j h hj
    by_cases c:(j:Int)<(b.length:Int)
    · by_cases c2:(j:Int)<4000
      · obtain ⟨h',e⟩:=ih (j+1) (Go.bits .and .i64 (wrap64 ((wrap64 ((wrap64 (h*131))+(wrap64 (rd b (j:Int)))))+7)) 1073741823) (by omega)
        refine ⟨h',Ev.step (fun k=>by rw [spec_l01New.l0]) (Ev.pos c (Ev.pos c2 (Ev.pos (by omega) ?_)))⟩
        rw [wrap64_id (x:=(j:Int)+1) (by omega) (by omega)]
        exact e
      · exact ⟨h,Ev.step (fun k=>by rw [spec_l01New.l0]) (Ev.pos c (Ev.neg c2 (Ev.now _)))⟩
    · exact ⟨h,Ev.step (fun k=>by rw [spec_l01New.l0]) (Ev.neg c (Ev.now _))⟩
theorem l01New_ev (b:List Int):∃ h',Ev (fun k=>spec_l01New.f k b) (b,0,h'):=by
  unfold spec_l01New.f
  exact l01New_l0 b 4001 0 _ (by decide)
theorem inside0 (b:List Int):Inside b 0:=⟨by decide,by omega⟩
theorem lessZ_of {s:ByteArray} (h:Op.bytesLess s.data.toList [122]=true):lessZ s:=by unfold lessZ;rw [ByteArray.toList_eq];exact h
theorem drawNames_less:∀ x∈([(⟨#[97]⟩:ByteArray),(⟨#[98]⟩:ByteArray),(⟨#[115,48,48,48,48,48,48,48,48,46,115,101,103]⟩:ByteArray),(⟨#[115,48,48,48,48,48,48,48,51,46,115,101,103]⟩:ByteArray),(⟨#[115,48,48,48,48,48,48,48,48,46,115,101,103,46,116,109,112]⟩:ByteArray),(⟨#[99]⟩:ByteArray)]:List ByteArray),lessZ x∧x.size≤20:=by
  intro x hx
  simp only [List.mem_cons,List.not_mem_nil,or_false] at hx
  rcases hx with rfl | rfl | rfl | rfl | rfl | rfl <;> exact ⟨lessZ_of (by decide),by decide⟩
theorem drawThree_less:∀ x∈([(⟨#[98]⟩:ByteArray),(⟨#[120]⟩:ByteArray),(⟨#[115,48,48,48,48,48,48,48,51,46,115,101,103]⟩:ByteArray)]:List ByteArray),lessZ x∧x.size≤20:=by
  intro x hx
  simp only [List.mem_cons,List.not_mem_nil,or_false] at hx
  rcases hx with rfl | rfl | rfl <;> exact ⟨lessZ_of (by decide),by decide⟩
abbrev Disk6:=List S45×List S47×List S47×List ByteArray×Int×Int
section
variable {b:List Int} (hb:b.length≤140737488355328)
include hb
theorem drawStep_ev (n:Nat) (hn:n≤50) (D:Disk6) (hD:Drawn6 n D) (i h:Int) (hi:Inside b i):∃ (D':Disk6) (i' h':Int),Ev (fun k=>drawStep k b D i h) (D',i',h')∧Drawn6 (n+2) D'∧Inside b i':=by
  obtain ⟨a,e1,e2,d,e,f⟩:=D
  have hD:Drawn n a e1 e2 d e f:=hD
  obtain ⟨h1,h2,h3,h4,h5,h6,h7,h8⟩:=(hD.fits (by omega)).big
  obtain ⟨p,i1,g1,hp,hpm,hi1⟩:=l01Pick_f b hb i h hi _ (by simp:([(⟨#[97]⟩:ByteArray),(⟨#[98]⟩:ByteArray),(⟨#[115,48,48,48,48,48,48,48,48,46,115,101,103]⟩:ByteArray),(⟨#[115,48,48,48,48,48,48,48,51,46,115,101,103]⟩:ByteArray),(⟨#[115,48,48,48,48,48,48,48,48,46,115,101,103,46,116,109,112]⟩:ByteArray),(⟨#[99]⟩:ByteArray)]:List ByteArray)≠[])
  obtain ⟨hpl,hps⟩:=drawNames_less p hpm
  obtain ⟨z,i2,g2,hz,z0,z8,_,hi2⟩:=l01Below_f b hb i1 g1 hi1 8
  unfold drawStep
  simp only
  rw [hp]
  simp only [Option.bind_some]
  rw [hz]
  simp only [Option.bind_some]
  by_cases c0:z=0
  · exact ⟨_,_,_,Ev.pos c0 (Ev.bind (spec_RemoveFile_ev a e1 e2 d e f p (by omega) h1 h2 h3 h4 h5 h6 fun _=>h8) (Ev.now _)),(hD.remove p).up,hi2⟩
  by_cases c1:z=1
  · exact ⟨_,_,_,Ev.neg c0 (Ev.pos c1 (Ev.bind (spec_SyncNames_ev a e1 e2 d e f h1 h2 h3 h4 h5 h6 h7) (Ev.now _))),hD.names.up,hi2⟩
  by_cases c2:z=2
  · exact ⟨_,_,_,Ev.neg c0 (Ev.neg c1 (Ev.pos c2 (Ev.bind (spec_SyncFile_ev a e1 e2 d e f p h1 h2 h3 h4 h5 h6) (Ev.now _)))),(hD.sync p).up,hi2⟩
  by_cases c3:z=3
  · obtain ⟨q,i3,g3,hq,hqm,hi3⟩:=l01Pick_f b hb i2 g2 hi2 _ (by simp:([(⟨#[98]⟩:ByteArray),(⟨#[120]⟩:ByteArray),(⟨#[115,48,48,48,48,48,48,48,51,46,115,101,103]⟩:ByteArray)]:List ByteArray)≠[])
    obtain ⟨hql,hqs⟩:=drawThree_less q hqm
    refine ⟨_,_,_,Ev.neg c0 (Ev.neg c1 (Ev.neg c2 (Ev.pos c3 (Ev.bind (Ev.const hq) (Ev.bind (spec_RenameFile_ev a e1 e2 d e f p q (by omega) (by omega) h1 h2 h3 h4 h5 h6 fun _=>h8) (Ev.now _)))))),(hD.rename p q hql).up,hi3⟩
  have hc:=spec_CreateFile_ev a e1 e2 d e f p (by omega) h1 h2 h3 h4 h5 h6 fun _=>h8
  have hC:=hD.create p hpl
  by_cases c4:z=4∨z=5
  · exact ⟨_,_,_,Ev.neg c0 (Ev.neg c1 (Ev.neg c2 (Ev.neg c3 (Ev.pos c4 (Ev.bind hc (Ev.now _)))))),hC.up,hi2⟩
  generalize createOut a e1 e2 d e f p=o at hc hC
  obtain ⟨o1,o2,o3,o4,o5,o6,o7⟩:=o
  have hC:Drawn (n+1) o1 o2 o3 o4 o5 o6:=hC
  obtain ⟨y,i4,g4,hy,_,_,_,hi4⟩:=l01Below_f b hb i2 g2 hi2 12
  obtain ⟨t,i5,g5,ht,hts,hi5⟩:=l01Text_ev b hb i4 g4 hi4 y
  obtain ⟨k1,k2,k3,k4,k5,k6,k7,k8⟩:=(hC.fits (by omega)).big
  exact ⟨_,_,_,Ev.neg c0 (Ev.neg c1 (Ev.neg c2 (Ev.neg c3 (Ev.neg c4 (Ev.bind hc (Ev.bind (Ev.const hy) (Ev.bind ht (Ev.bind (spec_AppendFile_ev o1 o2 o3 o4 o5 o6 p t (by omega) k1 k2 k3 k4 k5 k6) (Ev.now _))))))))),(hC.append p t).up,hi5⟩
theorem drawLoop_ev (m:Nat):∀ (j n:Nat) (D:Disk6) (i h:Int),j+(m+1)=10→n≤2*j→Drawn6 n D→Inside b i→∃ (D':Disk6) (i' h':Int),Ev (fun k=>drawLoop k b (m+1) j D i h) (D',i',h')∧Drawn6 20 D'∧Inside b i':=by
  have more:∀ (n:Nat) (D:Disk6),n≤20→Drawn6 n D→Drawn6 20 D:=fun n D hn hD=>⟨hD.ok,hD.room,by have:=hD.steps;omega,by have:=hD.next;omega,hD.sz,hD.nb,hD.nc⟩
  induction m with
  | zero=>
    intro j n D i h hj hn hD hi
    obtain ⟨y,i1,g1,hy,_,y9,_,hi1⟩:=l01Below_f b hb i h hi 9
    refine ⟨D,i1,g1,Ev.congr (fun k=>by rw [drawLoop]) (Ev.bind (Ev.const hy) (Ev.neg ?_ (Ev.now _))),more n D (by omega) hD,hi1⟩
    have:=y9 (by decide)
    show ¬ ((j:Int)<y)
    omega
  | succ m ih=>
    intro j n D i h hj hn hD hi
    obtain ⟨y,i1,g1,hy,_,y9,_,hi1⟩:=l01Below_f b hb i h hi 9
    by_cases c:(j:Int)<y
    · obtain ⟨D1,i2,g2,e2,hD1,hi2⟩:=drawStep_ev hb n (by omega) D hD i1 g1 hi1
      obtain ⟨D2,i3,g3,e3,hD2,hi3⟩:=ih (j+1) (n+2) D1 i2 g2 (by omega) (by omega) hD1 hi2
      exact ⟨D2,i3,g3,Ev.congr (fun k=>by rw [drawLoop]) (Ev.bind (Ev.const hy) (Ev.pos c (Ev.bind e2 e3))),hD2,hi3⟩
    · exact ⟨D,i1,g1,Ev.congr (fun k=>by rw [drawLoop]) (Ev.bind (Ev.const hy) (Ev.neg c (Ev.now _))),more n D (by omega) hD,hi1⟩
theorem l05Disk_ev (i h:Int) (hi:Inside b i):∃ (D:Disk6) (i' h':Int),Ev (fun k=>spec_l05Disk.f k b i h) (D.1,D.2.1,D.2.2.1,D.2.2.2.1,D.2.2.2.2.1,D.2.2.2.2.2,i',h')∧Drawn6 20 D∧Inside b i':=by
  obtain ⟨r,i1,g1,hr,hrm,hi1⟩:=l01PickInt_f b hb i h hi [4000,4000,4000,300,100] (by simp)
  have hr0:0≤r∧r≤4000:=by
    simp only [List.mem_cons,List.not_mem_nil,or_false] at hrm
    omega
  have hn:spec_DiskNew.f r=some ([],[],[],[],r,1):=by unfold spec_DiskNew.f;exact if_neg (by omega)
  obtain ⟨D,i2,g2,e2,hD,hi2⟩:=drawLoop_ev hb 9 0 0 ([],[],[],[],r,1) i1 g1 (by decide) (by decide) (Drawn.zero r hr0.1 hr0.2) hi1
  refine ⟨D,i2,g2,?_,hD,hi2⟩
  unfold spec_l05Disk.f
  exact Ev.bind (Ev.const hr) (Ev.bind (Ev.const hn) (Ev.bind e2 (Ev.now _)))
end
structure AnyD (a:List S45) (b c:List S47) (d:List ByteArray):Prop where
  fits:Fits a b c d
  ord:inOrder c
  ids:∀ x∈a,x.f0≤1000
theorem Drawn.any {n:Nat} {a:List S45} {b c:List S47} {d:List ByteArray} {e f:Int} (h:Drawn n a b c d e f) (hn:n≤50):AnyD a b c d:=by
  refine ⟨h.fits (by omega),fine_order (diskOk_chain a b c d e f h.ok).2.2.1,fun x hx=>?_⟩
  have h1:=diskOk_iff.mp h.ok
  have h2:=(h1.2.2.2.2.1.1 x hx).1.2
  have h3:=h.next
  rw [wrap64_id (by omega) (by omega)] at h2
  omega
theorem usedOn_setSure (l:List S45) (q:Int):usedOn (setSure l q)=usedOn l∧(setSure l q).length=l.length∧((setSure l q).map fun x=>x.f0)=l.map fun x=>x.f0:=by
  cases l with
  | nil=>exact ⟨rfl,rfl,rfl⟩
  | cons x r=>exact ⟨rfl,rfl,rfl⟩
theorem usedOn_sameId (l:List S45):usedOn (sameId l)=usedOn l∧(sameId l).length=l.length∧∀ x∈sameId l,∃ y∈l,y.f0=x.f0:=by
  cases l with
  | nil=>exact ⟨rfl,rfl,fun x hx=>absurd hx List.not_mem_nil⟩
  | cons y r=>
    cases r with
    | nil=>exact ⟨rfl,rfl,fun x hx=>⟨x,hx,rfl⟩⟩
    | cons z r=>
      refine ⟨rfl,rfl,fun x hx=>?_⟩
      rcases List.mem_cons.mp hx with rfl | hx
      · exact ⟨_,List.mem_cons_self ..,rfl⟩
      rcases List.mem_cons.mp hx with rfl | hx
      · exact ⟨_,List.mem_cons_self ..,rfl⟩
      · exact ⟨x,List.mem_cons_of_mem _ (List.mem_cons_of_mem _ hx),rfl⟩
theorem snoc_all {α:Type} {P:α→Prop} {l:List α} {x:α} (h:∀ y∈l,P y) (hx:P x):∀ y∈l++[x],P y:=fun y hy=>by
  rcases List.mem_append.mp hy with hy | hy
  · exact h y hy
  · rw [List.mem_singleton.mp hy];exact hx
theorem drawSteps_size:∀ x∈([(⟨#[45,97]⟩:ByteArray),(⟨#[43,113,58,49]⟩:ByteArray),(⟨#[120]⟩:ByteArray),(⟨#[]⟩:ByteArray),(⟨#[43,113,58,57]⟩:ByteArray),(⟨#[45,122,122]⟩:ByteArray),(⟨#[43,58,49]⟩:ByteArray),(⟨#[43,113,58]⟩:ByteArray)]:List ByteArray),x.size≤20:=by
  intro x hx
  simp only [List.mem_cons,List.not_mem_nil,or_false] at hx
  rcases hx with rfl | rfl | rfl | rfl | rfl | rfl | rfl | rfl <;> decide
theorem l05Any_ev {b:List Int} (hb:b.length≤140737488355328) (i h:Int) (hi:Inside b i):∃ (D:Disk6) (i' h':Int),Ev (fun k=>spec_l05Any.f k b i h) (D.1,D.2.1,D.2.2.1,D.2.2.2.1,D.2.2.2.2.1,D.2.2.2.2.2,i',h')∧AnyD D.1 D.2.1 D.2.2.1 D.2.2.2.1∧Inside b i':=by
  obtain ⟨⟨a,e1,e2,d,e,f⟩,i1,g1,hd,hD,hi1⟩:=l05Disk_ev hb i h hi
  have hD:Drawn 20 a e1 e2 d e f:=hD
  have hA:=hD.any (by decide)
  obtain ⟨q1,q2,q3,q4,q5,q6,q7,q8⟩:=hA.fits
  have hlen:=(diskOk_iff.mp hD.ok).1
  have hg2:=good_small (diskOk_chain a e1 e2 d e f hD.ok).2.2.1
  have hg3:=good_small (diskOk_chain a e1 e2 d e f hD.ok).2.2.2.1
  have hst:=hD.steps
  obtain ⟨z,i2,g2,hz,_,_,_,hi2⟩:=l01Below_f b hb i1 g1 hi1 16
  unfold spec_l05Any.f
  have fin:∀ (R:List S45×List S47×List S47×List ByteArray×Int×Int×Int×Int) (T:(List S45×List S47×List S47×List ByteArray×Int×Int×Int×Int)→(Int×Int×Int)→Option (List S45×List S47×List S47×List ByteArray×Int×Int×Int×Int)),T (a,e1,e2,d,e,f,i1,g1) (z,i2,g2)=some R→
      Ev (fun k=>(spec_l05Disk.f k b i h).bind fun o=>(spec_l01Below.f b o.2.2.2.2.2.2.1 o.2.2.2.2.2.2.2 16).bind fun z=>T o z) R:=fun R T hT=>Ev.bind hd (Ev.bind (Ev.const hz) (Ev.const hT))
  have hL:∀ r:Int,AnyD a e1 e2 d:=fun _=>hA
  by_cases c0:z=0
  · obtain ⟨q,i3,g3,hq,_,hi3⟩:=l01PickInt_f b hb i2 g2 hi2 [-1,0,5,1000000001] (by simp)
    exact ⟨(a,e1,e2,d,q,f),i3,g3,fin _ _ (by simp only [c0,if_true];rw [hq];rfl),hA,hi3⟩
  by_cases c1:z=1
  · obtain ⟨q,i3,g3,hq,_,hi3⟩:=l01PickInt_f b hb i2 g2 hi2 [0,1,2,-1,9223372036854775807] (by simp)
    exact ⟨(a,e1,e2,d,e,q),i3,g3,fin _ _ (by simp only [if_neg c0];rw [if_pos c1,hq];rfl),hA,hi3⟩
  by_cases c2:z=2
  · obtain ⟨q,i3,g3,hq,_,_,_,hi3⟩:=l01Below_f b hb i2 g2 hi2 4
    refine ⟨(a,e1++[⟨⟨#[122]⟩,q⟩],e2,d,e,f),i3,g3,fin _ _ (by simp only [if_neg c0,if_neg c1];rw [if_pos c2,hq];simp only [Option.bind_some];rw [if_pos (by omega)]),⟨⟨q1,by rw [List.length_append];show _+1≤_;omega,q3,q4,q5,q6,snoc_all q7 (by show (1:Nat)≤1000;decide),q8⟩,hA.ord,hA.ids⟩,hi3⟩
  by_cases c3:z=3
  · refine ⟨(a,e1,e2++[⟨⟨#[122]⟩,1⟩],d,e,f),i2,g2,fin _ _ (by simp only [if_neg c0,if_neg c1,if_neg c2];rw [if_pos c3,if_pos (by omega)]),⟨⟨q1,q2,q3,by rw [List.length_append];show _+1≤_;omega,q5,q6,q7,snoc_all q8 (by show (1:Nat)≤1000;decide)⟩,?_,hA.ids⟩,hi2⟩
    show inOrder (e2++[_])
    refine List.pairwise_append.mpr ⟨hA.ord,List.pairwise_singleton ..,fun x hx y hy=>?_⟩
    rw [List.mem_singleton.mp hy]
    show Op.bytesLess x.f0.toList (⟨#[122]⟩:ByteArray).toList=true
    have:=hD.nc x hx
    unfold lessZ at this
    rw [ByteArray.toList_eq (⟨#[122]⟩:ByteArray)]
    exact this
  by_cases c4:z=4
  · obtain ⟨q,i3,g3,hq,hqm,hi3⟩:=l01Pick_f b hb i2 g2 hi2 _ (by simp:([(⟨#[45,97]⟩:ByteArray),(⟨#[43,113,58,49]⟩:ByteArray),(⟨#[120]⟩:ByteArray),(⟨#[]⟩:ByteArray),(⟨#[43,113,58,57]⟩:ByteArray),(⟨#[45,122,122]⟩:ByteArray),(⟨#[43,58,49]⟩:ByteArray),(⟨#[43,113,58]⟩:ByteArray)]:List ByteArray)≠[])
    have hqs:=drawSteps_size q hqm
    exact ⟨(a,e1,e2,d++[q],e,f),i3,g3,fin _ _ (by simp only [if_neg c0,if_neg c1,if_neg c2,if_neg c3];rw [if_pos c4,hq];simp only [Option.bind_some];rw [if_pos (by omega)]),⟨⟨q1,q2,q3,q4,by rw [List.length_append];show _+1≤_;omega,snoc_all q6 (by omega),q7,q8⟩,hA.ord,hA.ids⟩,hi3⟩
  by_cases c5:z=5
  · by_cases hl:0<a.length
    · obtain ⟨q,i3,g3,hq,_,hi3⟩:=l01PickInt_f b hb i2 g2 hi2 [-1,0,99] (by simp)
      obtain ⟨s1,s2,s3⟩:=usedOn_setSure a q
      refine ⟨(setSure a q,e1,e2,d,e,f),i3,g3,fin _ _ (by simp only [if_neg c0,if_neg c1,if_neg c2,if_neg c3,if_neg c4];rw [if_pos c5,if_pos hl,hq];rfl),⟨⟨by show (setSure a q).length≤_;omega,q2,by show usedOn (setSure a q)≤_;omega,q4,q5,q6,q7,q8⟩,hA.ord,fun x hx=>?_⟩,hi3⟩
      have hx2:x.f0∈(setSure a q).map fun x=>x.f0:=List.mem_map.mpr ⟨x,hx,rfl⟩
      rw [s3] at hx2
      obtain ⟨y,hy,ey⟩:=List.mem_map.mp hx2
      rw [← ey];exact hA.ids y hy
    · exact ⟨(a,e1,e2,d,e,f),i2,g2,fin _ _ (by simp only [if_neg c0,if_neg c1,if_neg c2,if_neg c3,if_neg c4];rw [if_pos c5,if_neg hl]),hA,hi2⟩
  by_cases c6:z=6
  · by_cases hl:1<a.length
    · obtain ⟨s1,s2,s3⟩:=usedOn_sameId a
      refine ⟨(sameId a,e1,e2,d,e,f),i2,g2,fin _ _ (by simp only [if_neg c0,if_neg c1,if_neg c2,if_neg c3,if_neg c4,if_neg c5];rw [if_pos c6,if_pos hl]),⟨⟨by show (sameId a).length≤_;omega,q2,by show usedOn (sameId a)≤_;omega,q4,q5,q6,q7,q8⟩,hA.ord,fun x hx=>?_⟩,hi2⟩
      obtain ⟨y,hy,ey⟩:=s3 x hx
      rw [← ey];exact hA.ids y hy
    · exact ⟨(a,e1,e2,d,e,f),i2,g2,fin _ _ (by simp only [if_neg c0,if_neg c1,if_neg c2,if_neg c3,if_neg c4,if_neg c5];rw [if_pos c6,if_neg hl]),hA,hi2⟩
  · exact ⟨(a,e1,e2,d,e,f),i2,g2,fin _ _ (by simp only [if_neg c0,if_neg c1,if_neg c2,if_neg c3,if_neg c4,if_neg c5,if_neg c6]),hA,hi2⟩
theorem drawAsk_size:∀ x∈([(⟨#[97]⟩:ByteArray),(⟨#[98]⟩:ByteArray),(⟨#[115,48,48,48,48,48,48,48,48,46,115,101,103]⟩:ByteArray),(⟨#[115,48,48,48,48,48,48,48,51,46,115,101,103]⟩:ByteArray),(⟨#[115,48,48,48,48,48,48,48,48,46,115,101,103,46,116,109,112]⟩:ByteArray),(⟨#[99]⟩:ByteArray),(⟨#[120]⟩:ByteArray),(⟨#[]⟩:ByteArray),(⟨#[65]⟩:ByteArray)]:List ByteArray),x.size≤20:=by
  intro x hx
  simp only [List.mem_cons,List.not_mem_nil,or_false] at hx
  rcases hx with rfl | rfl | rfl | rfl | rfl | rfl | rfl | rfl | rfl <;> decide
theorem l05Name_f (b:List Int) (hb:b.length≤140737488355328) (i h:Int) (hi:Inside b i):∃ x i' h',spec_l05Name.f b i h=some (x,i',h')∧x.size≤20∧Inside b i':=by
  unfold spec_l05Name.f
  obtain ⟨x,i1,h1,e1,hx,hi1⟩:=l01Pick_f b hb i h hi _ (by simp:([(⟨#[97]⟩:ByteArray),(⟨#[98]⟩:ByteArray),(⟨#[115,48,48,48,48,48,48,48,48,46,115,101,103]⟩:ByteArray),(⟨#[115,48,48,48,48,48,48,48,51,46,115,101,103]⟩:ByteArray),(⟨#[115,48,48,48,48,48,48,48,48,46,115,101,103,46,116,109,112]⟩:ByteArray),(⟨#[99]⟩:ByteArray),(⟨#[120]⟩:ByteArray),(⟨#[]⟩:ByteArray),(⟨#[65]⟩:ByteArray)]:List ByteArray)≠[])
  exact ⟨x,i1,h1,by rw [e1];rfl,drawAsk_size x hx,hi1⟩
theorem l01Once_f (b:List Int) (hb:b.length≤140737488355328) (i h:Int) (hi:Inside b i) (n:Int):∃ x i' h',spec_l01Once.f b i h n=some (x,i',h')∧Inside b i':=by
  obtain ⟨x,i1,h1,e1,_,_,_,hi1⟩:=l01Below_f b hb i h hi n
  unfold spec_l01Once.f
  rw [e1]
  exact ⟨_,_,_,rfl,hi1⟩
theorem l01Long_l0 (c:Int) (N:Nat) (hN:N≤1000) (m:Nat):∀ (j:Nat) (xs:List Int),j+m=N→xs.length=N→∃ s,Ev (fun k=>spec_l01Long.l0 k (N:Int) c xs (j:Int)) s∧s.size=N:=by
  induction m with
  | zero=>
    intro j xs hj hl
    refine ⟨strOfNums xs,Ev.step (fun k=>by rw [spec_l01Long.l0]) ?_,by rw [strOfNums_size,hl]⟩
    exact Ev.neg (by omega) (Ev.now _)
  | succ m ih=>
    intro j xs hj hl
    obtain ⟨s,e,hs⟩:=ih (j+1) (xs.set j c) (by omega) (by rw [List.length_set];exact hl)
    refine ⟨s,Ev.step (fun k=>by rw [spec_l01Long.l0]) (Ev.pos (by omega) (Ev.pos (by omega) (Ev.pos (by omega) ?_))),hs⟩
    rw [wrap64_id (by omega) (by omega),Int.toNat_natCast]
    exact e
theorem l01Long_ev (c:Int) (N:Nat) (hN:N≤1000):∃ s,Ev (fun k=>spec_l01Long.f k (N:Int) c) s∧s.size=N:=by
  obtain ⟨s,e,hs⟩:=l01Long_l0 c N hN N 0 (List.replicate N 0) (by omega) (List.length_replicate ..)
  refine ⟨s,?_,hs⟩
  unfold spec_l01Long.f
  refine Ev.pos (by omega) (Ev.pos (by omega) ?_)
  rw [Int.toNat_natCast]
  exact e
theorem sameTexts_l0 (xs:List ByteArray) (hl:xs.length≤9223372036854775806) (n:Nat):∀ (i:Nat),i+n=xs.length→Ev (fun k=>laws_sameTexts.l0 k xs xs (i:Int)) true:=by
  induction n with
  | zero=>
    intro i hi
    refine Ev.step (fun k=>by rw [laws_sameTexts.l0]) ?_
    exact Ev.neg (by omega) (Ev.now _)
  | succ n ih=>
    intro i hi
    refine Ev.step (fun k=>by rw [laws_sameTexts.l0]) (Ev.pos (by omega) (Ev.pos (by omega) (Ev.pos (by omega) ?_)))
    refine Ev.pos rfl ?_
    rw [wrap64_id (by omega) (by omega)]
    exact ih (i+1) (by omega)
theorem sameTexts_refl (xs:List ByteArray) (hl:xs.length≤9223372036854775806):Ev (fun k=>laws_sameTexts.f k xs xs) true:=by
  unfold laws_sameTexts.f
  exact Ev.pos rfl (sameTexts_l0 xs hl xs.length 0 (by omega))
theorem sameNodes_l0 (xs:List S45) (hl:xs.length≤9223372036854775806) (n:Nat):∀ (i:Nat),i+n=xs.length→Ev (fun k=>laws_sameNodes.l0 k xs xs (i:Int)) true:=by
  induction n with
  | zero=>
    intro i hi
    refine Ev.step (fun k=>by rw [laws_sameNodes.l0]) ?_
    exact Ev.neg (by omega) (Ev.now _)
  | succ n ih=>
    intro i hi
    refine Ev.step (fun k=>by rw [laws_sameNodes.l0]) (Ev.pos (by omega) (Ev.pos (by omega) (Ev.pos (by omega) ?_)))
    refine Ev.neg (by simp) ?_
    rw [wrap64_id (by omega) (by omega)]
    exact ih (i+1) (by omega)
theorem sameNodes_refl (xs:List S45) (hl:xs.length≤9223372036854775806):Ev (fun k=>laws_sameNodes.f k xs xs) true:=by
  unfold laws_sameNodes.f
  exact Ev.pos rfl (sameNodes_l0 xs hl xs.length 0 (by omega))
theorem sameEntrys_l0 (xs:List S47) (hl:xs.length≤9223372036854775806) (n:Nat):∀ (i:Nat),i+n=xs.length→Ev (fun k=>laws_sameEntrys.l0 k xs xs (i:Int)) true:=by
  induction n with
  | zero=>
    intro i hi
    refine Ev.step (fun k=>by rw [laws_sameEntrys.l0]) ?_
    exact Ev.neg (by omega) (Ev.now _)
  | succ n ih=>
    intro i hi
    refine Ev.step (fun k=>by rw [laws_sameEntrys.l0]) (Ev.pos (by omega) (Ev.pos (by omega) (Ev.pos (by omega) ?_)))
    refine Ev.neg (by simp) ?_
    rw [wrap64_id (by omega) (by omega)]
    exact ih (i+1) (by omega)
theorem sameEntrys_refl (xs:List S47) (hl:xs.length≤9223372036854775806):Ev (fun k=>laws_sameEntrys.f k xs xs) true:=by
  unfold laws_sameEntrys.f
  exact Ev.pos rfl (sameEntrys_l0 xs hl xs.length 0 (by omega))
theorem sameDisk_refl (a:List S45) (b c:List S47) (d:List ByteArray) (e f:Int) (ha:a.length≤1048576) (hb:b.length≤1048576) (hc:c.length≤1048576) (hd:d.length≤1048576):Ev (fun k=>laws_sameDisk.f k a b c d e f a b c d e f) true:=by
  unfold laws_sameDisk.f
  exact Ev.bind (sameNodes_refl a (by omega)) (Ev.bind (sameEntrys_refl b (by omega)) (Ev.bind (sameEntrys_refl c (by omega)) (Ev.bind (sameTexts_refl d (by omega)) (Ev.pos ⟨⟨rfl,rfl,rfl,rfl⟩,rfl,rfl⟩ (Ev.now _)))))
def nodeAtR (a:List S45) (b:List S47) (s:ByteArray):Int:=if placeE b s<0 then -1 else nodeIx a (rd_T47 b (placeE b s)).f1
def nodeOut (a:List S45) (k:Int):Int×ByteArray×Int×Bool:=if k<0 then (0,⟨#[]⟩,0,false) else ((rd_T45 a k).f0,(rd_T45 a k).f1,(rd_T45 a k).f2,true)
theorem spec_NodeAt_ev (a:List S45) (b c:List S47) (d:List ByteArray) (e f:Int) (s:ByteArray) (hl:a.length≤1048576) (hb:b.length≤1048576):Ev (fun k=>spec_NodeAt.f k a b c d e f s) (nodeOut a (nodeAtR a b s)):=by
  unfold spec_NodeAt.f
  refine Ev.bind (spec_EntryAt_ev b s hb) (Ev.bind (spec_l05Node_ev a b c d e f _ hl) ?_)
  have hp:=placeE_range b s
  unfold nodeAtR
  by_cases h:placeE b s<0
  · rw [if_pos h]
    refine Ev.of_eq (r:=(0,⟨#[]⟩,0,false)) ?_ (if_pos (show (-1:Int)<0 by decide)).symm
    by_cases h2:nodeIx a (entAt b s)<0
    · exact Ev.pos h2 (Ev.now _)
    · refine Ev.neg h2 (Ev.bind (spec_l06Has_ev b s hb) ?_)
      exact Ev.neg (by rw [zf (by omega)];decide) (Ev.now _)
  · rw [if_neg h]
    have he:entAt b s=(rd_T47 b (placeE b s)).f1:=if_neg h
    rw [he]
    have hn:=nodeIx_range a (rd_T47 b (placeE b s)).f1
    unfold nodeOut
    by_cases h2:nodeIx a (rd_T47 b (placeE b s)).f1<0
    · refine Ev.of_eq (r:=(0,⟨#[]⟩,0,false)) ?_ (if_pos h2).symm
      exact Ev.pos h2 (Ev.now _)
    · refine Ev.of_eq ?_ (if_neg h2).symm
      refine Ev.neg h2 (Ev.bind (spec_l06Has_ev b s hb) ?_)
      refine Ev.pos (zt (by omega)) (Ev.pos (by omega) ?_)
      exact Ev.pos hn.2 (Ev.now _)
theorem impl_placeOf_f (l:List S47) (a:ByteArray):impl_placeOf.f l a=some (placeE l a):=rfl
theorem impl_nodeOf_f (a:List S45) (b c:List S47) (d:List ByteArray) (e f:Int) (v:Int):impl_Disk_nodeOf.f a b c d e f v=some (nodeIx a v):=rfl
theorem impl_nodeAt_f (a:List S45) (b c:List S47) (d:List ByteArray) (e f:Int) (s:ByteArray):impl_Disk_nodeAt.f a b c d e f s=some (nodeAtR a b s):=by
  unfold impl_Disk_nodeAt.f nodeAtR
  rw [impl_placeOf_f]
  have h:=placeE_range b s
  show (if placeE b s<0 then _ else _)=_
  by_cases c:placeE b s<0
  · rw [if_pos c,if_pos c]
  · rw [if_neg c,if_neg c,if_pos (by omega),if_pos h.2,impl_nodeOf_f];rfl
theorem impl_NodeAt_f (a:List S45) (b c:List S47) (d:List ByteArray) (e f:Int) (s:ByteArray):impl_NodeAt.f a b c d e f s=some (nodeOut a (nodeAtR a b s)):=by
  unfold impl_NodeAt.f nodeOut
  rw [impl_nodeAt_f]
  have h : -1≤nodeAtR a b s∧nodeAtR a b s<(a.length:Int):=by
    unfold nodeAtR
    split
    · omega
    · exact nodeIx_range _ _
  show (if nodeAtR a b s<0 then _ else _)=_
  by_cases c:nodeAtR a b s<0
  · rw [if_pos c,if_pos c]
  · rw [if_neg c,if_neg c,if_pos (by omega),if_pos h.2]
def readFile (a:List S45) (b:List S47) (s:ByteArray):ByteArray×Bool:=((nodeOut a (nodeAtR a b s)).2.1,(nodeOut a (nodeAtR a b s)).2.2.2)
theorem spec_ReadFile_ev (a:List S45) (b c:List S47) (d:List ByteArray) (e f:Int) (s:ByteArray) (hl:a.length≤1048576) (hb:b.length≤1048576):Ev (fun k=>spec_ReadFile.f k a b c d e f s) (readFile a b s):=by
  unfold spec_ReadFile.f
  exact Ev.bind (spec_NodeAt_ev a b c d e f s hl hb) (Ev.now _)
theorem impl_ReadFile_f (a:List S45) (b c:List S47) (d:List ByteArray) (e f:Int) (s:ByteArray):impl_ReadFile.f a b c d e f s=some (readFile a b s):=by
  unfold impl_ReadFile.f
  rw [impl_NodeAt_f];rfl
theorem idx_find {α:Type} (p:α→Bool):∀ (l:List α) (i:Nat),(idxOf p l i = -1∧l.find? p=none)∨∃ j,∃ h:j<l.length,idxOf p l i=((i+j:Nat):Int)∧l.find? p=some l[j]
  | [],_=>.inl ⟨rfl,rfl⟩
  | x :: l,i=>by
    rw [idxOf,List.find?_cons]
    cases h:p x with
    | true=>exact .inr ⟨0,Nat.zero_lt_succ _,by simp,rfl⟩
    | false=>
      rcases idx_find p l (i+1) with ⟨h1,h2⟩ | ⟨j,hj,h1,h2⟩
      · exact .inl ⟨by simpa using h1,h2⟩
      · exact .inr ⟨j+1,Nat.succ_lt_succ hj,by rw [if_neg (by decide),h1];omega,h2⟩
def fileOf (a:List S45) (b:List S47) (s:ByteArray):Option S45:=(b.find? (named s)).bind fun x=>a.find? (idIs x.f1)
theorem place_find (b:List S47) (s:ByteArray):(placeE b s<0∧b.find? (named s)=none)∨∃ x,0≤placeE b s∧b.find? (named s)=some x∧rd_T47 b (placeE b s)=x∧entAt b s=x.f1:=by
  have he:∀ h:0≤placeE b s,entAt b s=(rd_T47 b (placeE b s)).f1:=fun h=>if_neg (by omega)
  rcases idx_find (named s) b 0 with ⟨h1,h2⟩ | ⟨j,hj,h1,h2⟩
  · exact .inl ⟨by unfold placeE;omega,h2⟩
  · have hp:placeE b s=(j:Int):=by unfold placeE;rw [h1];simp
    have hr:rd_T47 b (placeE b s)=b[j]:=by rw [hp,rd_IEntry b j hj]
    exact .inr ⟨b[j],by omega,h2,hr,by rw [he (by omega),hr]⟩
theorem node_find (a:List S45) (v:Int):(nodeIx a v<0∧a.find? (idIs v)=none)∨∃ x,0≤nodeIx a v∧a.find? (idIs v)=some x∧rd_T45 a (nodeIx a v)=x:=by
  rcases idx_find (idIs v) a 0 with ⟨h1,h2⟩ | ⟨j,hj,h1,h2⟩
  · exact .inl ⟨by unfold nodeIx;omega,h2⟩
  · have hp:nodeIx a v=(j:Int):=by unfold nodeIx;rw [h1];simp
    exact .inr ⟨a[j],by omega,h2,by rw [hp,rd_INode a j hj]⟩
theorem nodeOut_neg {a:List S45} {i:Int} (h:i<0):(nodeOut a i).2.1=⟨#[]⟩∧(nodeOut a i).2.2.2=false:=by unfold nodeOut;rw [if_pos h];exact ⟨rfl,rfl⟩
theorem nodeOut_pos {a:List S45} {i:Int} (h:¬ i<0):(nodeOut a i).2.1=(rd_T45 a i).f1∧(nodeOut a i).2.2.2=true:=by unfold nodeOut;rw [if_neg h];exact ⟨rfl,rfl⟩
theorem readFile_of (a:List S45) (b:List S47) (s:ByteArray):readFile a b s=match fileOf a b s with | none=>(⟨#[]⟩,false) | some x=>(x.f1,true):=by
  unfold readFile fileOf
  rcases place_find b s with ⟨h1,h2⟩ | ⟨x,h1,h2,h3,h4⟩
  · have hr:nodeAtR a b s<0:=by unfold nodeAtR;rw [if_pos h1];decide
    rw [(nodeOut_neg hr).1,(nodeOut_neg hr).2,h2];rfl
  · have hr:nodeAtR a b s=nodeIx a x.f1:=by unfold nodeAtR;rw [if_neg (by omega),h3]
    rw [h2,hr]
    show _=match a.find? (idIs x.f1) with | none=>_ | some x=>_
    rcases node_find a x.f1 with ⟨n1,n2⟩ | ⟨y,n1,n2,n3⟩
    · rw [(nodeOut_neg n1).1,(nodeOut_neg n1).2,n2]
    · rw [(nodeOut_pos (by omega)).1,(nodeOut_pos (by omega)).2,n2,n3]
theorem find_named {s:ByteArray} {b:List S47} {x:S47} (h:b.find? (named s)=some x):x∈b∧x.f0=s:=by
  refine ⟨List.mem_of_find?_eq_some h,?_⟩
  have:=List.find?_some h
  unfold named at this
  exact nl_ext (beq_iff_eq.mp this)
theorem named_no {s:ByteArray} {x:S47} (h:x.f0≠s):named s x=false:=by
  unfold named
  exact beq_eq_false_iff_ne.mpr fun e=>h (nl_ext e)
theorem find_clean {a:List S45} {c:List S47} {d:List ByteArray} {v:Int} (h:usedFrom c d v (d.length+1) 0=true):(cleanS a c d).find? (idIs v)=a.find? (idIs v):=by
  unfold cleanS
  induction a with
  | nil=>rfl
  | cons x l ih=>
    rw [List.filter_cons,List.find?_cons]
    cases hx:idIs v x with
    | true=>
      have hv:x.f0=v:=by unfold idIs at hx;exact beq_iff_eq.mp hx
      rw [hv,h,if_pos rfl,List.find?_cons,hx]
    | false=>
      split
      · rw [List.find?_cons,hx];exact ih
      · exact ih
theorem used_last {a:List S45} {b c:List S47} {d:List ByteArray} (hd:doneS c d=some b) {x:S47} (hx:x∈b):usedFrom c d x.f1 (d.length+1) 0=true:=by
  rw [usedFrom_iff]
  refine ⟨d.length,Nat.zero_le _,by omega,?_⟩
  rw [stAt_some (l:=b) (by rw [List.take_length];exact hd)]
  exact anyId_mem hx
theorem fileOf_clean {a:List S45} {b c:List S47} {d:List ByteArray} (hd:doneS c d=some b) (s:ByteArray):fileOf (cleanS a c d) b s=fileOf a b s:=by
  unfold fileOf
  cases h:b.find? (named s) with
  | none=>rfl
  | some x=>exact find_clean (used_last (a:=a) hd (find_named h).1)
theorem find_putR (n:ByteArray) (id:Int):∀ l:List S47,(putR n id l).find? (named n)=some ⟨n,id⟩
  | []=>by rw [putR,List.find?_cons];unfold named;simp
  | x :: l=>by
    rw [putR]
    by_cases he:x.f0.toList=n.toList
    · rw [if_pos he,List.find?_cons];unfold named;simp
    · rw [if_neg he]
      by_cases hb:Op.bytesLess n.toList x.f0.toList=true
      · rw [if_pos hb,List.find?_cons];unfold named;simp
      · rw [if_neg hb,List.find?_cons,named_no (fun e=>he (by rw [e])),find_putR n id l]
theorem find_putW {n:ByteArray} {id:Int} {l:List S47} (h:inOrder l):(putW n id l false).find? (named n)=some ⟨n,id⟩:=by
  rw [putW_putR n id l h];exact find_putR n id l
theorem find_drop (b:List S47) (s:ByteArray):(dropS b s).find? (named s)=none:=by
  rw [List.find?_eq_none]
  intro x hx
  have:=(List.mem_filter.mp hx).2
  unfold named
  simpa using this
theorem idx_set {α:Type} (p:α→Bool) (n:α) (hn:p n=true):∀ (l:List α) (i:Nat),idxOf p l i = -1∨(l.set (idxOf p l i-i).toNat n).find? p=some n
  | [],_=>.inl rfl
  | x :: l,i=>by
    rw [idxOf]
    cases h:p x with
    | true=>right;simp [hn]
    | false=>
      rcases idx_set p n hn l (i+1) with h1 | h1
      · exact .inl (by simpa using h1)
      rcases idx_find p l (i+1) with ⟨q,_⟩ | ⟨j,_,q,_⟩
      · exact .inl (by simpa using q)
      right
      rw [q] at h1
      simp only [Bool.false_eq_true,if_false]
      rw [q,show (((i+1+j:Nat):Int)-(i:Int)).toNat=j+1 by omega,List.set_cons_succ,List.find?_cons,h]
      rw [show (((i+1+j:Nat):Int)-((i+1:Nat):Int)).toNat=j by omega] at h1
      exact h1
theorem find_set (a:List S45) (v:Int) (n:S45) (hn:n.f0=v) (h:0≤nodeIx a v):(a.set (nodeIx a v).toNat n).find? (idIs v)=some n:=by
  rcases idx_set (idIs v) n (by unfold idIs;exact beq_iff_eq.mpr hn) a 0 with h1 | h1
  · unfold nodeIx at h;omega
  · unfold nodeIx;simpa using h1
section
variable {a:List S45} {b c:List S47} {d:List ByteArray} {e f:Int}
theorem reads_place {s:ByteArray} (h:(readFile a b s).2=true):0≤placeE b s:=by
  rcases place_find b s with ⟨_,h2⟩ | ⟨_,h1,_⟩
  · rw [readFile_of] at h
    unfold fileOf at h
    rw [h2] at h
    cases h
  · exact h1
theorem set_reads (h:diskOk a b c d e f=true) {s:ByteArray} (hp:0≤placeE b s) (x:S45) (hx:x.f0=(rd_T45 a (nodeIx a (entAt b s))).f0):readFile (a.set (nodeIx a (entAt b s)).toNat x) b s=(x.f1,true)∧readFile a b s=((rd_T45 a (nodeIx a (entAt b s))).f1,true):=by
  have hn:=(diskOk_node a b c d e f h s hp).2
  rcases place_find b s with ⟨h1,_⟩ | ⟨y,_,h2,_,h4⟩
  · omega
  rcases node_find a (entAt b s) with ⟨n1,_⟩ | ⟨z,n0,n2,n3⟩
  · have:0≤nodeIx a (entAt b s):=by first | exact hn | (have:=(diskOk_node a b c d e f h s hp).1;omega)
    omega
  have hz:z.f0=entAt b s:=by
    have:=List.find?_some n2
    unfold idIs at this
    exact beq_iff_eq.mp this
  have q1:fileOf (a.set (nodeIx a (entAt b s)).toNat x) b s=some x:=by
    unfold fileOf;rw [h2]
    show (a.set (nodeIx a (entAt b s)).toNat x).find? (idIs y.f1)=some x
    rw [← h4];exact find_set a _ x (by rw [hx,n3,hz]) n0
  have q2:fileOf a b s=some z:=by
    unfold fileOf;rw [h2]
    show a.find? (idIs y.f1)=some z
    rw [← h4];exact n2
  rw [readFile_of,readFile_of,q1,q2,n3]
  exact ⟨rfl,rfl⟩
theorem append_reads (h:diskOk a b c d e f=true) {s:ByteArray} (hp:0≤placeE b s) (t:ByteArray):∃ u a',appendOut a b c d e f s t=(a',b,c,d,e,f,if (t.size:Int)>e-usedOn a then 5 else 0)∧readFile a' b s=((readFile a b s).1++u,true)∧((t.size:Int)>e-usedOn a→(usedOn a':Int)=e)∧(¬ (t.size:Int)>e-usedOn a→u=t)∧usedOn a'≤usedOn a+t.size∧a'.length=a.length:=by
  obtain ⟨j,hj,e1,e2⟩:=node_at h hp
  obtain ⟨r0,r1,r2⟩:=diskOk_room a b c d e f h
  unfold appendOut
  rw [if_pos (⟨h,hp⟩:diskOk a b c d e f=true∧0≤placeE b s)]
  by_cases hl:(t.size:Int)>e-usedOn a
  · rw [if_pos hl,if_pos hl]
    have hx:=extract_sz t (e-usedOn a).toNat (by omega)
    obtain ⟨q1,q2⟩:=set_reads h hp ⟨(rd_T45 a (nodeIx a (entAt b s))).f0,(rd_T45 a (nodeIx a (entAt b s))).f1++t.extract 0 (e-usedOn a).toNat,(rd_T45 a (nodeIx a (entAt b s))).f2⟩ rfl
    have hu:=usedOn_set ⟨(rd_T45 a (nodeIx a (entAt b s))).f0,(rd_T45 a (nodeIx a (entAt b s))).f1++t.extract 0 (e-usedOn a).toNat,(rd_T45 a (nodeIx a (entAt b s))).f2⟩ a j hj
    have hs:((rd_T45 a (nodeIx a (entAt b s))).f1++t.extract 0 (e-usedOn a).toNat).size=a[j].f1.size+(e-usedOn a).toNat:=by rw [ByteArray.size_append,hx,e2]
    simp only [hs] at hu
    have ej:(nodeIx a (entAt b s)).toNat=j:=by omega
    refine ⟨_,_,rfl,by rw [q1,q2],fun _=>?_,fun q=>absurd hl q,?_,List.length_set ..⟩
    · rw [ej];omega
    · rw [ej];omega
  · rw [if_neg hl,if_neg hl]
    obtain ⟨q1,q2⟩:=set_reads h hp ⟨(rd_T45 a (nodeIx a (entAt b s))).f0,(rd_T45 a (nodeIx a (entAt b s))).f1++t,(rd_T45 a (nodeIx a (entAt b s))).f2⟩ rfl
    have hu:=usedOn_set ⟨(rd_T45 a (nodeIx a (entAt b s))).f0,(rd_T45 a (nodeIx a (entAt b s))).f1++t,(rd_T45 a (nodeIx a (entAt b s))).f2⟩ a j hj
    have hs:((rd_T45 a (nodeIx a (entAt b s))).f1++t).size=a[j].f1.size+t.size:=by rw [ByteArray.size_append,e2]
    simp only [hs] at hu
    have ej:(nodeIx a (entAt b s)).toNat=j:=by omega
    refine ⟨t,_,rfl,by rw [q1,q2],fun q=>absurd q hl,fun _=>rfl,?_,List.length_set ..⟩
    rw [ej];omega
theorem sync_zero (h:diskOk a b c d e f=true) {s:ByteArray} (hp:0≤placeE b s):∃ a',syncOut a b c d e f s=(a',b,c,d,e,f,0)∧usedOn a'=usedOn a∧a'.length=a.length:=by
  obtain ⟨j,hj,e1,e2⟩:=node_at h hp
  unfold syncOut
  rw [if_pos (⟨h,hp⟩:diskOk a b c d e f=true∧0≤placeE b s)]
  have hu:=usedOn_set ⟨(rd_T45 a (nodeIx a (entAt b s))).f0,(rd_T45 a (nodeIx a (entAt b s))).f1,((rd_T45 a (nodeIx a (entAt b s))).f1.size:Int)⟩ a j hj
  have ej:(nodeIx a (entAt b s)).toNat=j:=by omega
  refine ⟨_,rfl,?_,List.length_set ..⟩
  rw [ej]
  simp only [e2] at hu ⊢
  omega
theorem remove_gone (h:diskOk a b c d e f=true) {s:ByteArray} (hp:0≤placeE b s):∃ a',removeOut a b c d e f s=(a',dropS b s,c,d++[(⟨#[45]⟩:ByteArray)++s],e,f,0)∧(readFile a' (dropS b s) s).2=false∧a'.Sublist a:=by
  unfold removeOut
  rw [if_pos (⟨h,hp⟩:diskOk a b c d e f=true∧0≤placeE b s)]
  refine ⟨_,rfl,?_,cleanS_sub ..⟩
  rw [readFile_of]
  unfold fileOf
  rw [find_drop]
  rfl
theorem create_there (h:diskOk a b c d e f=true) {s:ByteArray} (hn:nameOk s.data.toList=true) (hp:0≤placeE b s):createOut a b c d e f s=(a,b,c,d,e,f,2):=by
  unfold createOut
  rw [if_pos h,if_pos hn,if_pos hp]
theorem create_new (h:diskOk a b c d e f=true) {s:ByteArray} (hn:nameOk s.data.toList=true) (hp:¬ 0≤placeE b s):createOut a b c d e f s=(a,b,c,d,e,f,4)∨∃ a',createOut a b c d e f s=(a',putW s f b false,c,d++[(((⟨#[43]⟩:ByteArray)++s)++⟨#[58]⟩)++mkT (itoa f)],e,wrap64 (f+1),0)∧readFile a' (putW s f b false) s=(⟨#[]⟩,true)∧usedOn a'≤usedOn a∧a'.length≤a.length+1:=by
  unfold createOut
  rw [if_pos h,if_pos hn,if_neg hp]
  by_cases t1:16≤b.length∨64≤a.length∨1000000000≤f
  · exact .inl (if_pos t1)
  refine .inr ⟨_,if_neg t1,?_,?_,?_⟩
  · obtain ⟨_,_,hff,_,hsp,_⟩:=diskOk_iff.mp h
    have ho:=(diskOk_chain a b c d e f h).2.2.2.2
    have hd:doneS c (d++[(((⟨#[43]⟩:ByteArray)++s)++⟨#[58]⟩)++mkT (itoa f)])=some (putW s f b false):=by rw [doneS_snoc,(diskOk_chain a b c d e f h).2.1];exact stepS_plus hn ⟨by omega,by omega⟩
    have q:fileOf (cleanS (a++[⟨f,⟨#[]⟩,0⟩]) c (d++[(((⟨#[43]⟩:ByteArray)++s)++⟨#[58]⟩)++mkT (itoa f)])) (putW s f b false) s=some ⟨f,⟨#[]⟩,0⟩:=by
      rw [fileOf_clean hd]
      unfold fileOf
      rw [find_putW ho]
      show (a++[_]).find? (idIs f)=_
      rw [List.find?_append,List.find?_eq_none.mpr (fun x hx=>by
        have:=hsp.1 x hx
        rw [wrap64_id (x:=f-1) (by omega) (by omega)] at this
        unfold idIs
        simp only [beq_iff_eq]
        omega)]
      simp [idIs]
    rw [readFile_of,q]
  · refine Nat.le_trans (usedOn_sub (cleanS_sub ..)) ?_
    rw [usedOn_snoc];exact Nat.le_refl _
  · refine Nat.le_trans (cleanS_sub ..).length_le ?_
    rw [List.length_append];exact Nat.le_refl _
end
section
variable (a:List S45) (b c:List S47) (d:List ByteArray) (e f:Int)
theorem copyDisk_f (ha:a.length≤1048576) (hb:b.length≤1048576) (hc:c.length≤1048576) (hd:d.length≤1048576):impl_copyDisk.f a b c d e f=some (a,b,c,d,e,f):=by
  have h1:impl_Node.f a=some a:=by unfold impl_Node.f;exact if_pos (by omega)
  have h2:∀ l:List S47,l.length≤1048576→impl_Entry_83.f l=some l:=fun l hl=>by unfold impl_Entry_83.f;exact if_pos (by omega)
  have h3:slices_Clone_string_string.f d=some d:=by unfold slices_Clone_string_string.f;exact if_pos (by omega)
  unfold impl_copyDisk.f
  rw [h1,h2 b hb,h2 c hc,h3];rfl
end
section
variable (a:List S45) (b c:List S47) (d:List ByteArray) (e f:Int)
theorem impl_AppendFile_ev (s t:ByteArray) (ht:t.size≤1048576) (ha:a.length≤1048576) (hb:b.length≤1048576) (hu:usedOn a≤1048576) (hcd:c.length+d.length≤1048576) (hs:∀ s∈d,s.size≤1048576) (hc:∀ x∈c,x.f0.size≤1048576):Ev (fun k=>impl_AppendFile.f k a b c d e f s t) (appendOut a b c d e f s t):=by
  unfold impl_AppendFile.f
  rw [copyDisk_f a b c d e f ha hb (by omega) (by omega),impl_nodeAt_f]
  refine Ev.bind (Ev.const rfl) (Ev.bind (Ev.const rfl) (Ev.bind (impl_DiskOk_ev a b c d e f ha hu hcd hs hc) ?_))
  unfold appendOut nodeAtR
  by_cases h:diskOk a b c d e f=true
  · refine Ev.pos h ?_
    by_cases hp:0≤placeE b s
    · obtain ⟨he,hn⟩:=diskOk_node a b c d e f h s hp
      have hr:=(nodeIx_range a (entAt b s)).2
      have hz:=node_sz a _ hn hr
      obtain ⟨r0,r1,r2⟩:=diskOk_room a b c d e f h
      rw [if_pos (⟨h,hp⟩:diskOk a b c d e f=true∧0≤placeE b s),if_neg (by omega:¬ placeE b s<0),← he]
      refine Ev.neg (by omega) (Ev.bind (impl_UsedOn_ev a b c d e f ha hu) ?_)
      rw [wrap64_id (x:=e-(usedOn a:Int)) (by omega) (by omega)]
      by_cases hl:(t.size:Int)>e-usedOn a
      · refine Ev.of_eq ?_ (if_pos hl).symm
        have hm:mn (t.size:Int) (e-usedOn a)=e-usedOn a:=by unfold mn;split <;> omega
        rw [hm]
        have hx:=extract_sz t (e-usedOn a).toNat (by omega)
        refine Ev.pos ⟨hr,by omega,by omega,by rw [hx];show (rd_T45 a (nodeIx a (entAt b s))).f1.size+_≤_;omega⟩ ?_
        rw [if_pos (by omega:e-(usedOn a:Int)<(t.size:Int))]
        exact Ev.now _
      · refine Ev.of_eq ?_ (if_neg hl).symm
        have hm:mn (t.size:Int) (e-usedOn a)=t.size:=by unfold mn;split <;> omega
        rw [hm,Int.toNat_natCast,extract_self]
        refine Ev.pos ⟨hr,by omega,by omega,by show (rd_T45 a (nodeIx a (entAt b s))).f1.size+_≤_;omega⟩ ?_
        rw [if_neg (by omega:¬ (t.size:Int)<(t.size:Int))]
        exact Ev.now _
    · rw [if_neg (fun q=>hp q.2:¬ (diskOk a b c d e f=true∧0≤placeE b s)),if_pos (by omega:placeE b s<0)]
      exact Ev.pos (by decide) (Ev.now _)
  · rw [if_neg (fun q=>h q.1:¬ (diskOk a b c d e f=true∧0≤placeE b s))]
    exact Ev.neg h (Ev.now _)
end
section
variable (a:List S45) (b c:List S47) (d:List ByteArray) (e f:Int)
theorem impl_SyncFile_ev (s:ByteArray) (ha:a.length≤1048576) (hb:b.length≤1048576) (hu:usedOn a≤1048576) (hcd:c.length+d.length≤1048576) (hs:∀ s∈d,s.size≤1048576) (hc:∀ x∈c,x.f0.size≤1048576):Ev (fun k=>impl_SyncFile.f k a b c d e f s) (syncOut a b c d e f s):=by
  unfold impl_SyncFile.f
  rw [copyDisk_f a b c d e f ha hb (by omega) (by omega),impl_nodeAt_f]
  refine Ev.bind (Ev.const rfl) (Ev.bind (Ev.const rfl) (Ev.bind (impl_DiskOk_ev a b c d e f ha hu hcd hs hc) ?_))
  show Ev (fun k=>if diskOk a b c d e f=true then (if nodeAtR a b s<0 then some (a,b,c,d,e,f,(3:Int)) else (if 0≤nodeAtR a b s then (if nodeAtR a b s<(a.length:Int) then some (a.set (nodeAtR a b s).toNat ⟨(rd_T45 a (nodeAtR a b s)).f0,(rd_T45 a (nodeAtR a b s)).f1,((rd_T45 a (nodeAtR a b s)).f1.size:Int)⟩,b,c,d,e,f,(0:Int)) else none) else none)) else some (a,b,c,d,e,f,(3:Int))) _
  unfold syncOut nodeAtR
  by_cases h:diskOk a b c d e f=true
  · refine Ev.pos h ?_
    by_cases hp:0≤placeE b s
    · obtain ⟨he,hn⟩:=diskOk_node a b c d e f h s hp
      rw [if_pos (⟨h,hp⟩:diskOk a b c d e f=true∧0≤placeE b s),if_neg (by omega:¬ placeE b s<0),← he]
      exact Ev.neg (by omega) (Ev.pos hn (Ev.pos (nodeIx_range a _).2 (Ev.now _)))
    · rw [if_neg (fun q=>hp q.2:¬ (diskOk a b c d e f=true∧0≤placeE b s)),if_pos (by omega:placeE b s<0)]
      exact Ev.pos (by decide) (Ev.now _)
  · rw [if_neg (fun q=>h q.1:¬ (diskOk a b c d e f=true∧0≤placeE b s))]
    exact Ev.neg h (Ev.now _)
end
theorem usedIds_chain:∀ (d:List ByteArray) (c:List S47),chainOk c d→c.length+d.length≤1048576→(∀ s∈d,s.size≤1048576)→∃ ids,usedIds c d=some ids∧∀ id,ids.contains id=usedFrom c d id (d.length+1) 0
  | [],c,_,_,_=>⟨_,rfl,fun id=>by rw [contains_map];simp [usedFrom,stAt,doneS,doneRes]⟩
  | s :: d,c,hc,hl,hs=>by
    obtain ⟨h1,l,h2,h3⟩:=hc
    have hln:=stepS_length h2
    rw [List.length_cons] at hl
    obtain ⟨ids,i1,i2⟩:=usedIds_chain d l h3 (by omega) fun s hs'=>hs s (List.mem_cons_of_mem _ hs')
    refine ⟨(c.map fun x=>x.f1)++ids,?_,fun id=>?_⟩
    · rw [usedIds,impl_stepDone_f h1 (by omega) s (hs s (List.mem_cons_self ..)),h2]
      show Option.map _ (usedIds l d)=_
      rw [i1];rfl
    · have e1:((c.map fun x=>x.f1)++ids).contains id=((c.map fun x=>x.f1).contains id || ids.contains id):=by
        rw [Bool.eq_iff_iff]
        simp
      have e2:usedFrom c (s :: d) id (d.length+1+1) 0=(anyId (stAt c (s :: d) 0) id || usedFrom c (s :: d) id (d.length+1) (0+1)):=rfl
      rw [e1,i2 id,contains_map,List.length_cons,e2,usedFrom_cons c l s d id h2 (d.length+1) 0]
      rfl
theorem cleanS_ids (a:List S45) {c:List S47} {d:List ByteArray} {ids:List Int} (h:∀ id,ids.contains id=usedFrom c d id (d.length+1) 0):(a.filter fun x=>ids.contains x.f0)=cleanS a c d:=by
  unfold cleanS
  congr 1
  funext x
  exact h x.f0
section
variable (a:List S45) (b c:List S47) (d:List ByteArray) (e f:Int)
theorem stepF_ev (b':List S47) (s:ByteArray) (r:Int) (hz:s.size≤1048576) (hl:b.length≤1048576) (hch:chainOk c d) (hdn:doneS c d=some b) (ho:inOrder b) (hst:stepS b s=some b') (hroom:c.length+d.length<1048570) (hs:∀ s∈d,s.size≤1048576):stepF a b c d e f s r=some (cleanS a c (d++[s]),b',c,d++[s],e,f,r):=by
  obtain ⟨h1,h2⟩:=chain_snoc d c b b' s hch hdn ho hst
  obtain ⟨ids,h3,h4⟩:=usedIds_chain (d++[s]) c h1 (by rw [List.length_append];show c.length+(d.length+1)≤_;omega) (snoc_sizes hs hz)
  unfold stepF
  rw [if_pos (by omega),impl_stepDone_f ho hl s hz,hst]
  show ((usedIds c (d++[s])).bind _)=_
  rw [h3]
  show some (a.filter _,b',c,d++[s],e,f,r)=_
  rw [cleanS_ids a h4]
end
section
variable (a:List S45) (b c:List S47) (d:List ByteArray) (e f:Int)
theorem impl_RemoveFile_ev (s:ByteArray) (hsz:s.size≤1048576) (ha:a.length≤1048576) (hb:b.length≤1048576) (hu:usedOn a≤1048576) (hcd:c.length+d.length≤1048576) (hs:∀ s∈d,s.size≤1048576) (hc:∀ x∈c,x.f0.size≤1048576) (hroom:diskOk a b c d e f=true→c.length+d.length<1048570):Ev (fun k=>impl_RemoveFile.f k a b c d e f s) (removeOut a b c d e f s):=by
  unfold impl_RemoveFile.f
  rw [copyDisk_f a b c d e f ha hb (by omega) (by omega)]
  refine Ev.bind (Ev.const rfl) (Ev.bind (impl_DiskOk_ev a b c d e f ha hu hcd hs hc) ?_)
  unfold removeOut
  by_cases h:diskOk a b c d e f=true
  · refine Ev.pos h (Ev.bind (Ev.const (r:=placeE b s) rfl) ?_)
    by_cases hp:0≤placeE b s
    · rw [if_pos (⟨h,hp⟩:diskOk a b c d e f=true∧0≤placeE b s)]
      obtain ⟨h1,h2,_,hf,ho⟩:=diskOk_chain a b c d e f h
      have hn:=fine_has a hf s hp
      have hz:((⟨#[45]⟩:ByteArray)++s).size≤1048576:=by
        have:=nameOk_pos hn
        rw [size_list] at this
        rw [ByteArray.size_append];show 1+s.size≤_;omega
      refine Ev.neg (by omega) (Ev.pos (by omega) ?_)
      exact Ev.const (stepF_ev a b c d e f (dropS b s) _ 0 hz hb h1 h2 ho (stepS_minus hn hp) (hroom h) hs)
    · rw [if_neg (fun q=>hp q.2:¬ (diskOk a b c d e f=true∧0≤placeE b s))]
      exact Ev.pos (by omega) (Ev.now _)
  · rw [if_neg (fun q=>h q.1:¬ (diskOk a b c d e f=true∧0≤placeE b s))]
    exact Ev.neg h (Ev.now _)
end
section
variable (a:List S45) (b c:List S47) (d:List ByteArray) (e f:Int)
theorem impl_CreateFile_ev (s:ByteArray) (hsz:s.size≤1048576) (ha:a.length≤1048576) (hb:b.length≤1048576) (hu:usedOn a≤1048576) (hcd:c.length+d.length≤1048576) (hs:∀ s∈d,s.size≤1048576) (hc:∀ x∈c,x.f0.size≤1048576) (hroom:diskOk a b c d e f=true→c.length+d.length<1048570):Ev (fun k=>impl_CreateFile.f k a b c d e f s) (createOut a b c d e f s):=by
  unfold impl_CreateFile.f
  rw [copyDisk_f a b c d e f ha hb (by omega) (by omega)]
  refine Ev.bind (Ev.const rfl) (Ev.bind (impl_DiskOk_ev a b c d e f ha hu hcd hs hc) ?_)
  unfold createOut
  by_cases h:diskOk a b c d e f=true
  · refine Ev.of_eq ?_ (if_pos h).symm
    refine Ev.pos h (Ev.pos (by omega) ?_)
    obtain ⟨h1,h2,_,_,ho⟩:=diskOk_chain a b c d e f h
    obtain ⟨_,_,hff,_⟩:=diskOk_all a b c d e f h
    rw [nmOk_nameOk]
    by_cases hn:nameOk s.data.toList=true
    · refine Ev.of_eq ?_ (if_pos hn).symm
      refine Ev.pos hn (Ev.bind (Ev.const (r:=placeE b s) rfl) ?_)
      by_cases hp:0≤placeE b s
      · refine Ev.of_eq ?_ (if_pos hp).symm
        exact Ev.pos hp (Ev.now _)
      refine Ev.of_eq ?_ (if_neg hp).symm
      refine Ev.neg hp ?_
      by_cases t1:16≤b.length
      · refine Ev.of_eq ?_ (if_pos (.inl t1:16≤b.length∨64≤a.length∨1000000000≤f)).symm
        exact Ev.pos t1 (Ev.now _)
      refine Ev.neg t1 ?_
      by_cases t2:64≤a.length
      · refine Ev.of_eq ?_ (if_pos (.inr (.inl t2):16≤b.length∨64≤a.length∨1000000000≤f)).symm
        exact Ev.pos t2 (Ev.now _)
      refine Ev.neg t2 ?_
      by_cases t3:1000000000≤f
      · refine Ev.of_eq ?_ (if_pos (.inr (.inr t3):16≤b.length∨64≤a.length∨1000000000≤f)).symm
        exact Ev.pos t3 (Ev.now _)
      refine Ev.neg t3 ?_
      refine Ev.of_eq ?_ (if_neg (by omega:¬ (16≤b.length∨64≤a.length∨1000000000≤f))).symm
      have hz1:=nameOk_pos hn
      rw [size_list] at hz1
      have hz2:(mkT (itoa f)).size≤10:=numeral_size ⟨by omega,by omega⟩
      rw [impl_Decimal_f f ⟨by omega,by omega⟩]
      refine Ev.bind (Ev.const rfl) (Ev.pos ⟨by omega,by show (a.length+1)*32≤_;omega⟩ ?_)
      exact Ev.const (stepF_ev (a++[⟨f,⟨#[]⟩,0⟩]) b c d e (wrap64 (f+1)) (putW s f b false) _ 0 (plus_size hz1.2 hz2) hb h1 h2 ho (stepS_plus hn ⟨by omega,by omega⟩) (hroom h) hs)
    · refine Ev.of_eq ?_ (if_neg hn).symm
      exact Ev.neg hn (Ev.now _)
  · refine Ev.of_eq ?_ (if_neg h).symm
    exact Ev.neg h (Ev.now _)
end
theorem DrawAppend_ev (l:List Int) (hb:l.length≤140737488355328):∃ a b c d e f n m,Ev (fun k=>spec_DrawAppendFile.f k l) (a,b,c,d,e,f,n,m)∧AnyD a b c d∧n.size≤20∧m.size≤5000:=by
  obtain ⟨h',e1⟩:=l01New_ev l
  obtain ⟨D,i2,h2,e2,hA,hi2⟩:=l05Any_ev hb 0 h' (inside0 l)
  obtain ⟨x,i3,h3,e3,hx,hi3⟩:=l05Name_f l hb i2 h2 hi2
  obtain ⟨y,i4,h4,e4,hi4⟩:=l01Once_f l hb i3 h3 hi3 6
  cases y with
  | true=>
    obtain ⟨m,i5,h5,e5,m0,ml,_,_⟩:=l01Below_f l hb i4 h4 hi4 200
    have hm:=ml (by decide)
    obtain ⟨z,ez,hz⟩:=l01Long_ev 7 (101+m.toNat) (by omega)
    rw [show ((101+m.toNat:Nat):Int)=wrap64 (101+m) by rw [wrap64_id (x:=101+m) (by omega) (by omega)];omega] at ez
    refine ⟨D.1,D.2.1,D.2.2.1,D.2.2.2.1,D.2.2.2.2.1,D.2.2.2.2.2,x,z,?_,hA,hx,by omega⟩
    unfold spec_DrawAppendFile.f
    exact Ev.bind e1 (Ev.bind e2 (Ev.bind (Ev.const e3) (Ev.bind (Ev.const e4) (Ev.pos rfl (Ev.bind (Ev.const e5) (Ev.bind ez (Ev.now _)))))))
  | false=>
    obtain ⟨m,i5,h5,e5,_,_,_,hi5⟩:=l01Below_f l hb i4 h4 hi4 20
    obtain ⟨z,i6,h6,ez,hz,_⟩:=l01Text_ev l hb i5 h5 hi5 m
    refine ⟨D.1,D.2.1,D.2.2.1,D.2.2.2.1,D.2.2.2.2.1,D.2.2.2.2.2,x,z,?_,hA,hx,hz⟩
    unfold spec_DrawAppendFile.f
    exact Ev.bind e1 (Ev.bind e2 (Ev.bind (Ev.const e3) (Ev.bind (Ev.const e4) (Ev.neg Bool.false_ne_true (Ev.bind (Ev.const e5) (Ev.bind ez (Ev.now _)))))))
theorem extract_app (x y:ByteArray):(x++y).extract 0 x.size=x:=by
  apply ByteArray.ext
  rw [ByteArray.data_extract,ByteArray.data_append]
  show (x.data++y.data).extract 0 x.data.size=x.data
  simp
theorem drop_place (b:List S47) (s:ByteArray):¬ 0≤placeE (dropS b s) s:=by
  rcases place_find (dropS b s) s with ⟨h,_⟩ | ⟨_,_,h,_⟩
  · omega
  · rw [find_drop] at h;cases h
theorem FnDeeds:laws_FnDeeds.Pure:=by
  intro l0 _ hl _
  refine Ev.rounds (g:=fun k=>laws_FnDeeds.f k l0) ?_
  unfold laws_FnDeeds.f
  rw [big_f]
  refine Ev.bind (Ev.const rfl) ?_
  by_cases h:(l0.length:Int)>1048576
  · exact Ev.pos (zt h) (Ev.now _)
  refine Ev.neg (by rw [zf h];decide) ?_
  obtain ⟨a,b,c,d,e,f,s,t,hD,hA,hs,ht⟩:=DrawAppend_ev l0 (by omega)
  have hF:=hA.fits
  obtain ⟨h1,h2,h3,h4,h5,h6,h7,h8⟩:=hF.big
  have hi:=impl_AppendFile_ev a b c d e f s t (by omega) h1 h2 h3 h4 h5 h6
  have hp:=spec_AppendFile_ev a b c d e f s t (by omega) h1 h2 h3 h4 h5 h6
  have hq:=spec_DiskOk_ev a b c d e f h1 h3 h4 h5 h6
  have hr0:=spec_ReadFile_ev a b c d e f s h1 h2
  have q1:=hF.ha;have q2:=hF.hb;have q3:=hF.hu;have q4:=hF.hc;have q5:=hF.hd
  by_cases hok:diskOk a b c d e f=true∧(readFile a b s).2=true
  · obtain ⟨hok,hr⟩:=hok
    have hpl:=reads_place hr
    have hn:=fine_has a (diskOk_chain a b c d e f hok).2.2.2.1 s hpl
    have hX:=append_ok hok s t
    obtain ⟨u,a1,x1,x2,x3,x4,x5,x6⟩:=append_reads hok hpl t
    rw [x1] at hi hp hX
    simp only at hX
    obtain ⟨a2,y1,y2,y3⟩:=sync_zero hX hpl
    have hY:=sync_ok hX s
    have hS:=impl_SyncFile_ev a1 b c d e f s (by omega) h2 (by omega) h4 h5 h6
    rw [y1] at hY hS
    simp only at hY
    obtain ⟨a3,z1,z2,z3⟩:=remove_gone hY hpl
    have hZ:=remove_ok hY s
    have hR:=impl_RemoveFile_ev a2 b c d e f s (by omega) (by omega) h2 (by omega) h4 h5 h6 (fun _=>h8)
    rw [z1] at hZ hR
    simp only at hZ
    have z4:=z3.length_le
    have z5:=usedOn_sub z3
    have hdl:(d++[(⟨#[45]⟩:ByteArray)++s]).length=d.length+1:=by rw [List.length_append];rfl
    have hds:∀ x∈d++[(⟨#[45]⟩:ByteArray)++s],x.size≤1048576:=snoc_all h5 (by rw [ByteArray.size_append];show 1+s.size≤_;omega)
    have hbl:(dropS b s).length≤b.length:=List.length_filter_le ..
    have hC:=impl_CreateFile_ev a3 (dropS b s) c (d++[(⟨#[45]⟩:ByteArray)++s]) e f s (by omega) (by omega) (by omega) (by omega) (by omega) hds h6 (fun _=>by omega)
    have hV:=create_ok hZ s
    have hO1:=spec_DiskOk_ev a1 b c d e f (by omega) (by omega) h4 h5 h6
    have hO2:=spec_DiskOk_ev a2 b c d e f (by omega) (by omega) h4 h5 h6
    have hO3:=spec_DiskOk_ev a3 (dropS b s) c (d++[(⟨#[45]⟩:ByteArray)++s]) e f (by omega) (by omega) (by omega) hds h6
    have hU:=spec_UsedOn_ev a1 b c d e f (by omega) (by omega)
    have n1:(readFile a b s).1.size≤(readFile a1 b s).1.size∧(readFile a1 b s).1.extract 0 (readFile a b s).1.size=(readFile a b s).1:=by
      rw [x2]
      exact ⟨by show _≤((readFile a b s).1++u).size;rw [ByteArray.size_append];omega,extract_app _ _⟩
    have hsz:(readFile a b s).1.size≤usedOn a:=by
      rw [(set_reads hok hpl (rd_T45 a (nodeIx a (entAt b s))) rfl).2]
      obtain ⟨j,hj,_,e2⟩:=node_at hok hpl
      show (rd_T45 a (nodeIx a (entAt b s))).f1.size≤_
      rw [e2];exact usedOn_at a j hj
    have n2:(if (t.size:Int)>e-usedOn a then (5:Int) else 0)=0→(readFile a1 b s).1=(readFile a b s).1++t∧(readFile a b s).1.size+t.size≤1099511627776:=fun q=>by
      by_cases hl:(t.size:Int)>e-usedOn a
      · rw [if_pos hl] at q;cases q
      · exact ⟨by rw [x2,x4 hl],by omega⟩
    have n3:¬ (if (t.size:Int)>e-usedOn a then (5:Int) else 0)=0→(if (t.size:Int)>e-usedOn a then (5:Int) else 0)=5∧(usedOn a1:Int)=e:=fun q=>by
      by_cases hl:(t.size:Int)>e-usedOn a
      · exact ⟨if_pos hl,x3 hl⟩
      · exact absurd (if_neg hl) q
    refine Ev.bind hD (Ev.bind hr0 (Ev.bind hi (Ev.bind hp (Ev.bind (sameDisk_refl a1 b c d e f (by omega) (by omega) (by omega) (by omega)) (Ev.bind hq (Ev.pos ⟨rfl,rfl⟩ (Ev.pos ⟨hok,hr⟩ (Ev.bind (Ev.const (impl_ReadFile_f a1 b c d e f s)) (Ev.bind hS (Ev.bind hR (Ev.bind (Ev.const (impl_ReadFile_f a3 (dropS b s) c _ e f s)) ?_)))))))))))
    rcases create_new hZ hn (drop_place b s) with v1 | ⟨a4,v1,v2,v3,v4⟩
    · rw [v1] at hV
      have hC2:=hC
      rw [v1] at hC
      exact Ev.bind hC (Ev.bind (Ev.const (impl_ReadFile_f a3 (dropS b s) c _ e f s)) (Ev.bind hC (Ev.bind hU (Ev.bind hO1 (Ev.bind hO2 (Ev.bind hO3 (Ev.bind hO3 (Ev.pos ⟨⟨n1.1,n1.2,n2,n3⟩,⟨rfl,rfl,z2⟩,.inr rfl,hX,hY,hZ,hZ⟩ (Ev.now _)))))))))
    · rw [v1] at hV hC
      simp only at hV
      have w1:=create_there hV hn (reads_place (by rw [v2]))
      have hn2:=nameOk_pos hn
      have hf:=(diskOk_iff.mp hZ).2.2.1
      have hd2:((d++[(⟨#[45]⟩:ByteArray)++s])++[(((⟨#[43]⟩:ByteArray)++s)++⟨#[58]⟩)++mkT (itoa f)]).length=d.length+2:=by rw [List.length_append,hdl];rfl
      have hs2:∀ x∈(d++[(⟨#[45]⟩:ByteArray)++s])++[(((⟨#[43]⟩:ByteArray)++s)++⟨#[58]⟩)++mkT (itoa f)],x.size≤1048576:=snoc_all hds (plus_size hs (numeral_size ⟨by omega,by omega⟩))
      have hbv:=(diskOk_goodE hV).2
      have hC2:=impl_CreateFile_ev a4 (putW s f (dropS b s) false) c _ e (wrap64 (f+1)) s (by omega) (by omega) (by omega) (by omega) (by omega) hs2 h6 (fun _=>by omega)
      rw [w1] at hC2
      have hO4:=spec_DiskOk_ev a4 (putW s f (dropS b s) false) c _ e (wrap64 (f+1)) (by omega) (by omega) (by omega) hs2 h6
      exact Ev.bind hC (Ev.bind (Ev.const (impl_ReadFile_f a4 (putW s f (dropS b s) false) c _ e _ s)) (Ev.bind hC2 (Ev.bind hU (Ev.bind hO1 (Ev.bind hO2 (Ev.bind hO3 (Ev.bind hO4 (Ev.pos ⟨⟨n1.1,n1.2,n2,n3⟩,⟨rfl,rfl,z2⟩,.inl ⟨rfl,by rw [v2],by rw [v2],rfl⟩,hX,hY,hZ,hV⟩ (Ev.now _)))))))))
  · have x1:appendOut a b c d e f s t=(a,b,c,d,e,f,3):=if_neg fun q=>hok ⟨q.1,by
      rw [(set_reads q.1 q.2 _ rfl).2]⟩
    rw [x1] at hi hp
    exact Ev.bind hD (Ev.bind hr0 (Ev.bind hi (Ev.bind hp (Ev.bind (sameDisk_refl a b c d e f (by omega) (by omega) (by omega) (by omega)) (Ev.bind hq (Ev.pos ⟨rfl,rfl⟩ (Ev.neg hok (Ev.bind (sameDisk_refl a b c d e f (by omega) (by omega) (by omega) (by omega)) (Ev.pos ⟨rfl,rfl⟩ (Ev.now _))))))))))
end Go.Proofs.YtokcccejijmkmaaGreatDoor.Pure
