/- Each theorem here says that a call of one Go function answers what the Lean function beside it answers; its conditions stand in it. Written by a program of this session. -/
import Derived.Test.YtbcidclclckgfaaGreatDoorMFnExactFallenx0
import Derived.Test.YtbcidclclckgfaaGreatDoorMFnExactFallenx14
import Derived.Test.YtbcidclclckgfaaGreatDoorMFnExactFallenx15
import Derived.Test.YtbcidclclckgfaaGreatDoorMFnExactFallenx16
namespace Go.Proofs.YtbcidclclckgfaaGreatDoor.MFnExactFallen
open Go.RowKit Go.Proofs.YtbcidclclckgfaaGreatDoorW.PrintWords Go.Proofs.YtbcidclclckgfaaGreatDoorW.PrintLast Go.Proofs.YtbcidclclckgfaaGreatDoorW.PrintMore
attribute [local go_sem] max2_int min2_int max_two min_two max_three min_three max_four min_four   -- for this text's walks alone
set_option linter.unusedVariables false
set_option linter.unusedSimpArgs false

/-! ### impl_Node: function 136 -/
set_option maxHeartbeats 2000000 in
theorem cloneN (A0 : Option Addr) (c0 : Nat) (l0 : List S57) (w : World) (hr : Kd.C k57 w A0 l0.length l0) (hb : l0.length * 32 ≤ 140737488355328) :
    Calls Tryz.prog 136 #[.slice A0 l0.length c0] w fun e w' => ∃ v, e = .returned v ∧ Kd.R k57 57 w' w.heap.size (fun _ => True) v l0 ∧ Below w.heap.size w w' := by
  have q22 : ∀ (w : World) (a : Option Addr) (n c n' c' : Nat), (binOp .eql 29 (.slice a n c) (.slice none n' c')).run Tryz.prog w = .ok (.bool a.isNone) w := fun w a n c n' c' => Lib.run_eql_slice_nil w _ _ a n c n' c' Tryz.underlying29
  have HR := Aside0.mk hr
  cases A0 with
  | none =>
    have h0 : l0 = [] := by
      rcases Nat.eq_zero_or_pos l0.length with h | h
      · exact List.eq_nil_of_length_eq_zero h
      · obtain ⟨ad, e, _⟩ := hr.2.2 h
        cases e
    subst h0
    clear hr
    go_enter Tryz.func136, Tryz.ntmps136
    go_wp2
    go_ret
    exact ⟨_, rfl, Kd.R_nil _ _ _ _ _, Below.refl _ _⟩
  | some ad =>
    clear hr
    go_enter Tryz.func136, Tryz.ntmps136
    go_wp2_with (at_builtin; refine Kd.R_append_rows k57 (w0 := w) w.heap.size rfl _ _ 29 57 (.agg #[(.int .i64 0), (.string ⟨#[]⟩), (.int .i64 0)]) 32 rfl Tryz.underlying29 info57 rfl (by decide) (by decide) (.slice (some ⟨w.heap.size, 0, none⟩) 0 0) [] l0 (some ad) l0.length c0 (fun _ => True) (fun _ => False) rfl rfl ⟨fun _ _ => trivial, [], World.ownsRow_made w #[] 0 (Nat.le_refl _) (Nat.zero_le _) (by simp), Reps.none _ _⟩ (Kd.C_alloc HR.out _) (fun x cs h => by obtain rfl := k57_open h; exact k57_mkM _ _ _ x) (fun _ h => h.elim) (fun _ _ => trivial) (below_alloc (Below.refl _ _) _) (by simp) (by simpa using hb) ?_; intro v1 w1 hO hb1 hg hat)
    go_wp2
    go_ret
    exact ⟨v1, rfl, by simpa using hO, hb1⟩
def impl_Node.f (l0 : List (S57)) : Option (List (S57)) := if l0.length * 32 ≤ 140737488355328 then some l0 else none
theorem impl_Node.calls (A0 : Option Addr) (c0 : Nat) (l0 : List (S57)) (r : List (S57)) (w : World) (hr0 : Kd.C k57 w A0 l0.length l0) (hc0 : l0.length ≤ c0) (h : impl_Node.f l0 = some r) :
    Calls Tryz.prog 136 #[.slice A0 l0.length c0] w fun e w' => ∃ v0_ : Value, e = .returned v0_ ∧ Kd.R k57 57 w' w.heap.size (fun _ => True) v0_ r ∧ Below w.heap.size w w' := by
  unfold impl_Node.f at h
  by_cases hz : l0.length * 32 ≤ 140737488355328
  · rw [if_pos hz] at h
    obtain rfl := Option.some.inj h
    exact cloneN A0 c0 l0 w hr0 hz
  · rw [if_neg hz] at h; cases h

/-! ### slices_Clone_string_string: function 137 -/
set_option maxHeartbeats 2000000 in
theorem cloneS (A0 : Option Addr) (c0 : Nat) (l0 : List ByteArray) (w : World) (hr : Kd.C Kd.string w A0 l0.length l0) (hb : l0.length * 16 ≤ 140737488355328) :
    Calls Tryz.prog 137 #[.slice A0 l0.length c0] w fun e w' => ∃ v, e = .returned v ∧ Kd.R Kd.string 9 w' w.heap.size (fun _ => True) v l0 ∧ Below w.heap.size w w' := by
  have q22 : ∀ (w : World) (a : Option Addr) (n c n' c' : Nat), (binOp .eql 24 (.slice a n c) (.slice none n' c')).run Tryz.prog w = .ok (.bool a.isNone) w := fun w a n c n' c' => Lib.run_eql_slice_nil w _ _ a n c n' c' Tryz.underlying24
  have HR := Aside0.mk hr
  cases A0 with
  | none =>
    have h0 : l0 = [] := by
      rcases Nat.eq_zero_or_pos l0.length with h | h
      · exact List.eq_nil_of_length_eq_zero h
      · obtain ⟨ad, e, _⟩ := hr.2.2 h
        cases e
    subst h0
    clear hr
    go_enter Tryz.func137, Tryz.ntmps137
    go_wp2
    go_ret
    exact ⟨_, rfl, Kd.R_nil _ _ _ _ _, Below.refl _ _⟩
  | some ad =>
    clear hr
    go_enter Tryz.func137, Tryz.ntmps137
    go_wp2_with (at_builtin; refine Kd.R_append_rows Kd.string (w0 := w) w.heap.size rfl _ _ 24 9 (.string ⟨#[]⟩) 16 rfl Tryz.underlying24 info9 rfl (by decide) (by decide) (.slice (some ⟨w.heap.size, 0, none⟩) 0 0) [] l0 (some ad) l0.length c0 (fun _ => True) (fun _ => False) rfl rfl ⟨fun _ _ => trivial, [], World.ownsRow_made w #[] 0 (Nat.le_refl _) (Nat.zero_le _) (by simp), Reps.none _ _⟩ (Kd.C_alloc HR.out _) (fun _ _ h => h) (fun _ h => h.elim) (fun _ _ => trivial) (below_alloc (Below.refl _ _) _) (by simp) (by simpa using hb) ?_; intro v1 w1 hO hb1 hg hat)
    go_wp2
    go_ret
    exact ⟨v1, rfl, by simpa using hO, hb1⟩
def slices_Clone_string_string.f (l0 : List (ByteArray)) : Option (List (ByteArray)) := if l0.length * 16 ≤ 140737488355328 then some l0 else none
theorem slices_Clone_string_string.calls (A0 : Option Addr) (c0 : Nat) (l0 : List (ByteArray)) (r : List (ByteArray)) (w : World) (hr0 : Kd.C Kd.string w A0 l0.length l0) (hc0 : l0.length ≤ c0) (h : slices_Clone_string_string.f l0 = some r) :
    Calls Tryz.prog 137 #[.slice A0 l0.length c0] w fun e w' => ∃ v0_ : Value, e = .returned v0_ ∧ Kd.R Kd.string 9 w' w.heap.size (fun _ => True) v0_ r ∧ Below w.heap.size w w' := by
  unfold slices_Clone_string_string.f at h
  by_cases hz : l0.length * 16 ≤ 140737488355328
  · rw [if_pos hz] at h
    obtain rfl := Option.some.inj h
    exact cloneS A0 c0 l0 w hr0 hz
  · rw [if_neg hz] at h; cases h

/-! ### impl_copyDisk: function 82 -/
def impl_copyDisk.f (l0_0 : List (S57)) (l0_1 : List (S59)) (l0_2 : List (S59)) (l0_3 : List ByteArray) (a0_4 : Int) (a0_5 : Int) : Option ((List (S57)) × (List (S59)) × (List (S59)) × List ByteArray × Int × Int) := (impl_Node.f l0_0).bind fun t347 => ((impl_Entry_71.f l0_1).bind fun t350 => ((impl_Entry_71.f l0_2).bind fun t353 => ((slices_Clone_string_string.f l0_3).bind fun t356 => (some (t347, t350, t353, t356, a0_4, a0_5)))))
def impl_copyDisk.T1 : Bool × List (List Nat × List Nat) := (true, [([], []), ([0], [0]), ([1], [1]), ([], []), ([3], [3]), ([4, 2], [4]), ([], []), ([6], [6]), ([7, 5], [7]), ([], []), ([9], [9]), ([10, 8], [10]), ([0, 1, 2, 3, 4, 6, 7, 9, 10], []), ([12, 2, 11, 0, 1, 2, 3, 4, 6, 7, 9, 10], [2, 12]), ([0, 1, 2, 3, 4, 5, 6, 7, 9, 10, 12, 13], []), ([14, 5, 13, 0, 1, 2, 3, 4, 5, 6, 7, 9, 10, 12, 13], [5, 14]), ([0, 1, 2, 3, 4, 5, 6, 7, 8, 9, 10, 12, 13, 14, 15], []), ([16, 8, 15, 0, 1, 2, 3, 4, 5, 6, 7, 8, 9, 10, 12, 13, 14, 15], [8, 16]), ([0, 1, 2, 3, 4, 5, 6, 7, 8, 9, 10, 11, 12, 13, 14, 15, 16, 17], []), ([18, 11, 17, 0, 1, 2, 3, 4, 5, 6, 7, 8, 9, 10, 11, 12, 13, 14, 15, 16, 17], [11, 18])])
def impl_copyDisk.B1 : List Nat := [0, 1, 3, 0, 8, 31, 0, 64, 255, 0, 512, 2047, 1759, 8191, 16383, 32767, 65535, 131071, 262143, 524287]
theorem impl_copyDisk.tab1 : rtab .any (opsOf Tryz.f82 1) = impl_copyDisk.T1 := by kernel_rfl
theorem impl_copyDisk.bits1 : waitsOk impl_copyDisk.T1.2 impl_copyDisk.B1 = true := by kernel_rfl
set_option maxHeartbeats 8000000 in
set_option maxRecDepth 100000 in
theorem impl_copyDisk.calls (A0_0 : Option Addr) (c0_0 : Nat) (l0_0 : List (S57)) (A0_1 : Option Addr) (c0_1 : Nat) (l0_1 : List (S59)) (A0_2 : Option Addr) (c0_2 : Nat) (l0_2 : List (S59)) (A0_3 : Option Addr) (c0_3 : Nat) (l0_3 : List ByteArray) (a0_4 : Int) (a0_5 : Int) (r1 : List (S57)) (r2 : List (S59)) (r3 : List (S59)) (r4 : List ByteArray) (r5 : Int) (r6 : Int) (w : World) (hr0_0 : Kd.C k57 w A0_0 l0_0.length l0_0) (hc0_0 : l0_0.length ≤ c0_0) (hr0_1 : Kd.C k59 w A0_1 l0_1.length l0_1) (hc0_1 : l0_1.length ≤ c0_1) (hr0_2 : Kd.C k59 w A0_2 l0_2.length l0_2) (hc0_2 : l0_2.length ≤ c0_2) (hr0_3 : Kd.C Kd.string w A0_3 l0_3.length l0_3) (hc0_3 : l0_3.length ≤ c0_3) (h : impl_copyDisk.f l0_0 l0_1 l0_2 l0_3 a0_4 a0_5 = some (r1, r2, r3, r4, r5, r6)) :
  Calls Tryz.prog 82 #[.agg #[.slice A0_0 l0_0.length c0_0, .slice A0_1 l0_1.length c0_1, .slice A0_2 l0_2.length c0_2, .slice A0_3 l0_3.length c0_3, .int .i64 a0_4, .int .i64 a0_5]] w fun e w' => ∃ v0_ v1_ v2_ v3_ : Value, e = .returned (.agg #[v0_, v1_, v2_, v3_, .int .i64 r5, .int .i64 r6]) ∧ Kd.R k57 57 w' w.heap.size (fun _ => True) v0_ r1 ∧ Kd.R k59 59 w' w.heap.size (fun k_ => some k_ ≠ (v2_ : Value).ownBlock) v1_ r2 ∧ Kd.R k59 59 w' w.heap.size (fun k_ => some k_ ≠ (v1_ : Value).ownBlock) v2_ r3 ∧ Kd.R Kd.string 9 w' w.heap.size (fun _ => True) v3_ r4 ∧ Below w.heap.size w w' := by
 have HR0_0 := Aside0.mk hr0_0
 have HC0_0 := Aside0.mk hc0_0
 clear hr0_0 hc0_0
 have HR0_1 := Aside0.mk hr0_1
 have HC0_1 := Aside0.mk hc0_1
 clear hr0_1 hc0_1
 have HR0_2 := Aside0.mk hr0_2
 have HC0_2 := Aside0.mk hc0_2
 clear hr0_2 hc0_2
 have HR0_3 := Aside0.mk hr0_3
 have HC0_3 := Aside0.mk hc0_3
 clear hr0_3 hc0_3
 have HB := Aside0.mk (Below.refl w.heap.size w)
 have H : ((impl_Node.f l0_0).bind fun t347 => ((impl_Entry_71.f l0_1).bind fun t350 => ((impl_Entry_71.f l0_2).bind fun t353 => ((slices_Clone_string_string.f l0_3).bind fun t356 => (some (t347, t350, t353, t356, a0_4, a0_5)))))) = some (r1, r2, r3, r4, r5, r6) := h
 clear h
 obtain ⟨t347, A2, H⟩ := bA H
 replace H : ((impl_Entry_71.f l0_1).bind fun t350 => ((impl_Entry_71.f l0_2).bind fun t353 => ((slices_Clone_string_string.f l0_3).bind fun t356 => (some (t347, t350, t353, t356, a0_4, a0_5))))) = some (r1, r2, r3, r4, r5, r6) := H
 obtain ⟨t350, A3, H⟩ := bA H
 replace H : ((impl_Entry_71.f l0_2).bind fun t353 => ((slices_Clone_string_string.f l0_3).bind fun t356 => (some (t347, t350, t353, t356, a0_4, a0_5)))) = some (r1, r2, r3, r4, r5, r6) := H
 obtain ⟨t353, A4, H⟩ := bA H
 replace H : ((slices_Clone_string_string.f l0_3).bind fun t356 => (some (t347, t350, t353, t356, a0_4, a0_5))) = some (r1, r2, r3, r4, r5, r6) := H
 obtain ⟨t356, A5, H⟩ := bA H
 replace H : (some (t347, t350, t353, t356, a0_4, a0_5)) = some (r1, r2, r3, r4, r5, r6) := H
 simp only [Option.some.injEq, Prod.mk.injEq] at H
 obtain ⟨rfl, rfl, rfl, rfl, rfl, rfl⟩ := H
 go_enter Tryz.func82, Tryz.ntmps82
 try go_wp2_with (first | ((with_reducible refine gate_dst (N := 1) rfl ?_); refine box_event ?hg (N := 1) ?hd (cs := #[.slice A0_0 l0_0.length c0_0, .slice A0_1 l0_1.length c0_1, .slice A0_2 l0_2.length c0_2, .slice A0_3 l0_3.length c0_3, .int .i64 a0_4, .int .i64 a0_5]) (t := 32) ?hr ?_; (case hd => rfl); (case hg => rfl); (case hr => (go_simp; done)); intro gb345 hg w6 hbox hb; have BK345 := Aside0.mk (hbox); have GE345 := Aside0.mk ((by rw [hg]; exact (below_size HB.out) : w.heap.size ≤ gb345)); replace HB := Aside0.mk (below_step HB.out hb); clear hb hbox hg) | ((with_reducible refine gate_dst (N := 2) rfl ?_); refine box_event ?hg (N := 2) ?hd (cs := #[.slice none 0 0, .slice none 0 0, .slice none 0 0, .slice none 0 0, .int .i64 0, .int .i64 0]) (t := 32) ?hr ?_; (case hd => rfl); (case hg => rfl); (case hr => (go_simp; done)); intro gb346 hg w7 hbox hb; have BK346 := Aside0.mk (hbox); have GE346 := Aside0.mk ((by rw [hg]; exact (below_size HB.out) : w.heap.size ≤ gb346)); have NB346_345 := Aside0.mk ((by rw [hg]; exact Nat.ne_of_gt (blk_lt BK345.out) : gb346 ≠ gb345)); replace BK345 := Aside0.mk (bB hb BK345.out); replace HB := Aside0.mk (below_step HB.out hb); clear hb hbox hg))
 replace BK345 := Aside0.mk (blk_drew BK345.out)
 replace BK346 := Aside0.mk (blk_drew BK346.out)
 replace HB := Aside0.mk (below_drew1 HB.out)
 refine start_ (n := 20) (S := fun w' => w'.cell? ⟨gb345, 0, none⟩ = some (.slice A0_0 l0_0.length c0_0) ∧ w'.cell? ⟨gb345, 1, none⟩ = some (.slice A0_1 l0_1.length c0_1) ∧ w'.cell? ⟨gb345, 2, none⟩ = some (.slice A0_2 l0_2.length c0_2) ∧ w'.cell? ⟨gb345, 3, none⟩ = some (.slice A0_3 l0_3.length c0_3) ∧ w'.cell? ⟨gb345, 4, none⟩ = some (.int .i64 a0_4) ∧ w'.cell? ⟨gb345, 5, none⟩ = some (.int .i64 a0_5)) (ds := [13, 15, 17, 19]) (marks 20 0) (by kernel_rfl) rfl rfl ⟨(blk_cell BK345.out 0).trans rfl, (blk_cell BK345.out 1).trans rfl, (blk_cell BK345.out 2).trans rfl, (blk_cell BK345.out 3).trans rfl, (blk_cell BK345.out 4).trans rfl, (blk_cell BK345.out 5).trans rfl⟩ (fun hHeld => ?_); refine with_tabW impl_copyDisk.tab1 impl_copyDisk.bits1 (fun HT_ HW_ => ?_)
 generalize w7.drew = w8 at BK345 BK346 HB hHeld ⊢
 refine pure_ (i := 0) (N := some 3) (v := ?_) (a' := ?_) (marks 20 1) rfl rfl (any_of HT_.out (by kernel_rfl)) (fun _ _ _ h => h) (Or.inl ⟨by rfl, ?_⟩) ?_ ?_
 rotate_left
 ·intro w'
  go_simp
  with_reducible rfl
 rotate_left
 ·simp only [Act.put, List.setIfInBounds_toArray, List.set_cons_zero, List.set_cons_succ, i64_w, i32_w]
  rfl
 refine pure_ (i := 3) (N := some 6) (v := ?_) (a' := ?_) (marks 20 9) rfl rfl (any_of HT_.out (by kernel_rfl)) (fun _ _ _ h => h) (Or.inl ⟨by rfl, ?_⟩) ?_ ?_
 rotate_left
 ·intro w'
  go_simp
  with_reducible rfl
 rotate_left
 ·simp only [Act.put, List.setIfInBounds_toArray, List.set_cons_zero, List.set_cons_succ, i64_w, i32_w]
  rfl
 refine pure_ (i := 6) (N := some 9) (v := ?_) (a' := ?_) (marks 20 73) rfl rfl (any_of HT_.out (by kernel_rfl)) (fun _ _ _ h => h) (Or.inl ⟨by rfl, ?_⟩) ?_ ?_
 rotate_left
 ·intro w'
  go_simp
  with_reducible rfl
 rotate_left
 ·simp only [Act.put, List.setIfInBounds_toArray, List.set_cons_zero, List.set_cons_succ, i64_w, i32_w]
  rfl
 refine pure_ (i := 9) (N := some 12) (v := ?_) (a' := ?_) (marks 20 585) rfl rfl (any_of HT_.out (by kernel_rfl)) (fun _ _ _ h => h) (Or.inl ⟨by rfl, ?_⟩) ?_ ?_
 rotate_left
 ·intro w'
  go_simp
  with_reducible rfl
 rotate_left
 ·simp only [Act.put, List.setIfInBounds_toArray, List.set_cons_zero, List.set_cons_succ, i64_w, i32_w]
  rfl
 refine take_ (i := 1) (N := some 4) (v := ?_) (a' := ?_) (marks 20 587) rfl rfl (take_ofW HT_.out HW_.out (by kernel_rfl)) (fun _ _ _ h => h) (Or.inl ⟨by rfl, ?_⟩) hHeld ?_ ?_
 rotate_left
 ·rintro w' ⟨s0, s1, s2, s3, s4, s5⟩
  go_simp
  with_reducible rfl
 rotate_left
 ·simp only [Act.put, List.setIfInBounds_toArray, List.set_cons_zero, List.set_cons_succ, i64_w, i32_w]
  rfl
 refine take_ (i := 4) (N := some 7) (v := ?_) (a' := ?_) (marks 20 603) rfl rfl (take_ofW HT_.out HW_.out (by kernel_rfl)) (fun _ _ _ h => h) (Or.inl ⟨by rfl, ?_⟩) hHeld ?_ ?_
 rotate_left
 ·rintro w' ⟨s0, s1, s2, s3, s4, s5⟩
  go_simp
  with_reducible rfl
 rotate_left
 ·simp only [Act.put, List.setIfInBounds_toArray, List.set_cons_zero, List.set_cons_succ, i64_w, i32_w]
  rfl
 refine take_ (i := 7) (N := some 10) (v := ?_) (a' := ?_) (marks 20 731) rfl rfl (take_ofW HT_.out HW_.out (by kernel_rfl)) (fun _ _ _ h => h) (Or.inl ⟨by rfl, ?_⟩) hHeld ?_ ?_
 rotate_left
 ·rintro w' ⟨s0, s1, s2, s3, s4, s5⟩
  go_simp
  with_reducible rfl
 rotate_left
 ·simp only [Act.put, List.setIfInBounds_toArray, List.set_cons_zero, List.set_cons_succ, i64_w, i32_w]
  rfl
 refine take_ (i := 10) (N := some 13) (v := ?_) (a' := ?_) (marks 20 1755) rfl rfl (take_ofW HT_.out HW_.out (by kernel_rfl)) (fun _ _ _ h => h) (Or.inl ⟨by rfl, ?_⟩) hHeld ?_ ?_
 rotate_left
 ·rintro w' ⟨s0, s1, s2, s3, s4, s5⟩
  go_simp
  with_reducible rfl
 rotate_left
 ·simp only [Act.put, List.setIfInBounds_toArray, List.set_cons_zero, List.set_cons_succ, i64_w, i32_w]
  rfl
 refine one_ (i := 2) (N := some 5) (marks 20 1759) rfl rfl (one_of HT_.out (by kernel_rfl)) (by decide) (fun K hK => ?_)
 refine goes_ Tryz.func136 (by kernel_rfl) rfl #[.slice A0_0 l0_0.length c0_0] (by rfl) rfl rfl (by (try simp only [List.map_toArray, List.map_cons, List.map_nil]); rfl) ?_
 with_reducible refine (impl_Node.calls _ _ l0_0 t347 _ ?side1 ?side2 A2.out).mono ?_
 (case side1 => repeat (exact (Kd.C_below HR0_0.out HB.out)))
 (case side2 => exact HC0_0.out)
 rintro e w9 ⟨v348, rfl, ho0, hb⟩
 refine ⟨_, rfl, ?_⟩
 have HO349 := Aside0.mk (Kd.R_lower ho0 (below_size HB.out))
 replace BK345 := Aside0.mk (bB hb BK345.out)
 replace BK346 := Aside0.mk (bB hb BK346.out)
 replace HB := Aside0.mk (below_step HB.out hb)
 (try clear hb)
 (try clear hb2)
 (try clear hk)
 (try clear hi)
 (try clear ho0)
 refine hK.out _ _ ⟨(blk_cell BK345.out 0).trans rfl, (blk_cell BK345.out 1).trans rfl, (blk_cell BK345.out 2).trans rfl, (blk_cell BK345.out 3).trans rfl, (blk_cell BK345.out 4).trans rfl, (blk_cell BK345.out 5).trans rfl⟩ (fun hHeld => ?_)
 clear hK K
 refine norm_ (a' := ?_) ?_ ?_
 rotate_left
 ·show Act.put _ (some 5) _ = _
  simp only [Act.put, List.setIfInBounds_toArray, List.set_cons_zero, List.set_cons_succ, i64_w, i32_w]
  rfl
 refine pure_ (i := 12) (N := some 15) (v := ?_) (a' := ?_) (marks 20 5855) rfl rfl (any_of HT_.out (by kernel_rfl)) (fun _ _ _ h => h) (Or.inl ⟨by rfl, ?_⟩) ?_ ?_
 rotate_left
 ·intro w'
  go_simp
  with_reducible rfl
 rotate_left
 ·simp only [Act.put, List.setIfInBounds_toArray, List.set_cons_zero, List.set_cons_succ, i64_w, i32_w]
  rfl
 refine one_ (i := 5) (N := some 8) (marks 20 5887) rfl rfl (one_of HT_.out (by kernel_rfl)) (by decide) (fun K hK => ?_)
 refine goes_ Tryz.func71 (by kernel_rfl) rfl #[.slice A0_1 l0_1.length c0_1] (by rfl) rfl rfl (by (try simp only [List.map_toArray, List.map_cons, List.map_nil]); rfl) ?_
 with_reducible refine (impl_Entry_71.calls _ _ l0_1 t350 _ ?side1 ?side2 A3.out).mono ?_
 (case side1 => repeat (exact (Kd.C_below HR0_1.out HB.out)))
 (case side2 => exact HC0_1.out)
 rintro e w10 ⟨v351, rfl, ho0, hb⟩
 refine ⟨_, rfl, ?_⟩
 have HO352 := Aside0.mk (Kd.R_lower ho0 (below_size HB.out))
 replace HO349 := Aside0.mk (Kd.R_below HO349.out hb)
 replace BK345 := Aside0.mk (bB hb BK345.out)
 replace BK346 := Aside0.mk (bB hb BK346.out)
 replace HB := Aside0.mk (below_step HB.out hb)
 (try clear hb)
 (try clear hb2)
 (try clear hk)
 (try clear hi)
 (try clear ho0)
 refine hK.out _ _ ⟨(blk_cell BK345.out 0).trans rfl, (blk_cell BK345.out 1).trans rfl, (blk_cell BK345.out 2).trans rfl, (blk_cell BK345.out 3).trans rfl, (blk_cell BK345.out 4).trans rfl, (blk_cell BK345.out 5).trans rfl⟩ (fun hHeld => ?_)
 clear hK K
 refine norm_ (a' := ?_) ?_ ?_
 rotate_left
 ·show Act.put _ (some 8) _ = _
  simp only [Act.put, List.setIfInBounds_toArray, List.set_cons_zero, List.set_cons_succ, i64_w, i32_w]
  rfl
 refine one_ (i := 8) (N := some 11) (marks 20 6143) rfl rfl (one_of HT_.out (by kernel_rfl)) (by decide) (fun K hK => ?_)
 refine goes_ Tryz.func71 (by kernel_rfl) rfl #[.slice A0_2 l0_2.length c0_2] (by rfl) rfl rfl (by (try simp only [List.map_toArray, List.map_cons, List.map_nil]); rfl) ?_
 with_reducible refine (impl_Entry_71.calls _ _ l0_2 t353 _ ?side1 ?side2 A4.out).mono ?_
 (case side1 => repeat (exact (Kd.C_below HR0_2.out HB.out)))
 (case side2 => exact HC0_2.out)
 rintro e w11 ⟨v354, rfl, ho0, hb⟩
 refine ⟨_, rfl, ?_⟩
 have HO355 := Aside0.mk (Kd.R_lower (Kd.R_new' ho0 (Kd.R_lt HO352.out)) (below_size HB.out))
 replace HO349 := Aside0.mk (Kd.R_below HO349.out hb)
 replace HO352 := Aside0.mk (Kd.R_elder' HO352.out (Kd.R_base ho0) hb)
 replace BK345 := Aside0.mk (bB hb BK345.out)
 replace BK346 := Aside0.mk (bB hb BK346.out)
 replace HB := Aside0.mk (below_step HB.out hb)
 (try clear hb)
 (try clear hb2)
 (try clear hk)
 (try clear hi)
 (try clear ho0)
 refine hK.out _ _ ⟨(blk_cell BK345.out 0).trans rfl, (blk_cell BK345.out 1).trans rfl, (blk_cell BK345.out 2).trans rfl, (blk_cell BK345.out 3).trans rfl, (blk_cell BK345.out 4).trans rfl, (blk_cell BK345.out 5).trans rfl⟩ (fun hHeld => ?_)
 clear hK K
 refine norm_ (a' := ?_) ?_ ?_
 rotate_left
 ·show Act.put _ (some 11) _ = _
  simp only [Act.put, List.setIfInBounds_toArray, List.set_cons_zero, List.set_cons_succ, i64_w, i32_w]
  rfl
 refine one_ (i := 11) (N := some 14) (marks 20 8191) rfl rfl (one_of HT_.out (by kernel_rfl)) (by decide) (fun K hK => ?_)
 refine goes_ Tryz.func137 (by kernel_rfl) rfl #[.slice A0_3 l0_3.length c0_3] (by rfl) rfl rfl (by (try simp only [List.map_toArray, List.map_cons, List.map_nil]); rfl) ?_
 with_reducible refine (slices_Clone_string_string.calls _ _ l0_3 t356 _ ?side1 ?side2 A5.out).mono ?_
 (case side1 => repeat (exact (Kd.C_below HR0_3.out HB.out)))
 (case side2 => exact HC0_3.out)
 rintro e w12 ⟨v357, rfl, ho0, hb⟩
 refine ⟨_, rfl, ?_⟩
 have HO358 := Aside0.mk (Kd.R_lower ho0 (below_size HB.out))
 replace HO349 := Aside0.mk (Kd.R_below HO349.out hb)
 replace HO352 := Aside0.mk (Kd.R_below HO352.out hb)
 replace HO355 := Aside0.mk (Kd.R_below HO355.out hb)
 replace BK345 := Aside0.mk (bB hb BK345.out)
 replace BK346 := Aside0.mk (bB hb BK346.out)
 replace HB := Aside0.mk (below_step HB.out hb)
 (try clear hb)
 (try clear hb2)
 (try clear hk)
 (try clear hi)
 (try clear ho0)
 obtain ⟨Ao13, co13, eo13⟩ := Kd.R_slice HO349.out
 (subst eo13)
 obtain ⟨Ao15, co15, eo15⟩ := Kd.R_slice HO352.out
 (subst eo15)
 obtain ⟨Ao17, co17, eo17⟩ := Kd.R_slice HO355.out
 (subst eo17)
 obtain ⟨Ao19, co19, eo19⟩ := Kd.R_slice HO358.out
 (subst eo19)
 refine hK.out _ _ ⟨(blk_cell BK345.out 0).trans rfl, (blk_cell BK345.out 1).trans rfl, (blk_cell BK345.out 2).trans rfl, (blk_cell BK345.out 3).trans rfl, (blk_cell BK345.out 4).trans rfl, (blk_cell BK345.out 5).trans rfl⟩ (fun hHeld => ?_)
 clear hK K
 refine norm_ (a' := ?_) ?_ ?_
 rotate_left
 ·show Act.put _ (some 14) _ = _
  simp only [Act.put, List.setIfInBounds_toArray, List.set_cons_zero, List.set_cons_succ, i64_w, i32_w]
  rfl
 refine last_ (i := 13) (N := none) (marks 20 16383) rfl rfl (one_of HT_.out (by kernel_rfl)) (by decide) (fun K hK => ?_)
 have hfs14 := blk_frozen BK345.out 0
 refine skip_ (w1 := ?_) (by rfl) rfl ?_ ?_
 rotate_left
 ·go_simp
  rfl
 refine hK.out _ _ ?_
 clear hK K
 refine pure_ (i := 14) (N := some 16) (v := ?_) (a' := ?_) (marks 20 32767) rfl rfl (any_of HT_.out (by kernel_rfl)) (fun _ _ _ h => h) (Or.inl ⟨by rfl, ?_⟩) ?_ ?_
 rotate_left
 ·intro w'
  go_simp
  with_reducible rfl
 rotate_left
 ·simp only [Act.put, List.setIfInBounds_toArray, List.set_cons_zero, List.set_cons_succ, i64_w, i32_w]
  rfl
 refine last_ (i := 15) (N := none) (marks 20 65535) rfl rfl (one_of HT_.out (by kernel_rfl)) (by decide) (fun K hK => ?_)
 have hfs16 := blk_frozen BK345.out 1
 refine skip_ (w1 := ?_) (by rfl) rfl ?_ ?_
 rotate_left
 ·go_simp
  rfl
 refine hK.out _ _ ?_
 clear hK K
 refine pure_ (i := 16) (N := some 17) (v := ?_) (a' := ?_) (marks 20 131071) rfl rfl (any_of HT_.out (by kernel_rfl)) (fun _ _ _ h => h) (Or.inl ⟨by rfl, ?_⟩) ?_ ?_
 rotate_left
 ·intro w'
  go_simp
  with_reducible rfl
 rotate_left
 ·simp only [Act.put, List.setIfInBounds_toArray, List.set_cons_zero, List.set_cons_succ, i64_w, i32_w]
  rfl
 refine last_ (i := 17) (N := none) (marks 20 262143) rfl rfl (one_of HT_.out (by kernel_rfl)) (by decide) (fun K hK => ?_)
 have hfs18 := blk_frozen BK345.out 2
 refine skip_ (w1 := ?_) (by rfl) rfl ?_ ?_
 rotate_left
 ·go_simp
  rfl
 refine hK.out _ _ ?_
 clear hK K
 refine pure_ (i := 18) (N := some 18) (v := ?_) (a' := ?_) (marks 20 524287) rfl rfl (any_of HT_.out (by kernel_rfl)) (fun _ _ _ h => h) (Or.inl ⟨by rfl, ?_⟩) ?_ ?_
 rotate_left
 ·intro w'
  go_simp
  with_reducible rfl
 rotate_left
 ·simp only [Act.put, List.setIfInBounds_toArray, List.set_cons_zero, List.set_cons_succ, i64_w, i32_w]
  rfl
 refine last_ (i := 19) (N := none) (marks 20 1048575) rfl rfl (one_of HT_.out (by kernel_rfl)) (by decide) (fun K hK => ?_)
 have hfs20 := blk_frozen BK345.out 3
 refine skip_ (w1 := ?_) (by rfl) rfl ?_ ?_
 rotate_left
 ·go_simp
  rfl
 refine hK.out _ _ ?_
 clear hK K
 refine done_ (done_of HT_.out (by kernel_rfl)) ?_
 have hnc21 := NB346_345.out
 obtain ⟨hcz23_0, hcz23_1, hcz23_2, hcz23_3, hcz23_4, hcz23_5⟩ := b6 BK346.out
 obtain ⟨hfz23_0, hfz23_1, hfz23_2, hfz23_3, hfz23_4, hfz23_5⟩ := z6 BK346.out
 try go_wp2
 refine bodyPost_ret (results_cell_row rfl _ _ gb346 32 #[.slice Ao13 t347.length co13, .slice Ao15 t350.length co15, .slice Ao17 t353.length co17, .slice Ao19 t356.length co19, .int .i64 a0_4, .int .i64 a0_5] (0, 0) _ rfl (by refine blk_put (cs := #[.slice Ao13 t347.length co13, .slice Ao15 t350.length co15, .slice Ao17 t353.length co17, .slice Ao19 t356.length co19, .int .i64 a0_4, .int .i64 0]) ?_ 5 _ rfl; refine blk_put (cs := #[.slice Ao13 t347.length co13, .slice Ao15 t350.length co15, .slice Ao17 t353.length co17, .slice Ao19 t356.length co19, .int .i64 0, .int .i64 0]) ?_ 4 _ rfl; refine blk_put (cs := #[.slice Ao13 t347.length co13, .slice Ao15 t350.length co15, .slice Ao17 t353.length co17, .slice none 0 0, .int .i64 0, .int .i64 0]) ?_ 3 _ rfl; refine blk_put (cs := #[.slice Ao13 t347.length co13, .slice Ao15 t350.length co15, .slice none 0 0, .slice none 0 0, .int .i64 0, .int .i64 0]) ?_ 2 _ rfl; refine blk_put (cs := #[.slice Ao13 t347.length co13, .slice none 0 0, .slice none 0 0, .slice none 0 0, .int .i64 0, .int .i64 0]) ?_ 1 _ rfl; refine blk_put (cs := #[.slice none 0 0, .slice none 0 0, .slice none 0 0, .slice none 0 0, .int .i64 0, .int .i64 0]) ?_ 0 _ rfl; refine blk_far ?_ NB346_345.out _; refine blk_far ?_ NB346_345.out _; refine blk_far ?_ NB346_345.out _; refine blk_far ?_ NB346_345.out _; exact BK346.out) Tryz.underlying32 rfl (by kernel_rfl)) rfl ?_
 all_goals exact ⟨_, _, _, _, by rfl, by exact Kd.R_mono (R6 (Kd.R_far (p := ⟨gb345, 3, none⟩) (Kd.R_far (p := ⟨gb345, 2, none⟩) (Kd.R_far (p := ⟨gb345, 1, none⟩) (Kd.R_far (p := ⟨gb345, 0, none⟩) (Kd.R_types (Kd.R_types HO349.out BK345.out (by decide)) BK346.out (by decide)) (fun _ hk => hk.1.2) (.slice Ao13 t347.length co13)) (fun _ hk => hk.1.2) (.slice Ao15 t350.length co15)) (fun _ hk => hk.1.2) (.slice Ao17 t353.length co17)) (fun _ hk => hk.1.2) (.slice Ao19 t356.length co19)) (.slice Ao13 t347.length co13) (.slice Ao15 t350.length co15) (.slice Ao17 t353.length co17) (.slice Ao19 t356.length co19) (.int .i64 a0_4) (.int .i64 a0_5)) (fun _ hk => trivial), by exact Kd.R_mono (R6 (Kd.R_far (p := ⟨gb345, 3, none⟩) (Kd.R_far (p := ⟨gb345, 2, none⟩) (Kd.R_far (p := ⟨gb345, 1, none⟩) (Kd.R_far (p := ⟨gb345, 0, none⟩) (Kd.R_types (Kd.R_types HO352.out BK345.out (by decide)) BK346.out (by decide)) (fun _ hk => hk.1.2) (.slice Ao13 t347.length co13)) (fun _ hk => hk.1.2) (.slice Ao15 t350.length co15)) (fun _ hk => hk.1.2) (.slice Ao17 t353.length co17)) (fun _ hk => hk.1.2) (.slice Ao19 t356.length co19)) (.slice Ao13 t347.length co13) (.slice Ao15 t350.length co15) (.slice Ao17 t353.length co17) (.slice Ao19 t356.length co19) (.int .i64 a0_4) (.int .i64 a0_5)) (fun _ hk => hk.1.1.2), by exact Kd.R_mono (R6 (Kd.R_far (p := ⟨gb345, 3, none⟩) (Kd.R_far (p := ⟨gb345, 2, none⟩) (Kd.R_far (p := ⟨gb345, 1, none⟩) (Kd.R_far (p := ⟨gb345, 0, none⟩) (Kd.R_types (Kd.R_types HO355.out BK345.out (by decide)) BK346.out (by decide)) (fun _ hk => hk.1.2) (.slice Ao13 t347.length co13)) (fun _ hk => hk.1.2) (.slice Ao15 t350.length co15)) (fun _ hk => hk.1.2) (.slice Ao17 t353.length co17)) (fun _ hk => hk.1.2) (.slice Ao19 t356.length co19)) (.slice Ao13 t347.length co13) (.slice Ao15 t350.length co15) (.slice Ao17 t353.length co17) (.slice Ao19 t356.length co19) (.int .i64 a0_4) (.int .i64 a0_5)) (fun _ hk => hk.1.1.2), by exact Kd.R_mono (R6 (Kd.R_far (p := ⟨gb345, 3, none⟩) (Kd.R_far (p := ⟨gb345, 2, none⟩) (Kd.R_far (p := ⟨gb345, 1, none⟩) (Kd.R_far (p := ⟨gb345, 0, none⟩) (Kd.R_types (Kd.R_types HO358.out BK345.out (by decide)) BK346.out (by decide)) (fun _ hk => hk.1.2) (.slice Ao13 t347.length co13)) (fun _ hk => hk.1.2) (.slice Ao15 t350.length co15)) (fun _ hk => hk.1.2) (.slice Ao17 t353.length co17)) (fun _ hk => hk.1.2) (.slice Ao19 t356.length co19)) (.slice Ao13 t347.length co13) (.slice Ao15 t350.length co15) (.slice Ao17 t353.length co17) (.slice Ao19 t356.length co19) (.int .i64 a0_4) (.int .i64 a0_5)) (fun _ hk => trivial), by repeat (with_reducible first | exact HB.out | refine below_set ?_ GE345.out | refine below_set ?_ GE346.out)⟩

/-! ### impl_Brought: function 94 -/
def impl_Brought.f (a0 : Int) (a1 : Int) (a2 : Int) : Option (Int) := if a2 < a1 then (some a1) else (some (mn (mx a0 a1) a2))
set_option maxHeartbeats 8000000 in
set_option maxRecDepth 100000 in
theorem impl_Brought.calls (a0 : Int) (a1 : Int) (a2 : Int) (r : Int) (w : World) (h : impl_Brought.f a0 a1 a2 = some r) :
  Calls Tryz.prog 94 #[.int .i64 a0, .int .i64 a1, .int .i64 a2] w fun e w' => e = .returned (.int .i64 r) ∧ Below w.heap.size w w' := by
 have HB := Aside0.mk (Below.refl w.heap.size w)
 have H : (if a2 < a1 then (some a1) else (some (mn (mx a0 a1) a2))) = some r := h
 clear h
 by_cases c4 : a2 < a1
 ·rw [if_pos c4] at H
  have c4b0 : decide (a2 < a1) = true := decide_eq_true c4
  clear c4
  obtain rfl := Option.some.inj H
  go_enter Tryz.func94, Tryz.ntmps94
  go_wp2
  all_goals (first | go_ret | (exfalso; simp only [decide_eq_true_eq, decide_eq_false_iff_not] at *; omega))
  all_goals exact ⟨by rfl, by repeat (first | (with_reducible first | exact HB.out | apply below_alloc | apply pw_below_drewN | apply below_drew1) | exact HB.out)⟩
 ·rw [if_neg c4] at H
  have c4b0 : decide (a2 < a1) = false := decide_eq_false c4
  clear c4
  obtain ⟨ji5, hji5⟩ : ∃ j_ : Int, (mx a0 a1) = j_ := ⟨_, rfl⟩
  replace H : (some (mn (ji5) a2)) = some r := by first | (rw [hji5] at H; exact H) | (simp only [hji5] at H ⊢; exact H)
  have hji5_ : (if a0 < a1 then a1 else a0) = ji5 := hji5
  obtain ⟨ji6, hji6⟩ : ∃ j_ : Int, (mn (ji5) a2) = j_ := ⟨_, rfl⟩
  replace H : (some ji6) = some r := by first | (rw [hji6] at H; exact H) | (simp only [hji6] at H ⊢; exact H)
  have hji6_ : (if a2 < (ji5) then a2 else (ji5)) = ji6 := hji6
  obtain rfl := Option.some.inj H
  go_enter Tryz.func94, Tryz.ntmps94
  go_wp2
  all_goals (first | go_ret | (exfalso; simp only [decide_eq_true_eq, decide_eq_false_iff_not] at *; omega))
  all_goals exact ⟨by first | rfl | (simp [errW_none, errW_some] <;> rfl) | (simp only [← hji5, ← hji6]; first | rfl | (simp [errW_none, errW_some] <;> rfl)) | (simp [*, errW_none, errW_some] <;> rfl) | (exfalso; simp only [decide_eq_true_eq, decide_eq_false_iff_not] at *; omega), by repeat (first | (with_reducible first | exact HB.out | apply below_alloc | apply pw_below_drewN | apply below_drew1) | exact HB.out)⟩

/-! ### impl_StepsDone: function 141 -/
theorem sd_str {w : World} {A : Option Addr} {n : Nat} {xs : List ByteArray} (h : Kd.C Kd.string w A n xs) (i : Nat) (hi : i < xs.length) : ∃ ad, A = some ad ∧ w.cell? (ad.add i) = some (.string xs[i]) := by
  have hl : xs.length = n := h.1
  obtain ⟨ad, c, e, _, hK, hc⟩ := Kd.C_get h ByteArray.empty (i : Int) (by omega) (by omega)
  have hK' : c = [Value.string (xs.getD ((i : Int)).toNat ByteArray.empty)] := hK
  subst hK'
  refine ⟨ad, e, ?_⟩
  have := hc 0 _ rfl
  rw [Int.toNat_natCast, List.getD_eq_getElem?_getD, List.getElem?_eq_getElem hi] at this
  simpa [Kd.string, Kd.scalar] using this
def stepsD : List S59 → List ByteArray → Option (List S59 × Bool)
  | now, [] => some (now, true)
  | now, s :: r => (impl_stepDone.f now s).bind fun q => if q.2 = true then stepsD q.1 r else some ([], false)
def impl_StepsDone.f (l0 : List S59) (l1 : List ByteArray) (a2 : Int) : Option (List S59 × Bool) := if l0.length * 24 ≤ 140737488355328 then (impl_Brought.f a2 0 (l1.length : Int)).bind fun t => if 0 ≤ t ∧ t ≤ (l1.length : Int) then stepsD l0 (l1.take t.toNat) else none else none
set_option maxHeartbeats 4000000 in
theorem impl_StepsDone.calls (A0 : Option Addr) (c0 : Nat) (l0 : List S59) (A1 : Option Addr) (c1 : Nat) (l1 : List ByteArray) (a2 : Int) (r1 : List S59) (r2 : Bool) (w : World) (hr0 : Kd.C k59 w A0 l0.length l0) (hc0 : l0.length ≤ c0) (hr1 : Kd.C Kd.string w A1 l1.length l1) (hc1 : l1.length ≤ c1) (hTE : TabsE w) (hTP : TabsP w) (h : impl_StepsDone.f l0 l1 a2 = some (r1, r2)) :
    Calls Tryz.prog 141 #[.slice A0 l0.length c0, .slice A1 l1.length c1, .int .i64 a2] w fun e w' => ∃ v0_ : Value, e = .returned (.tuple #[v0_, .bool r2]) ∧ Kd.R k59 59 w' w.heap.size (fun _ => True) v0_ r1 ∧ Below w.heap.size w w' := by
  unfold impl_StepsDone.f at h
  by_cases hz : l0.length * 24 ≤ 140737488355328
  case neg => rw [if_neg hz] at h; cases h
  rw [if_pos hz] at h
  replace h := Option.bind_eq_some_iff.mp h
  obtain ⟨t, ht, h⟩ := h
  by_cases hb : 0 ≤ t ∧ t ≤ (l1.length : Int)
  case neg => rw [if_neg hb] at h; cases h
  rw [if_pos hb] at h
  obtain ⟨T, rfl⟩ : ∃ T : Nat, t = (T : Int) := ⟨t.toNat, by omega⟩
  rw [Int.toNat_natCast] at h
  have hT : T ≤ l1.length := by omega
  have hT0 : (0 : Int) ≤ (T : Int) := by omega
  have hTz : (T : Int) ≤ (l1.length : Int) := by omega
  have hTc : T ≤ c1 := by omega
  have hmx := hr1.2.1
  have CC := Aside0.mk (fun (w1 : World) (hb : Below w.heap.size w w1) => cloneE A0 c0 l0 w1 (Kd.C_below hr0 hb) hz)
  have CB := Aside0.mk (fun (w1 : World) => impl_Brought.calls a2 0 (l1.length : Int) (T : Int) w1 ht)
  have H0 := Aside0.mk h
  have HR := Aside0.mk hr1
  have HE := Aside0.mk hTE
  have HP := Aside0.mk hTP
  clear h ht hb hz hr0 hr1 hTE hTP
  have BL := Aside0.mk (Below.refl w.heap.size w)
  go_enter Tryz.func141, Tryz.ntmps141
  go_wp2_with (first | (go_at_call 71; (with_reducible refine (CC.out _ BL.out).mono ?_); rintro e w1 ⟨v5, rfl, hR5, hb⟩; obtain ⟨An, cn, rfl⟩ := Kd.R_slice hR5; have RQ := Aside0.mk (Kd.R_lower hR5 BL.out.size); replace BL := Aside0.mk (BL.out.trans (hb.mono BL.out.size)); clear hR5 hb) | (go_at_call 94; (with_reducible refine (CB.out _).mono ?_); rintro e w1 ⟨rfl, hb⟩; replace RQ := Aside0.mk (Kd.R_step RQ.out fun k hk hl => hb.block k hl); replace BL := Aside0.mk (BL.out.trans (hb.mono BL.out.size)); clear hb))
  go_loopg [8, 22] T (fun gg s8 s22 wr => ∃ (now : List S59) (Ab : Option Addr) (cb : Nat) (i : Nat), i ≤ T ∧ T - i ≤ gg ∧ s8 = .slice Ab now.length cb ∧ s22 = .int .i64 i ∧ Aside0 (stepsD now ((l1.take T).drop i) = some (r1, r2)) ∧ Aside0 (Kd.R k59 59 wr w.heap.size (fun _ => True) (.slice Ab now.length cb) now) ∧ Aside0 (Below w.heap.size w wr))
  case atStart => exact ⟨l0, An, cn, 0, by omega, by omega, rfl, rfl, H0, RQ, BL⟩
  case round =>
    obtain ⟨now, Ab, cb, i, hiT, hgg, rfl, rfl, HH, RQ, BL⟩ := hrel
    by_cases hlt : i < T
    · have hltz : (i : Int) < (T : Int) := by omega
      have hi0 : (0 : Int) ≤ (i : Int) := by omega
      obtain ⟨ad, rfl, hx⟩ := sd_str (Kd.C_below HR.out BL.out) i (by omega)
      have hd : (l1.take T).drop i = l1[i] :: (l1.take T).drop (i + 1) := by
        rw [List.drop_eq_getElem_cons (by rw [List.length_take]; omega), List.getElem_take]
      have hH := HH.out
      rw [hd, stepsD] at hH
      replace hH := Option.bind_eq_some_iff.mp hH
      obtain ⟨q, hq, hH⟩ := hH
      clear HH hd
      generalize l1[i] = s at hx hq
      have hcn := (Kd.R_reads' RQ.out).2.1
      have CS := Aside0.mk (impl_stepDone.calls Ab cb now s q.1 q.2 wr (Kd.R_reads' RQ.out).2.2 hcn (HE.out.below BL.out) (HP.out.below BL.out) hq)
      obtain ⟨q1, q2⟩ := q
      have BS := BL.out.size
      cases q2
      · rw [if_neg (fun e : false = true => by cases e)] at hH
        simp only [Option.some.injEq, Prod.mk.injEq] at hH
        obtain ⟨rfl, rfl⟩ := hH
        go_wp2_with (first | (go_at_call 74; (with_reducible refine CS.out.mono ?_); rintro e w1 ⟨v5, rfl, hR5, hb⟩; replace BL := Aside0.mk (BL.out.trans (hb.mono BL.out.size)); clear hR5 hb))
        refine bodyPost_ret (results_tmp2 rfl _ _ _) rfl ?_
        exact ⟨_, rfl, Kd.R_nil _ _ _ _ _, BL.out⟩
      · rw [if_pos rfl] at hH
        have HH := Aside0.mk hH
        clear hH
        go_wp2_with (first | (go_at_call 74; (with_reducible refine CS.out.mono ?_); rintro e w1 ⟨v5, rfl, hR5, hb⟩; obtain ⟨A5, c5, rfl⟩ := Kd.R_slice hR5; replace RQ := Aside0.mk (Kd.R_lower hR5 BS); replace BL := Aside0.mk (BL.out.trans (hb.mono BL.out.size)); clear hR5 hb))
        go_roundg (T - (i + 1))
        case measure => omega
        case rel => exact ⟨q1, A5, c5, i + 1, by omega, by omega, rfl, by go_num, HH, RQ, BL⟩
    · have hltz : ¬ (i : Int) < (T : Int) := by omega
      have hH := HH.out
      rw [List.drop_eq_nil_of_le (by rw [List.length_take]; omega), stepsD] at hH
      simp only [Option.some.injEq, Prod.mk.injEq] at hH
      obtain ⟨rfl, rfl⟩ := hH
      clear HH
      go_wp2
      refine bodyPost_ret (results_tmp2 rfl _ _ _) rfl ?_
      exact ⟨_, rfl, RQ.out, BL.out⟩

end Go.Proofs.YtbcidclclckgfaaGreatDoor.MFnExactFallen
