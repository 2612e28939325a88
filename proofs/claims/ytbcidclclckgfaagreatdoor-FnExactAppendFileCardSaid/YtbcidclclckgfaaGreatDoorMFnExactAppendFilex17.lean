/- Each theorem here says that a call of one Go function answers what the Lean function beside it answers; its conditions stand in it. Written by a program of this session. -/
import Derived.Test.YtbcidclclckgfaaGreatDoorMFnExactAppendFilex0
import Derived.Test.YtbcidclclckgfaaGreatDoorMFnExactAppendFilex13
import Derived.Test.YtbcidclclckgfaaGreatDoorMFnExactAppendFilex14
namespace Go.Proofs.YtbcidclclckgfaaGreatDoor.MFnExactAppendFile
open Go.RowKit Go.Proofs.YtbcidclclckgfaaGreatDoorW.PrintWords Go.Proofs.YtbcidclclckgfaaGreatDoorW.PrintLast Go.Proofs.YtbcidclclckgfaaGreatDoorW.PrintMore
attribute [local go_sem] max2_int min2_int max_two min_two max_three min_three max_four min_four   -- for this text's walks alone
set_option linter.unusedVariables false
set_option linter.unusedSimpArgs false

/-! ### impl_Node: function 136 -/
set_option maxHeartbeats 2000000 in
theorem cloneN (A0 : Option Addr) (c0 : Nat) (l0 : List S57) (w : World) (hr : Kd.C k57 w A0 l0.length l0) (hb : l0.length * 32 ≤ 140737488355328) :
    Calls Tryz.prog 136 #[.slice A0 l0.length c0] w fun e w' => ∃ v, e = .returned v ∧ Kd.R k57 57 w' w.heap.size (fun _ => True) v l0 ∧ Below w.heap.size w w' := by
  have q22 : ∀ (w : World) (a : Option Addr) (n c n' c' : Nat), (binOp .eql 29 (.slice a n c) (.slice none n' c')).run Tryz.prog w = .ok (.bool a.isNone) w := fun w a n c n' c' => Lib.run_eql_slice_nil w _ _ a n c n' c' Tryz.underlying29
  have HR := Aside0.mk hr
  cases A0 with
  | none =>
    have h0 : l0 = [] := by
      rcases Nat.eq_zero_or_pos l0.length with h | h
      · exact List.eq_nil_of_length_eq_zero h
      · obtain ⟨ad, e, _⟩ := hr.2.2 h
        cases e
    subst h0
    clear hr
    go_enter Tryz.func136, Tryz.ntmps136
    go_wp2
    go_ret
    exact ⟨_, rfl, Kd.R_nil _ _ _ _ _, Below.refl _ _⟩
  | some ad =>
    clear hr
    go_enter Tryz.func136, Tryz.ntmps136
    go_wp2_with (at_builtin; refine Kd.R_append_rows k57 (w0 := w) w.heap.size rfl _ _ 29 57 (.agg #[(.int .i64 0), (.string ⟨#[]⟩), (.int .i64 0)]) 32 rfl Tryz.underlying29 info57 rfl (by decide) (by decide) (.slice (some ⟨w.heap.size, 0, none⟩) 0 0) [] l0 (some ad) l0.length c0 (fun _ => True) (fun _ => False) rfl rfl ⟨fun _ _ => trivial, [], World.ownsRow_made w #[] 0 (Nat.le_refl _) (Nat.zero_le _) (by simp), Reps.none _ _⟩ (Kd.C_alloc HR.out _) (fun x cs h => by obtain rfl := k57_open h; exact k57_mkM _ _ _ x) (fun _ h => h.elim) (fun _ _ => trivial) (below_alloc (Below.refl _ _) _) (by simp) (by simpa using hb) ?_; intro v1 w1 hO hb1 hg hat)
    go_wp2
    go_ret
    exact ⟨v1, rfl, by simpa using hO, hb1⟩
def impl_Node.f (l0 : List (S57)) : Option (List (S57)) := if l0.length * 32 ≤ 140737488355328 then some l0 else none
theorem impl_Node.calls (A0 : Option Addr) (c0 : Nat) (l0 : List (S57)) (r : List (S57)) (w : World) (hr0 : Kd.C k57 w A0 l0.length l0) (hc0 : l0.length ≤ c0) (h : impl_Node.f l0 = some r) :
    Calls Tryz.prog 136 #[.slice A0 l0.length c0] w fun e w' => ∃ v0_ : Value, e = .returned v0_ ∧ Kd.R k57 57 w' w.heap.size (fun _ => True) v0_ r ∧ Below w.heap.size w w' := by
  unfold impl_Node.f at h
  by_cases hz : l0.length * 32 ≤ 140737488355328
  · rw [if_pos hz] at h
    obtain rfl := Option.some.inj h
    exact cloneN A0 c0 l0 w hr0 hz
  · rw [if_neg hz] at h; cases h

/-! ### slices_Clone_string_string: function 137 -/
set_option maxHeartbeats 2000000 in
theorem cloneS (A0 : Option Addr) (c0 : Nat) (l0 : List ByteArray) (w : World) (hr : Kd.C Kd.string w A0 l0.length l0) (hb : l0.length * 16 ≤ 140737488355328) :
    Calls Tryz.prog 137 #[.slice A0 l0.length c0] w fun e w' => ∃ v, e = .returned v ∧ Kd.R Kd.string 9 w' w.heap.size (fun _ => True) v l0 ∧ Below w.heap.size w w' := by
  have q22 : ∀ (w : World) (a : Option Addr) (n c n' c' : Nat), (binOp .eql 24 (.slice a n c) (.slice none n' c')).run Tryz.prog w = .ok (.bool a.isNone) w := fun w a n c n' c' => Lib.run_eql_slice_nil w _ _ a n c n' c' Tryz.underlying24
  have HR := Aside0.mk hr
  cases A0 with
  | none =>
    have h0 : l0 = [] := by
      rcases Nat.eq_zero_or_pos l0.length with h | h
      · exact List.eq_nil_of_length_eq_zero h
      · obtain ⟨ad, e, _⟩ := hr.2.2 h
        cases e
    subst h0
    clear hr
    go_enter Tryz.func137, Tryz.ntmps137
    go_wp2
    go_ret
    exact ⟨_, rfl, Kd.R_nil _ _ _ _ _, Below.refl _ _⟩
  | some ad =>
    clear hr
    go_enter Tryz.func137, Tryz.ntmps137
    go_wp2_with (at_builtin; refine Kd.R_append_rows Kd.string (w0 := w) w.heap.size rfl _ _ 24 9 (.string ⟨#[]⟩) 16 rfl Tryz.underlying24 info9 rfl (by decide) (by decide) (.slice (some ⟨w.heap.size, 0, none⟩) 0 0) [] l0 (some ad) l0.length c0 (fun _ => True) (fun _ => False) rfl rfl ⟨fun _ _ => trivial, [], World.ownsRow_made w #[] 0 (Nat.le_refl _) (Nat.zero_le _) (by simp), Reps.none _ _⟩ (Kd.C_alloc HR.out _) (fun _ _ h => h) (fun _ h => h.elim) (fun _ _ => trivial) (below_alloc (Below.refl _ _) _) (by simp) (by simpa using hb) ?_; intro v1 w1 hO hb1 hg hat)
    go_wp2
    go_ret
    exact ⟨v1, rfl, by simpa using hO, hb1⟩
def slices_Clone_string_string.f (l0 : List (ByteArray)) : Option (List (ByteArray)) := if l0.length * 16 ≤ 140737488355328 then some l0 else none
theorem slices_Clone_string_string.calls (A0 : Option Addr) (c0 : Nat) (l0 : List (ByteArray)) (r : List (ByteArray)) (w : World) (hr0 : Kd.C Kd.string w A0 l0.length l0) (hc0 : l0.length ≤ c0) (h : slices_Clone_string_string.f l0 = some r) :
    Calls Tryz.prog 137 #[.slice A0 l0.length c0] w fun e w' => ∃ v0_ : Value, e = .returned v0_ ∧ Kd.R Kd.string 9 w' w.heap.size (fun _ => True) v0_ r ∧ Below w.heap.size w w' := by
  unfold slices_Clone_string_string.f at h
  by_cases hz : l0.length * 16 ≤ 140737488355328
  · rw [if_pos hz] at h
    obtain rfl := Option.some.inj h
    exact cloneS A0 c0 l0 w hr0 hz
  · rw [if_neg hz] at h; cases h

/-! ### impl_copyDisk: function 82 -/
def impl_copyDisk.f (l0_0 : List (S57)) (l0_1 : List (S59)) (l0_2 : List (S59)) (l0_3 : List ByteArray) (a0_4 : Int) (a0_5 : Int) : Option ((List (S57)) × (List (S59)) × (List (S59)) × List ByteArray × Int × Int) := (impl_Node.f l0_0).bind fun t352 => ((impl_Entry_71.f l0_1).bind fun t355 => ((impl_Entry_71.f l0_2).bind fun t358 => ((slices_Clone_string_string.f l0_3).bind fun t361 => (some (t352, t355, t358, t361, a0_4, a0_5)))))
def impl_copyDisk.T1 : Bool × List (List Nat × List Nat) := (true, [([], []), ([0], [0]), ([1], [1]), ([], []), ([3], [3]), ([4, 2], [4]), ([], []), ([6], [6]), ([7, 5], [7]), ([], []), ([9], [9]), ([10, 8], [10]), ([0, 1, 2, 3, 4, 6, 7, 9, 10], []), ([12, 2, 11, 0, 1, 2, 3, 4, 6, 7, 9, 10], [2, 12]), ([0, 1, 2, 3, 4, 5, 6, 7, 9, 10, 12, 13], []), ([14, 5, 13, 0, 1, 2, 3, 4, 5, 6, 7, 9, 10, 12, 13], [5, 14]), ([0, 1, 2, 3, 4, 5, 6, 7, 8, 9, 10, 12, 13, 14, 15], []), ([16, 8, 15, 0, 1, 2, 3, 4, 5, 6, 7, 8, 9, 10, 12, 13, 14, 15], [8, 16]), ([0, 1, 2, 3, 4, 5, 6, 7, 8, 9, 10, 11, 12, 13, 14, 15, 16, 17], []), ([18, 11, 17, 0, 1, 2, 3, 4, 5, 6, 7, 8, 9, 10, 11, 12, 13, 14, 15, 16, 17], [11, 18])])
def impl_copyDisk.B1 : List Nat := [0, 1, 3, 0, 8, 31, 0, 64, 255, 0, 512, 2047, 1759, 8191, 16383, 32767, 65535, 131071, 262143, 524287]
theorem impl_copyDisk.tab1 : rtab .any (opsOf Tryz.f82 1) = impl_copyDisk.T1 := by kernel_rfl
theorem impl_copyDisk.bits1 : waitsOk impl_copyDisk.T1.2 impl_copyDisk.B1 = true := by kernel_rfl
set_option maxHeartbeats 8000000 in
set_option maxRecDepth 100000 in
theorem impl_copyDisk.calls (A0_0 : Option Addr) (c0_0 : Nat) (l0_0 : List (S57)) (A0_1 : Option Addr) (c0_1 : Nat) (l0_1 : List (S59)) (A0_2 : Option Addr) (c0_2 : Nat) (l0_2 : List (S59)) (A0_3 : Option Addr) (c0_3 : Nat) (l0_3 : List ByteArray) (a0_4 : Int) (a0_5 : Int) (r1 : List (S57)) (r2 : List (S59)) (r3 : List (S59)) (r4 : List ByteArray) (r5 : Int) (r6 : Int) (w : World) (hr0_0 : Kd.C k57 w A0_0 l0_0.length l0_0) (hc0_0 : l0_0.length ≤ c0_0) (hr0_1 : Kd.C k59 w A0_1 l0_1.length l0_1) (hc0_1 : l0_1.length ≤ c0_1) (hr0_2 : Kd.C k59 w A0_2 l0_2.length l0_2) (hc0_2 : l0_2.length ≤ c0_2) (hr0_3 : Kd.C Kd.string w A0_3 l0_3.length l0_3) (hc0_3 : l0_3.length ≤ c0_3) (h : impl_copyDisk.f l0_0 l0_1 l0_2 l0_3 a0_4 a0_5 = some (r1, r2, r3, r4, r5, r6)) :
  Calls Tryz.prog 82 #[.agg #[.slice A0_0 l0_0.length c0_0, .slice A0_1 l0_1.length c0_1, .slice A0_2 l0_2.length c0_2, .slice A0_3 l0_3.length c0_3, .int .i64 a0_4, .int .i64 a0_5]] w fun e w' => ∃ v0_ v1_ v2_ v3_ : Value, e = .returned (.agg #[v0_, v1_, v2_, v3_, .int .i64 r5, .int .i64 r6]) ∧ Kd.R k57 57 w' w.heap.size (fun _ => True) v0_ r1 ∧ Kd.R k59 59 w' w.heap.size (fun k_ => some k_ ≠ (v2_ : Value).ownBlock) v1_ r2 ∧ Kd.R k59 59 w' w.heap.size (fun k_ => some k_ ≠ (v1_ : Value).ownBlock) v2_ r3 ∧ Kd.R Kd.string 9 w' w.heap.size (fun _ => True) v3_ r4 ∧ Below w.heap.size w w' := by
 have HR0_0 := Aside0.mk hr0_0
 have HC0_0 := Aside0.mk hc0_0
 clear hr0_0 hc0_0
 have HR0_1 := Aside0.mk hr0_1
 have HC0_1 := Aside0.mk hc0_1
 clear hr0_1 hc0_1
 have HR0_2 := Aside0.mk hr0_2
 have HC0_2 := Aside0.mk hc0_2
 clear hr0_2 hc0_2
 have HR0_3 := Aside0.mk hr0_3
 have HC0_3 := Aside0.mk hc0_3
 clear hr0_3 hc0_3
 have HB := Aside0.mk (Below.refl w.heap.size w)
 have H : ((impl_Node.f l0_0).bind fun t352 => ((impl_Entry_71.f l0_1).bind fun t355 => ((impl_Entry_71.f l0_2).bind fun t358 => ((slices_Clone_string_string.f l0_3).bind fun t361 => (some (t352, t355, t358, t361, a0_4, a0_5)))))) = some (r1, r2, r3, r4, r5, r6) := h
 clear h
 replace H := Option.bind_eq_some_iff.mp H
 obtain ⟨t352, A20, H⟩ := H
 replace H : ((impl_Entry_71.f l0_1).bind fun t355 => ((impl_Entry_71.f l0_2).bind fun t358 => ((slices_Clone_string_string.f l0_3).bind fun t361 => (some (t352, t355, t358, t361, a0_4, a0_5))))) = some (r1, r2, r3, r4, r5, r6) := H
 have A2 := Aside0.mk A20
 clear A20
 replace H := Option.bind_eq_some_iff.mp H
 obtain ⟨t355, A30, H⟩ := H
 replace H : ((impl_Entry_71.f l0_2).bind fun t358 => ((slices_Clone_string_string.f l0_3).bind fun t361 => (some (t352, t355, t358, t361, a0_4, a0_5)))) = some (r1, r2, r3, r4, r5, r6) := H
 have A3 := Aside0.mk A30
 clear A30
 replace H := Option.bind_eq_some_iff.mp H
 obtain ⟨t358, A40, H⟩ := H
 replace H : ((slices_Clone_string_string.f l0_3).bind fun t361 => (some (t352, t355, t358, t361, a0_4, a0_5))) = some (r1, r2, r3, r4, r5, r6) := H
 have A4 := Aside0.mk A40
 clear A40
 replace H := Option.bind_eq_some_iff.mp H
 obtain ⟨t361, A50, H⟩ := H
 replace H : (some (t352, t355, t358, t361, a0_4, a0_5)) = some (r1, r2, r3, r4, r5, r6) := H
 have A5 := Aside0.mk A50
 clear A50
 simp only [Option.some.injEq, Prod.mk.injEq] at H
 obtain ⟨rfl, rfl, rfl, rfl, rfl, rfl⟩ := H
 go_enter Tryz.func82, Tryz.ntmps82
 try go_wp2_with (first | ((with_reducible refine gate_dst (N := 1) rfl ?_); refine box_event ?hg (N := 1) ?hd (cs := #[.slice A0_0 l0_0.length c0_0, .slice A0_1 l0_1.length c0_1, .slice A0_2 l0_2.length c0_2, .slice A0_3 l0_3.length c0_3, .int .i64 a0_4, .int .i64 a0_5]) (t := 32) ?hr ?_; (case hd => rfl); (case hg => rfl); (case hr => (go_simp; done)); intro gb350 hg w6 hbox hb; have BK350 := Aside0.mk (hbox); have GE350 := Aside0.mk ((by rw [hg]; exact (below_size HB.out) : w.heap.size ≤ gb350)); replace HB := Aside0.mk (below_step HB.out hb); clear hb hbox hg) | ((with_reducible refine gate_dst (N := 2) rfl ?_); refine box_event ?hg (N := 2) ?hd (cs := #[.slice none 0 0, .slice none 0 0, .slice none 0 0, .slice none 0 0, .int .i64 0, .int .i64 0]) (t := 32) ?hr ?_; (case hd => rfl); (case hg => rfl); (case hr => (go_simp; done)); intro gb351 hg w7 hbox hb; have BK351 := Aside0.mk (hbox); have GE351 := Aside0.mk ((by rw [hg]; exact (below_size HB.out) : w.heap.size ≤ gb351)); have NB351_350 := Aside0.mk ((by rw [hg]; exact Nat.ne_of_gt (blk_lt BK350.out) : gb351 ≠ gb350)); replace BK350 := Aside0.mk (bB hb BK350.out); replace HB := Aside0.mk (below_step HB.out hb); clear hb hbox hg))
 replace BK350 := Aside0.mk (blk_drew BK350.out)
 replace BK351 := Aside0.mk (blk_drew BK351.out)
 replace HB := Aside0.mk (below_drew1 HB.out)
 refine start_ (n := 20) (S := fun w' => w'.cell? ⟨gb350, 0, none⟩ = some (.slice A0_0 l0_0.length c0_0) ∧ w'.cell? ⟨gb350, 1, none⟩ = some (.slice A0_1 l0_1.length c0_1) ∧ w'.cell? ⟨gb350, 2, none⟩ = some (.slice A0_2 l0_2.length c0_2) ∧ w'.cell? ⟨gb350, 3, none⟩ = some (.slice A0_3 l0_3.length c0_3) ∧ w'.cell? ⟨gb350, 4, none⟩ = some (.int .i64 a0_4) ∧ w'.cell? ⟨gb350, 5, none⟩ = some (.int .i64 a0_5)) (ds := [13, 15, 17, 19]) (marks 20 0) (by kernel_rfl) rfl rfl ⟨(blk_cell BK350.out 0).trans rfl, (blk_cell BK350.out 1).trans rfl, (blk_cell BK350.out 2).trans rfl, (blk_cell BK350.out 3).trans rfl, (blk_cell BK350.out 4).trans rfl, (blk_cell BK350.out 5).trans rfl⟩ (fun hHeld => ?_); refine with_tabW impl_copyDisk.tab1 impl_copyDisk.bits1 (fun HT_ HW_ => ?_)
 generalize w7.drew = w8 at BK350 BK351 HB hHeld ⊢
 refine pure_ (i := 0) (N := some 3) (v := ?_) (a' := ?_) (marks 20 1) rfl rfl (any_of HT_.out (by kernel_rfl)) (fun _ _ _ h => h) (Or.inl ⟨by rfl, ?_⟩) ?_ ?_
 rotate_left
 ·intro w'
  go_simp
  with_reducible rfl
 rotate_left
 ·simp only [Act.put, List.setIfInBounds_toArray, List.set_cons_zero, List.set_cons_succ, i64_w, i32_w]
  rfl
 refine pure_ (i := 3) (N := some 6) (v := ?_) (a' := ?_) (marks 20 9) rfl rfl (any_of HT_.out (by kernel_rfl)) (fun _ _ _ h => h) (Or.inl ⟨by rfl, ?_⟩) ?_ ?_
 rotate_left
 ·intro w'
  go_simp
  with_reducible rfl
 rotate_left
 ·simp only [Act.put, List.setIfInBounds_toArray, List.set_cons_zero, List.set_cons_succ, i64_w, i32_w]
  rfl
 refine pure_ (i := 6) (N := some 9) (v := ?_) (a' := ?_) (marks 20 73) rfl rfl (any_of HT_.out (by kernel_rfl)) (fun _ _ _ h => h) (Or.inl ⟨by rfl, ?_⟩) ?_ ?_
 rotate_left
 ·intro w'
  go_simp
  with_reducible rfl
 rotate_left
 ·simp only [Act.put, List.setIfInBounds_toArray, List.set_cons_zero, List.set_cons_succ, i64_w, i32_w]
  rfl
 refine pure_ (i := 9) (N := some 12) (v := ?_) (a' := ?_) (marks 20 585) rfl rfl (any_of HT_.out (by kernel_rfl)) (fun _ _ _ h => h) (Or.inl ⟨by rfl, ?_⟩) ?_ ?_
 rotate_left
 ·intro w'
  go_simp
  with_reducible rfl
 rotate_left
 ·simp only [Act.put, List.setIfInBounds_toArray, List.set_cons_zero, List.set_cons_succ, i64_w, i32_w]
  rfl
 refine take_ (i := 1) (N := some 4) (v := ?_) (a' := ?_) (marks 20 587) rfl rfl (take_ofW HT_.out HW_.out (by kernel_rfl)) (fun _ _ _ h => h) (Or.inl ⟨by rfl, ?_⟩) hHeld ?_ ?_
 rotate_left
 ·rintro w' ⟨s0, s1, s2, s3, s4, s5⟩
  go_simp
  with_reducible rfl
 rotate_left
 ·simp only [Act.put, List.setIfInBounds_toArray, List.set_cons_zero, List.set_cons_succ, i64_w, i32_w]
  rfl
 refine take_ (i := 4) (N := some 7) (v := ?_) (a' := ?_) (marks 20 603) rfl rfl (take_ofW HT_.out HW_.out (by kernel_rfl)) (fun _ _ _ h => h) (Or.inl ⟨by rfl, ?_⟩) hHeld ?_ ?_
 rotate_left
 ·rintro w' ⟨s0, s1, s2, s3, s4, s5⟩
  go_simp
  with_reducible rfl
 rotate_left
 ·simp only [Act.put, List.setIfInBounds_toArray, List.set_cons_zero, List.set_cons_succ, i64_w, i32_w]
  rfl
 refine take_ (i := 7) (N := some 10) (v := ?_) (a' := ?_) (marks 20 731) rfl rfl (take_ofW HT_.out HW_.out (by kernel_rfl)) (fun _ _ _ h => h) (Or.inl ⟨by rfl, ?_⟩) hHeld ?_ ?_
 rotate_left
 ·rintro w' ⟨s0, s1, s2, s3, s4, s5⟩
  go_simp
  with_reducible rfl
 rotate_left
 ·simp only [Act.put, List.setIfInBounds_toArray, List.set_cons_zero, List.set_cons_succ, i64_w, i32_w]
  rfl
 refine take_ (i := 10) (N := some 13) (v := ?_) (a' := ?_) (marks 20 1755) rfl rfl (take_ofW HT_.out HW_.out (by kernel_rfl)) (fun _ _ _ h => h) (Or.inl ⟨by rfl, ?_⟩) hHeld ?_ ?_
 rotate_left
 ·rintro w' ⟨s0, s1, s2, s3, s4, s5⟩
  go_simp
  with_reducible rfl
 rotate_left
 ·simp only [Act.put, List.setIfInBounds_toArray, List.set_cons_zero, List.set_cons_succ, i64_w, i32_w]
  rfl
 refine one_ (i := 2) (N := some 5) (marks 20 1759) rfl rfl (one_of HT_.out (by kernel_rfl)) (by decide) (fun K hK => ?_)
 refine goes_ Tryz.func136 (by kernel_rfl) rfl #[.slice A0_0 l0_0.length c0_0] (by rfl) rfl rfl (by (try simp only [List.map_toArray, List.map_cons, List.map_nil]); rfl) ?_
 with_reducible refine (impl_Node.calls _ _ l0_0 t352 _ ?side1 ?side2 A2.out).mono ?_
 (case side1 => repeat (exact (Kd.C_below HR0_0.out HB.out)))
 (case side2 => exact HC0_0.out)
 rintro e w9 ⟨v353, rfl, ho0, hb⟩
 refine ⟨_, rfl, ?_⟩
 have HO354 := Aside0.mk (Kd.R_lower ho0 (below_size HB.out))
 replace BK350 := Aside0.mk (bB hb BK350.out)
 replace BK351 := Aside0.mk (bB hb BK351.out)
 replace HB := Aside0.mk (below_step HB.out hb)
 (try clear hb)
 (try clear hb2)
 (try clear hk)
 (try clear hi)
 (try clear ho0)
 refine hK.out _ _ ⟨(blk_cell BK350.out 0).trans rfl, (blk_cell BK350.out 1).trans rfl, (blk_cell BK350.out 2).trans rfl, (blk_cell BK350.out 3).trans rfl, (blk_cell BK350.out 4).trans rfl, (blk_cell BK350.out 5).trans rfl⟩ (fun hHeld => ?_)
 clear hK K
 refine norm_ (a' := ?_) ?_ ?_
 rotate_left
 ·show Act.put _ (some 5) _ = _
  simp only [Act.put, List.setIfInBounds_toArray, List.set_cons_zero, List.set_cons_succ, i64_w, i32_w]
  rfl
 refine pure_ (i := 12) (N := some 15) (v := ?_) (a' := ?_) (marks 20 5855) rfl rfl (any_of HT_.out (by kernel_rfl)) (fun _ _ _ h => h) (Or.inl ⟨by rfl, ?_⟩) ?_ ?_
 rotate_left
 ·intro w'
  go_simp
  with_reducible rfl
 rotate_left
 ·simp only [Act.put, List.setIfInBounds_toArray, List.set_cons_zero, List.set_cons_succ, i64_w, i32_w]
  rfl
 refine one_ (i := 5) (N := some 8) (marks 20 5887) rfl rfl (one_of HT_.out (by kernel_rfl)) (by decide) (fun K hK => ?_)
 refine goes_ Tryz.func71 (by kernel_rfl) rfl #[.slice A0_1 l0_1.length c0_1] (by rfl) rfl rfl (by (try simp only [List.map_toArray, List.map_cons, List.map_nil]); rfl) ?_
 with_reducible refine (impl_Entry_71.calls _ _ l0_1 t355 _ ?side1 ?side2 A3.out).mono ?_
 (case side1 => repeat (exact (Kd.C_below HR0_1.out HB.out)))
 (case side2 => exact HC0_1.out)
 rintro e w10 ⟨v356, rfl, ho0, hb⟩
 refine ⟨_, rfl, ?_⟩
 have HO357 := Aside0.mk (Kd.R_lower ho0 (below_size HB.out))
 replace HO354 := Aside0.mk (Kd.R_below HO354.out hb)
 replace BK350 := Aside0.mk (bB hb BK350.out)
 replace BK351 := Aside0.mk (bB hb BK351.out)
 replace HB := Aside0.mk (below_step HB.out hb)
 (try clear hb)
 (try clear hb2)
 (try clear hk)
 (try clear hi)
 (try clear ho0)
 refine hK.out _ _ ⟨(blk_cell BK350.out 0).trans rfl, (blk_cell BK350.out 1).trans rfl, (blk_cell BK350.out 2).trans rfl, (blk_cell BK350.out 3).trans rfl, (blk_cell BK350.out 4).trans rfl, (blk_cell BK350.out 5).trans rfl⟩ (fun hHeld => ?_)
 clear hK K
 refine norm_ (a' := ?_) ?_ ?_
 rotate_left
 ·show Act.put _ (some 8) _ = _
  simp only [Act.put, List.setIfInBounds_toArray, List.set_cons_zero, List.set_cons_succ, i64_w, i32_w]
  rfl
 refine one_ (i := 8) (N := some 11) (marks 20 6143) rfl rfl (one_of HT_.out (by kernel_rfl)) (by decide) (fun K hK => ?_)
 refine goes_ Tryz.func71 (by kernel_rfl) rfl #[.slice A0_2 l0_2.length c0_2] (by rfl) rfl rfl (by (try simp only [List.map_toArray, List.map_cons, List.map_nil]); rfl) ?_
 with_reducible refine (impl_Entry_71.calls _ _ l0_2 t358 _ ?side1 ?side2 A4.out).mono ?_
 (case side1 => repeat (exact (Kd.C_below HR0_2.out HB.out)))
 (case side2 => exact HC0_2.out)
 rintro e w11 ⟨v359, rfl, ho0, hb⟩
 refine ⟨_, rfl, ?_⟩
 have HO360 := Aside0.mk (Kd.R_lower (Kd.R_new' ho0 (Kd.R_lt HO357.out)) (below_size HB.out))
 replace HO354 := Aside0.mk (Kd.R_below HO354.out hb)
 replace HO357 := Aside0.mk (Kd.R_elder' HO357.out (Kd.R_base ho0) hb)
 replace BK350 := Aside0.mk (bB hb BK350.out)
 replace BK351 := Aside0.mk (bB hb BK351.out)
 replace HB := Aside0.mk (below_step HB.out hb)
 (try clear hb)
 (try clear hb2)
 (try clear hk)
 (try clear hi)
 (try clear ho0)
 refine hK.out _ _ ⟨(blk_cell BK350.out 0).trans rfl, (blk_cell BK350.out 1).trans rfl, (blk_cell BK350.out 2).trans rfl, (blk_cell BK350.out 3).trans rfl, (blk_cell BK350.out 4).trans rfl, (blk_cell BK350.out 5).trans rfl⟩ (fun hHeld => ?_)
 clear hK K
 refine norm_ (a' := ?_) ?_ ?_
 rotate_left
 ·show Act.put _ (some 11) _ = _
  simp only [Act.put, List.setIfInBounds_toArray, List.set_cons_zero, List.set_cons_succ, i64_w, i32_w]
  rfl
 refine one_ (i := 11) (N := some 14) (marks 20 8191) rfl rfl (one_of HT_.out (by kernel_rfl)) (by decide) (fun K hK => ?_)
 refine goes_ Tryz.func137 (by kernel_rfl) rfl #[.slice A0_3 l0_3.length c0_3] (by rfl) rfl rfl (by (try simp only [List.map_toArray, List.map_cons, List.map_nil]); rfl) ?_
 with_reducible refine (slices_Clone_string_string.calls _ _ l0_3 t361 _ ?side1 ?side2 A5.out).mono ?_
 (case side1 => repeat (exact (Kd.C_below HR0_3.out HB.out)))
 (case side2 => exact HC0_3.out)
 rintro e w12 ⟨v362, rfl, ho0, hb⟩
 refine ⟨_, rfl, ?_⟩
 have HO363 := Aside0.mk (Kd.R_lower ho0 (below_size HB.out))
 replace HO354 := Aside0.mk (Kd.R_below HO354.out hb)
 replace HO357 := Aside0.mk (Kd.R_below HO357.out hb)
 replace HO360 := Aside0.mk (Kd.R_below HO360.out hb)
 replace BK350 := Aside0.mk (bB hb BK350.out)
 replace BK351 := Aside0.mk (bB hb BK351.out)
 replace HB := Aside0.mk (below_step HB.out hb)
 (try clear hb)
 (try clear hb2)
 (try clear hk)
 (try clear hi)
 (try clear ho0)
 obtain ⟨Ao13, co13, eo13⟩ := Kd.R_slice HO354.out
 (subst eo13)
 obtain ⟨Ao15, co15, eo15⟩ := Kd.R_slice HO357.out
 (subst eo15)
 obtain ⟨Ao17, co17, eo17⟩ := Kd.R_slice HO360.out
 (subst eo17)
 obtain ⟨Ao19, co19, eo19⟩ := Kd.R_slice HO363.out
 (subst eo19)
 refine hK.out _ _ ⟨(blk_cell BK350.out 0).trans rfl, (blk_cell BK350.out 1).trans rfl, (blk_cell BK350.out 2).trans rfl, (blk_cell BK350.out 3).trans rfl, (blk_cell BK350.out 4).trans rfl, (blk_cell BK350.out 5).trans rfl⟩ (fun hHeld => ?_)
 clear hK K
 refine norm_ (a' := ?_) ?_ ?_
 rotate_left
 ·show Act.put _ (some 14) _ = _
  simp only [Act.put, List.setIfInBounds_toArray, List.set_cons_zero, List.set_cons_succ, i64_w, i32_w]
  rfl
 refine last_ (i := 13) (N := none) (marks 20 16383) rfl rfl (one_of HT_.out (by kernel_rfl)) (by decide) (fun K hK => ?_)
 have hfs14 := blk_frozen BK350.out 0
 refine skip_ (w1 := ?_) (by rfl) rfl ?_ ?_
 rotate_left
 ·go_simp
  rfl
 refine hK.out _ _ ?_
 clear hK K
 refine pure_ (i := 14) (N := some 16) (v := ?_) (a' := ?_) (marks 20 32767) rfl rfl (any_of HT_.out (by kernel_rfl)) (fun _ _ _ h => h) (Or.inl ⟨by rfl, ?_⟩) ?_ ?_
 rotate_left
 ·intro w'
  go_simp
  with_reducible rfl
 rotate_left
 ·simp only [Act.put, List.setIfInBounds_toArray, List.set_cons_zero, List.set_cons_succ, i64_w, i32_w]
  rfl
 refine last_ (i := 15) (N := none) (marks 20 65535) rfl rfl (one_of HT_.out (by kernel_rfl)) (by decide) (fun K hK => ?_)
 have hfs16 := blk_frozen BK350.out 1
 refine skip_ (w1 := ?_) (by rfl) rfl ?_ ?_
 rotate_left
 ·go_simp
  rfl
 refine hK.out _ _ ?_
 clear hK K
 refine pure_ (i := 16) (N := some 17) (v := ?_) (a' := ?_) (marks 20 131071) rfl rfl (any_of HT_.out (by kernel_rfl)) (fun _ _ _ h => h) (Or.inl ⟨by rfl, ?_⟩) ?_ ?_
 rotate_left
 ·intro w'
  go_simp
  with_reducible rfl
 rotate_left
 ·simp only [Act.put, List.setIfInBounds_toArray, List.set_cons_zero, List.set_cons_succ, i64_w, i32_w]
  rfl
 refine last_ (i := 17) (N := none) (marks 20 262143) rfl rfl (one_of HT_.out (by kernel_rfl)) (by decide) (fun K hK => ?_)
 have hfs18 := blk_frozen BK350.out 2
 refine skip_ (w1 := ?_) (by rfl) rfl ?_ ?_
 rotate_left
 ·go_simp
  rfl
 refine hK.out _ _ ?_
 clear hK K
 refine pure_ (i := 18) (N := some 18) (v := ?_) (a' := ?_) (marks 20 524287) rfl rfl (any_of HT_.out (by kernel_rfl)) (fun _ _ _ h => h) (Or.inl ⟨by rfl, ?_⟩) ?_ ?_
 rotate_left
 ·intro w'
  go_simp
  with_reducible rfl
 rotate_left
 ·simp only [Act.put, List.setIfInBounds_toArray, List.set_cons_zero, List.set_cons_succ, i64_w, i32_w]
  rfl
 refine last_ (i := 19) (N := none) (marks 20 1048575) rfl rfl (one_of HT_.out (by kernel_rfl)) (by decide) (fun K hK => ?_)
 have hfs20 := blk_frozen BK350.out 3
 refine skip_ (w1 := ?_) (by rfl) rfl ?_ ?_
 rotate_left
 ·go_simp
  rfl
 refine hK.out _ _ ?_
 clear hK K
 refine done_ (done_of HT_.out (by kernel_rfl)) ?_
 have hnc21 := NB351_350.out
 have hcz23_0 : w12.cell? ⟨gb351, 0, none⟩ = some (.slice none 0 0) := (blk_cell BK351.out 0).trans rfl
 have hcz23_1 : w12.cell? ⟨gb351, 1, none⟩ = some (.slice none 0 0) := (blk_cell BK351.out 1).trans rfl
 have hcz23_2 : w12.cell? ⟨gb351, 2, none⟩ = some (.slice none 0 0) := (blk_cell BK351.out 2).trans rfl
 have hcz23_3 : w12.cell? ⟨gb351, 3, none⟩ = some (.slice none 0 0) := (blk_cell BK351.out 3).trans rfl
 have hcz23_4 : w12.cell? ⟨gb351, 4, none⟩ = some (.int .i64 0) := (blk_cell BK351.out 4).trans rfl
 have hcz23_5 : w12.cell? ⟨gb351, 5, none⟩ = some (.int .i64 0) := (blk_cell BK351.out 5).trans rfl
 have hfz23_0 := blk_frozen BK351.out 0
 have hfz23_1 := blk_frozen BK351.out 1
 have hfz23_2 := blk_frozen BK351.out 2
 have hfz23_3 := blk_frozen BK351.out 3
 have hfz23_4 := blk_frozen BK351.out 4
 have hfz23_5 := blk_frozen BK351.out 5
 try go_wp2
 refine bodyPost_ret (results_cell_row rfl _ _ gb351 32 #[.slice Ao13 t352.length co13, .slice Ao15 t355.length co15, .slice Ao17 t358.length co17, .slice Ao19 t361.length co19, .int .i64 a0_4, .int .i64 a0_5] (0, 0) _ rfl (by refine blk_put (cs := #[.slice Ao13 t352.length co13, .slice Ao15 t355.length co15, .slice Ao17 t358.length co17, .slice Ao19 t361.length co19, .int .i64 a0_4, .int .i64 0]) ?_ 5 _ rfl; refine blk_put (cs := #[.slice Ao13 t352.length co13, .slice Ao15 t355.length co15, .slice Ao17 t358.length co17, .slice Ao19 t361.length co19, .int .i64 0, .int .i64 0]) ?_ 4 _ rfl; refine blk_put (cs := #[.slice Ao13 t352.length co13, .slice Ao15 t355.length co15, .slice Ao17 t358.length co17, .slice none 0 0, .int .i64 0, .int .i64 0]) ?_ 3 _ rfl; refine blk_put (cs := #[.slice Ao13 t352.length co13, .slice Ao15 t355.length co15, .slice none 0 0, .slice none 0 0, .int .i64 0, .int .i64 0]) ?_ 2 _ rfl; refine blk_put (cs := #[.slice Ao13 t352.length co13, .slice none 0 0, .slice none 0 0, .slice none 0 0, .int .i64 0, .int .i64 0]) ?_ 1 _ rfl; refine blk_put (cs := #[.slice none 0 0, .slice none 0 0, .slice none 0 0, .slice none 0 0, .int .i64 0, .int .i64 0]) ?_ 0 _ rfl; refine blk_far ?_ NB351_350.out _; refine blk_far ?_ NB351_350.out _; refine blk_far ?_ NB351_350.out _; refine blk_far ?_ NB351_350.out _; exact BK351.out) Tryz.underlying32 rfl (by kernel_rfl)) rfl ?_
 all_goals exact ⟨_, _, _, _, by first | rfl | (simp [errW_none, errW_some] <;> rfl) | (simp [*, errW_none, errW_some] <;> rfl) | (exfalso; simp only [decide_eq_true_eq, decide_eq_false_iff_not] at *; omega), by exact Kd.R_mono (Kd.R_far (p := ⟨gb351, 5, none⟩) (Kd.R_far (p := ⟨gb351, 4, none⟩) (Kd.R_far (p := ⟨gb351, 3, none⟩) (Kd.R_far (p := ⟨gb351, 2, none⟩) (Kd.R_far (p := ⟨gb351, 1, none⟩) (Kd.R_far (p := ⟨gb351, 0, none⟩) (Kd.R_far (p := ⟨gb350, 3, none⟩) (Kd.R_far (p := ⟨gb350, 2, none⟩) (Kd.R_far (p := ⟨gb350, 1, none⟩) (Kd.R_far (p := ⟨gb350, 0, none⟩) (Kd.R_types (Kd.R_types HO354.out BK350.out (by decide)) BK351.out (by decide)) (fun _ hk => hk.1.2) (.slice Ao13 t352.length co13)) (fun _ hk => hk.1.2) (.slice Ao15 t355.length co15)) (fun _ hk => hk.1.2) (.slice Ao17 t358.length co17)) (fun _ hk => hk.1.2) (.slice Ao19 t361.length co19)) (fun _ hk => hk.2) (.slice Ao13 t352.length co13)) (fun _ hk => hk.2) (.slice Ao15 t355.length co15)) (fun _ hk => hk.2) (.slice Ao17 t358.length co17)) (fun _ hk => hk.2) (.slice Ao19 t361.length co19)) (fun _ hk => hk.2) (.int .i64 a0_4)) (fun _ hk => hk.2) (.int .i64 a0_5)) (fun _ hk => trivial), by exact Kd.R_mono (Kd.R_far (p := ⟨gb351, 5, none⟩) (Kd.R_far (p := ⟨gb351, 4, none⟩) (Kd.R_far (p := ⟨gb351, 3, none⟩) (Kd.R_far (p := ⟨gb351, 2, none⟩) (Kd.R_far (p := ⟨gb351, 1, none⟩) (Kd.R_far (p := ⟨gb351, 0, none⟩) (Kd.R_far (p := ⟨gb350, 3, none⟩) (Kd.R_far (p := ⟨gb350, 2, none⟩) (Kd.R_far (p := ⟨gb350, 1, none⟩) (Kd.R_far (p := ⟨gb350, 0, none⟩) (Kd.R_types (Kd.R_types HO357.out BK350.out (by decide)) BK351.out (by decide)) (fun _ hk => hk.1.2) (.slice Ao13 t352.length co13)) (fun _ hk => hk.1.2) (.slice Ao15 t355.length co15)) (fun _ hk => hk.1.2) (.slice Ao17 t358.length co17)) (fun _ hk => hk.1.2) (.slice Ao19 t361.length co19)) (fun _ hk => hk.2) (.slice Ao13 t352.length co13)) (fun _ hk => hk.2) (.slice Ao15 t355.length co15)) (fun _ hk => hk.2) (.slice Ao17 t358.length co17)) (fun _ hk => hk.2) (.slice Ao19 t361.length co19)) (fun _ hk => hk.2) (.int .i64 a0_4)) (fun _ hk => hk.2) (.int .i64 a0_5)) (fun _ hk => hk.1.1.2), by exact Kd.R_mono (Kd.R_far (p := ⟨gb351, 5, none⟩) (Kd.R_far (p := ⟨gb351, 4, none⟩) (Kd.R_far (p := ⟨gb351, 3, none⟩) (Kd.R_far (p := ⟨gb351, 2, none⟩) (Kd.R_far (p := ⟨gb351, 1, none⟩) (Kd.R_far (p := ⟨gb351, 0, none⟩) (Kd.R_far (p := ⟨gb350, 3, none⟩) (Kd.R_far (p := ⟨gb350, 2, none⟩) (Kd.R_far (p := ⟨gb350, 1, none⟩) (Kd.R_far (p := ⟨gb350, 0, none⟩) (Kd.R_types (Kd.R_types HO360.out BK350.out (by decide)) BK351.out (by decide)) (fun _ hk => hk.1.2) (.slice Ao13 t352.length co13)) (fun _ hk => hk.1.2) (.slice Ao15 t355.length co15)) (fun _ hk => hk.1.2) (.slice Ao17 t358.length co17)) (fun _ hk => hk.1.2) (.slice Ao19 t361.length co19)) (fun _ hk => hk.2) (.slice Ao13 t352.length co13)) (fun _ hk => hk.2) (.slice Ao15 t355.length co15)) (fun _ hk => hk.2) (.slice Ao17 t358.length co17)) (fun _ hk => hk.2) (.slice Ao19 t361.length co19)) (fun _ hk => hk.2) (.int .i64 a0_4)) (fun _ hk => hk.2) (.int .i64 a0_5)) (fun _ hk => hk.1.1.2), by exact Kd.R_mono (Kd.R_far (p := ⟨gb351, 5, none⟩) (Kd.R_far (p := ⟨gb351, 4, none⟩) (Kd.R_far (p := ⟨gb351, 3, none⟩) (Kd.R_far (p := ⟨gb351, 2, none⟩) (Kd.R_far (p := ⟨gb351, 1, none⟩) (Kd.R_far (p := ⟨gb351, 0, none⟩) (Kd.R_far (p := ⟨gb350, 3, none⟩) (Kd.R_far (p := ⟨gb350, 2, none⟩) (Kd.R_far (p := ⟨gb350, 1, none⟩) (Kd.R_far (p := ⟨gb350, 0, none⟩) (Kd.R_types (Kd.R_types HO363.out BK350.out (by decide)) BK351.out (by decide)) (fun _ hk => hk.1.2) (.slice Ao13 t352.length co13)) (fun _ hk => hk.1.2) (.slice Ao15 t355.length co15)) (fun _ hk => hk.1.2) (.slice Ao17 t358.length co17)) (fun _ hk => hk.1.2) (.slice Ao19 t361.length co19)) (fun _ hk => hk.2) (.slice Ao13 t352.length co13)) (fun _ hk => hk.2) (.slice Ao15 t355.length co15)) (fun _ hk => hk.2) (.slice Ao17 t358.length co17)) (fun _ hk => hk.2) (.slice Ao19 t361.length co19)) (fun _ hk => hk.2) (.int .i64 a0_4)) (fun _ hk => hk.2) (.int .i64 a0_5)) (fun _ hk => trivial), by repeat (with_reducible first | exact HB.out | refine below_set ?_ GE350.out | refine below_set ?_ GE351.out)⟩

/-! ### impl_Disk_nodeAt: function 83 -/
def impl_Disk_nodeAt.f (l0_0 : List (S57)) (l0_1 : List (S59)) (l0_2 : List (S59)) (l0_3 : List ByteArray) (a0_4 : Int) (a0_5 : Int) (a1 : ByteArray) : Option (Int) := (impl_placeOf.f l0_1 a1).bind fun t365 => (if t365 < 0 then (some (-1)) else (if 0 ≤ t365 then (if t365 < (l0_1.length : Int) then ((impl_Disk_nodeOf.f l0_0 l0_1 l0_2 l0_3 a0_4 a0_5 ((rd_T59 l0_1 t365).f1)).bind fun t367 => (some t367)) else (none)) else (none)))
def impl_Disk_nodeAt.T4 : Bool × List (List Nat × List Nat) := (true, [([], []), ([], []), ([1], [1]), ([], []), ([2, 3], [2, 3]), ([4], [4]), ([5], [5]), ([0, 6], [0, 6]), ([7, 7, 0, 1, 2, 3, 4, 5, 6, 7], [7])])
def impl_Disk_nodeAt.B4 : List Nat := [0, 0, 2, 0, 14, 30, 62, 127, 255]
set_option maxHeartbeats 8000000 in
set_option maxRecDepth 100000 in
theorem impl_Disk_nodeAt.calls (A0_0 : Option Addr) (c0_0 : Nat) (l0_0 : List (S57)) (A0_1 : Option Addr) (c0_1 : Nat) (l0_1 : List (S59)) (A0_2 : Option Addr) (c0_2 : Nat) (l0_2 : List (S59)) (A0_3 : Option Addr) (c0_3 : Nat) (l0_3 : List ByteArray) (a0_4 : Int) (a0_5 : Int) (a1 : ByteArray) (r : Int) (w : World) (hr0_0 : Kd.C k57 w A0_0 l0_0.length l0_0) (hc0_0 : l0_0.length ≤ c0_0) (hr0_1 : Kd.C k59 w A0_1 l0_1.length l0_1) (hc0_1 : l0_1.length ≤ c0_1) (hr0_2 : Kd.C k59 w A0_2 l0_2.length l0_2) (hc0_2 : l0_2.length ≤ c0_2) (hr0_3 : Kd.C Kd.string w A0_3 l0_3.length l0_3) (hc0_3 : l0_3.length ≤ c0_3) (h : impl_Disk_nodeAt.f l0_0 l0_1 l0_2 l0_3 a0_4 a0_5 a1 = some r) :
  Calls Tryz.prog 83 #[.agg #[.slice A0_0 l0_0.length c0_0, .slice A0_1 l0_1.length c0_1, .slice A0_2 l0_2.length c0_2, .slice A0_3 l0_3.length c0_3, .int .i64 a0_4, .int .i64 a0_5], .string a1] w fun e w' => e = .returned (.int .i64 r) ∧ Below w.heap.size w w' := by
 have HR0_0 := Aside0.mk hr0_0
 have HC0_0 := Aside0.mk hc0_0
 clear hr0_0 hc0_0
 have HR0_1 := Aside0.mk hr0_1
 have HC0_1 := Aside0.mk hc0_1
 clear hr0_1 hc0_1
 have HR0_2 := Aside0.mk hr0_2
 have HC0_2 := Aside0.mk hc0_2
 clear hr0_2 hc0_2
 have HR0_3 := Aside0.mk hr0_3
 have HC0_3 := Aside0.mk hc0_3
 clear hr0_3 hc0_3
 have HB := Aside0.mk (Below.refl w.heap.size w)
 have H : ((impl_placeOf.f l0_1 a1).bind fun t365 => (if t365 < 0 then (some (-1)) else (if 0 ≤ t365 then (if t365 < (l0_1.length : Int) then ((impl_Disk_nodeOf.f l0_0 l0_1 l0_2 l0_3 a0_4 a0_5 ((rd_T59 l0_1 t365).f1)).bind fun t367 => (some t367)) else (none)) else (none)))) = some r := h
 clear h
 replace H := Option.bind_eq_some_iff.mp H
 obtain ⟨t365, A30, H⟩ := H
 replace H : (if t365 < 0 then (some (-1)) else (if 0 ≤ t365 then (if t365 < (l0_1.length : Int) then ((impl_Disk_nodeOf.f l0_0 l0_1 l0_2 l0_3 a0_4 a0_5 ((rd_T59 l0_1 t365).f1)).bind fun t367 => (some t367)) else (none)) else (none))) = some r := H
 have A3 := Aside0.mk A30
 clear A30
 by_cases c4 : t365 < 0
 ·rw [if_pos c4] at H
  have c4b0 : decide (t365 < 0) = true := decide_eq_true c4
  clear c4
  obtain rfl := Option.some.inj H
  go_enter Tryz.func83, Tryz.ntmps83
  go_wp2_with (first | ((with_reducible refine gate_dst (N := 2) rfl ?_); refine box_event ?hg (N := 2) ?hd (cs := #[.slice A0_0 l0_0.length c0_0, .slice A0_1 l0_1.length c0_1, .slice A0_2 l0_2.length c0_2, .slice A0_3 l0_3.length c0_3, .int .i64 a0_4, .int .i64 a0_5]) (t := 32) ?hr ?_; (case hd => rfl); (case hg => rfl); (case hr => (go_simp; done)); intro gb364 hg w5 hbox hb; have BK364 := Aside0.mk (hbox); replace HB := Aside0.mk (below_step HB.out hb); clear hb hbox hg; have hcz6_1 : w5.cell? ⟨gb364, 1, none⟩ = some (.slice A0_1 l0_1.length c0_1) := (blk_cell BK364.out 1).trans rfl; skip) | ((with_reducible refine gate_callee (f := 103) rfl ?_); refine goesL_ (some 9) rfl rfl Tryz.func103 (by kernel_rfl) rfl #[.slice A0_1 l0_1.length c0_1, .string a1] rfl (by (try simp only [List.map_toArray, List.map_cons, List.map_nil]); rfl) ?_; (with_reducible refine (impl_placeOf.calls _ _ l0_1 a1 t365 _ ?side1 ?side2 A3.out).mono ?_); (case side1 => repeat (exact (Kd.C_below HR0_1.out HB.out))); (case side2 => exact HC0_1.out); rintro e w7 ⟨rfl, hb⟩; refine ⟨_, rfl, ?_⟩; replace BK364 := Aside0.mk (bB hb BK364.out); replace HB := Aside0.mk (below_step HB.out hb); (try clear hb)))
  all_goals (go_ret)
  all_goals exact ⟨by first | rfl | (simp [errW_none, errW_some] <;> rfl) | (simp [*, errW_none, errW_some] <;> rfl) | (exfalso; simp only [decide_eq_true_eq, decide_eq_false_iff_not] at *; omega), by repeat (with_reducible exact HB.out)⟩
 ·rw [if_neg c4] at H
  have c4b0 : decide (t365 < 0) = false := decide_eq_false c4
  clear c4
  by_cases c8 : 0 ≤ t365
  ·rw [if_pos c8] at H
   have c8b0 : decide (0 ≤ t365) = true := decide_eq_true c8
   clear c8
   by_cases c9 : t365 < (l0_1.length : Int)
   ·rw [if_pos c9] at H
    have c9b0 : decide (t365 < (l0_1.length : Int)) = true := decide_eq_true c9
    clear c9
    replace H := Option.bind_eq_some_iff.mp H
    obtain ⟨t367, A100, H⟩ := H
    replace H : (some t367) = some r := H
    have A10 := Aside0.mk A100
    clear A100
    obtain rfl := Option.some.inj H
    go_enter Tryz.func83, Tryz.ntmps83
    try go_wp2_with (first | ((with_reducible refine gate_dst (N := 2) rfl ?_); refine box_event ?hg (N := 2) ?hd (cs := #[.slice A0_0 l0_0.length c0_0, .slice A0_1 l0_1.length c0_1, .slice A0_2 l0_2.length c0_2, .slice A0_3 l0_3.length c0_3, .int .i64 a0_4, .int .i64 a0_5]) (t := 32) ?hr ?_; (case hd => rfl); (case hg => rfl); (case hr => (go_simp; done)); intro gb364 hg w11 hbox hb; have BK364 := Aside0.mk (hbox); replace HB := Aside0.mk (below_step HB.out hb); clear hb hbox hg; have hcz12_1 : w11.cell? ⟨gb364, 1, none⟩ = some (.slice A0_1 l0_1.length c0_1) := (blk_cell BK364.out 1).trans rfl; skip) | ((with_reducible refine gate_callee (f := 103) rfl ?_); refine goesL_ (some 9) rfl rfl Tryz.func103 (by kernel_rfl) rfl #[.slice A0_1 l0_1.length c0_1, .string a1] rfl (by (try simp only [List.map_toArray, List.map_cons, List.map_nil]); rfl) ?_; (with_reducible refine (impl_placeOf.calls _ _ l0_1 a1 t365 _ ?side1 ?side2 A3.out).mono ?_); (case side1 => repeat (exact (Kd.C_below HR0_1.out HB.out))); (case side2 => exact HC0_1.out); rintro e w13 ⟨rfl, hb⟩; refine ⟨_, rfl, ?_⟩; replace BK364 := Aside0.mk (bB hb BK364.out); replace HB := Aside0.mk (below_step HB.out hb); (try clear hb)))
    have p366 : 0 ≤ (t365 : Int) := of_decide_eq_true (by (with_reducible assumption))
    have q366 : t365 < (l0_1.length : Int) := of_decide_eq_true (by (with_reducible assumption))
    obtain ⟨ad366, e366, hx366_0, hx366_1⟩ := at_T59 HR0_1.out t365 p366 q366
    have hw366_1 := hx366_1
    cases e366
    replace hx366_0 := (HB.out.cell (World.block_lt_of_cell? w _ hx366_0)).trans hx366_0
    replace hx366_1 := (HB.out.cell (World.block_lt_of_cell? w _ hx366_1)).trans hx366_1
    replace p366 := eq_true p366
    replace q366 := eq_true q366
    have sq0_ : ∀ p_ : LaidBy w13, p_.W.cell? ⟨gb364, 0, none⟩ = some (.slice A0_0 l0_0.length c0_0) := fun p_ => p_.cell ((blk_cell BK364.out 0).trans rfl)
    have sq1_ : ∀ p_ : LaidBy w13, p_.W.cell? ⟨gb364, 1, none⟩ = some (.slice (some ad366) l0_1.length c0_1) := fun p_ => p_.cell ((blk_cell BK364.out 1).trans rfl)
    have sq2_ : ∀ p_ : LaidBy w13, p_.W.cell? ⟨gb364, 2, none⟩ = some (.slice A0_2 l0_2.length c0_2) := fun p_ => p_.cell ((blk_cell BK364.out 2).trans rfl)
    have sq3_ : ∀ p_ : LaidBy w13, p_.W.cell? ⟨gb364, 3, none⟩ = some (.slice A0_3 l0_3.length c0_3) := fun p_ => p_.cell ((blk_cell BK364.out 3).trans rfl)
    have sq4_ : ∀ p_ : LaidBy w13, p_.W.cell? ⟨gb364, 4, none⟩ = some (.int .i64 a0_4) := fun p_ => p_.cell ((blk_cell BK364.out 4).trans rfl)
    have sq5_ : ∀ p_ : LaidBy w13, p_.W.cell? ⟨gb364, 5, none⟩ = some (.int .i64 a0_5) := fun p_ => p_.cell ((blk_cell BK364.out 5).trans rfl)
    have sq7_ : ∀ p_ : LaidBy w13, p_.W.cell? ⟨(ad366.add ((t365).toNat * 2)).block, (ad366.add ((t365).toNat * 2)).off + 1, none⟩ = some (.int .i64 ((rd_T59 l0_1 t365).f1)) := fun p_ => p_.cell ((HB.out.cell (World.block_lt_of_cell? w _ hw366_1)).trans hw366_1)
    refine wp_region_laid (by kernel_rfl) (by kernel_rfl) ?_
    repeat (go_big_quiet_step ((go_at_call 93; with_reducible exact laid_of _ (impl_Disk_nodeOf.calls _ _ l0_0 _ _ l0_1 _ _ l0_2 _ _ l0_3 a0_4 a0_5 ((rd_T59 l0_1 t365).f1) t367 _ (Kd.C_below HR0_0.out (LaidBy.below _ HB.out)) HC0_0.out (Kd.C_below HR0_1.out (LaidBy.below _ HB.out)) HC0_1.out (Kd.C_below HR0_2.out (LaidBy.below _ HB.out)) HC0_2.out (Kd.C_below HR0_3.out (LaidBy.below _ HB.out)) HC0_3.out A10.out))))
    refine wpQuiet_nil ?_
    rintro w15 ⟨p_, hp_⟩
    have hq_ : Below w13.heap.size w13 w15 := hp_ ▸ p_.ok
    clear hp_ p_ sq0_ sq1_ sq2_ sq3_ sq4_ sq5_ sq7_
    have n0_ := Aside0.mk ((hq_.block gb364 (blk_lt BK364.out)).trans BK364.out)
    have n1_ := Aside0.mk (HB.out.trans (hq_.mono HB.out.size))
    clear BK364
    clear HB
    have BK364 := n0_
    have HB := n1_
    clear hq_ n0_ n1_
    try go_wp2
    all_goals (go_ret)
    all_goals exact ⟨by first | rfl | (simp [errW_none, errW_some] <;> rfl) | (simp [*, errW_none, errW_some] <;> rfl) | (exfalso; simp only [decide_eq_true_eq, decide_eq_false_iff_not] at *; omega), by repeat (with_reducible exact HB.out)⟩
   ·rw [if_neg c9] at H
    exact absurd H (by simp)
  ·rw [if_neg c8] at H
   exact absurd H (by simp)

end Go.Proofs.YtbcidclclckgfaaGreatDoor.MFnExactAppendFile
