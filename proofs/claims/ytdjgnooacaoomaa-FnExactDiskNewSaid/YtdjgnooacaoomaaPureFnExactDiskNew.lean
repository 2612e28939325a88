/- The law FnExactDiskNew answers true for every whole number: the program's DiskNew tells what the reference's tells, in memory that nothing else shares. Conditions: those of the given row, and no others. -/
import Derived.Test.YtdjgnooacaoomaaMFnExactDiskNewx5
namespace Go.Proofs.Ytdjgnooacaoomaa.Pure
open Go.RowKit Go.Proofs.Ytdjgnooacaoomaa.MFnExactDiskNew Go.Proofs.YtdjgnooacaoomaaW.PrintWords Go.Proofs.YtdjgnooacaoomaaW.PrintLast Go.Proofs.YtdjgnooacaoomaaW.PrintMore
set_option linter.unusedVariables false
set_option linter.unusedSimpArgs false
/-! ### Whole numbers and bits -/
theorem wrap64_id {x : Int} (h0 : -9223372036854775808 ≤ x) (h1 : x ≤ 9223372036854775807) : wrap64 x = x := by unfold wrap64; omega
theorem wf_i64 {x : Int} (h : (Lit.int .i64 x).wf = true) : -9223372036854775808 ≤ x ∧ x ≤ 9223372036854775807 := by
  simp only [Lit.wf, IntKind.min, IntKind.max, IntKind.signed, IntKind.bits, Bool.and_eq_true, decide_eq_true_eq, if_true] at h
  omega
theorem mod_toNat_nat (a : Nat) (m : Nat) : (((a : Int) % (m : Int)).toNat) = a % m := by
  rw [← Int.natCast_emod, Int.toNat_natCast]
theorem bv_mask (j : Nat) (hj : j < 64) (x : Int) : (BitVec.ofInt 64 x &&& BitVec.ofInt 64 ((2 ^ j - 1 : Nat) : Int)).toNat = (x % ((2 ^ j : Nat) : Int)).toNat := by
  have hle : 2 ^ j ≤ 2 ^ 63 := Nat.pow_le_pow_right (by decide) (by omega)
  have hpos : 0 < 2 ^ j := Nat.two_pow_pos j
  have hlt : 2 ^ j - 1 < 2 ^ 64 := by omega
  have hd : (2 : Nat) ^ j ∣ 2 ^ 64 := Nat.pow_dvd_pow 2 (by omega)
  rw [BitVec.ofInt_natCast, BitVec.toNat_and, BitVec.toNat_ofNat, Nat.mod_eq_of_lt hlt, Nat.and_two_pow_sub_one_eq_mod, BitVec.toNat_ofInt]
  have h0 : 0 ≤ x % ((2 ^ 64 : Nat) : Int) := Int.emod_nonneg _ (by simp)
  have h1 : 0 ≤ x % ((2 ^ j : Nat) : Int) := Int.emod_nonneg _ (by omega)
  have : (((x % ((2 ^ 64 : Nat) : Int)).toNat % 2 ^ j : Nat) : Int) = x % ((2 ^ j : Nat) : Int) := by
    rw [Int.natCast_emod, Int.toNat_of_nonneg h0]
    exact Int.emod_emod_of_dvd x (Int.natCast_dvd_natCast.mpr hd)
  omega
/-- A mask of the lowest j bits, of any i64. -/
theorem i64_mask (j : Nat) (hj : j < 64) (x : Int) : Go.bits .and .i64 x (((2 ^ j - 1 : Nat) : Int)) = x % ((2 ^ j : Nat) : Int) := by
  have hpos : 0 < 2 ^ j := Nat.two_pow_pos j
  have hle : 2 ^ j ≤ 2 ^ 63 := Nat.pow_le_pow_right (by decide) (by omega)
  show IntKind.i64.wrap (((BitVec.ofInt 64 x &&& BitVec.ofInt 64 ((2 ^ j - 1 : Nat) : Int)).toNat : Nat) : Int) = _
  rw [bv_mask j hj x]
  have h1 : 0 ≤ x % ((2 ^ j : Nat) : Int) := Int.emod_nonneg _ (by omega)
  have h2 : x % ((2 ^ j : Nat) : Int) < ((2 ^ j : Nat) : Int) := Int.emod_lt_of_pos _ (by omega)
  rw [Int.toNat_of_nonneg h1, IntKind.wrap_i64]
  have h3 : ((2 ^ j : Nat) : Int) ≤ ((2 ^ 63 : Nat) : Int) := Int.ofNat_le.mpr hle
  have h5 : ((2 ^ 63 : Nat) : Int) = 9223372036854775808 := by decide
  omega
theorem i64_mask32 (x : Int) : Go.bits .and .i64 x 4294967295 = x % 4294967296 := i64_mask 32 (by decide) x
theorem i64_mask8 (x : Int) : Go.bits .and .i64 x 255 = x % 256 := i64_mask 8 (by decide) x
theorem i64_mask7 (x : Int) : Go.bits .and .i64 x 127 = x % 128 := i64_mask 7 (by decide) x
theorem i64_mask4 (x : Int) : Go.bits .and .i64 x 15 = x % 16 := i64_mask 4 (by decide) x
theorem i64_mask1 (x : Int) : Go.bits .and .i64 x 1 = x % 2 := i64_mask 1 (by decide) x
theorem xor_nat (k : IntKind) (j : Nat) (hj : j ≤ k.bits) (hk : ∀ n : Int, 0 ≤ n → n < 2 ^ j → k.wrap n = n) (a b : Nat) (ha : a < 2 ^ j) (hb : b < 2 ^ j) :
    Go.bits .xor k a b = ((a ^^^ b : Nat) : Int) := by
  have hp : 2 ^ j ≤ 2 ^ k.bits := Nat.pow_le_pow_right (by decide) hj
  have ha' : a % 2 ^ k.bits = a := Nat.mod_eq_of_lt (Nat.lt_of_lt_of_le ha hp)
  have hb' : b % 2 ^ k.bits = b := Nat.mod_eq_of_lt (Nat.lt_of_lt_of_le hb hp)
  simp only [Go.bits, BitVec.ofInt_natCast, BitVec.toNat_xor, BitVec.toNat_ofNat, ha', hb']
  exact hk _ (Int.natCast_nonneg _) (by exact_mod_cast Nat.xor_lt_two_pow ha hb)
theorem wraps_i64 (n : Int) (h0 : 0 ≤ n) (h1 : n < 2 ^ 63) : IntKind.i64.wrap n = n := by rw [IntKind.wrap_i64]; omega
theorem wraps_u32 (n : Int) (h0 : 0 ≤ n) (h1 : n < 2 ^ 32) : IntKind.u32.wrap n = n := by rw [IntKind.wrap_u32]; omega
theorem i64_xor (a b : Nat) (ha : a < 2 ^ 63) (hb : b < 2 ^ 63) : Go.bits .xor .i64 a b = ((a ^^^ b : Nat) : Int) := xor_nat .i64 63 (by decide) wraps_i64 a b ha hb
theorem u32_xor (a b : Nat) (ha : a < 2 ^ 32) (hb : b < 2 ^ 32) : Go.bits .xor .u32 a b = ((a ^^^ b : Nat) : Int) := xor_nat .u32 32 (by decide) wraps_u32 a b ha hb
theorem i64_or (a b : Nat) (ha : a < 2 ^ 63) (hb : b < 2 ^ 63) : Go.bits .or .i64 a b = ((a ||| b : Nat) : Int) := (Go.bits_nat .i64 63 (by decide) wraps_i64 a b ha hb).2
theorem u8_or (a b : Nat) (ha : a < 2 ^ 8) (hb : b < 2 ^ 8) : Go.bits .or .u8 a b = ((a ||| b : Nat) : Int) := (Go.bits_nat .u8 8 (by decide) Go.wraps_u8 a b ha hb).2
theorem u32_and1 (a : Nat) (ha : a < 2 ^ 32) : Go.bits .and .u32 a 1 = ((a % 2 : Nat) : Int) := by
  rw [show (1 : Int) = ((1 : Nat) : Int) from rfl, (Go.bits_nat .u32 32 (by decide) wraps_u32 a 1 ha (by decide)).1, show (1 : Nat) = 2 ^ 1 - 1 from rfl, Nat.and_two_pow_sub_one_eq_mod]
/-! ### Bytes of a text -/
theorem bt_list (s : ByteArray) (i : Nat) (h : i < s.data.toList.length) : bt s (i : Int) = ((s.data.toList[i]).toNat : Int) := by
  have h' : i < s.size := by rw [Array.length_toList] at h; exact h
  have hn : (i : Int).toNat < s.size := by rw [Int.toNat_natCast]; exact h'
  rw [← bt_at s i hn]
  rfl
theorem size_list (s : ByteArray) : s.data.toList.length = s.size := by rw [Array.length_toList]; rfl
theorem drop_cons (s : ByteArray) (i : Nat) (h : i < s.size) : s.data.toList.drop i = s.data.toList[i]'(by rw [size_list]; exact h) :: s.data.toList.drop (i + 1) :=
  List.drop_eq_getElem_cons (by rw [size_list]; exact h)
/-! ### From some number of rounds on -/
section
variable {α : Type} {f g : Nat → Option α} {r : α} {c : Prop} [Decidable c]
theorem Ev.pos (h : c) (e : Ev f r) : Ev (fun k => if c then f k else g k) r := Ev.congr (fun _ => if_pos h) e
theorem Ev.neg (h : ¬ c) (e : Ev g r) : Ev (fun k => if c then f k else g k) r := Ev.congr (fun _ => if_neg h) e
theorem Ev.const {o : Option α} (h : o = some r) : Ev (fun _ => o) r := ⟨0, fun _ _ => h⟩
theorem Ev.at (K : Nat) (h : ∀ k, K ≤ k → f k = some r) : Ev f r := ⟨K, h⟩
theorem Ev.of_eq {r' : α} (e : Ev f r) (h : r = r') : Ev f r' := h ▸ e
end
theorem Ev.both {α β : Type} {f : Nat → Option α} {g : Nat → Option β} {a : α} {b : β} (h : Ev f a) (h' : Ev g b) : ∃ k, f k = some a ∧ g k = some b := by
  obtain ⟨K, h⟩ := h
  obtain ⟨K', h'⟩ := h'
  exact ⟨max K K', h _ (by omega), h' _ (by omega)⟩
theorem ba_size_append (a b : ByteArray) : (a ++ b).size = a.size + b.size := ByteArray.size_append
theorem markText_l0 (f : Nat) : ∀ (x : Nat) (acc : ByteArray), x < 10 ^ f → x < 2 ^ 63 → acc.size + f < 1000 → ∃ r, Ev (fun k => laws_markText.l0 k (x : Int) acc) r := by
  induction f with
  | zero =>
    intro x acc hx _ ha
    obtain rfl : x = 0 := by simpa using hx
    refine ⟨(⟨#[109]⟩ : ByteArray) ++ acc, ?_⟩
    refine Ev.step (fun k => by rw [laws_markText.l0]) ?_
    refine Ev.neg (by decide) ?_
    exact Ev.pos (by omega) (Ev.now _)
  | succ f ih =>
    intro x acc hx hb ha
    by_cases h : x = 0
    · subst h
      refine ⟨(⟨#[109]⟩ : ByteArray) ++ acc, ?_⟩
      refine Ev.step (fun k => by rw [laws_markText.l0]) ?_
      refine Ev.neg (by decide) ?_
      exact Ev.pos (by omega) (Ev.now _)
    · obtain ⟨r, hr⟩ := ih (x / 10) ((strOfNums [(wrap64 (48 + (Int.tmod (x : Int) 10))) % 256]) ++ acc) (by rw [Nat.pow_succ] at hx; exact Nat.div_lt_of_lt_mul (by rw [Nat.mul_comm]; exact hx)) (by omega) (by rw [ba_size_append, strOfNums_size, List.length_singleton]; omega)
      refine ⟨r, ?_⟩
      refine Ev.step (fun k => by rw [laws_markText.l0]) ?_
      refine Ev.pos (by omega) ?_
      refine Ev.bind (Ev.const rfl) ?_
      refine Ev.pos (by rw [strOfNums_size, List.length_singleton]; omega) ?_
      have e : Int.tdiv (x : Int) 10 = ((x / 10 : Nat) : Int) := by rw [Int.tdiv_eq_ediv_of_nonneg (by omega)]; omega
      rw [e, wrap64_id (x := ((x / 10 : Nat) : Int)) (by omega) (by omega)]
      exact hr
theorem markText_some (m : Int) (h : m < 2 ^ 63) : ∃ r, Ev (fun k => laws_markText.f k m) r := by
  unfold laws_markText.f
  by_cases h0 : m ≤ 0
  · exact ⟨_, Ev.pos h0 (Ev.now _)⟩
  · obtain ⟨x, rfl⟩ := Int.eq_ofNat_of_zero_le (show 0 ≤ m by omega)
    have hx : x < 2 ^ 63 := by omega
    obtain ⟨r, hr⟩ := markText_l0 20 x ⟨#[]⟩ (Nat.lt_of_lt_of_le hx (by decide)) hx (by decide)
    exact ⟨r, Ev.neg h0 hr⟩
open Classical in
/-- The mark of a number. -/
noncomputable def markOf (m : Int) : ByteArray := if h : m < 2 ^ 63 then Classical.choose (markText_some m h) else ⟨#[]⟩
theorem markText_ev (m : Int) (h : m < 2 ^ 63) : Ev (fun k => laws_markText.f k m) (markOf m) := by
  unfold markOf
  rw [dif_pos h]
  exact Classical.choose_spec (markText_some m h)
noncomputable def mksNode (m : Int) (n : Nat) : List S70 := (List.range n).map fun (j : Nat) => (⟨m + 3 * j, markOf (m + 3 * j + 1), m + 3 * j + 2⟩ : S70)
theorem mksNode_length (m : Int) (n : Nat) : (mksNode m n).length = n := by unfold mksNode; rw [List.length_map, List.length_range]
theorem mksNode_get (m : Int) (n i : Nat) (h : i < n) : (mksNode m n)[i]? = some (⟨m + 3 * (i : Int), markOf (m + 3 * (i : Int) + 1), m + 3 * (i : Int) + 2⟩ : S70) := by
  unfold mksNode
  rw [List.getElem?_map, List.getElem?_range h]; rfl
theorem mksNode_at (m : Int) (n i : Nat) (h : i < (mksNode m n).length) : (mksNode m n)[i] = (⟨m + 3 * (i : Int), markOf (m + 3 * (i : Int) + 1), m + 3 * (i : Int) + 2⟩ : S70) := by
  have h1 := mksNode_get m n i (by rw [mksNode_length] at h; exact h)
  rw [List.getElem?_eq_getElem h] at h1
  exact Option.some.inj h1
theorem rd_INode (xs : List S70) (i : Nat) (h : i < xs.length) : rd_T70 xs (i : Int) = xs[i] := by
  unfold rd_T70
  rw [Int.toNat_natCast, List.getD_eq_getElem?_getD, List.getElem?_eq_getElem h]; rfl
theorem markNodeS_l0 (m : Int) (h0 : 0 ≤ m) (h1 : m ≤ 4611686018427387904) (L : Nat) (hL : L ≤ 140737488355328) (n : Nat) : ∀ (i : Nat) (xs : List S70), i + n = L → xs.length = L → (∀ j, j < i → xs[j]? = (mksNode m L)[j]?) →
    Ev (fun k => laws_markNodeS.l0 k xs (m + 3 * (i : Int)) (i : Int)) (m + 3 * (L : Int), mksNode m L) := by
  induction n with
  | zero =>
    intro i xs hi hl hp
    refine Ev.step (fun k => by rw [laws_markNodeS.l0]) (Ev.neg (by omega) (Ev.const ?_))
    obtain rfl : i = L := by omega
    refine congrArg some (congrArg (Prod.mk _) (List.ext_getElem? fun j => ?_))
    by_cases hj : j < i
    · exact hp j hj
    · rw [List.getElem?_eq_none (by omega), List.getElem?_eq_none (by rw [mksNode_length]; omega)]
  | succ n ih =>
    intro i xs hi hl hp
    refine Ev.step (fun k => by rw [laws_markNodeS.l0]) (Ev.pos (by omega) ?_)
    refine Ev.pos (by omega) (Ev.bind (Ev.const rfl) ?_)
    rw [Int.toNat_natCast, wrap64_id (x := m + 3 * (i : Int) + 1) (by omega) (by omega), wrap64_id (x := m + 3 * (i : Int) + 1 + 1) (by omega) (by omega), wrap64_id (x := m + 3 * (i : Int) + 1 + 1 + 1) (by omega) (by omega), wrap64_id (x := (i : Int) + 1) (by omega) (by omega)]
    refine Ev.bind (markText_ev _ (by omega)) ?_
    rw [rd_INode (xs.set i _) i (by rw [List.length_set]; omega), List.getElem_set_self, List.set_set]
    refine Ev.bind (Ev.const rfl) ?_
    rw [rd_INode (xs.set i _) i (by rw [List.length_set]; omega), List.getElem_set_self, List.set_set]
    have := ih (i + 1) (xs.set i (⟨m + 3 * (i : Int), markOf (m + 3 * (i : Int) + 1), m + 3 * (i : Int) + 2⟩ : S70)) (by omega) (by rw [List.length_set]; exact hl) ?_
    · rw [show m + 3 * ((i + 1 : Nat) : Int) = m + 3 * (i : Int) + 1 + 1 + 1 by omega] at this
      refine Ev.congr (fun k => ?_) this
      rw [show (⟨m + 3 * (i : Int), markOf (m + 3 * (i : Int) + 1), m + 3 * (i : Int) + 1 + 1⟩ : S70) = (⟨m + 3 * (i : Int), markOf (m + 3 * (i : Int) + 1), m + 3 * (i : Int) + 2⟩ : S70) from by rw [show m + 3 * (i : Int) + 1 + 1 = m + 3 * (i : Int) + 2 by omega]]; rfl
    · intro j hj
      by_cases h : j < i
      · rw [List.getElem?_set_ne (by omega)]; exact hp j h
      · obtain rfl : j = i := by omega
        rw [List.getElem?_set_self (by omega), mksNode_get _ _ _ (by omega)]
theorem markNodeS_ev (xs : List S70) (m : Int) (h0 : 0 ≤ m) (h1 : m ≤ 4611686018427387904) (hL : xs.length ≤ 140737488355328) : Ev (fun k => laws_markNodeS.f k xs m) (m + 3 * (xs.length : Int), mksNode m xs.length) := by
  unfold laws_markNodeS.f
  have := markNodeS_l0 m h0 h1 xs.length hL xs.length 0 xs (by omega) rfl (fun j hj => absurd hj (Nat.not_lt_zero _))
  rw [show m + 3 * ((0 : Nat) : Int) = m by omega] at this
  exact this
noncomputable def mksEntry (m : Int) (n : Nat) : List S104 := (List.range n).map fun (j : Nat) => (⟨markOf (m + 2 * j), m + 2 * j + 1⟩ : S104)
theorem mksEntry_length (m : Int) (n : Nat) : (mksEntry m n).length = n := by unfold mksEntry; rw [List.length_map, List.length_range]
theorem mksEntry_get (m : Int) (n i : Nat) (h : i < n) : (mksEntry m n)[i]? = some (⟨markOf (m + 2 * (i : Int)), m + 2 * (i : Int) + 1⟩ : S104) := by
  unfold mksEntry
  rw [List.getElem?_map, List.getElem?_range h]; rfl
theorem mksEntry_at (m : Int) (n i : Nat) (h : i < (mksEntry m n).length) : (mksEntry m n)[i] = (⟨markOf (m + 2 * (i : Int)), m + 2 * (i : Int) + 1⟩ : S104) := by
  have h1 := mksEntry_get m n i (by rw [mksEntry_length] at h; exact h)
  rw [List.getElem?_eq_getElem h] at h1
  exact Option.some.inj h1
theorem rd_IEntry (xs : List S104) (i : Nat) (h : i < xs.length) : rd_T104 xs (i : Int) = xs[i] := by
  unfold rd_T104
  rw [Int.toNat_natCast, List.getD_eq_getElem?_getD, List.getElem?_eq_getElem h]; rfl
theorem markEntryS_l0 (m : Int) (h0 : 0 ≤ m) (h1 : m ≤ 4611686018427387904) (L : Nat) (hL : L ≤ 140737488355328) (n : Nat) : ∀ (i : Nat) (xs : List S104), i + n = L → xs.length = L → (∀ j, j < i → xs[j]? = (mksEntry m L)[j]?) →
    Ev (fun k => laws_markEntryS.l0 k xs (m + 2 * (i : Int)) (i : Int)) (m + 2 * (L : Int), mksEntry m L) := by
  induction n with
  | zero =>
    intro i xs hi hl hp
    refine Ev.step (fun k => by rw [laws_markEntryS.l0]) (Ev.neg (by omega) (Ev.const ?_))
    obtain rfl : i = L := by omega
    refine congrArg some (congrArg (Prod.mk _) (List.ext_getElem? fun j => ?_))
    by_cases hj : j < i
    · exact hp j hj
    · rw [List.getElem?_eq_none (by omega), List.getElem?_eq_none (by rw [mksEntry_length]; omega)]
  | succ n ih =>
    intro i xs hi hl hp
    refine Ev.step (fun k => by rw [laws_markEntryS.l0]) (Ev.pos (by omega) ?_)
    refine Ev.bind (markText_ev _ (by omega)) ?_
    refine Ev.pos (by omega) (Ev.bind (Ev.const rfl) ?_)
    rw [Int.toNat_natCast, wrap64_id (x := m + 2 * (i : Int) + 1) (by omega) (by omega), wrap64_id (x := m + 2 * (i : Int) + 1 + 1) (by omega) (by omega), wrap64_id (x := (i : Int) + 1) (by omega) (by omega)]
    rw [rd_IEntry (xs.set i _) i (by rw [List.length_set]; omega), List.getElem_set_self, List.set_set]
    have := ih (i + 1) (xs.set i (⟨markOf (m + 2 * (i : Int)), m + 2 * (i : Int) + 1⟩ : S104)) (by omega) (by rw [List.length_set]; exact hl) ?_
    · rw [show m + 2 * ((i + 1 : Nat) : Int) = m + 2 * (i : Int) + 1 + 1 by omega] at this
      refine Ev.congr (fun k => ?_) this
      rw [show ((⟨markOf (m + 2 * (i : Int)), m + 2 * (i : Int) + 1⟩ : S104) : S104) = (⟨markOf (m + 2 * (i : Int)), m + 2 * (i : Int) + 1⟩ : S104) from rfl]; rfl
    · intro j hj
      by_cases h : j < i
      · rw [List.getElem?_set_ne (by omega)]; exact hp j h
      · obtain rfl : j = i := by omega
        rw [List.getElem?_set_self (by omega), mksEntry_get _ _ _ (by omega)]
theorem markEntryS_ev (xs : List S104) (m : Int) (h0 : 0 ≤ m) (h1 : m ≤ 4611686018427387904) (hL : xs.length ≤ 140737488355328) : Ev (fun k => laws_markEntryS.f k xs m) (m + 2 * (xs.length : Int), mksEntry m xs.length) := by
  unfold laws_markEntryS.f
  have := markEntryS_l0 m h0 h1 xs.length hL xs.length 0 xs (by omega) rfl (fun j hj => absurd hj (Nat.not_lt_zero _))
  rw [show m + 2 * ((0 : Nat) : Int) = m by omega] at this
  exact this
noncomputable def mksString (m : Int) (n : Nat) : List ByteArray := (List.range n).map fun (j : Nat) => (markOf (m + j))
theorem mksString_length (m : Int) (n : Nat) : (mksString m n).length = n := by unfold mksString; rw [List.length_map, List.length_range]
theorem mksString_get (m : Int) (n i : Nat) (h : i < n) : (mksString m n)[i]? = some (markOf (m + (i : Int))) := by
  unfold mksString
  rw [List.getElem?_map, List.getElem?_range h]; rfl
theorem mksString_at (m : Int) (n i : Nat) (h : i < (mksString m n).length) : (mksString m n)[i] = (markOf (m + (i : Int))) := by
  have h1 := mksString_get m n i (by rw [mksString_length] at h; exact h)
  rw [List.getElem?_eq_getElem h] at h1
  exact Option.some.inj h1
theorem rd_S (xs : List ByteArray) (i : Nat) (h : i < xs.length) : rdOf ByteArray.empty xs (i : Int) = xs[i] := by
  unfold rdOf
  rw [Int.toNat_natCast, List.getD_eq_getElem?_getD, List.getElem?_eq_getElem h]; rfl
theorem markStringS_l0 (m : Int) (h0 : 0 ≤ m) (h1 : m ≤ 4611686018427387904) (L : Nat) (hL : L ≤ 140737488355328) (n : Nat) : ∀ (i : Nat) (xs : List ByteArray), i + n = L → xs.length = L → (∀ j, j < i → xs[j]? = (mksString m L)[j]?) →
    Ev (fun k => laws_markStringS.l0 k xs (m + 1 * (i : Int)) (i : Int)) (m + 1 * (L : Int), mksString m L) := by
  induction n with
  | zero =>
    intro i xs hi hl hp
    refine Ev.step (fun k => by rw [laws_markStringS.l0]) (Ev.neg (by omega) (Ev.const ?_))
    obtain rfl : i = L := by omega
    refine congrArg some (congrArg (Prod.mk _) (List.ext_getElem? fun j => ?_))
    by_cases hj : j < i
    · exact hp j hj
    · rw [List.getElem?_eq_none (by omega), List.getElem?_eq_none (by rw [mksString_length]; omega)]
  | succ n ih =>
    intro i xs hi hl hp
    refine Ev.step (fun k => by rw [laws_markStringS.l0]) (Ev.pos (by omega) ?_)
    refine Ev.bind (markText_ev _ (by omega)) ?_
    refine Ev.pos (by omega) ?_
    rw [wrap64_id (x := m + 1 * (i : Int) + 1) (by omega) (by omega), wrap64_id (x := (i : Int) + 1) (by omega) (by omega), Int.toNat_natCast]
    have := ih (i + 1) (xs.set i (markOf (m + (i : Int)))) (by omega) (by rw [List.length_set]; exact hl) ?_
    · rw [show m + 1 * ((i + 1 : Nat) : Int) = m + 1 * (i : Int) + 1 by omega] at this
      refine Ev.congr (fun k => ?_) this
      rw [show ((markOf (m + 1 * (i : Int))) : ByteArray) = (markOf (m + (i : Int))) from by rw [show m + 1 * (i : Int) = m + (i : Int) by omega]]; rfl
    · intro j hj
      by_cases h : j < i
      · rw [List.getElem?_set_ne (by omega)]; exact hp j h
      · obtain rfl : j = i := by omega
        rw [List.getElem?_set_self (by omega), mksString_get _ _ _ (by omega)]
theorem markStringS_ev (xs : List ByteArray) (m : Int) (h0 : 0 ≤ m) (h1 : m ≤ 4611686018427387904) (hL : xs.length ≤ 140737488355328) : Ev (fun k => laws_markStringS.f k xs m) (m + 1 * (xs.length : Int), mksString m xs.length) := by
  unfold laws_markStringS.f
  have := markStringS_l0 m h0 h1 xs.length hL xs.length 0 xs (by omega) rfl (fun j hj => absurd hj (Nat.not_lt_zero _))
  rw [show m + 1 * ((0 : Nat) : Int) = m by omega] at this
  exact this
theorem markDisk_ev (a : List S70) (b c : List S104) (d : List ByteArray) (e f : Int) (m : Int) (h0 : 0 ≤ m) (h1 : m ≤ 1152921504606846976) (ha : a.length ≤ 140737488355328) (hb : b.length ≤ 140737488355328) (hc : c.length ≤ 140737488355328) (hd : d.length ≤ 140737488355328) :
    Ev (fun k => laws_markDisk.f k a b c d e f m) (m + 3 * (a.length : Int) + 2 * (b.length : Int) + 2 * (c.length : Int) + 1 * (d.length : Int), mksNode m a.length, mksEntry (m + 3 * (a.length : Int)) b.length, mksEntry (m + 3 * (a.length : Int) + 2 * (b.length : Int)) c.length, mksString (m + 3 * (a.length : Int) + 2 * (b.length : Int) + 2 * (c.length : Int)) d.length) := by
  unfold laws_markDisk.f
  exact Ev.bind (markNodeS_ev a m h0 (by omega) ha) (Ev.bind (markEntryS_ev b (m + 3 * (a.length : Int)) (by omega) (by omega) hb) (Ev.bind (markEntryS_ev c (m + 3 * (a.length : Int) + 2 * (b.length : Int)) (by omega) (by omega) hc) (Ev.bind (markStringS_ev d (m + 3 * (a.length : Int) + 2 * (b.length : Int) + 2 * (c.length : Int)) (by omega) (by omega) hd) (Ev.now _))))
theorem heldNodeS_l0 (m : Int) (h0 : 0 ≤ m) (h1 : m ≤ 4611686018427387904) (L : Nat) (hL : L ≤ 140737488355328) (n : Nat) : ∀ (i : Nat), i + n = L →
    Ev (fun k => laws_heldNodeS.l0 k (mksNode m L) (m + 3 * (i : Int)) (i : Int)) (m + 3 * (L : Int)) := by
  induction n with
  | zero =>
    intro i hi
    obtain rfl : i = L := by omega
    refine Ev.step (fun k => by rw [laws_heldNodeS.l0]) ?_
    exact Ev.neg (by rw [mksNode_length]; omega) (Ev.now _)
  | succ n ih =>
    intro i hi
    refine Ev.step (fun k => by rw [laws_heldNodeS.l0]) (Ev.pos (by rw [mksNode_length]; omega) ?_)
    refine Ev.pos (by omega) ?_
    rw [rd_INode _ i (by rw [mksNode_length]; omega), mksNode_at]
    refine Ev.pos rfl ?_
    rw [wrap64_id (x := m + 3 * (i : Int) + 1) (by omega) (by omega), wrap64_id (x := m + 3 * (i : Int) + 1 + 1) (by omega) (by omega), wrap64_id (x := m + 3 * (i : Int) + 1 + 1 + 1) (by omega) (by omega), wrap64_id (x := (i : Int) + 1) (by omega) (by omega)]
    refine Ev.bind (markText_ev _ (by omega)) (Ev.pos rfl (Ev.pos (show m + 3 * (i : Int) + 2 = m + 3 * (i : Int) + 1 + 1 by omega) ?_))
    have := ih (i + 1) (by omega)
    rw [show m + 3 * ((i + 1 : Nat) : Int) = m + 3 * (i : Int) + 1 + 1 + 1 by omega] at this
    exact this
theorem heldNodeS_ev (m : Int) (h0 : 0 ≤ m) (h1 : m ≤ 4611686018427387904) (L : Nat) (hL : L ≤ 140737488355328) : Ev (fun k => laws_heldNodeS.f k (mksNode m L) m) (m + 3 * (L : Int)) := by
  unfold laws_heldNodeS.f
  have := heldNodeS_l0 m h0 h1 L hL L 0 (by omega)
  rw [show m + 3 * ((0 : Nat) : Int) = m by omega] at this
  exact this
theorem heldEntryS_l0 (m : Int) (h0 : 0 ≤ m) (h1 : m ≤ 4611686018427387904) (L : Nat) (hL : L ≤ 140737488355328) (n : Nat) : ∀ (i : Nat), i + n = L →
    Ev (fun k => laws_heldEntryS.l0 k (mksEntry m L) (m + 2 * (i : Int)) (i : Int)) (m + 2 * (L : Int)) := by
  induction n with
  | zero =>
    intro i hi
    obtain rfl : i = L := by omega
    refine Ev.step (fun k => by rw [laws_heldEntryS.l0]) ?_
    exact Ev.neg (by rw [mksEntry_length]; omega) (Ev.now _)
  | succ n ih =>
    intro i hi
    refine Ev.step (fun k => by rw [laws_heldEntryS.l0]) (Ev.pos (by rw [mksEntry_length]; omega) ?_)
    refine Ev.pos (by omega) (Ev.bind (markText_ev _ (by omega)) ?_)
    rw [rd_IEntry _ i (by rw [mksEntry_length]; omega), mksEntry_at]
    refine Ev.pos rfl ?_
    rw [wrap64_id (x := m + 2 * (i : Int) + 1) (by omega) (by omega), wrap64_id (x := m + 2 * (i : Int) + 1 + 1) (by omega) (by omega), wrap64_id (x := (i : Int) + 1) (by omega) (by omega)]
    refine Ev.pos rfl ?_
    have := ih (i + 1) (by omega)
    rw [show m + 2 * ((i + 1 : Nat) : Int) = m + 2 * (i : Int) + 1 + 1 by omega] at this
    exact this
theorem heldEntryS_ev (m : Int) (h0 : 0 ≤ m) (h1 : m ≤ 4611686018427387904) (L : Nat) (hL : L ≤ 140737488355328) : Ev (fun k => laws_heldEntryS.f k (mksEntry m L) m) (m + 2 * (L : Int)) := by
  unfold laws_heldEntryS.f
  have := heldEntryS_l0 m h0 h1 L hL L 0 (by omega)
  rw [show m + 2 * ((0 : Nat) : Int) = m by omega] at this
  exact this
theorem heldStringS_l0 (m : Int) (h0 : 0 ≤ m) (h1 : m ≤ 4611686018427387904) (L : Nat) (hL : L ≤ 140737488355328) (n : Nat) : ∀ (i : Nat), i + n = L →
    Ev (fun k => laws_heldStringS.l0 k (mksString m L) (m + 1 * (i : Int)) (i : Int)) (m + 1 * (L : Int)) := by
  induction n with
  | zero =>
    intro i hi
    obtain rfl : i = L := by omega
    refine Ev.step (fun k => by rw [laws_heldStringS.l0]) ?_
    exact Ev.neg (by rw [mksString_length]; omega) (Ev.now _)
  | succ n ih =>
    intro i hi
    refine Ev.step (fun k => by rw [laws_heldStringS.l0]) (Ev.pos (by rw [mksString_length]; omega) ?_)
    refine Ev.pos (by omega) (Ev.bind (markText_ev _ (by omega)) ?_)
    rw [rd_S _ i (by rw [mksString_length]; omega), mksString_at]
    refine Ev.pos (by rw [show m + 1 * (i : Int) = m + (i : Int) by omega]) ?_
    rw [wrap64_id (x := m + 1 * (i : Int) + 1) (by omega) (by omega), wrap64_id (x := (i : Int) + 1) (by omega) (by omega)]
    have := ih (i + 1) (by omega)
    rw [show m + 1 * ((i + 1 : Nat) : Int) = m + 1 * (i : Int) + 1 by omega] at this
    exact this
theorem heldStringS_ev (m : Int) (h0 : 0 ≤ m) (h1 : m ≤ 4611686018427387904) (L : Nat) (hL : L ≤ 140737488355328) : Ev (fun k => laws_heldStringS.f k (mksString m L) m) (m + 1 * (L : Int)) := by
  unfold laws_heldStringS.f
  have := heldStringS_l0 m h0 h1 L hL L 0 (by omega)
  rw [show m + 1 * ((0 : Nat) : Int) = m by omega] at this
  exact this
theorem heldDisk_ev (a b c d : Nat) (e f : Int) (m : Int) (h0 : 0 ≤ m) (h1 : m ≤ 1152921504606846976) (ha : a ≤ 140737488355328) (hb : b ≤ 140737488355328) (hc : c ≤ 140737488355328) (hd : d ≤ 140737488355328) :
    Ev (fun k => laws_heldDisk.f k (mksNode m a) (mksEntry (m + 3 * (a : Int)) b) (mksEntry (m + 3 * (a : Int) + 2 * (b : Int)) c) (mksString (m + 3 * (a : Int) + 2 * (b : Int) + 2 * (c : Int)) d) e f m) (m + 3 * (a : Int) + 2 * (b : Int) + 2 * (c : Int) + 1 * (d : Int)) := by
  unfold laws_heldDisk.f
  refine Ev.bind (heldNodeS_ev m h0 (by omega) a ha) (Ev.neg (by omega) ?_)
  refine Ev.bind (heldEntryS_ev (m + 3 * (a : Int)) (by omega) (by omega) b hb) (Ev.neg (by omega) ?_)
  refine Ev.bind (heldEntryS_ev (m + 3 * (a : Int) + 2 * (b : Int)) (by omega) (by omega) c hc) (Ev.neg (by omega) ?_)
  refine Ev.bind (heldStringS_ev (m + 3 * (a : Int) + 2 * (b : Int) + 2 * (c : Int)) (by omega) (by omega) d hd) (Ev.neg (by omega) ?_)
  exact Ev.now _
theorem eqNodeS_l0 (xs : List S70) (hl : xs.length ≤ 9223372036854775806) (n : Nat) : ∀ (i : Nat), i + n = xs.length → Ev (fun k => laws_eqNodeS.l0 k xs xs (i : Int)) true := by
  induction n with
  | zero =>
    intro i hi
    refine Ev.step (fun k => by rw [laws_eqNodeS.l0]) ?_
    exact Ev.neg (by omega) (Ev.now _)
  | succ n ih =>
    intro i hi
    refine Ev.step (fun k => by rw [laws_eqNodeS.l0]) (Ev.pos (by omega) (Ev.pos (by omega) (Ev.pos (by omega) ?_)))
    rw [rd_INode xs i (by omega)]
    refine Ev.bind (Ev.const (r := true) ?_) (Ev.pos rfl ?_)
    · unfold laws_eqNode.f
      rw [if_pos rfl, if_pos rfl, if_pos rfl]
    rw [wrap64_id (by omega) (by omega)]
    exact ih (i + 1) (by omega)
theorem eqNodeS_refl (xs : List S70) (hl : xs.length ≤ 9223372036854775806) : Ev (fun k => laws_eqNodeS.f k xs xs) true := by
  unfold laws_eqNodeS.f
  exact Ev.pos rfl (eqNodeS_l0 xs hl xs.length 0 (by omega))
theorem eqEntryS_l0 (xs : List S104) (hl : xs.length ≤ 9223372036854775806) (n : Nat) : ∀ (i : Nat), i + n = xs.length → Ev (fun k => laws_eqEntryS.l0 k xs xs (i : Int)) true := by
  induction n with
  | zero =>
    intro i hi
    refine Ev.step (fun k => by rw [laws_eqEntryS.l0]) ?_
    exact Ev.neg (by omega) (Ev.now _)
  | succ n ih =>
    intro i hi
    refine Ev.step (fun k => by rw [laws_eqEntryS.l0]) (Ev.pos (by omega) (Ev.pos (by omega) (Ev.pos (by omega) ?_)))
    rw [rd_IEntry xs i (by omega)]
    refine Ev.bind (Ev.const (r := true) ?_) (Ev.pos rfl ?_)
    · unfold laws_eqEntry.f
      rw [if_pos rfl, if_pos rfl]
    rw [wrap64_id (by omega) (by omega)]
    exact ih (i + 1) (by omega)
theorem eqEntryS_refl (xs : List S104) (hl : xs.length ≤ 9223372036854775806) : Ev (fun k => laws_eqEntryS.f k xs xs) true := by
  unfold laws_eqEntryS.f
  exact Ev.pos rfl (eqEntryS_l0 xs hl xs.length 0 (by omega))
theorem eqStringS_l0 (xs : List ByteArray) (hl : xs.length ≤ 9223372036854775806) (n : Nat) : ∀ (i : Nat), i + n = xs.length → Ev (fun k => laws_eqStringS.l0 k xs xs (i : Int)) true := by
  induction n with
  | zero =>
    intro i hi
    refine Ev.step (fun k => by rw [laws_eqStringS.l0]) ?_
    exact Ev.neg (by omega) (Ev.now _)
  | succ n ih =>
    intro i hi
    refine Ev.step (fun k => by rw [laws_eqStringS.l0]) (Ev.pos (by omega) (Ev.pos (by omega) (Ev.pos (by omega) ?_)))
    refine Ev.pos rfl ?_
    rw [wrap64_id (by omega) (by omega)]
    exact ih (i + 1) (by omega)
theorem eqStringS_refl (xs : List ByteArray) (hl : xs.length ≤ 9223372036854775806) : Ev (fun k => laws_eqStringS.f k xs xs) true := by
  unfold laws_eqStringS.f
  exact Ev.pos rfl (eqStringS_l0 xs hl xs.length 0 (by omega))
theorem eqDisk_refl (a : List S70) (b c : List S104) (d : List ByteArray) (e f : Int) (ha : a.length ≤ 9223372036854775806) (hb : b.length ≤ 9223372036854775806) (hc : c.length ≤ 9223372036854775806) (hd : d.length ≤ 9223372036854775806) :
    Ev (fun k => laws_eqDisk.f k a b c d e f a b c d e f) true := by
  unfold laws_eqDisk.f
  refine Ev.bind (eqNodeS_refl a ha) (Ev.pos rfl (Ev.bind (eqEntryS_refl b hb) (Ev.pos rfl (Ev.bind (eqEntryS_refl c hc) (Ev.pos rfl (Ev.bind (eqStringS_refl d hd) (Ev.pos rfl ?_)))))))
  exact Ev.pos rfl (Ev.pos rfl (Ev.now _))
theorem FnExactDiskNew : laws_FnExactDiskNew.Pure := by
  intro n hn
  refine Ev.rounds (g := fun k => laws_FnExactDiskNew.f k n) ?_
  unfold laws_FnExactDiskNew.f
  have hs : spec_DiskNew.f n = some ([], [], [], [], mx 0 n, 1) := by
    unfold spec_DiskNew.f mx
    by_cases h : n < 0
    · rw [if_pos h, if_neg (by omega)]
    · rw [if_neg h]
      by_cases h0 : 0 < n
      · rw [if_pos h0]
      · rw [if_neg h0, show n = 0 by omega]
  have hi : impl_DiskNew.f n = some ([], [], [], [], mx 0 n, 1) := rfl
  rw [hs, hi]
  refine Ev.bind (Ev.const rfl) (Ev.bind (Ev.const rfl) ?_)
  refine Ev.bind (eqDisk_refl [] [] [] [] (mx 0 n) 1 (by decide) (by decide) (by decide) (by decide)) (Ev.pos rfl ?_)
  refine Ev.bind (markDisk_ev [] [] [] [] (mx 0 n) 1 1 (by decide) (by decide) (by decide) (by decide) (by decide) (by decide)) ?_
  have hh := heldDisk_ev 0 0 0 0 (mx 0 n) 1 1 (by decide) (by decide) (by decide) (by decide) (by decide) (by decide)
  refine Ev.bind hh (Ev.neg (by decide) (Ev.pos rfl ?_))
  refine Ev.bind (Ev.const rfl) ?_
  refine Ev.bind (eqDisk_refl [] [] [] [] (mx 0 n) 1 (by decide) (by decide) (by decide) (by decide)) (Ev.pos rfl ?_)
  refine Ev.bind hh (Ev.neg (by decide) ?_)
  exact Ev.pos rfl (Ev.now _)
end Go.Proofs.Ytdjgnooacaoomaa.Pure
