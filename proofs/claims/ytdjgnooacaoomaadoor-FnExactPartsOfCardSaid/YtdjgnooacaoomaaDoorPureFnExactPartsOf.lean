/- The law FnExactPartsOf answers true for every line: the program's PartsOf tells what the reference's tells, in memory that nothing else shares. Conditions: those of the given row, and no others. -/
import Derived.Test.YtdjgnooacaoomaaDoorMFnExactPartsOfx2
namespace Go.Proofs.YtdjgnooacaoomaaDoor.Pure
open Go.RowKit Go.Proofs.YtdjgnooacaoomaaDoor.MFnExactPartsOf Go.Proofs.YtdjgnooacaoomaaDoorW.PrintWords Go.Proofs.YtdjgnooacaoomaaDoorW.PrintLast Go.Proofs.YtdjgnooacaoomaaDoorW.PrintMore
set_option linter.unusedVariables false
set_option linter.unusedSimpArgs false
/-! ### Whole numbers and bits -/
theorem wrap64_id {x : Int} (h0 : -9223372036854775808 ≤ x) (h1 : x ≤ 9223372036854775807) : wrap64 x = x := by unfold wrap64; omega
theorem wf_i64 {x : Int} (h : (Lit.int .i64 x).wf = true) : -9223372036854775808 ≤ x ∧ x ≤ 9223372036854775807 := by
  simp only [Lit.wf, IntKind.min, IntKind.max, IntKind.signed, IntKind.bits, Bool.and_eq_true, decide_eq_true_eq, if_true] at h
  omega
theorem mod_toNat_nat (a : Nat) (m : Nat) : (((a : Int) % (m : Int)).toNat) = a % m := by
  rw [← Int.natCast_emod, Int.toNat_natCast]
theorem bv_mask (j : Nat) (hj : j < 64) (x : Int) : (BitVec.ofInt 64 x &&& BitVec.ofInt 64 ((2 ^ j - 1 : Nat) : Int)).toNat = (x % ((2 ^ j : Nat) : Int)).toNat := by
  have hle : 2 ^ j ≤ 2 ^ 63 := Nat.pow_le_pow_right (by decide) (by omega)
  have hpos : 0 < 2 ^ j := Nat.two_pow_pos j
  have hlt : 2 ^ j - 1 < 2 ^ 64 := by omega
  have hd : (2 : Nat) ^ j ∣ 2 ^ 64 := Nat.pow_dvd_pow 2 (by omega)
  rw [BitVec.ofInt_natCast, BitVec.toNat_and, BitVec.toNat_ofNat, Nat.mod_eq_of_lt hlt, Nat.and_two_pow_sub_one_eq_mod, BitVec.toNat_ofInt]
  have h0 : 0 ≤ x % ((2 ^ 64 : Nat) : Int) := Int.emod_nonneg _ (by simp)
  have h1 : 0 ≤ x % ((2 ^ j : Nat) : Int) := Int.emod_nonneg _ (by omega)
  have : (((x % ((2 ^ 64 : Nat) : Int)).toNat % 2 ^ j : Nat) : Int) = x % ((2 ^ j : Nat) : Int) := by
    rw [Int.natCast_emod, Int.toNat_of_nonneg h0]
    exact Int.emod_emod_of_dvd x (Int.natCast_dvd_natCast.mpr hd)
  omega
/-- A mask of the lowest j bits, of any i64. -/
theorem i64_mask (j : Nat) (hj : j < 64) (x : Int) : Go.bits .and .i64 x (((2 ^ j - 1 : Nat) : Int)) = x % ((2 ^ j : Nat) : Int) := by
  have hpos : 0 < 2 ^ j := Nat.two_pow_pos j
  have hle : 2 ^ j ≤ 2 ^ 63 := Nat.pow_le_pow_right (by decide) (by omega)
  show IntKind.i64.wrap (((BitVec.ofInt 64 x &&& BitVec.ofInt 64 ((2 ^ j - 1 : Nat) : Int)).toNat : Nat) : Int) = _
  rw [bv_mask j hj x]
  have h1 : 0 ≤ x % ((2 ^ j : Nat) : Int) := Int.emod_nonneg _ (by omega)
  have h2 : x % ((2 ^ j : Nat) : Int) < ((2 ^ j : Nat) : Int) := Int.emod_lt_of_pos _ (by omega)
  rw [Int.toNat_of_nonneg h1, IntKind.wrap_i64]
  have h3 : ((2 ^ j : Nat) : Int) ≤ ((2 ^ 63 : Nat) : Int) := Int.ofNat_le.mpr hle
  have h5 : ((2 ^ 63 : Nat) : Int) = 9223372036854775808 := by decide
  omega
theorem i64_mask32 (x : Int) : Go.bits .and .i64 x 4294967295 = x % 4294967296 := i64_mask 32 (by decide) x
theorem i64_mask8 (x : Int) : Go.bits .and .i64 x 255 = x % 256 := i64_mask 8 (by decide) x
theorem i64_mask7 (x : Int) : Go.bits .and .i64 x 127 = x % 128 := i64_mask 7 (by decide) x
theorem i64_mask4 (x : Int) : Go.bits .and .i64 x 15 = x % 16 := i64_mask 4 (by decide) x
theorem i64_mask1 (x : Int) : Go.bits .and .i64 x 1 = x % 2 := i64_mask 1 (by decide) x
theorem xor_nat (k : IntKind) (j : Nat) (hj : j ≤ k.bits) (hk : ∀ n : Int, 0 ≤ n → n < 2 ^ j → k.wrap n = n) (a b : Nat) (ha : a < 2 ^ j) (hb : b < 2 ^ j) :
    Go.bits .xor k a b = ((a ^^^ b : Nat) : Int) := by
  have hp : 2 ^ j ≤ 2 ^ k.bits := Nat.pow_le_pow_right (by decide) hj
  have ha' : a % 2 ^ k.bits = a := Nat.mod_eq_of_lt (Nat.lt_of_lt_of_le ha hp)
  have hb' : b % 2 ^ k.bits = b := Nat.mod_eq_of_lt (Nat.lt_of_lt_of_le hb hp)
  simp only [Go.bits, BitVec.ofInt_natCast, BitVec.toNat_xor, BitVec.toNat_ofNat, ha', hb']
  exact hk _ (Int.natCast_nonneg _) (by exact_mod_cast Nat.xor_lt_two_pow ha hb)
theorem wraps_i64 (n : Int) (h0 : 0 ≤ n) (h1 : n < 2 ^ 63) : IntKind.i64.wrap n = n := by rw [IntKind.wrap_i64]; omega
theorem wraps_u32 (n : Int) (h0 : 0 ≤ n) (h1 : n < 2 ^ 32) : IntKind.u32.wrap n = n := by rw [IntKind.wrap_u32]; omega
theorem i64_xor (a b : Nat) (ha : a < 2 ^ 63) (hb : b < 2 ^ 63) : Go.bits .xor .i64 a b = ((a ^^^ b : Nat) : Int) := xor_nat .i64 63 (by decide) wraps_i64 a b ha hb
theorem u32_xor (a b : Nat) (ha : a < 2 ^ 32) (hb : b < 2 ^ 32) : Go.bits .xor .u32 a b = ((a ^^^ b : Nat) : Int) := xor_nat .u32 32 (by decide) wraps_u32 a b ha hb
theorem i64_or (a b : Nat) (ha : a < 2 ^ 63) (hb : b < 2 ^ 63) : Go.bits .or .i64 a b = ((a ||| b : Nat) : Int) := (Go.bits_nat .i64 63 (by decide) wraps_i64 a b ha hb).2
theorem u8_or (a b : Nat) (ha : a < 2 ^ 8) (hb : b < 2 ^ 8) : Go.bits .or .u8 a b = ((a ||| b : Nat) : Int) := (Go.bits_nat .u8 8 (by decide) Go.wraps_u8 a b ha hb).2
theorem u32_and1 (a : Nat) (ha : a < 2 ^ 32) : Go.bits .and .u32 a 1 = ((a % 2 : Nat) : Int) := by
  rw [show (1 : Int) = ((1 : Nat) : Int) from rfl, (Go.bits_nat .u32 32 (by decide) wraps_u32 a 1 ha (by decide)).1, show (1 : Nat) = 2 ^ 1 - 1 from rfl, Nat.and_two_pow_sub_one_eq_mod]
/-! ### Bytes of a text -/
theorem bt_list (s : ByteArray) (i : Nat) (h : i < s.data.toList.length) : bt s (i : Int) = ((s.data.toList[i]).toNat : Int) := by
  have h' : i < s.size := by rw [Array.length_toList] at h; exact h
  have hn : (i : Int).toNat < s.size := by rw [Int.toNat_natCast]; exact h'
  rw [← bt_at s i hn]
  rfl
theorem size_list (s : ByteArray) : s.data.toList.length = s.size := by rw [Array.length_toList]; rfl
theorem drop_cons (s : ByteArray) (i : Nat) (h : i < s.size) : s.data.toList.drop i = s.data.toList[i]'(by rw [size_list]; exact h) :: s.data.toList.drop (i + 1) :=
  List.drop_eq_getElem_cons (by rw [size_list]; exact h)
/-! ### From some number of rounds on -/
section
variable {α : Type} {f g : Nat → Option α} {r : α} {c : Prop} [Decidable c]
theorem Ev.pos (h : c) (e : Ev f r) : Ev (fun k => if c then f k else g k) r := Ev.congr (fun _ => if_pos h) e
theorem Ev.neg (h : ¬ c) (e : Ev g r) : Ev (fun k => if c then f k else g k) r := Ev.congr (fun _ => if_neg h) e
theorem Ev.const {o : Option α} (h : o = some r) : Ev (fun _ => o) r := ⟨0, fun _ _ => h⟩
theorem Ev.at (K : Nat) (h : ∀ k, K ≤ k → f k = some r) : Ev f r := ⟨K, h⟩
theorem Ev.of_eq {r' : α} (e : Ev f r) (h : r = r') : Ev f r' := h ▸ e
end
theorem Ev.both {α β : Type} {f : Nat → Option α} {g : Nat → Option β} {a : α} {b : β} (h : Ev f a) (h' : Ev g b) : ∃ k, f k = some a ∧ g k = some b := by
  obtain ⟨K, h⟩ := h
  obtain ⟨K', h'⟩ := h'
  exact ⟨max K K', h _ (by omega), h' _ (by omega)⟩
/-! ### Texts as lists of bytes -/
def mkT (l : List UInt8) : ByteArray := ⟨l.toArray⟩
theorem mkT_list (l : List UInt8) : (mkT l).data.toList = l := rfl
theorem ba_ext {a b : ByteArray} (h : a.data.toList = b.data.toList) : a = b := by
  cases a; cases b
  exact congrArg ByteArray.mk (Array.toList_inj.1 h)
theorem mkT_of (a : ByteArray) : mkT a.data.toList = a := ba_ext rfl
theorem toList_app2 (a b : ByteArray) : (a ++ b).data.toList = a.data.toList ++ b.data.toList := by rw [ByteArray.data_append, Array.toList_append]
theorem mkT_size (l : List UInt8) : (mkT l).size = l.length := by rw [← size_list, mkT_list]
def finT (out : List ByteArray) : List ByteArray × Bool := if 12 < out.length then ([], false) else (out, true)
def endT (cur : List UInt8) (out : List ByteArray) : List ByteArray := if cur = [] then out else out ++ [mkT cur]
def scanT : List UInt8 → List ByteArray → List UInt8 → List ByteArray × Bool
  | cur, out, [] => finT (endT cur out)
  | cur, out, c :: l => if badn (c.toNat : Int) = true then ([], false) else if c.toNat = 32 then scanT [] (endT cur out) l else scanT (cur ++ [c]) out l
theorem isSp_32 : ∀ c : UInt8, badn (c.toNat : Int) = false → Go.Lib.isSp c = decide (c.toNat = 32) := by
  intro c h
  unfold badn at h
  simp only [Bool.or_eq_false_iff, decide_eq_false_iff_not] at h
  unfold Go.Lib.isSp
  have key : ∀ n : Nat, n < 256 → n ≠ c.toNat → (c == UInt8.ofNat n) = false := fun n hn hne => beq_eq_false_iff_ne.mpr (fun e => hne (by rw [e, UInt8.toNat_ofNat_of_lt' hn]))
  rw [show (9 : UInt8) = UInt8.ofNat 9 from rfl, show (10 : UInt8) = UInt8.ofNat 10 from rfl, show (11 : UInt8) = UInt8.ofNat 11 from rfl, show (12 : UInt8) = UInt8.ofNat 12 from rfl, show (13 : UInt8) = UInt8.ofNat 13 from rfl]
  rw [key 9 (by decide) (by omega), key 10 (by decide) (by omega), key 11 (by decide) (by omega), key 12 (by decide) (by omega), key 13 (by decide) (by omega)]
  simp only [Bool.false_or]
  by_cases e : c.toNat = 32
  · rw [decide_eq_true e]
    exact beq_iff_eq.mpr (UInt8.toNat_inj.mp e)
  · rw [decide_eq_false e]
    exact beq_eq_false_iff_ne.mpr (fun h => e (by rw [h]; rfl))
theorem scanT_eq : ∀ (l cur : List UInt8) (out : List ByteArray), scanT cur out l = if l.any (fun c => badn (c.toNat : Int)) = true then ([], false) else finT (out ++ (Go.Lib.fieldsGo cur l).map mkT)
  | [], cur, out => by
    rw [scanT, Go.Lib.fieldsGo]
    unfold endT
    by_cases h : cur = []
    · subst h; simp
    · rw [if_neg h, if_neg (by simp)]
      have : cur.isEmpty = false := by cases cur <;> simp_all
      rw [this]; rfl
  | c :: l, cur, out => by
    rw [scanT, List.any_cons]
    cases hb : badn (c.toNat : Int) with
    | true => simp
    | false =>
      rw [if_neg Bool.false_ne_true, Bool.false_or, Go.Lib.fieldsGo, isSp_32 c hb]
      by_cases e : c.toNat = 32
      · rw [if_pos e, scanT_eq l [] _, if_pos (decide_eq_true e)]
        unfold endT
        by_cases h : cur = []
        · subst h; rw [if_pos rfl]; rfl
        · rw [if_neg h]
          have : cur.isEmpty = false := by cases cur <;> simp_all
          rw [this, if_neg Bool.false_ne_true, List.map_cons, List.append_assoc]; rfl
      · rw [if_neg e, scanT_eq l (cur ++ [c]) out, if_neg (show ¬ decide (c.toNat = 32) = true by rw [decide_eq_false e]; exact Bool.false_ne_true)]
theorem bytesOf_any (s : ByteArray) : (bytesOf s).any badn = s.data.toList.any (fun c => badn (c.toNat : Int)) := by
  unfold bytesOf
  rw [List.any_map]; rfl
theorem partsOf_scan (s : ByteArray) (hs : s.size ≤ 600) : partsOf s = scanT [] [] s.data.toList := by
  unfold partsOf
  rw [if_neg (by omega), bytesOf_any, scanT_eq]
  split
  · rfl
  · unfold finT Go.Lib.fields
    rw [List.nil_append, List.length_map]; rfl
theorem extract_T (s : ByteArray) (i j : Nat) : s.extract i j = mkT ((s.data.toList.drop i).take (j - i)) := by
  apply ba_ext
  rw [mkT_list, ByteArray.data_extract, Array.toList_extract, List.extract_eq_take_drop]
theorem spec_PartsOf_step (s : ByteArray) (hs : s.size ≤ 600) (i b : Nat) (hi : i ≤ s.size) (hb : b ≤ i) (out : List ByteArray) (ho : out.length ≤ i) (r : List ByteArray × Bool)
    (hn : Ev (fun k => spec_PartsOf.l0 k s (endT ((s.data.toList.drop b).take (i - b)) out) ((i : Int) + 1) ((i : Int) + 1)) r) : Ev (fun k => spec_PartsOf.j2 k s out (b : Int) (i : Int) false) r := by
  have hl : s.data.toList.length = s.size := size_list s
  refine Ev.step (fun k => by rw [spec_PartsOf.j2]) (Ev.neg Bool.false_ne_true ?_)
  rw [wrap64_id (x := (i : Int) + 1) (by omega) (by omega)]
  by_cases h : b < i
  · refine Ev.pos (by omega) (Ev.pos (by omega) (Ev.pos (by omega) (Ev.pos (by omega) (Ev.pos (by omega) ?_))))
    rw [Int.toNat_natCast, Int.toNat_natCast, extract_T]
    unfold endT at hn
    rw [if_neg (fun e => by
      have := congrArg List.length e
      rw [List.length_take, List.length_drop, hl, List.length_nil] at this
      omega)] at hn
    exact hn
  · refine Ev.neg (by omega) ?_
    unfold endT at hn
    rw [if_pos (by rw [show i - b = 0 by omega]; rfl)] at hn
    exact hn
theorem endT_length (cur : List UInt8) (out : List ByteArray) : (endT cur out).length ≤ out.length + 1 := by
  unfold endT
  split
  · omega
  · rw [List.length_append, List.length_singleton]; omega
theorem spec_PartsOf_l0 (s : ByteArray) (hs : s.size ≤ 600) (n : Nat) : ∀ (i b : Nat) (out : List ByteArray), i + n = s.size → b ≤ i → out.length ≤ i →
    Ev (fun k => spec_PartsOf.l0 k s out (b : Int) (i : Int)) (scanT ((s.data.toList.drop b).take (i - b)) out (s.data.toList.drop i)) := by
  have hl : s.data.toList.length = s.size := size_list s
  induction n with
  | zero =>
    intro i b out hi hb ho
    refine Ev.step (fun k => by rw [spec_PartsOf.l0]) (Ev.pos (by omega) (Ev.neg (by omega) ?_))
    refine Ev.step (fun k => by rw [spec_PartsOf.j1]) (Ev.neg Bool.false_ne_true (Ev.neg (by omega) ?_))
    refine spec_PartsOf_step s hs i b (by omega) hb out ho _ ?_
    have hd : s.data.toList.drop i = [] := List.drop_eq_nil_of_le (by omega)
    rw [hd, scanT]
    refine Ev.step (fun k => by rw [spec_PartsOf.l0]) (Ev.neg (by omega) ?_)
    unfold finT
    by_cases h : 12 < (endT ((s.data.toList.drop b).take (i - b)) out).length
    · rw [if_pos h]; exact Ev.pos (by omega) (Ev.now _)
    · rw [if_neg h]; exact Ev.neg (by omega) (Ev.now _)
  | succ n ih =>
    intro i b out hi hb ho
    have hlt : i < s.size := by omega
    refine Ev.step (fun k => by rw [spec_PartsOf.l0]) (Ev.pos (by omega) (Ev.pos (by omega) (Ev.pos (by omega) ?_)))
    have hbt := bt_list s i (by omega)
    rw [drop_cons s i hlt, scanT, hbt]
    have ih1 := ih (i + 1) b out (by omega) (by omega) (by omega)
    have ih2 := ih (i + 1) (i + 1) (endT ((s.data.toList.drop b).take (i - b)) out) (by omega) (by omega) (by have := endT_length ((s.data.toList.drop b).take (i - b)) out; omega)
    have hcur : (s.data.toList.drop b).take (i + 1 - b) = (s.data.toList.drop b).take (i - b) ++ [s.data.toList[i]'(by omega)] := by
      rw [show i + 1 - b = (i - b) + 1 by omega, List.take_succ_eq_append_getElem (by rw [List.length_drop]; omega)]
      congr 2
      rw [List.getElem_drop]
      congr 1
      omega
    rw [hcur] at ih1
    rw [Nat.sub_self, List.take_zero] at ih2
    generalize s.data.toList[i]'(by omega) = c at hbt ih1 ⊢
    have go : ∀ bd, bd = badn (c.toNat : Int) → Ev (fun k => spec_PartsOf.j1 k s out (b : Int) (i : Int) bd) (if bd = true then ([], false) else if c.toNat = 32 then scanT [] (endT ((s.data.toList.drop b).take (i - b)) out) (s.data.toList.drop (i + 1)) else scanT ((s.data.toList.drop b).take (i - b) ++ [c]) out (s.data.toList.drop (i + 1))) := by
      intro bd _
      cases bd with
      | true =>
        rw [if_pos rfl]
        exact Ev.step (fun k => by rw [spec_PartsOf.j1]) (Ev.pos rfl (Ev.now _))
      | false =>
        refine Ev.step (fun k => by rw [spec_PartsOf.j1]) (Ev.neg Bool.false_ne_true (Ev.pos (by omega) (Ev.pos (by omega) ?_)))
        rw [hbt, if_neg Bool.false_ne_true]
        by_cases e : c.toNat = 32
        · rw [if_pos e, show (((c.toNat : Nat) : Int) != 32) = false from bne_eq_false_iff_eq.mpr (by omega)]
          exact spec_PartsOf_step s hs i b (by omega) hb out ho _ ih2
        · rw [if_neg e, show (((c.toNat : Nat) : Int) != 32) = true from bne_iff_ne.mpr (by omega)]
          refine Ev.step (fun k => by rw [spec_PartsOf.j2]) (Ev.pos rfl ?_)
          rw [wrap64_id (x := (i : Int) + 1) (by omega) (by omega)]
          exact ih1
    by_cases h1 : ((c.toNat : Nat) : Int) < 32
    · have hbd : badn (c.toNat : Int) = true := by unfold badn; rw [decide_eq_true h1]; rfl
      rw [hbd]
      exact Ev.pos h1 (go true hbd.symm)
    · have hbd : badn (c.toNat : Int) = decide (((c.toNat : Nat) : Int) > 126) := by unfold badn; rw [decide_eq_false h1, Bool.false_or]
      rw [hbd]
      exact Ev.neg h1 (go _ hbd.symm)
theorem spec_PartsOf_ev (s : ByteArray) : Ev (fun k => spec_PartsOf.f k s) (partsOf s) := by
  unfold spec_PartsOf.f
  refine Ev.bind (Ev.const rfl) ?_
  by_cases h : 600 < s.size
  · unfold partsOf
    rw [if_pos h]
    exact Ev.pos (by omega) (Ev.now _)
  · rw [partsOf_scan s (by omega)]
    exact Ev.neg (by omega) (spec_PartsOf_l0 s (by omega) s.size 0 0 [] (by omega) (Nat.le_refl _) (Nat.zero_le _))
theorem partsOf_short (s : ByteArray) : (partsOf s).1.length ≤ 12 := by
  unfold partsOf
  split
  · exact Nat.zero_le _
  · split
    · exact Nat.zero_le _
    · split
      · exact Nat.zero_le _
      · rw [List.length_map]; omega
theorem rd_S (xs : List ByteArray) (i : Nat) (h : i < xs.length) : rdOf ByteArray.empty xs (i : Int) = xs[i] := by
  unfold rdOf
  rw [Int.toNat_natCast, List.getD_eq_getElem?_getD, List.getElem?_eq_getElem h]; rfl
theorem eqStringS_l0 (xs : List ByteArray) (hl : xs.length ≤ 9223372036854775806) (n : Nat) : ∀ (i : Nat), i + n = xs.length → Ev (fun k => laws_eqStringS.l0 k xs xs (i : Int)) true := by
  induction n with
  | zero =>
    intro i hi
    refine Ev.step (fun k => by rw [laws_eqStringS.l0]) ?_
    exact Ev.neg (by omega) (Ev.now _)
  | succ n ih =>
    intro i hi
    refine Ev.step (fun k => by rw [laws_eqStringS.l0]) (Ev.pos (by omega) (Ev.pos (by omega) (Ev.pos (by omega) ?_)))
    refine Ev.pos rfl ?_
    rw [wrap64_id (by omega) (by omega)]
    exact ih (i + 1) (by omega)
theorem eqStringS_refl (xs : List ByteArray) (hl : xs.length ≤ 9223372036854775806) : Ev (fun k => laws_eqStringS.f k xs xs) true := by
  unfold laws_eqStringS.f
  exact Ev.pos rfl (eqStringS_l0 xs hl xs.length 0 (by omega))
theorem ba_size_append (a b : ByteArray) : (a ++ b).size = a.size + b.size := ByteArray.size_append
theorem markText_l0 (f : Nat) : ∀ (x : Nat) (acc : ByteArray), x < 10 ^ f → x < 2 ^ 63 → acc.size + f < 1000 → ∃ r, Ev (fun k => laws_markText.l0 k (x : Int) acc) r := by
  induction f with
  | zero =>
    intro x acc hx _ ha
    obtain rfl : x = 0 := by simpa using hx
    refine ⟨(⟨#[109]⟩ : ByteArray) ++ acc, ?_⟩
    refine Ev.step (fun k => by rw [laws_markText.l0]) ?_
    refine Ev.neg (by decide) ?_
    exact Ev.pos (by omega) (Ev.now _)
  | succ f ih =>
    intro x acc hx hb ha
    by_cases h : x = 0
    · subst h
      refine ⟨(⟨#[109]⟩ : ByteArray) ++ acc, ?_⟩
      refine Ev.step (fun k => by rw [laws_markText.l0]) ?_
      refine Ev.neg (by decide) ?_
      exact Ev.pos (by omega) (Ev.now _)
    · obtain ⟨r, hr⟩ := ih (x / 10) ((strOfNums [(wrap64 (48 + (Int.tmod (x : Int) 10))) % 256]) ++ acc) (by rw [Nat.pow_succ] at hx; exact Nat.div_lt_of_lt_mul (by rw [Nat.mul_comm]; exact hx)) (by omega) (by rw [ba_size_append, strOfNums_size, List.length_singleton]; omega)
      refine ⟨r, ?_⟩
      refine Ev.step (fun k => by rw [laws_markText.l0]) ?_
      refine Ev.pos (by omega) ?_
      refine Ev.bind (Ev.const rfl) ?_
      refine Ev.pos (by rw [strOfNums_size, List.length_singleton]; omega) ?_
      have e : Int.tdiv (x : Int) 10 = ((x / 10 : Nat) : Int) := by rw [Int.tdiv_eq_ediv_of_nonneg (by omega)]; omega
      rw [e, wrap64_id (x := ((x / 10 : Nat) : Int)) (by omega) (by omega)]
      exact hr
theorem markText_some (m : Int) (h : m < 2 ^ 63) : ∃ r, Ev (fun k => laws_markText.f k m) r := by
  unfold laws_markText.f
  by_cases h0 : m ≤ 0
  · exact ⟨_, Ev.pos h0 (Ev.now _)⟩
  · obtain ⟨x, rfl⟩ := Int.eq_ofNat_of_zero_le (show 0 ≤ m by omega)
    have hx : x < 2 ^ 63 := by omega
    obtain ⟨r, hr⟩ := markText_l0 20 x ⟨#[]⟩ (Nat.lt_of_lt_of_le hx (by decide)) hx (by decide)
    exact ⟨r, Ev.neg h0 hr⟩
open Classical in
/-- The mark of a number. -/
noncomputable def markOf (m : Int) : ByteArray := if h : m < 2 ^ 63 then Classical.choose (markText_some m h) else ⟨#[]⟩
theorem markText_ev (m : Int) (h : m < 2 ^ 63) : Ev (fun k => laws_markText.f k m) (markOf m) := by
  unfold markOf
  rw [dif_pos h]
  exact Classical.choose_spec (markText_some m h)
noncomputable def mksString (m : Int) (n : Nat) : List ByteArray := (List.range n).map fun (j : Nat) => (markOf (m + j))
theorem mksString_length (m : Int) (n : Nat) : (mksString m n).length = n := by unfold mksString; rw [List.length_map, List.length_range]
theorem mksString_get (m : Int) (n i : Nat) (h : i < n) : (mksString m n)[i]? = some (markOf (m + (i : Int))) := by
  unfold mksString
  rw [List.getElem?_map, List.getElem?_range h]; rfl
theorem mksString_at (m : Int) (n i : Nat) (h : i < (mksString m n).length) : (mksString m n)[i] = (markOf (m + (i : Int))) := by
  have h1 := mksString_get m n i (by rw [mksString_length] at h; exact h)
  rw [List.getElem?_eq_getElem h] at h1
  exact Option.some.inj h1
theorem markStringS_l0 (m : Int) (h0 : 0 ≤ m) (h1 : m ≤ 4611686018427387904) (L : Nat) (hL : L ≤ 140737488355328) (n : Nat) : ∀ (i : Nat) (xs : List ByteArray), i + n = L → xs.length = L → (∀ j, j < i → xs[j]? = (mksString m L)[j]?) →
    Ev (fun k => laws_markStringS.l0 k xs (m + 1 * (i : Int)) (i : Int)) (m + 1 * (L : Int), mksString m L) := by
  induction n with
  | zero =>
    intro i xs hi hl hp
    refine Ev.step (fun k => by rw [laws_markStringS.l0]) (Ev.neg (by omega) (Ev.const ?_))
    obtain rfl : i = L := by omega
    refine congrArg some (congrArg (Prod.mk _) (List.ext_getElem? fun j => ?_))
    by_cases hj : j < i
    · exact hp j hj
    · rw [List.getElem?_eq_none (by omega), List.getElem?_eq_none (by rw [mksString_length]; omega)]
  | succ n ih =>
    intro i xs hi hl hp
    refine Ev.step (fun k => by rw [laws_markStringS.l0]) (Ev.pos (by omega) ?_)
    refine Ev.bind (markText_ev _ (by omega)) ?_
    refine Ev.pos (by omega) ?_
    rw [wrap64_id (x := m + 1 * (i : Int) + 1) (by omega) (by omega), wrap64_id (x := (i : Int) + 1) (by omega) (by omega), Int.toNat_natCast]
    have := ih (i + 1) (xs.set i (markOf (m + (i : Int)))) (by omega) (by rw [List.length_set]; exact hl) ?_
    · rw [show m + 1 * ((i + 1 : Nat) : Int) = m + 1 * (i : Int) + 1 by omega] at this
      refine Ev.congr (fun k => ?_) this
      rw [show ((markOf (m + 1 * (i : Int))) : ByteArray) = (markOf (m + (i : Int))) from by rw [show m + 1 * (i : Int) = m + (i : Int) by omega]]; rfl
    · intro j hj
      by_cases h : j < i
      · rw [List.getElem?_set_ne (by omega)]; exact hp j h
      · obtain rfl : j = i := by omega
        rw [List.getElem?_set_self (by omega), mksString_get _ _ _ (by omega)]
theorem markStringS_ev (xs : List ByteArray) (m : Int) (h0 : 0 ≤ m) (h1 : m ≤ 4611686018427387904) (hL : xs.length ≤ 140737488355328) : Ev (fun k => laws_markStringS.f k xs m) (m + 1 * (xs.length : Int), mksString m xs.length) := by
  unfold laws_markStringS.f
  have := markStringS_l0 m h0 h1 xs.length hL xs.length 0 xs (by omega) rfl (fun j hj => absurd hj (Nat.not_lt_zero _))
  rw [show m + 1 * ((0 : Nat) : Int) = m by omega] at this
  exact this
theorem heldStringS_l0 (m : Int) (h0 : 0 ≤ m) (h1 : m ≤ 4611686018427387904) (L : Nat) (hL : L ≤ 140737488355328) (n : Nat) : ∀ (i : Nat), i + n = L →
    Ev (fun k => laws_heldStringS.l0 k (mksString m L) (m + 1 * (i : Int)) (i : Int)) (m + 1 * (L : Int)) := by
  induction n with
  | zero =>
    intro i hi
    obtain rfl : i = L := by omega
    refine Ev.step (fun k => by rw [laws_heldStringS.l0]) ?_
    exact Ev.neg (by rw [mksString_length]; omega) (Ev.now _)
  | succ n ih =>
    intro i hi
    refine Ev.step (fun k => by rw [laws_heldStringS.l0]) (Ev.pos (by rw [mksString_length]; omega) ?_)
    refine Ev.pos (by omega) (Ev.bind (markText_ev _ (by omega)) ?_)
    rw [rd_S _ i (by rw [mksString_length]; omega), mksString_at]
    refine Ev.pos (by rw [show m + 1 * (i : Int) = m + (i : Int) by omega]) ?_
    rw [wrap64_id (x := m + 1 * (i : Int) + 1) (by omega) (by omega), wrap64_id (x := (i : Int) + 1) (by omega) (by omega)]
    have := ih (i + 1) (by omega)
    rw [show m + 1 * ((i + 1 : Nat) : Int) = m + 1 * (i : Int) + 1 by omega] at this
    exact this
theorem heldStringS_ev (m : Int) (h0 : 0 ≤ m) (h1 : m ≤ 4611686018427387904) (L : Nat) (hL : L ≤ 140737488355328) : Ev (fun k => laws_heldStringS.f k (mksString m L) m) (m + 1 * (L : Int)) := by
  unfold laws_heldStringS.f
  have := heldStringS_l0 m h0 h1 L hL L 0 (by omega)
  rw [show m + 1 * ((0 : Nat) : Int) = m by omega] at this
  exact this
theorem FnExactPartsOf : laws_FnExactPartsOf.Pure := by
  intro s hs
  refine Ev.rounds (g := fun k => laws_FnExactPartsOf.f k s) ?_
  unfold laws_FnExactPartsOf.f
  by_cases h : (s.size : Int) > 1048576
  · exact Ev.pos h (Ev.now _)
  refine Ev.neg h ?_
  have e1 := spec_PartsOf_ev s
  have e2 : impl_PartsOf.f s = some (partsOf s) := by unfold impl_PartsOf.f; rw [if_pos (by omega)]
  have hn := partsOf_short s
  generalize partsOf s = r at e1 e2 hn
  obtain ⟨l, b⟩ := r
  have e3 := eqStringS_refl l (by show l.length ≤ _; have : l.length ≤ 12 := hn; omega)
  have hn : l.length ≤ 12 := hn
  refine Ev.bind e1 (Ev.bind (Ev.const e2) (Ev.bind e3 (Ev.pos rfl ?_)))
  show Ev (fun k => laws_FnExactPartsOf.j0 k s l b l (b != b)) true
  rw [bne_self_eq_false]
  refine Ev.step (fun k => by rw [laws_FnExactPartsOf.j0]) (Ev.neg Bool.false_ne_true ?_)
  have hm := markStringS_ev l 1 (by decide) (by decide) (by omega)
  have hh := heldStringS_ev 1 (by decide) (by decide) l.length (by omega)
  refine Ev.bind hm (Ev.bind hh (Ev.neg (by omega) (Ev.pos rfl ?_)))
  refine Ev.bind (Ev.const e2) (Ev.bind e3 (Ev.pos rfl ?_))
  show Ev (fun k => laws_FnExactPartsOf.j1 k (mksString 1 l.length) (1 + 1 * (l.length : Int)) (b != b)) true
  rw [bne_self_eq_false]
  refine Ev.step (fun k => by rw [laws_FnExactPartsOf.j1]) (Ev.neg Bool.false_ne_true ?_)
  refine Ev.bind hh (Ev.neg (by omega) ?_)
  exact Ev.pos rfl (Ev.now _)
end Go.Proofs.YtdjgnooacaoomaaDoor.Pure
