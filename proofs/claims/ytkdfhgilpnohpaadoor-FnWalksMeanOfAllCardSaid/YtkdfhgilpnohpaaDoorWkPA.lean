/- What the printed functions on rings come to: states, numbers, moves. -/
import Derived.Test.YtkdfhgilpnohpaaDoorMathRing
import Derived.Test.YtkdfhgilpnohpaaDoorWk4
import Derived.Test.YtkdfhgilpnohpaaDoorWk5
namespace Go.Proofs.YtkdfhgilpnohpaaDoor.WkP
open Go.RowKit Go.Proofs.YtkdfhgilpnohpaaDoor.Wk Go.Proofs.YtkdfhgilpnohpaaDoorW.PrintWords Go.Proofs.YtkdfhgilpnohpaaDoorW.PrintMore

/-! ### 1. Whole numbers -/
theorem w64 {x : Int} (h0 : -9223372036854775808 ≤ x) (h1 : x ≤ 9223372036854775807) : wrap64 x = x := by unfold wrap64; omega

theorem xor64 (a b : Nat) (ha : a < 2 ^ 62) (hb : b < 2 ^ 62) : Go.bits .xor .i64 a b = ((a ^^^ b : Nat) : Int) := by
  have ha' : a % 2 ^ 64 = a := Nat.mod_eq_of_lt (by omega)
  have hb' : b % 2 ^ 64 = b := Nat.mod_eq_of_lt (by omega)
  have hx : a ^^^ b < 2 ^ 62 := Nat.xor_lt_two_pow ha hb
  have hk : IntKind.i64.bits = 64 := rfl
  simp only [Go.bits, hk, BitVec.ofInt_natCast, BitVec.toNat_xor, BitVec.toNat_ofNat, ha', hb']
  rw [IntKind.wrap_i64]
  omega

theorem and64_1 (a : Nat) (ha : a < 2 ^ 62) : Go.bits .and .i64 a 1 = ((a % 2 : Nat) : Int) := by
  have ha' : a % 2 ^ 64 = a := Nat.mod_eq_of_lt (by omega)
  have hk : IntKind.i64.bits = 64 := rfl
  have h1 : (1 : Int) = ((1 : Nat) : Int) := rfl
  rw [h1]
  simp only [Go.bits, hk, BitVec.ofInt_natCast, BitVec.toNat_and, BitVec.toNat_ofNat, ha']
  have : a &&& 1 % 2 ^ 64 = a % 2 := by rw [show 1 % 2 ^ 64 = 1 from rfl, Nat.and_one_is_mod]
  rw [this, IntKind.wrap_i64]
  omega

theorem shl1 (r : Nat) (hr : r ≤ 40) : shl .i64 1 (r : Int) = ((2 ^ r : Nat) : Int) := by
  have h1 : 2 ^ r ≤ 2 ^ 40 := Nat.pow_le_pow_right (by omega) hr
  have h2 : (2 : Int) ^ r = ((2 ^ r : Nat) : Int) := by rw [Int.natCast_pow]; rfl
  unfold shl
  have hk : IntKind.i64.bits = 64 := rfl
  rw [hk, Int.toNat_natCast, Nat.min_eq_left (by omega), Int.one_mul, h2, IntKind.wrap_i64]
  generalize 2 ^ r = x at h1
  omega

theorem shr64 (n k : Nat) (hk : k ≤ 64) : shr .i64 (n : Int) (k : Int) = ((n / 2 ^ k : Nat) : Int) := by
  unfold shr
  have hb : IntKind.i64.bits = 64 := rfl
  rw [hb, Int.toNat_natCast, Nat.min_eq_left hk, Int.natCast_ediv, Int.natCast_pow]
  rfl

/-! ### 2. States -/
/-- The rings of a text, from the free end on. -/
def bl (s : ByteArray) : List Bool := s.data.toList.map (· == 49)
def okb (l : List UInt8) : Bool := l.all fun b => b == 48 || b == 49
/-- Is a text a state? -/
def stB (s : ByteArray) : Bool := decide (1 ≤ s.size) && decide (s.size ≤ 20) && okb s.data.toList
theorem bl_length (s : ByteArray) : (bl s).length = s.size := by rw [bl, List.length_map, data_length]
theorem stB_iff (s : ByteArray) : stB s = true ↔ 1 ≤ s.size ∧ s.size ≤ 20 ∧ okb s.data.toList = true := by simp [stB, and_assoc]
theorem bt_get (s : ByteArray) (i : Nat) (h : i < s.size) : bt s i = ((s.data.toList[i]'(by rw [data_length]; exact h)).toNat : Int) := by
  have : (i : Int).toNat = i := by omega
  simp [bt, this, h]; rfl
theorem bt_bl (s : ByteArray) (hs : okb s.data.toList = true) (i : Nat) (h : i < s.size) : bt s i = if (bl s)[i]'(by rw [bl_length]; exact h) = true then 49 else 48 := by
  have hl : i < s.data.toList.length := by rw [data_length]; exact h
  rw [bt_get s i h]
  have h2 := List.all_eq_true.1 hs _ (List.getElem_mem hl)
  simp only [bl, List.getElem_map]
  simp only [Bool.or_eq_true, beq_iff_eq] at h2
  rcases h2 with h2 | h2 <;> rw [h2] <;> simp
theorem dropWhile_nil {α : Type} (p : α → Bool) (l : List α) : l.dropWhile p = [] ↔ l.all p = true := by
  induction l with
  | nil => simp
  | cons a t ih => by_cases h : p a = true <;> simp [h, ih]
theorem trimS_nil (l cs : List UInt8) : Lib.trimS l cs = [] ↔ (l.all fun b => cs.contains b) = true := by
  unfold Lib.trimS Lib.trimLeftS Lib.trimRightS
  rw [dropWhile_nil]
  constructor
  · intro h
    have key : ∀ m : List UInt8, (m.dropWhile (cs.contains ·)).all (cs.contains ·) = true → m.all (cs.contains ·) = true := by
      intro m
      induction m with
      | nil => simp
      | cons a t ih => by_cases h : cs.contains a = true <;> simp_all
    have h2 : (l.reverse.dropWhile (cs.contains ·)).all (cs.contains ·) = true := by
      rw [List.all_reverse] at h; exact h
    have := key _ h2
    rwa [List.all_reverse] at this
  · intro h
    have : l.reverse.dropWhile (cs.contains ·) = [] := by rw [dropWhile_nil, List.all_reverse]; exact h
    rw [this]; rfl

theorem toList_nil (l : List UInt8) : ((⟨l.toArray⟩ : ByteArray).toList == ([] : List UInt8)) = decide (l = []) := by
  rw [Lib.toList_data]
  by_cases h : l = [] <;> simp [h]

theorem isState (s : ByteArray) (hs : s.size ≤ 140737488351232) : impl_IsState.f s = some (stB s) := by
  unfold impl_IsState.f impl_in.f
  by_cases h1 : (s.size : Int) ≥ 1
  · rw [if_pos h1]
    simp only [Option.bind_some]
    by_cases h2 : (s.size : Int) ≤ 20
    · have e : decide ((s.size : Int) ≤ 20) = true := decide_eq_true h2
      rw [e, if_pos rfl]
      have hc : strings_Trim.f s ⟨#[48, 49]⟩ = some ⟨(Lib.trimS s.data.toList [48, 49]).toArray⟩ := by
        unfold strings_Trim.f
        rw [if_pos ⟨by omega, by decide, by decide⟩]
      rw [hc]
      simp only [Option.bind_some]
      rw [toList_nil]
      have h3 : stB s = okb s.data.toList := by
        have a1 : decide (1 ≤ s.size) = true := decide_eq_true (by omega)
        have a2 : decide (s.size ≤ 20) = true := decide_eq_true (by omega)
        simp [stB, a1, a2]
      rw [h3]
      congr 1
      rw [Bool.eq_iff_iff, decide_eq_true_iff, trimS_nil]
      have : (fun b : UInt8 => [48, 49].contains b) = fun b => b == 48 || b == 49 := by
        funext b
        rw [Bool.eq_iff_iff]; simp
      rw [this]; rfl
    · have e : decide ((s.size : Int) ≤ 20) = false := decide_eq_false h2
      rw [e, if_neg (by decide)]
      have : stB s = false := by
        have a2 : decide (s.size ≤ 20) = false := decide_eq_false (by omega)
        simp [stB, a2]
      rw [this]
  · rw [if_neg h1]
    simp only [Option.bind_some]
    rw [if_neg (by decide)]
    have : stB s = false := by
      have a2 : decide (1 ≤ s.size) = false := decide_eq_false (by omega)
      simp [stB, a2]
    rw [this]

theorem goodLoop (s : ByteArray) (hs : s.size ≤ 20) (d : Nat) : ∀ i : Nat, i ≤ s.size → s.size - i = d → Ev (fun k => spec_riGood.l0 k s i) (okb (s.data.toList.drop i)) := by
  induction d with
  | zero =>
    intro i hi hd
    have : s.data.toList.drop i = [] := List.drop_of_length_le (by rw [data_length]; omega)
    rw [this]
    refine Ev.step (f := fun _ => some true) (fun k => ?_) (Ev.now _)
    simp only [spec_riGood.l0]
    rw [if_neg (by omega)]
  | succ d ih =>
    intro i hi hd
    have hlt : i < s.size := by omega
    have hl : i < s.data.toList.length := by rw [data_length]; exact hlt
    have h1 : wrap64 ((i : Int) + 1) = ((i + 1 : Nat) : Int) := by rw [w64 (by omega) (by omega)]; rfl
    have hb := bt_get s i hlt
    have hd2 : okb (s.data.toList.drop i) = ((s.data.toList[i] == 48 || s.data.toList[i] == 49) && okb (s.data.toList.drop (i + 1))) := by
      rw [List.drop_eq_getElem_cons hl]; rfl
    rw [hd2]
    by_cases h48 : s.data.toList[i] = 48
    · rw [h48]
      refine Ev.step (f := fun k => spec_riGood.l0 k s ((i + 1 : Nat) : Int)) (fun k => ?_) (ih (i + 1) (by omega) (by omega))
      simp only [spec_riGood.l0]
      rw [if_pos (by omega), if_pos (by omega), hb, h48, if_pos (by decide), h1]
    · by_cases h49 : s.data.toList[i] = 49
      · rw [h49]
        refine Ev.step (f := fun k => spec_riGood.l0 k s ((i + 1 : Nat) : Int)) (fun k => ?_) (ih (i + 1) (by omega) (by omega))
        simp only [spec_riGood.l0]
        rw [if_pos (by omega), if_pos (by omega), hb, h49, if_neg (by decide), if_pos (by decide), h1]
      · have e : (s.data.toList[i] == 48 || s.data.toList[i] == 49) = false := by rw [beq_eq_false_iff_ne.2 h48, beq_eq_false_iff_ne.2 h49]; rfl
        rw [e]
        refine Ev.step (f := fun _ => some false) (fun k => ?_) (Ev.now _)
        simp only [spec_riGood.l0]
        rw [if_pos (by omega), if_pos (by omega), hb, if_neg, if_neg]
        · intro q; exact h49 (UInt8.toNat_inj.1 (by have : (49 : UInt8).toNat = 49 := rfl; omega))
        · intro q; exact h48 (UInt8.toNat_inj.1 (by have : (48 : UInt8).toNat = 48 := rfl; omega))

theorem good (s : ByteArray) : Ev (fun k => spec_riGood.f k s) (stB s) := by
  unfold spec_riGood.f spec_l1In.f
  by_cases h1 : (s.size : Int) ≥ 1
  · rw [if_pos h1]
    simp only [Option.bind_some]
    by_cases h2 : (s.size : Int) ≤ 20
    · have e : decide ((s.size : Int) ≤ 20) = true := decide_eq_true h2
      rw [e]
      simp only [if_true]
      have h3 : stB s = okb (s.data.toList.drop 0) := by
        have a1 : decide (1 ≤ s.size) = true := decide_eq_true (by omega)
        have a2 : decide (s.size ≤ 20) = true := decide_eq_true (by omega)
        simp [stB, a1, a2]
      rw [h3]
      exact goodLoop s (by omega) s.size 0 (by omega) (by omega)
    · have e : decide ((s.size : Int) ≤ 20) = false := decide_eq_false h2
      have : stB s = false := by
        have a2 : decide (s.size ≤ 20) = false := decide_eq_false (by omega)
        simp [stB, a2]
      rw [e, this]
      simp only [Bool.false_eq_true, if_false]
      exact Ev.now _
  · have : stB s = false := by
      have a2 : decide (1 ≤ s.size) = false := decide_eq_false (by omega)
      simp [stB, a2]
    rw [if_neg h1, this]
    simp only [Option.bind_some, Bool.false_eq_true, if_false]
    exact Ev.now _
end Go.Proofs.YtkdfhgilpnohpaaDoor.WkP

/- What the printed functions on rings come to: numbers, means, fewest moves. -/
namespace Go.Proofs.YtkdfhgilpnohpaaDoor.WkP
open Go.RowKit Go.Proofs.YtkdfhgilpnohpaaDoor.Wk Go.Proofs.YtkdfhgilpnohpaaDoorW.PrintWords Go.Proofs.YtkdfhgilpnohpaaDoorW.PrintMore

/-- Are two texts states of as many rings? -/
def alB (a b : ByteArray) : Bool := stB a && stB b && a.size == b.size
theorem alB_iff (a b : ByteArray) : alB a b = true ↔ stB a = true ∧ stB b = true ∧ a.size = b.size := by simp [alB, and_assoc]

theorem alike (a b : ByteArray) (ha : a.size ≤ 140737488351232) (hb : b.size ≤ 140737488351232) : impl_alike.f a b = some (alB a b) := by
  unfold impl_alike.f alB
  rw [isState a ha, isState b hb]
  cases stB a <;> cases stB b <;> simp
  rw [Bool.eq_iff_iff]; simp; omega

theorem riTwo (a b : ByteArray) : Ev (fun k => spec_riTwo.f k a b) (alB a b) := by
  unfold spec_riTwo.f alB
  refine Ev.bind (good a) ?_
  cases stB a
  · exact Ev.now _
  · simp only [if_true, Bool.true_and]
    refine Ev.bind (good b) ?_
    cases stB b
    · exact Ev.now _
    · simp only [if_true, Bool.true_and]
      have : ((a.size : Int) == (b.size : Int)) = (a.size == b.size) := by rw [Bool.eq_iff_iff]; simp; omega
      rw [this]
      exact Ev.now _

/-- The number of a state. -/
def nm (s : ByteArray) : Nat := Rg.num (bl s)

theorem okb_st {s : ByteArray} (h : stB s = true) : okb s.data.toList = true := ((stB_iff s).1 h).2.2
theorem size_pos {s : ByteArray} (h : stB s = true) : 1 ≤ s.size := ((stB_iff s).1 h).1
theorem size_le {s : ByteArray} (h : stB s = true) : s.size ≤ 20 := ((stB_iff s).1 h).2.1
theorem pow_le {n : Nat} (h : n ≤ 20) : 2 ^ n ≤ 1048576 := Nat.pow_le_pow_right (by omega) h
theorem nm_lt (s : ByteArray) : nm s < 2 ^ s.size := by have := Rg.num_lt (bl s); rwa [bl_length] at this

theorem drop_bl (s : ByteArray) (i : Nat) (h : i < s.size) : (bl s).drop i = ((bl s)[i]'(by rw [bl_length]; exact h)) :: (bl s).drop (i + 1) := List.drop_eq_getElem_cons _

theorem gray_drop_lt (s : ByteArray) (h : s.size ≤ 20) (i : Nat) : Rg.gray ((bl s).drop i) < 1048576 := by
  have h1 := Rg.gray_lt ((bl s).drop i)
  have h2 : ((bl s).drop i).length ≤ 20 := by rw [List.length_drop, bl_length]; omega
  have := pow_le h2
  omega
theorem num_drop_lt (s : ByteArray) (h : s.size ≤ 20) (i : Nat) : Rg.num ((bl s).drop i) < 1048576 := by
  have h1 := Rg.num_lt ((bl s).drop i)
  have h2 : ((bl s).drop i).length ≤ 20 := by rw [List.length_drop, bl_length]; omega
  have := pow_le h2
  omega

theorem bitsLoop (s : ByteArray) (hs : stB s = true) : ∀ i : Nat, i ≤ s.size → Ev (fun k => impl_bits.l0 k s (Rg.gray ((bl s).drop i)) ((i : Int) - 1)) (Rg.gray (bl s)) := by
  intro i
  induction i with
  | zero =>
    intro _
    refine Ev.step (f := fun _ => some (Rg.gray (bl s) : Int)) (fun k => ?_) (Ev.now _)
    simp only [impl_bits.l0]
    rw [if_neg (by omega)]; rfl
  | succ i ih =>
    intro hi
    have hb := bt_bl s (okb_st hs) i (by omega)
    have hg := gray_drop_lt s (size_le hs) (i + 1)
    have e : Rg.gray ((bl s).drop i) = 2 * Rg.gray ((bl s).drop (i + 1)) + ((bl s)[i]'(by rw [bl_length]; omega)).toNat := by rw [drop_bl s i (by omega)]; rfl
    have hz := size_le hs
    refine Ev.step (f := fun k => impl_bits.l0 k s (Rg.gray ((bl s).drop i)) ((i : Int) - 1)) (fun k => ?_) (ih (by omega))
    simp only [impl_bits.l0]
    rw [if_pos (by omega), if_pos (by omega), if_pos (by omega)]
    have e1 : ((i + 1 : Nat) : Int) - 1 = (i : Int) := by omega
    rw [e1, hb, e, w64 (x := 2 * _) (by omega) (by omega), w64 (x := (i : Int) - 1) (by omega) (by omega)]
    congr 1
    cases (bl s)[i]'(by rw [bl_length]; omega)
    · simp; rw [w64 (by omega) (by omega)]
    · simp; rw [w64 (by omega) (by omega)]

theorem unrefLoop (g : Nat) : ∀ a : Nat, g < 2 ^ 40 → a < 2 ^ 40 → Ev (fun k => impl_unreflected.l0 k g a) ((a ^^^ Rg.unref g : Nat) : Int) := by
  induction g using Nat.strongRecOn with
  | _ g ih =>
    intro a hg ha
    by_cases h0 : g = 0
    · subst h0
      refine Ev.step (f := fun _ => some (a : Int)) (fun k => ?_) (by rw [Rg.unref_zero, Nat.xor_zero]; exact Ev.now _)
      simp only [impl_unreflected.l0]
      rw [if_neg (by omega)]
    · have h1 := ih (g / 2) (by omega) (a ^^^ g) (by omega) (Nat.xor_lt_two_pow ha hg)
      have e : a ^^^ Rg.unref g = (a ^^^ g) ^^^ Rg.unref (g / 2) := by rw [Rg.unref_half g, Nat.xor_assoc]
      rw [e]
      refine Ev.step (f := fun k => impl_unreflected.l0 k ((g / 2 : Nat) : Int) ((a ^^^ g : Nat) : Int)) (fun k => ?_) h1
      simp only [impl_unreflected.l0]
      rw [if_pos (by omega), xor64 a g (by omega) (by omega)]
      have : Int.tdiv (g : Int) 2 = ((g / 2 : Nat) : Int) := by rw [Int.tdiv_eq_ediv_of_nonneg (by omega)]; rfl
      rw [this, w64 (by omega) (by omega)]

theorem number (s : ByteArray) (hs : stB s = true) : Ev (fun k => impl_number.f k s) (nm s) := by
  unfold impl_number.f impl_bits.f impl_unreflected.f
  have hz := size_le hs
  have hz1 := size_pos hs
  have h1 := bitsLoop s hs s.size (Nat.le_refl _)
  have e : (bl s).drop s.size = [] := List.drop_of_length_le (by rw [bl_length]; omega)
  rw [e] at h1
  rw [w64 (by omega) (by omega)]
  refine Ev.bind h1 ?_
  have hg := gray_drop_lt s hz 0
  rw [List.drop_zero] at hg
  have h2 := unrefLoop (Rg.gray (bl s)) 0 (by omega) (by omega)
  rw [Nat.zero_xor, Rg.unref_gray] at h2
  exact Ev.bind h2 (Ev.now _)

theorem riNumberLoop (s : ByteArray) (hs : stB s = true) : ∀ i : Nat, i ≤ s.size → Ev (fun k => spec_riNumber.l0 k s (Rg.num ((bl s).drop i)) ((Rg.num ((bl s).drop i) % 2 : Nat) : Int) ((i : Int) - 1)) (nm s) := by
  intro i
  induction i with
  | zero =>
    intro _
    refine Ev.step (f := fun _ => some (nm s : Int)) (fun k => ?_) (Ev.now _)
    simp only [spec_riNumber.l0]
    rw [if_neg (by omega)]; rfl
  | succ i ih =>
    intro hi
    have hb := bt_bl s (okb_st hs) i (by omega)
    have hg := num_drop_lt s (size_le hs) (i + 1)
    have e : Rg.num ((bl s).drop i) = 2 * Rg.num ((bl s).drop (i + 1)) + ((bl s)[i]'(by rw [bl_length]; omega) ^^ (Rg.num ((bl s).drop (i + 1)) % 2 == 1)).toNat := by rw [drop_bl s i (by omega)]; rfl
    have hz := size_le hs
    refine Ev.step (f := fun k => spec_riNumber.l0 k s (Rg.num ((bl s).drop i)) ((Rg.num ((bl s).drop i) % 2 : Nat) : Int) ((i : Int) - 1)) (fun k => ?_) (ih (by omega))
    simp only [spec_riNumber.l0]
    rw [if_pos (by omega), if_pos (by omega), if_pos (by omega)]
    have e1 : ((i + 1 : Nat) : Int) - 1 = (i : Int) := by omega
    rw [e1, hb, e, w64 (x := 2 * _) (by omega) (by omega), w64 (x := (i : Int) - 1) (by omega) (by omega), w64 (x := 1 - _) (by omega) (by omega)]
    generalize Rg.num ((bl s).drop (i + 1)) = q at hg
    have hq : q % 2 = 0 ∨ q % 2 = 1 := by omega
    cases (bl s)[i]'(by rw [bl_length]; omega)
    · rw [if_neg (by simp), w64 (by omega) (by omega)]
      rcases hq with hq | hq <;> simp [hq]
    · rw [if_pos (by simp), w64 (by omega) (by omega)]
      rcases hq with hq | hq <;> simp [hq]

theorem riNumber (s : ByteArray) (hs : stB s = true) : Ev (fun k => spec_riNumber.f k s) (nm s) := by
  unfold spec_riNumber.f
  have hz := size_le hs
  have hz1 := size_pos hs
  have h1 := riNumberLoop s hs s.size (Nat.le_refl _)
  have e : (bl s).drop s.size = [] := List.drop_of_length_le (by rw [bl_length]; omega)
  rw [e] at h1
  rw [w64 (by omega) (by omega)]
  exact h1

/-- The greatest number. -/
def top (s : ByteArray) : Nat := 2 ^ s.size - 1
theorem topI (s : ByteArray) (hs : s.size ≤ 20) : wrap64 ((shl .i64 1 (s.size : Int)) - 1) = ((top s : Nat) : Int) := by
  have := pow_le hs
  have hp : 0 < 2 ^ s.size := Nat.two_pow_pos _
  rw [shl1 _ (by omega), w64 (by omega) (by omega)]
  unfold top; omega
theorem nm_top (s : ByteArray) : nm s ≤ top s := by have := nm_lt s; unfold top; omega
theorem top_lt {s : ByteArray} (hs : s.size ≤ 20) : top s < 1048576 := by
  have := pow_le hs
  have hp : 0 < 2 ^ s.size := Nat.two_pow_pos _
  unfold top; omega

/-- The mean of the moves from a number to another. -/
def mn (n g m : Int) : Int := if n ≤ g then g * g - n * n else (m - g) * (m - g) - (m - n) * (m - n)

theorem sq_le {x : Int} (h0 : 0 ≤ x) (h : x ≤ 2097152) : 0 ≤ x * x ∧ x * x ≤ 4398046511104 :=
  ⟨Int.mul_nonneg h0 h0, Int.mul_le_mul h h h0 (by omega)⟩
theorem pr_le {x y : Int} (h0 : 0 ≤ x) (h : x ≤ 2097152) (k0 : 0 ≤ y) (k : y ≤ 2097152) : 0 ≤ x * y ∧ x * y ≤ 4398046511104 :=
  ⟨Int.mul_nonneg h0 k0, Int.mul_le_mul h k k0 (by omega)⟩

theorem mean (n g m : Nat) (hn : n ≤ m) (hg : g ≤ m) (hm : m < 1048576) : impl_mean.f n g m = some (mn n g m) := by
  unfold impl_mean.f mn
  by_cases h : n < g
  · rw [if_pos (by omega), if_pos (by omega)]
    rw [w64 (x := (m : Int) - n) (by omega) (by omega), w64 (x := (m : Int) - g) (by omega) (by omega), w64 (x := (m : Int) - n - (m - g)) (by omega) (by omega),
      w64 (x := (m : Int) - (m - g)) (by omega) (by omega), w64 (x := 2 * ((m : Int) - (m - g))) (by omega) (by omega), w64 (x := 2 * ((m : Int) - (m - g)) - _) (by omega) (by omega)]
    have e : ((m : Int) - n - (m - g)) * (2 * ((m : Int) - (m - g)) - (m - n - (m - g))) = (g : Int) * g - n * n := by grind
    rw [e]
    have h1 := sq_le (x := (g : Int)) (by omega) (by omega)
    have h2 := sq_le (x := (n : Int)) (by omega) (by omega)
    rw [w64 (by omega) (by omega)]
  · rw [if_neg (by omega)]
    rw [w64 (x := (n : Int) - g) (by omega) (by omega), w64 (x := (m : Int) - g) (by omega) (by omega), w64 (x := 2 * ((m : Int) - g)) (by omega) (by omega), w64 (x := 2 * ((m : Int) - g) - _) (by omega) (by omega)]
    have e : ((n : Int) - g) * (2 * ((m : Int) - g) - (n - g)) = ((m : Int) - g) * (m - g) - (m - n) * (m - n) := by grind
    have h1 := sq_le (x := (m : Int) - g) (by omega) (by omega)
    have h2 := sq_le (x := (m : Int) - n) (by omega) (by omega)
    rw [e, w64 (by omega) (by omega)]
    by_cases h' : n = g
    · subst h'; simp
    · rw [if_neg (by omega)]

theorem waMean (n g m : Nat) (hn : n ≤ m) (hg : g ≤ m) (hm : m < 1048576) : spec_waMean.f n g m = some (mn n g m) := by
  unfold spec_waMean.f mn
  have h1 := sq_le (x := (g : Int)) (by omega) (by omega)
  have h2 := sq_le (x := (n : Int)) (by omega) (by omega)
  have h3 := sq_le (x := (m : Int) - g) (by omega) (by omega)
  have h4 := sq_le (x := (m : Int) - n) (by omega) (by omega)
  rw [w64 (x := (g : Int) * g) (by omega) (by omega), w64 (x := (n : Int) * n) (by omega) (by omega), w64 (x := (g : Int) * g - _) (by omega) (by omega)]
  rw [w64 (x := (m : Int) - g) (by omega) (by omega), w64 (x := (m : Int) - n) (by omega) (by omega), w64 (x := ((m : Int) - g) * _) (by omega) (by omega), w64 (x := ((m : Int) - n) * _) (by omega) (by omega), w64 (by omega) (by omega)]
  split <;> rfl

theorem top_eq {a b : ByteArray} (h : a.size = b.size) : top a = top b := by unfold top; rw [h]

def mfV (a b : ByteArray) : Int × Bool := if alB a b = true then (mn (nm a) (nm b) (top a), true) else (0, false)
theorem meanFrom (a b : ByteArray) (ha : a.size ≤ 140737488351232) (hb : b.size ≤ 140737488351232) : Ev (fun k => impl_MeanFrom.f k a b) (mfV a b) := by
  unfold impl_MeanFrom.f mfV
  rw [alike a b ha hb]
  simp only [Option.bind_some]
  by_cases h : alB a b = true
  · simp only [h, if_true]
    obtain ⟨h1, h2, h3⟩ := (alB_iff a b).1 h
    refine Ev.bind (number a h1) (Ev.bind (number b h2) ?_)
    rw [topI a (size_le h1), mean _ _ _ (nm_top a) (by rw [top_eq h3]; exact nm_top b) (top_lt (size_le h1))]
    exact Ev.now _
  · simp only [h]
    exact Ev.now _

theorem specMeanFrom (a b : ByteArray) : Ev (fun k => spec_MeanFrom.f k a b) (mfV a b) := by
  unfold spec_MeanFrom.f mfV
  refine Ev.bind (riTwo a b) ?_
  by_cases h : alB a b = true
  · simp only [h, if_true]
    obtain ⟨h1, h2, h3⟩ := (alB_iff a b).1 h
    unfold spec_waNumbers.f
    refine Ev.bind (a := ((nm a : Int), (nm b : Int), (top a : Int))) ?_ ?_
    · rw [topI a (size_le h1)]
      exact Ev.bind (riNumber a h1) (Ev.bind (riNumber b h2) (Ev.now _))
    · simp only
      rw [waMean _ _ _ (nm_top a) (by rw [top_eq h3]; exact nm_top b) (top_lt (size_le h1))]
      exact Ev.now _
  · simp only [h]
    exact Ev.now _

def mcV (a : ByteArray) : Int × Bool := if stB a = true then (mn (nm a) 0 (top a), true) else (0, false)
theorem meanToClear (a : ByteArray) (ha : a.size ≤ 140737488351232) : Ev (fun k => impl_MeanToClear.f k a) (mcV a) := by
  unfold impl_MeanToClear.f mcV
  rw [isState a ha]
  simp only [Option.bind_some]
  by_cases h : stB a = true
  · simp only [h, if_true]
    refine Ev.bind (number a h) ?_
    rw [topI a (size_le h)]
    have := mean _ 0 _ (nm_top a) (by omega) (top_lt (size_le h))
    have e : ((0 : Nat) : Int) = 0 := rfl
    rw [e] at this
    rw [this]
    exact Ev.now _
  · simp only [h]
    exact Ev.now _
theorem specMeanToClear (a : ByteArray) : Ev (fun k => spec_MeanToClear.f k a) (mcV a) := by
  unfold spec_MeanToClear.f mcV
  refine Ev.bind (good a) ?_
  by_cases h : stB a = true
  · simp only [h, if_true]
    refine Ev.bind (riNumber a h) ?_
    rw [topI a (size_le h)]
    have := waMean _ 0 _ (nm_top a) (by omega) (top_lt (size_le h))
    have e : ((0 : Nat) : Int) = 0 := rfl
    rw [e] at this
    rw [this]
    exact Ev.now _
  · simp only [h]
    exact Ev.now _

/-- How far two numbers are apart. -/
def ap (a b : Nat) : Nat := (a - b) + (b - a)
theorem apart (a b : Nat) (ha : a < 1048576) (hb : b < 1048576) : impl_apart.f a b = some (ap a b : Int) := by
  unfold impl_apart.f mx ap
  rw [w64 (x := (a : Int) - b) (by omega) (by omega), w64 (x := (b : Int) - a) (by omega) (by omega)]
  congr 1
  split <;> omega

def fmV (a b : ByteArray) : Int × Bool := if alB a b = true then ((ap (nm a) (nm b) : Int), true) else (0, false)
theorem nm_lt20 {s : ByteArray} (hs : stB s = true) : nm s < 1048576 := by have := nm_lt s; have := pow_le (size_le hs); omega
theorem fewest (a b : ByteArray) (ha : a.size ≤ 140737488351232) (hb : b.size ≤ 140737488351232) : Ev (fun k => impl_FewestMoves.f k a b) (fmV a b) := by
  unfold impl_FewestMoves.f fmV
  rw [alike a b ha hb]
  simp only [Option.bind_some]
  by_cases h : alB a b = true
  · simp only [h, if_true]
    obtain ⟨h1, h2, h3⟩ := (alB_iff a b).1 h
    refine Ev.bind (number a h1) (Ev.bind (number b h2) ?_)
    rw [apart _ _ (nm_lt20 h1) (nm_lt20 h2)]
    exact Ev.now _
  · simp only [h]
    exact Ev.now _
end Go.Proofs.YtkdfhgilpnohpaaDoor.WkP

/- What the printed functions on rings come to: moves. -/
namespace Rg
theorem first_iff (l : List Bool) : ∀ k (h : k < l.length), first l = k ↔ l[k] = true ∧ ((l.take k).all fun b => !b) = true := by
  induction l with
  | nil => intro k h; simp at h
  | cons b t ih =>
    intro k h
    cases k with
    | zero => cases b <;> simp [first]
    | succ k =>
      have := ih k (by simpa using h)
      cases b <;> simp [first, this]
theorem flip_set (l : List Bool) : ∀ k (h : k < l.length), flip l k = l.set k (!l[k]) := by
  induction l with
  | nil => intro k h; simp at h
  | cons b t ih =>
    intro k h
    cases k with
    | zero => rfl
    | succ k => simp [flip, ih k (by simpa using h)]
end Rg
namespace Go.Proofs.YtkdfhgilpnohpaaDoor.WkP
open Go.RowKit Go.Proofs.YtkdfhgilpnohpaaDoor.Wk Go.Proofs.YtkdfhgilpnohpaaDoorW.PrintWords Go.Proofs.YtkdfhgilpnohpaaDoorW.PrintMore

theorem inV (a b c : Int) : impl_in.f a b c = some (decide (b ≤ a ∧ a ≤ c)) := by
  unfold impl_in.f
  by_cases h : a ≥ b
  · rw [if_pos h]; congr 1; rw [Bool.eq_iff_iff]; simp; intro; exact h
  · rw [if_neg h]; congr 1; rw [Bool.eq_iff_iff]; simp; intro q; exact absurd q h
theorem l1In (a b c : Int) : spec_l1In.f a b c = some (decide (b ≤ a ∧ a ≤ c)) := by
  unfold spec_l1In.f
  by_cases h : a ≥ b
  · rw [if_pos h]; congr 1; rw [Bool.eq_iff_iff]; simp; intro; exact h
  · rw [if_neg h]; congr 1; rw [Bool.eq_iff_iff]; simp; intro q; exact absurd q h

theorem zeros_iff (s : ByteArray) (hs : okb s.data.toList = true) (k : Nat) : ((s.data.toList.take k).all fun b => [(48 : UInt8)].contains b) = (((bl s).take k).all fun b => !b) := by
  rw [bl, ← List.map_take, List.all_map]
  have h : ∀ b ∈ s.data.toList.take k, b = 48 ∨ b = 49 := by
    intro b hb
    have := List.all_eq_true.1 hs b (List.mem_of_mem_take hb)
    simpa using this
  generalize s.data.toList.take k = l at h
  induction l with
  | nil => rfl
  | cons a t ih =>
    have h1 := ih (fun b hb => h b (List.mem_cons_of_mem _ hb))
    rw [List.all_cons, List.all_cons, h1]
    congr 1
    rcases h a List.mem_cons_self with h | h <;> subst h <;> rfl

theorem canMove (s : ByteArray) (hs : stB s = true) (k : Nat) (hk : k < s.size) : impl_canMove.f s k = some (Rg.can (bl s) k) := by
  unfold impl_canMove.f
  have hz := size_le hs
  have hl : (bl s).length = s.size := bl_length s
  cases k with
  | zero =>
    rw [if_pos (by omega)]
    cases e : bl s with
    | nil => rw [e] at hl; simp at hl; omega
    | cons b t => rfl
  | succ k =>
    have e1 : wrap64 (((k + 1 : Nat) : Int) - 1) = (k : Int) := by rw [w64 (by omega) (by omega)]; omega
    rw [if_neg (by omega), inV, w64 (x := (s.size : Int) - 1) (by omega) (by omega), e1]
    simp only [Option.bind_some]
    rw [decide_eq_true (by omega), if_pos rfl, if_pos (by omega), if_pos (by omega), bt_bl s (okb_st hs) k (by omega)]
    have key := Rg.first_iff (bl s) k (by omega)
    have cn := Rg.can_iff (bl s) k
    by_cases hb : (bl s)[k]'(by omega) = true
    · rw [hb, if_pos rfl, if_pos rfl, if_pos (by omega)]
      have hc : strings_Trim.f (s.extract 0 (k : Int).toNat) ⟨#[48]⟩ = some ⟨(Lib.trimS (s.data.toList.take k) [48]).toArray⟩ := by
        unfold strings_Trim.f
        have e2 : (s.extract 0 (k : Int).toNat).data.toList = s.data.toList.take k := by
          rw [ByteArray.data_extract, Array.toList_extract]; simp
        have e3 : (s.extract 0 (k : Int).toNat).size ≤ 9223372036854775807 := by rw [ByteArray.size_extract]; omega
        rw [if_pos ⟨e3, by decide, by decide⟩, e2]
      rw [hc]
      simp only [Option.bind_some]
      congr 1
      rw [toList_nil, Bool.eq_iff_iff, decide_eq_true_iff, trimS_nil, zeros_iff s (okb_st hs), cn]
      rw [hb] at key
      simp only [true_and] at key
      rw [← key]
      omega
    · rw [if_neg hb, if_neg (by decide)]
      congr 1
      symm
      rw [Bool.eq_false_iff]
      intro q
      exact hb (key.1 (cn.1 q).1.symm).1

/-- The first ring that is on. -/
def fst (s : ByteArray) : Nat := Rg.first (bl s)

theorem movesLoop (s : ByteArray) (hs : stB s = true) (d : Nat) : ∀ (i : Nat) (acc : List Int), 1 ≤ i → i ≤ s.size → s.size - i = d → acc.length ≤ i →
    Ev (fun k => impl_movesOf.l0 k s acc (s.size : Int) i) (acc ++ if i ≤ fst s + 1 ∧ fst s + 1 < s.size then [((fst s + 1 : Nat) : Int)] else []) := by
  have hz := size_le hs
  induction d with
  | zero =>
    intro i acc h1 h2 h3 h4
    refine Ev.step (f := fun _ => some acc) (fun k => ?_) ?_
    · simp only [impl_movesOf.l0]; rw [if_neg (by omega)]
    · rw [if_neg (by omega), List.append_nil]; exact Ev.now _
  | succ d ih =>
    intro i acc h1 h2 h3 h4
    have hc := canMove s hs i (by omega)
    have e1 : wrap64 ((i : Int) + 1) = ((i + 1 : Nat) : Int) := by rw [w64 (by omega) (by omega)]; omega
    have cn := Rg.can_iff (bl s) (i - 1)
    rw [show i - 1 + 1 = i by omega, bl_length] at cn
    by_cases hb : Rg.can (bl s) i = true
    · obtain ⟨c1, c2⟩ := cn.1 hb
      have c1 : i - 1 = fst s := c1
      have h5 := ih (i + 1) (acc ++ [(i : Int)]) (by omega) (by omega) (by omega) (by simp; omega)
      rw [if_neg (by omega), List.append_nil] at h5
      rw [if_pos (by omega), show fst s + 1 = i by omega]
      refine Ev.step (f := fun k => impl_movesOf.l0 k s (acc ++ [(i : Int)]) (s.size : Int) ((i + 1 : Nat) : Int)) (fun k => ?_) h5
      simp only [impl_movesOf.l0]
      rw [if_pos (by omega), hc, e1]
      simp only [Option.bind_some, hb, if_true]
      rw [if_pos (by omega)]
    · have h5 := ih (i + 1) acc (by omega) (by omega) (by omega) (by omega)
      have hn : ¬ (i - 1 = fst s) := fun q => hb (cn.2 ⟨q, by omega⟩)
      have e2 : (i + 1 ≤ fst s + 1 ∧ fst s + 1 < s.size) ↔ (i ≤ fst s + 1 ∧ fst s + 1 < s.size) := by omega
      simp only [e2] at h5
      refine Ev.step (f := fun k => impl_movesOf.l0 k s acc (s.size : Int) ((i + 1 : Nat) : Int)) (fun k => ?_) h5
      simp only [impl_movesOf.l0]
      rw [if_pos (by omega), hc, e1]
      simp only [Option.bind_some, hb]
      rfl

/-- The rings that may move. -/
def mv (s : ByteArray) : List Int := if fst s + 1 < s.size then [0, ((fst s + 1 : Nat) : Int)] else [0]
theorem movesOf (s : ByteArray) (hs : stB s = true) : Ev (fun k => impl_movesOf.f k s) (mv s) := by
  unfold impl_movesOf.f
  have h1 := size_pos hs
  have hz := size_le hs
  have h5 := movesLoop s hs (s.size - 1) 1 [0] (by omega) (by omega) rfl (by simp)
  have e : mv s = [0] ++ if 1 ≤ fst s + 1 ∧ fst s + 1 < s.size then [((fst s + 1 : Nat) : Int)] else [] := by
    unfold mv
    by_cases h : fst s + 1 < s.size
    · rw [if_pos h, if_pos (by omega)]; rfl
    · rw [if_neg h, if_neg (by omega)]; rfl
  rw [e]
  refine Ev.step (f := fun k => impl_movesOf.l0 k s [0] (s.size : Int) ((1 : Nat) : Int)) (fun k => ?_) h5
  simp only [impl_movesOf.l0]
  have hc := canMove s hs 0 (by omega)
  have hb : Rg.can (bl s) 0 = true := by
    have hl : (bl s).length = s.size := bl_length s
    cases e : bl s with
    | nil => rw [e] at hl; simp at hl; omega
    | cons b t => rfl
  rw [hb] at hc
  have e0 : ((0 : Nat) : Int) = 0 := rfl
  rw [e0] at hc
  rw [if_pos (by omega), hc, w64 (by omega) (by omega)]
  simp only [Option.bind_some, if_true, List.nil_append]
  rfl

def mvV (s : ByteArray) : List Int × Bool := if stB s = true then (mv s, true) else ([], false)
theorem movesOfV (s : ByteArray) (hs : s.size ≤ 140737488351232) : Ev (fun k => impl_MovesOf.f k s) (mvV s) := by
  unfold impl_MovesOf.f mvV
  rw [isState s hs]
  simp only [Option.bind_some]
  by_cases h : stB s = true
  · simp only [h, if_true]
    exact Ev.bind (movesOf s h) (Ev.now _)
  · simp only [h]
    exact Ev.now _

/-- The state with a ring turned. -/
def fl (s : ByteArray) (k : Nat) : ByteArray := strOfNums ((bytesOf s).set k ((97 - bt s k) % 256))
theorem fl_size (s : ByteArray) (k : Nat) : (fl s k).size = s.size := by
  rw [← data_length (fl s k), fl, strOfNums]
  simp [bytesOf_length]
theorem fl_list (s : ByteArray) (hs : okb s.data.toList = true) (k : Nat) (hk : k < s.size) : (fl s k).data.toList = s.data.toList.set k (if (bl s)[k]'(by rw [bl_length]; exact hk) = true then 48 else 49) := by
  unfold fl strOfNums
  simp only [List.map_set]
  congr 1
  · unfold bytesOf
    rw [List.map_map]
    have : ((fun n : Int => UInt8.ofNat n.toNat) ∘ fun b : UInt8 => (b.toNat : Int)) = id := by
      funext b; simp
    rw [this, List.map_id]
  · rw [bt_bl s hs k hk]
    split <;> rfl
theorem fl_ok (s : ByteArray) (hs : stB s = true) (k : Nat) (hk : k < s.size) : stB (fl s k) = true := by
  rw [stB_iff, fl_size]
  refine ⟨size_pos hs, size_le hs, ?_⟩
  rw [fl_list s (okb_st hs) k hk]
  unfold okb
  rw [List.all_eq_true]
  intro b hb
  rcases List.mem_or_eq_of_mem_set hb with h | h
  · exact List.all_eq_true.1 (okb_st hs) b h
  · rw [h]; split <;> rfl
theorem fl_bl (s : ByteArray) (hs : okb s.data.toList = true) (k : Nat) (hk : k < s.size) : bl (fl s k) = Rg.flip (bl s) k := by
  rw [Rg.flip_set _ _ (by rw [bl_length]; exact hk)]
  have e : bl (fl s k) = (fl s k).data.toList.map (· == 49) := rfl
  rw [e, fl_list s hs k hk, List.map_set]
  congr 1
  cases (bl s)[k]'(by rw [bl_length]; exact hk) <;> rfl

theorem moveRing (s : ByteArray) (hs : stB s = true) (k : Nat) (hk : k < s.size) (hc : Rg.can (bl s) k = true) : impl_MoveRing.f s k = some (fl s k, true) := by
  unfold impl_MoveRing.f
  have hz := size_le hs
  rw [isState s (by omega), hs, canMove s hs k hk, hc]
  simp only [Option.bind_some, if_true]
  unfold impl_turned.f
  rw [if_pos ⟨by omega, by omega, by omega⟩]
  rfl

theorem can0 (s : ByteArray) (hs : stB s = true) : Rg.can (bl s) 0 = true := by
  have hl : (bl s).length = s.size := bl_length s
  have := size_pos hs
  cases e : bl s with
  | nil => rw [e] at hl; simp at hl; omega
  | cons b t => rfl
theorem canF (s : ByteArray) (h : fst s + 1 < s.size) : Rg.can (bl s) (fst s + 1) = true := (Rg.can_iff _ _).2 ⟨rfl, by rw [bl_length]; exact h⟩

theorem bl_ne {s : ByteArray} (hs : stB s = true) : bl s ≠ [] := by
  intro h
  have hl : (bl s).length = s.size := bl_length s
  have := size_pos hs
  rw [h] at hl; simp at hl; omega
theorem nm_fl0 (s : ByteArray) (hs : stB s = true) : nm (fl s 0) = if nm s % 2 = 0 then nm s + 1 else nm s - 1 := by
  unfold nm
  rw [fl_bl s (okb_st hs) 0 (size_pos hs)]
  exact Rg.num_flip0 _ (bl_ne hs)
theorem nm_flF (s : ByteArray) (hs : stB s = true) (h : fst s + 1 < s.size) :
    (nm s % 2 = 1 ∧ nm (fl s (fst s + 1)) = nm s + 1) ∨ (nm s % 2 = 0 ∧ nm (fl s (fst s + 1)) + 1 = nm s) := by
  unfold nm
  rw [fl_bl s (okb_st hs) _ h]
  exact Rg.num_flipS _ _ (canF s h)
/-- Not a second ring may move just at the two ends. -/
theorem ends (s : ByteArray) (hs : stB s = true) (h : ¬ fst s + 1 < s.size) : nm s = 0 ∨ nm s = top s := by
  have h1 := Rg.num_zero_iff (bl s)
  have h2 := Rg.num_last_iff (bl s) (bl_ne hs)
  have h3 := Rg.first_le (bl s)
  rw [bl_length] at h1 h2 h3
  have hp : 0 < 2 ^ s.size := Nat.two_pow_pos _
  unfold nm top
  unfold fst at h
  by_cases h4 : Rg.first (bl s) = s.size
  · left; exact h1.2 h4
  · right; have := h2.2 (by omega); omega
theorem ends2 (s : ByteArray) (hs : stB s = true) (h : fst s + 1 < s.size) : nm s ≠ 0 ∧ nm s ≠ top s := by
  have h1 := Rg.num_zero_iff (bl s)
  have h2 := Rg.num_last_iff (bl s) (bl_ne hs)
  rw [bl_length] at h1 h2
  have hp : 0 < 2 ^ s.size := Nat.two_pow_pos _
  unfold nm top
  unfold fst at h
  constructor
  · intro q; have := h1.1 q; omega
  · intro q; have := h2.1 (by omega); omega
theorem bl_inj {a b : ByteArray} (ha : okb a.data.toList = true) (hb : okb b.data.toList = true) (h : bl a = bl b) : a.data.toList = b.data.toList := by
  unfold bl at h
  unfold okb at ha hb
  generalize a.data.toList = x at *
  generalize b.data.toList = y at *
  induction x generalizing y with
  | nil => cases y with
    | nil => rfl
    | cons c u => simp at h
  | cons c u ih =>
    cases y with
    | nil => simp at h
    | cons d v =>
      simp only [List.map_cons, List.cons.injEq] at h
      simp only [List.all_cons, Bool.and_eq_true, Bool.or_eq_true, beq_iff_eq] at ha hb
      rw [ih ha.2 v hb.2 h.2]
      congr 1
      rcases ha.1 with h1 | h1 <;> rcases hb.1 with h2 | h2 <;> subst h1 <;> subst h2 <;> simp at h ⊢
theorem nm_inj {a b : ByteArray} (h : alB a b = true) : (a.toList == b.toList) = (nm a == nm b) := by
  obtain ⟨h1, h2, h3⟩ := (alB_iff a b).1 h
  rw [Lib.toList_data, Lib.toList_data, Bool.eq_iff_iff, beq_iff_eq, beq_iff_eq]
  constructor
  · intro q; unfold nm bl; rw [q]
  · intro q
    exact bl_inj (okb_st h1) (okb_st h2) (Rg.num_inj (by rw [bl_length, bl_length, h3]) q)
end Go.Proofs.YtkdfhgilpnohpaaDoor.WkP

/- What the printed functions on rings come to: lowest terms, which state is met first. -/
namespace Go.Proofs.YtkdfhgilpnohpaaDoor.WkP
open Go.RowKit Go.Proofs.YtkdfhgilpnohpaaDoor.Wk Go.Proofs.YtkdfhgilpnohpaaDoorW.PrintWords Go.Proofs.YtkdfhgilpnohpaaDoorW.PrintMore

def lowV (x y : Nat) : Int × Int := (((x / Nat.gcd x y : Nat) : Int), ((y / Nat.gcd x y : Nat) : Int))

theorem tdivN (x y : Nat) : Int.tdiv (x : Int) (y : Int) = ((x / y : Nat) : Int) := by rw [Int.tdiv_eq_ediv_of_nonneg (by omega)]; rfl
theorem tmodN (x y : Nat) : Int.tmod (x : Int) (y : Int) = ((x % y : Nat) : Int) := by rw [Int.tmod_eq_emod_of_nonneg (by omega)]; rfl
theorem div_lt62 {x : Nat} (y : Nat) (h : x < 4611686018427387904) : x / y < 4611686018427387904 := Nat.lt_of_le_of_lt (Nat.div_le_self _ _) h

theorem lowestLoop (x y : Nat) (hx : x < 4611686018427387904) (hy : y < 4611686018427387904) (b : Nat) : ∀ a : Nat, a ≠ 0 ∨ b ≠ 0 →
    Ev (fun k => impl_lowest.l0 k x y a b) (((x / Nat.gcd a b : Nat) : Int), ((y / Nat.gcd a b : Nat) : Int)) := by
  induction b using Nat.strongRecOn with
  | _ b ih =>
    intro a hab
    by_cases hb : b = 0
    · subst hb
      rw [Nat.gcd_zero_right]
      refine Ev.step (f := fun _ => some (((x / a : Nat) : Int), ((y / a : Nat) : Int))) (fun k => ?_) (Ev.now _)
      have h1 := div_lt62 a hx
      have h2 := div_lt62 a hy
      simp only [impl_lowest.l0]
      rw [if_neg (by omega), if_neg (by omega), tdivN, tdivN]
      generalize x / a = p at h1
      generalize y / a = q at h2
      rw [w64 (by omega) (by omega), w64 (by omega) (by omega)]
    · have e : Nat.gcd a b = Nat.gcd b (a % b) := by rw [Nat.gcd_comm a b, Nat.gcd_rec b a, Nat.gcd_comm]
      rw [e]
      refine Ev.step (f := fun k => impl_lowest.l0 k x y (b : Int) ((a % b : Nat) : Int)) (fun k => ?_) (ih (a % b) (Nat.mod_lt _ (by omega)) b (.inl hb))
      simp only [impl_lowest.l0]
      rw [if_pos (by omega), if_neg (by omega), tmodN]

theorem lowest (x y : Nat) (hx : x < 4611686018427387904) (hy : y < 4611686018427387904) (h : y ≠ 0) : Ev (fun k => impl_lowest.f k x y) (lowV x y) := by
  unfold impl_lowest.f lowV
  exact lowestLoop x y hx hy y x (.inr h)

theorem waLowLoop (x y : Nat) (hx : x < 4611686018427387904) (hy : y < 4611686018427387904) (b : Nat) : ∀ a : Nat, a ≠ 0 ∨ b ≠ 0 →
    Ev (fun k => spec_waLow.l0 k x y a b) (((x / Nat.gcd a b : Nat) : Int), ((y / Nat.gcd a b : Nat) : Int)) := by
  induction b using Nat.strongRecOn with
  | _ b ih =>
    intro a hab
    by_cases hb : b = 0
    · subst hb
      rw [Nat.gcd_zero_right]
      refine Ev.step (f := fun _ => some (((x / a : Nat) : Int), ((y / a : Nat) : Int))) (fun k => ?_) (Ev.now _)
      have h1 := div_lt62 a hx
      have h2 := div_lt62 a hy
      simp only [spec_waLow.l0]
      rw [if_neg (by omega), if_neg (by omega), tdivN, tdivN]
      generalize x / a = p at h1
      generalize y / a = q at h2
      rw [w64 (by omega) (by omega), w64 (by omega) (by omega)]
    · have e : Nat.gcd a b = Nat.gcd b (a % b) := by rw [Nat.gcd_comm a b, Nat.gcd_rec b a, Nat.gcd_comm]
      rw [e]
      refine Ev.step (f := fun k => spec_waLow.l0 k x y (b : Int) ((a % b : Nat) : Int)) (fun k => ?_) (ih (a % b) (Nat.mod_lt _ (by omega)) b (.inl hb))
      simp only [spec_waLow.l0]
      rw [if_pos (by omega), if_neg (by omega), tmodN]

theorem waLow (x y : Nat) (hx : x < 4611686018427387904) (hy : y < 4611686018427387904) (h : y ≠ 0) : Ev (fun k => spec_waLow.f k x y) (lowV x y) := by
  unfold spec_waLow.f lowV
  exact waLowLoop x y hx hy y x (.inr h)

theorem evc {α : Type} {x : Option α} {r : α} (h : x = some r) : Ev (fun _ => x) r := ⟨0, fun _ _ => h⟩
theorem Ev.ite_pos {α : Type} {c : Prop} [Decidable c] {g f : Nat → Option α} {r : α} (h : c) (k : Ev g r) : Ev (fun n => if c then g n else f n) r := Ev.congr (fun _ => if_pos h) k
theorem Ev.ite_neg {α : Type} {c : Prop} [Decidable c] {g f : Nat → Option α} {r : α} (h : ¬ c) (k : Ev f r) : Ev (fun n => if c then g n else f n) r := Ev.congr (fun _ => if_neg h) k

/-- The chance that a is met before b, from n. -/
def cb (n a b : Nat) : Int × Int := if ap n a + ap n b = ap a b then lowV (ap n b) (ap a b) else if ap n a < ap n b then (1, 1) else (0, 1)
def chV (s a b : ByteArray) : Int × Int × Bool := if (alB s a && alB s b && !(nm a == nm b)) = true then ((cb (nm s) (nm a) (nm b)).1, (cb (nm s) (nm a) (nm b)).2, true) else (0, 0, false)

theorem al_trans (s a b : ByteArray) : (alB s a && alB a b) = (alB s a && alB s b) := by
  rw [Bool.eq_iff_iff, Bool.and_eq_true, Bool.and_eq_true, alB_iff, alB_iff, alB_iff]
  constructor
  · rintro ⟨⟨h1, h2, h3⟩, h4, h5, h6⟩; exact ⟨⟨h1, h2, h3⟩, h1, h5, by omega⟩
  · rintro ⟨⟨h1, h2, h3⟩, h4, h5, h6⟩; exact ⟨⟨h1, h2, h3⟩, h2, h5, by omega⟩
theorem al_two {s a b : ByteArray} (h1 : alB s a = true) (h2 : alB s b = true) : alB a b = true := by
  have := al_trans s a b
  rw [h1, h2] at this
  simpa using this

theorem cbJ (s a b : ByteArray) (h1 : stB s = true) (h2 : stB a = true) (h3 : stB b = true) (hne : nm a ≠ nm b) :
    Ev (fun k => impl_ChanceBefore.j0 k s a b false) ((cb (nm s) (nm a) (nm b)).1, (cb (nm s) (nm a) (nm b)).2, true) := by
  have l1 := nm_lt20 h1
  have l2 := nm_lt20 h2
  have l3 := nm_lt20 h3
  have a1 := apart (nm a) (nm b) l2 l3
  have a2 := apart (nm s) (nm b) l1 l3
  have a3 := apart (nm s) (nm a) l1 l2
  refine Ev.step (f := fun k => (impl_number.f k s).bind fun t146 => ((impl_number.f k a).bind fun t147 => ((impl_number.f k b).bind fun t148 => ((impl_apart.f t147 t148).bind fun t149 => ((impl_apart.f t146 t148).bind fun t150 => ((impl_apart.f t146 t147).bind fun t151 => (if (wrap64 (t151 + t150)) = t149 then ((impl_lowest.f k t150 t149).bind fun bt152 => (some (bt152.1, bt152.2, true))) else ((impl_apart.f t146 t147).bind fun t154 => (if t154 < t150 then (some (1, 1, true)) else (some (0, 1, true)))))))))))
    (fun k => by simp only [impl_ChanceBefore.j0, Bool.false_eq_true, if_false]) ?_
  refine Ev.bind (number s h1) (Ev.bind (number a h2) (Ev.bind (number b h3) (Ev.bind (evc a1) (Ev.bind (evc a2) (Ev.bind (evc a3) ?_)))))
  have b1 : ap (nm a) (nm b) < 1048576 := by unfold ap; omega
  have b2 : ap (nm s) (nm b) < 1048576 := by unfold ap; omega
  have b3 : ap (nm s) (nm a) < 1048576 := by unfold ap; omega
  have b4 : ap (nm a) (nm b) ≠ 0 := by unfold ap; omega
  have ew : wrap64 ((ap (nm s) (nm a) : Int) + (ap (nm s) (nm b) : Int)) = (ap (nm s) (nm a) : Int) + (ap (nm s) (nm b) : Int) := w64 (by omega) (by omega)
  by_cases hc : ap (nm s) (nm a) + ap (nm s) (nm b) = ap (nm a) (nm b)
  · have e : cb (nm s) (nm a) (nm b) = lowV (ap (nm s) (nm b)) (ap (nm a) (nm b)) := if_pos hc
    rw [e]
    exact WkP.Ev.ite_pos (by rw [ew]; omega) (Ev.bind (lowest _ _ (by omega) (by omega) b4) (Ev.now _))
  · have e : cb (nm s) (nm a) (nm b) = if ap (nm s) (nm a) < ap (nm s) (nm b) then (1, 1) else (0, 1) := if_neg hc
    rw [e]
    refine WkP.Ev.ite_neg (by rw [ew]; omega) (Ev.bind (evc a3) ?_)
    by_cases hd : ap (nm s) (nm a) < ap (nm s) (nm b)
    · rw [if_pos hd]; exact WkP.Ev.ite_pos (by omega) (Ev.now _)
    · rw [if_neg hd]; exact WkP.Ev.ite_neg (by omega) (Ev.now _)
theorem cbJt (s a b : ByteArray) : Ev (fun k => impl_ChanceBefore.j0 k s a b true) (0, 0, false) :=
  Ev.step (f := fun _ => some (0, 0, false)) (fun k => by simp only [impl_ChanceBefore.j0]; rfl) (Ev.now _)

theorem chanceBefore (s a b : ByteArray) (hs : s.size ≤ 140737488351232) (ha : a.size ≤ 140737488351232) (hb : b.size ≤ 140737488351232) : Ev (fun k => impl_ChanceBefore.f k s a b) (chV s a b) := by
  unfold impl_ChanceBefore.f chV
  rw [← al_trans, alike s a hs ha]
  simp only [Option.bind_some]
  by_cases h1 : alB s a = true
  · simp only [h1, if_true, Bool.true_and]
    rw [alike a b ha hb]
    simp only [Option.bind_some]
    by_cases h2 : alB a b = true
    · simp only [h2, if_true, Bool.true_and]
      rw [nm_inj h2]
      by_cases h3 : nm a = nm b
      · rw [beq_iff_eq.2 h3]; exact cbJt s a b
      · rw [beq_eq_false_iff_ne.2 h3]
        exact cbJ s a b ((alB_iff _ _).1 h1).1 ((alB_iff _ _).1 h1).2.1 ((alB_iff _ _).1 h2).2.1 h3
    · simp only [h2]; exact cbJt s a b
  · simp only [h1]; exact cbJt s a b

theorem absV (x : Int) (h0 : -4611686018427387904 < x) (h1 : x < 4611686018427387904) : spec_l1Abs.f x = some ((x.natAbs : Nat) : Int) := by
  unfold spec_l1Abs.f spec_l1Most.f
  rw [w64 (by omega) (by omega)]
  by_cases h : x > -x
  · rw [if_pos h]; simp only [Option.bind_some]; congr 1; omega
  · rw [if_neg h]; simp only [Option.bind_some]; congr 1; omega

theorem low_self (x : Nat) (h : x ≠ 0) : lowV x x = (1, 1) := by
  unfold lowV; rw [Nat.gcd_self, Nat.div_self (by omega)]; rfl
theorem low_zero (x : Nat) (h : x ≠ 0) : lowV 0 x = (0, 1) := by
  unfold lowV; rw [Nat.gcd_zero_left, Nat.div_self (by omega), Nat.zero_div]; rfl

theorem cb_one (n a b : Nat) (h : (n ≤ a ∧ a < b) ∨ (n ≥ a ∧ a > b)) : cb n a b = (1, 1) := by
  unfold cb
  by_cases e : n = a
  · subst e
    have : ap n n + ap n b = ap n b := by unfold ap; omega
    rw [if_pos this, low_self _ (by unfold ap; omega)]
  · rw [if_neg (by unfold ap; omega), if_pos (by unfold ap; omega)]
theorem cb_zero (n a b : Nat) (h : (n ≤ b ∧ b < a) ∨ (n ≥ b ∧ b > a)) : cb n a b = (0, 1) := by
  unfold cb
  by_cases e : n = b
  · subst e
    have : ap n a + ap n n = ap a n := by unfold ap; omega
    rw [if_pos this, show ap n n = 0 by unfold ap; omega, low_zero _ (by unfold ap; omega)]
  · rw [if_neg (by unfold ap; omega), if_neg (by unfold ap; omega)]
theorem cb_mid (n a b : Nat) (h : (a < n ∧ n < b) ∨ (b < n ∧ n < a)) : cb n a b = lowV (ap n b) (ap a b) := by
  unfold cb
  rw [if_pos (by unfold ap; omega)]

theorem spJ2t (n a b : Int) : Ev (fun k => spec_ChanceBefore.j2 k n a b true) (0, 1, true) :=
  Ev.step (f := fun _ => some (0, 1, true)) (fun k => by simp only [spec_ChanceBefore.j2]; rfl) (Ev.now _)
theorem spJ1t (n a b : Int) : Ev (fun k => spec_ChanceBefore.j1 k n a b true) (1, 1, true) :=
  Ev.step (f := fun _ => some (1, 1, true)) (fun k => by simp only [spec_ChanceBefore.j1]; rfl) (Ev.now _)
theorem spJ2f (n a b : Nat) (hn : n < 1048576) (ha : a < 1048576) (hb : b < 1048576) (h : a ≠ b) : Ev (fun k => spec_ChanceBefore.j2 k n a b false) ((lowV (ap n b) (ap a b)).1, (lowV (ap n b) (ap a b)).2, true) := by
  refine Ev.step (f := fun k => _) (fun k => by simp only [spec_ChanceBefore.j2]; rfl) ?_
  simp only [Bool.false_eq_true, if_false]
  rw [w64 (by omega) (by omega), w64 (by omega) (by omega), absV _ (by omega) (by omega), absV _ (by omega) (by omega)]
  simp only [Option.bind_some]
  have e1 : ((b : Int) - n).natAbs = ap n b := by unfold ap; omega
  have e2 : ((b : Int) - a).natAbs = ap a b := by unfold ap; omega
  rw [e1, e2]
  exact Ev.bind (waLow _ _ (by unfold ap; omega) (by unfold ap; omega) (by unfold ap; omega)) (Ev.now _)
theorem spJ1f (n a b : Nat) (hn : n < 1048576) (ha : a < 1048576) (hb : b < 1048576) (h : a ≠ b) (h1 : ¬ ((n ≤ a ∧ a < b) ∨ (n ≥ a ∧ a > b))) :
    Ev (fun k => spec_ChanceBefore.j1 k n a b false) ((cb n a b).1, (cb n a b).2, true) := by
  refine Ev.step (f := fun k => _) (fun k => by simp only [spec_ChanceBefore.j1]; rfl) ?_
  simp only [Bool.false_eq_true, if_false]
  by_cases c1 : n ≤ b <;> by_cases c2 : b < a
  · have d1 : (n : Int) ≤ b := by omega
    have d2 : (b : Int) < a := by omega
    simp only [d1, d2, if_true]
    rw [cb_zero n a b (by omega)]
    exact spJ2t _ _ _
  · have d1 : (n : Int) ≤ b := by omega
    have d2 : ¬ (b : Int) < a := by omega
    simp only [d1, d2, if_true, if_false]
    by_cases c3 : n ≥ b
    · have d3 : (n : Int) ≥ b := by omega
      have d4 : (b : Int) > a := by omega
      simp only [d3, if_true, d4, decide_true]
      rw [cb_zero n a b (by omega)]
      exact spJ2t _ _ _
    · have d3 : ¬ (n : Int) ≥ b := by omega
      simp only [d3, if_false]
      rw [cb_mid n a b (by omega)]
      exact spJ2f _ _ _ hn ha hb h
  · have d1 : ¬ (n : Int) ≤ b := by omega
    have d3 : (n : Int) ≥ b := by omega
    have d4 : ¬ (b : Int) > a := by omega
    simp only [d1, d3, d4, if_true, if_false, decide_false]
    rw [cb_mid n a b (by omega)]
    exact spJ2f _ _ _ hn ha hb h
  · have d1 : ¬ (n : Int) ≤ b := by omega
    have d3 : (n : Int) ≥ b := by omega
    have d4 : (b : Int) > a := by omega
    simp only [d1, d3, d4, if_true, if_false, decide_true]
    rw [cb_zero n a b (by omega)]
    exact spJ2t _ _ _
theorem spJ0f (s a b : ByteArray) (h1 : stB s = true) (h2 : stB a = true) (h3 : stB b = true) (hne : nm a ≠ nm b) :
    Ev (fun k => spec_ChanceBefore.j0 k s a b false) ((cb (nm s) (nm a) (nm b)).1, (cb (nm s) (nm a) (nm b)).2, true) := by
  have l1 := nm_lt20 h1
  have l2 := nm_lt20 h2
  have l3 := nm_lt20 h3
  refine Ev.step (f := fun k => _) (fun k => by simp only [spec_ChanceBefore.j0]; rfl) ?_
  simp only [Bool.false_eq_true, if_false]
  refine Ev.bind (riNumber s h1) (Ev.bind (riNumber a h2) (Ev.bind (riNumber b h3) ?_))
  generalize nm s = n at *
  generalize nm a = a at *
  generalize nm b = b at *
  by_cases c1 : n ≤ a <;> by_cases c2 : a < b
  · have d1 : (n : Int) ≤ a := by omega
    have d2 : (a : Int) < b := by omega
    simp only [d1, d2, if_true]
    rw [cb_one n a b (by omega)]
    exact spJ1t _ _ _
  · have d1 : (n : Int) ≤ a := by omega
    have d2 : ¬ (a : Int) < b := by omega
    simp only [d1, d2, if_true, if_false]
    by_cases c3 : n ≥ a
    · have d3 : (n : Int) ≥ a := by omega
      have d4 : (a : Int) > b := by omega
      simp only [d3, if_true, d4, decide_true]
      rw [cb_one n a b (by omega)]
      exact spJ1t _ _ _
    · have d3 : ¬ (n : Int) ≥ a := by omega
      simp only [d3, if_false]
      exact spJ1f _ _ _ l1 l2 l3 hne (by omega)
  · have d1 : ¬ (n : Int) ≤ a := by omega
    have d3 : (n : Int) ≥ a := by omega
    have d4 : ¬ (a : Int) > b := by omega
    simp only [d1, d3, d4, if_true, if_false, decide_false]
    exact spJ1f _ _ _ l1 l2 l3 hne (by omega)
  · have d1 : ¬ (n : Int) ≤ a := by omega
    have d3 : (n : Int) ≥ a := by omega
    have d4 : (a : Int) > b := by omega
    simp only [d1, d3, d4, if_true, if_false, decide_true]
    rw [cb_one n a b (by omega)]
    exact spJ1t _ _ _
theorem spJ0t (s a b : ByteArray) : Ev (fun k => spec_ChanceBefore.j0 k s a b true) (0, 0, false) :=
  Ev.step (f := fun _ => some (0, 0, false)) (fun k => by simp only [spec_ChanceBefore.j0]; rfl) (Ev.now _)

theorem specChanceBefore (s a b : ByteArray) : Ev (fun k => spec_ChanceBefore.f k s a b) (chV s a b) := by
  unfold spec_ChanceBefore.f chV
  refine Ev.bind (riTwo s a) ?_
  by_cases h1 : alB s a = true
  · simp only [h1, if_true, Bool.true_and]
    refine Ev.bind (riTwo s b) ?_
    by_cases h2 : alB s b = true
    · simp only [h2, if_true, Bool.true_and]
      rw [nm_inj (al_two h1 h2)]
      by_cases h3 : nm a = nm b
      · rw [beq_iff_eq.2 h3]; exact spJ0t s a b
      · rw [beq_eq_false_iff_ne.2 h3]
        exact spJ0f s a b ((alB_iff _ _).1 h1).1 ((alB_iff _ _).1 h1).2.1 ((alB_iff _ _).1 h2).2.1 h3
    · simp only [h2]; exact spJ0t s a b
  · simp only [h1]; exact spJ0t s a b

/-- One of the two is met first. -/
theorem cb_sum (n a b : Nat) (h : a ≠ b) : (cb n a b).1 * (cb n b a).2 + (cb n b a).1 * (cb n a b).2 = (cb n a b).2 * (cb n b a).2 := by
  by_cases h1 : (n ≤ a ∧ a < b) ∨ (n ≥ a ∧ a > b)
  · rw [cb_one n a b h1, cb_zero n b a h1]; rfl
  · by_cases h2 : (n ≤ b ∧ b < a) ∨ (n ≥ b ∧ b > a)
    · rw [cb_zero n a b h2, cb_one n b a h2]; rfl
    · rw [cb_mid n a b (by omega), cb_mid n b a (by omega)]
      have e : ap n b + ap n a = ap a b := by unfold ap; omega
      have e2 : ap b a = ap a b := by unfold ap; omega
      rw [e2]
      generalize ap n b = x at *
      generalize ap n a = z at *
      generalize ap a b = y at *
      subst e
      unfold lowV
      have g1 : Nat.gcd x (x + z) = Nat.gcd x z := by rw [Nat.add_comm]; simp
      have g2 : Nat.gcd z (x + z) = Nat.gcd x z := by rw [Nat.gcd_comm x z]; simp
      rw [g1, g2]
      obtain ⟨p, hp⟩ := Nat.gcd_dvd_left x z
      obtain ⟨q, hq⟩ := Nat.gcd_dvd_right x z
      generalize Nat.gcd x z = g at *
      subst hp; subst hq
      by_cases g0 : g = 0
      · subst g0; simp
      · have k1 : g * p / g = p := Nat.mul_div_cancel_left _ (by omega)
        have k2 : g * q / g = q := Nat.mul_div_cancel_left _ (by omega)
        have k3 : (g * p + g * q) / g = p + q := by rw [← Nat.mul_add]; exact Nat.mul_div_cancel_left _ (by omega)
        rw [k1, k2, k3]
        simp only [Int.natCast_add]
        grind
theorem cb_le (n a b : Nat) (hn : n < 1048576) (ha : a < 1048576) (hb : b < 1048576) : 0 ≤ (cb n a b).1 ∧ (cb n a b).1 ≤ 2097152 ∧ 0 ≤ (cb n a b).2 ∧ (cb n a b).2 ≤ 2097152 := by
  unfold cb
  split
  · unfold lowV
    have h1 := Nat.div_le_self (ap n b) (Nat.gcd (ap n b) (ap a b))
    have h2 := Nat.div_le_self (ap a b) (Nat.gcd (ap n b) (ap a b))
    have h3 : ap n b < 1048576 := by unfold ap; omega
    have h4 : ap a b < 1048576 := by unfold ap; omega
    simp only
    generalize ap n b / Nat.gcd (ap n b) (ap a b) = p at h1
    generalize ap a b / Nat.gcd (ap n b) (ap a b) = q at h2
    omega
  · split <;> simp
end Go.Proofs.YtkdfhgilpnohpaaDoor.WkP
