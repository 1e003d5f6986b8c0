/- What the printed functions on rings come to: states, numbers, lowest terms, states of numbers. -/
import Derived.Test.YtkdfhgilpnohpaaDoorScMath
import Derived.Test.YtkdfhgilpnohpaaDoorScExtB
import Derived.Test.YtkdfhgilpnohpaaDoorSc8
namespace Go.Proofs.YtkdfhgilpnohpaaDoor.ScP
open Go.RowKit Go.Proofs.YtkdfhgilpnohpaaDoor.Sc Go.Proofs.YtkdfhgilpnohpaaDoorW.PrintWords Go.Proofs.YtkdfhgilpnohpaaDoorW.PrintMore
theorem w64 {x : Int} (h0 : -9223372036854775808 ≤ x) (h1 : x ≤ 9223372036854775807) : wrap64 x = x := by unfold wrap64; omega
theorem xor64 (a b : Nat) (ha : a < 2 ^ 62) (hb : b < 2 ^ 62) : Go.bits .xor .i64 a b = ((a ^^^ b : Nat) : Int) := by
  have ha' : a % 2 ^ 64 = a := Nat.mod_eq_of_lt (by omega)
  have hb' : b % 2 ^ 64 = b := Nat.mod_eq_of_lt (by omega)
  have hx : a ^^^ b < 2 ^ 62 := Nat.xor_lt_two_pow ha hb
  have hk : IntKind.i64.bits = 64 := rfl
  simp only [Go.bits, hk, BitVec.ofInt_natCast, BitVec.toNat_xor, BitVec.toNat_ofNat, ha', hb']
  rw [IntKind.wrap_i64]
  omega
theorem and64_1 (a : Nat) (ha : a < 2 ^ 62) : Go.bits .and .i64 a 1 = ((a % 2 : Nat) : Int) := by
  have ha' : a % 2 ^ 64 = a := Nat.mod_eq_of_lt (by omega)
  have hk : IntKind.i64.bits = 64 := rfl
  have h1 : (1 : Int) = ((1 : Nat) : Int) := rfl
  rw [h1]
  simp only [Go.bits, hk, BitVec.ofInt_natCast, BitVec.toNat_and, BitVec.toNat_ofNat, ha']
  have : a &&& 1 % 2 ^ 64 = a % 2 := by rw [show 1 % 2 ^ 64 = 1 from rfl, Nat.and_one_is_mod]
  rw [this, IntKind.wrap_i64]
  omega
theorem shl1 (r : Nat) (hr : r ≤ 40) : shl .i64 1 (r : Int) = ((2 ^ r : Nat) : Int) := by
  have h1 : 2 ^ r ≤ 2 ^ 40 := Nat.pow_le_pow_right (by omega) hr
  have h2 : (2 : Int) ^ r = ((2 ^ r : Nat) : Int) := by rw [Int.natCast_pow]; rfl
  unfold shl
  have hk : IntKind.i64.bits = 64 := rfl
  rw [hk, Int.toNat_natCast, Nat.min_eq_left (by omega), Int.one_mul, h2, IntKind.wrap_i64]
  generalize 2 ^ r = x at h1
  omega
theorem shr64 (n k : Nat) (hk : k ≤ 64) : shr .i64 (n : Int) (k : Int) = ((n / 2 ^ k : Nat) : Int) := by
  unfold shr
  have hb : IntKind.i64.bits = 64 := rfl
  rw [hb, Int.toNat_natCast, Nat.min_eq_left hk, Int.natCast_ediv, Int.natCast_pow]
  rfl
/-- The rings of a text, from the free end on. -/
def bl (s : ByteArray) : List Bool := s.data.toList.map (· == 49)
def okb (l : List UInt8) : Bool := l.all fun b => b == 48 || b == 49
/-- Is a text a state? -/
def stB (s : ByteArray) : Bool := decide (1 ≤ s.size) && decide (s.size ≤ 20) && okb s.data.toList
theorem bl_length (s : ByteArray) : (bl s).length = s.size := by rw [bl, List.length_map, data_length]
theorem stB_iff (s : ByteArray) : stB s = true ↔ 1 ≤ s.size ∧ s.size ≤ 20 ∧ okb s.data.toList = true := by simp [stB, and_assoc]
theorem bt_get (s : ByteArray) (i : Nat) (h : i < s.size) : bt s i = ((s.data.toList[i]'(by rw [data_length]; exact h)).toNat : Int) := by
  have : (i : Int).toNat = i := by omega
  simp [bt, this, h]; rfl
theorem bt_bl (s : ByteArray) (hs : okb s.data.toList = true) (i : Nat) (h : i < s.size) : bt s i = if (bl s)[i]'(by rw [bl_length]; exact h) = true then 49 else 48 := by
  have hl : i < s.data.toList.length := by rw [data_length]; exact h
  rw [bt_get s i h]
  have h2 := List.all_eq_true.1 hs _ (List.getElem_mem hl)
  simp only [bl, List.getElem_map]
  simp only [Bool.or_eq_true, beq_iff_eq] at h2
  rcases h2 with h2 | h2 <;> rw [h2] <;> simp
theorem dropWhile_nil {α : Type} (p : α → Bool) (l : List α) : l.dropWhile p = [] ↔ l.all p = true := by
  induction l with
  | nil => simp
  | cons a t ih => by_cases h : p a = true <;> simp [h, ih]
theorem trimS_nil (l cs : List UInt8) : Lib.trimS l cs = [] ↔ (l.all fun b => cs.contains b) = true := by
  unfold Lib.trimS Lib.trimLeftS Lib.trimRightS
  rw [dropWhile_nil]
  constructor
  · intro h
    have key : ∀ m : List UInt8, (m.dropWhile (cs.contains ·)).all (cs.contains ·) = true → m.all (cs.contains ·) = true := by
      intro m
      induction m with
      | nil => simp
      | cons a t ih => by_cases h : cs.contains a = true <;> simp_all
    have h2 : (l.reverse.dropWhile (cs.contains ·)).all (cs.contains ·) = true := by
      rw [List.all_reverse] at h; exact h
    have := key _ h2
    rwa [List.all_reverse] at this
  · intro h
    have : l.reverse.dropWhile (cs.contains ·) = [] := by rw [dropWhile_nil, List.all_reverse]; exact h
    rw [this]; rfl
theorem toList_nil (l : List UInt8) : ((⟨l.toArray⟩ : ByteArray).toList == ([] : List UInt8)) = decide (l = []) := by
  rw [Lib.toList_data]
  by_cases h : l = [] <;> simp [h]
theorem isState (s : ByteArray) (hs : s.size ≤ 140737488351232) : impl_IsState.f s = some (stB s) := by
  unfold impl_IsState.f impl_in.f
  by_cases h1 : (s.size : Int) ≥ 1
  · rw [if_pos h1]
    simp only [Option.bind_some]
    by_cases h2 : (s.size : Int) ≤ 20
    · have e : decide ((s.size : Int) ≤ 20) = true := decide_eq_true h2
      rw [e, if_pos rfl]
      have hc : strings_Trim.f s ⟨#[48, 49]⟩ = some ⟨(Lib.trimS s.data.toList [48, 49]).toArray⟩ := by
        unfold strings_Trim.f
        rw [if_pos ⟨by omega, by decide, by decide⟩]
      rw [hc]
      simp only [Option.bind_some]
      rw [toList_nil]
      have h3 : stB s = okb s.data.toList := by
        have a1 : decide (1 ≤ s.size) = true := decide_eq_true (by omega)
        have a2 : decide (s.size ≤ 20) = true := decide_eq_true (by omega)
        simp [stB, a1, a2]
      rw [h3]
      congr 1
      rw [Bool.eq_iff_iff, decide_eq_true_iff, trimS_nil]
      have : (fun b : UInt8 => [48, 49].contains b) = fun b => b == 48 || b == 49 := by
        funext b
        rw [Bool.eq_iff_iff]; simp
      rw [this]; rfl
    · have e : decide ((s.size : Int) ≤ 20) = false := decide_eq_false h2
      rw [e, if_neg (by decide)]
      have : stB s = false := by
        have a2 : decide (s.size ≤ 20) = false := decide_eq_false (by omega)
        simp [stB, a2]
      rw [this]
  · rw [if_neg h1]
    simp only [Option.bind_some]
    rw [if_neg (by decide)]
    have : stB s = false := by
      have a2 : decide (1 ≤ s.size) = false := decide_eq_false (by omega)
      simp [stB, a2]
    rw [this]
theorem goodLoop (s : ByteArray) (hs : s.size ≤ 20) (d : Nat) : ∀ i : Nat, i ≤ s.size → s.size - i = d → Ev (fun k => spec_riGood.l0 k s i) (okb (s.data.toList.drop i)) := by
  induction d with
  | zero =>
    intro i hi hd
    have : s.data.toList.drop i = [] := List.drop_of_length_le (by rw [data_length]; omega)
    rw [this]
    refine Ev.step (f := fun _ => some true) (fun k => ?_) (Ev.now _)
    simp only [spec_riGood.l0]
    rw [if_neg (by omega)]
  | succ d ih =>
    intro i hi hd
    have hlt : i < s.size := by omega
    have hl : i < s.data.toList.length := by rw [data_length]; exact hlt
    have h1 : wrap64 ((i : Int) + 1) = ((i + 1 : Nat) : Int) := by rw [w64 (by omega) (by omega)]; rfl
    have hb := bt_get s i hlt
    have hd2 : okb (s.data.toList.drop i) = ((s.data.toList[i] == 48 || s.data.toList[i] == 49) && okb (s.data.toList.drop (i + 1))) := by
      rw [List.drop_eq_getElem_cons hl]; rfl
    rw [hd2]
    by_cases h48 : s.data.toList[i] = 48
    · rw [h48]
      refine Ev.step (f := fun k => spec_riGood.l0 k s ((i + 1 : Nat) : Int)) (fun k => ?_) (ih (i + 1) (by omega) (by omega))
      simp only [spec_riGood.l0]
      rw [if_pos (by omega), if_pos (by omega), hb, h48, if_pos (by decide), h1]
    · by_cases h49 : s.data.toList[i] = 49
      · rw [h49]
        refine Ev.step (f := fun k => spec_riGood.l0 k s ((i + 1 : Nat) : Int)) (fun k => ?_) (ih (i + 1) (by omega) (by omega))
        simp only [spec_riGood.l0]
        rw [if_pos (by omega), if_pos (by omega), hb, h49, if_neg (by decide), if_pos (by decide), h1]
      · have e : (s.data.toList[i] == 48 || s.data.toList[i] == 49) = false := by rw [beq_eq_false_iff_ne.2 h48, beq_eq_false_iff_ne.2 h49]; rfl
        rw [e]
        refine Ev.step (f := fun _ => some false) (fun k => ?_) (Ev.now _)
        simp only [spec_riGood.l0]
        rw [if_pos (by omega), if_pos (by omega), hb, if_neg, if_neg]
        · intro q; exact h49 (UInt8.toNat_inj.1 (by have : (49 : UInt8).toNat = 49 := rfl; omega))
        · intro q; exact h48 (UInt8.toNat_inj.1 (by have : (48 : UInt8).toNat = 48 := rfl; omega))
theorem good (s : ByteArray) : Ev (fun k => spec_riGood.f k s) (stB s) := by
  unfold spec_riGood.f spec_l1In.f
  by_cases h1 : (s.size : Int) ≥ 1
  · rw [if_pos h1]
    simp only [Option.bind_some]
    by_cases h2 : (s.size : Int) ≤ 20
    · have e : decide ((s.size : Int) ≤ 20) = true := decide_eq_true h2
      rw [e]
      simp only [if_true]
      have h3 : stB s = okb (s.data.toList.drop 0) := by
        have a1 : decide (1 ≤ s.size) = true := decide_eq_true (by omega)
        have a2 : decide (s.size ≤ 20) = true := decide_eq_true (by omega)
        simp [stB, a1, a2]
      rw [h3]
      exact goodLoop s (by omega) s.size 0 (by omega) (by omega)
    · have e : decide ((s.size : Int) ≤ 20) = false := decide_eq_false h2
      have : stB s = false := by
        have a2 : decide (s.size ≤ 20) = false := decide_eq_false (by omega)
        simp [stB, a2]
      rw [e, this]
      simp only [Bool.false_eq_true, if_false]
      exact Ev.now _
  · have : stB s = false := by
      have a2 : decide (1 ≤ s.size) = false := decide_eq_false (by omega)
      simp [stB, a2]
    rw [if_neg h1, this]
    simp only [Option.bind_some, Bool.false_eq_true, if_false]
    exact Ev.now _
/-- Are two texts states of as many rings? -/
def alB (a b : ByteArray) : Bool := stB a && stB b && a.size == b.size
theorem alB_iff (a b : ByteArray) : alB a b = true ↔ stB a = true ∧ stB b = true ∧ a.size = b.size := by simp [alB, and_assoc]
theorem alike (a b : ByteArray) (ha : a.size ≤ 140737488351232) (hb : b.size ≤ 140737488351232) : impl_alike.f a b = some (alB a b) := by
  unfold impl_alike.f alB
  rw [isState a ha, isState b hb]
  cases stB a <;> cases stB b <;> simp
  rw [Bool.eq_iff_iff]; simp; omega
theorem riTwo (a b : ByteArray) : Ev (fun k => spec_riTwo.f k a b) (alB a b) := by
  unfold spec_riTwo.f alB
  refine Ev.bind (good a) ?_
  cases stB a
  · exact Ev.now _
  · simp only [if_true, Bool.true_and]
    refine Ev.bind (good b) ?_
    cases stB b
    · exact Ev.now _
    · simp only [if_true, Bool.true_and]
      have : ((a.size : Int) == (b.size : Int)) = (a.size == b.size) := by rw [Bool.eq_iff_iff]; simp; omega
      rw [this]
      exact Ev.now _
/-- The number of a state. -/
def nm (s : ByteArray) : Nat := Rg.num (bl s)
theorem okb_st {s : ByteArray} (h : stB s = true) : okb s.data.toList = true := ((stB_iff s).1 h).2.2
theorem size_pos {s : ByteArray} (h : stB s = true) : 1 ≤ s.size := ((stB_iff s).1 h).1
theorem size_le {s : ByteArray} (h : stB s = true) : s.size ≤ 20 := ((stB_iff s).1 h).2.1
theorem pow_le {n : Nat} (h : n ≤ 20) : 2 ^ n ≤ 1048576 := Nat.pow_le_pow_right (by omega) h
theorem nm_lt (s : ByteArray) : nm s < 2 ^ s.size := by have := Rg.num_lt (bl s); rwa [bl_length] at this
theorem drop_bl (s : ByteArray) (i : Nat) (h : i < s.size) : (bl s).drop i = ((bl s)[i]'(by rw [bl_length]; exact h)) :: (bl s).drop (i + 1) := List.drop_eq_getElem_cons _
theorem gray_drop_lt (s : ByteArray) (h : s.size ≤ 20) (i : Nat) : Rg.gray ((bl s).drop i) < 1048576 := by
  have h1 := Rg.gray_lt ((bl s).drop i)
  have h2 : ((bl s).drop i).length ≤ 20 := by rw [List.length_drop, bl_length]; omega
  have := pow_le h2
  omega
theorem num_drop_lt (s : ByteArray) (h : s.size ≤ 20) (i : Nat) : Rg.num ((bl s).drop i) < 1048576 := by
  have h1 := Rg.num_lt ((bl s).drop i)
  have h2 : ((bl s).drop i).length ≤ 20 := by rw [List.length_drop, bl_length]; omega
  have := pow_le h2
  omega
theorem bitsLoop (s : ByteArray) (hs : stB s = true) : ∀ i : Nat, i ≤ s.size → Ev (fun k => impl_bits.l0 k s (Rg.gray ((bl s).drop i)) ((i : Int) - 1)) (Rg.gray (bl s)) := by
  intro i
  induction i with
  | zero =>
    intro _
    refine Ev.step (f := fun _ => some (Rg.gray (bl s) : Int)) (fun k => ?_) (Ev.now _)
    simp only [impl_bits.l0]
    rw [if_neg (by omega)]; rfl
  | succ i ih =>
    intro hi
    have hb := bt_bl s (okb_st hs) i (by omega)
    have hg := gray_drop_lt s (size_le hs) (i + 1)
    have e : Rg.gray ((bl s).drop i) = 2 * Rg.gray ((bl s).drop (i + 1)) + ((bl s)[i]'(by rw [bl_length]; omega)).toNat := by rw [drop_bl s i (by omega)]; rfl
    have hz := size_le hs
    refine Ev.step (f := fun k => impl_bits.l0 k s (Rg.gray ((bl s).drop i)) ((i : Int) - 1)) (fun k => ?_) (ih (by omega))
    simp only [impl_bits.l0]
    rw [if_pos (by omega), if_pos (by omega), if_pos (by omega)]
    have e1 : ((i + 1 : Nat) : Int) - 1 = (i : Int) := by omega
    rw [e1, hb, e, w64 (x := 2 * _) (by omega) (by omega), w64 (x := (i : Int) - 1) (by omega) (by omega)]
    congr 1
    cases (bl s)[i]'(by rw [bl_length]; omega)
    · simp; rw [w64 (by omega) (by omega)]
    · simp; rw [w64 (by omega) (by omega)]
theorem unrefLoop (g : Nat) : ∀ a : Nat, g < 2 ^ 40 → a < 2 ^ 40 → Ev (fun k => impl_unreflected.l0 k g a) ((a ^^^ Rg.unref g : Nat) : Int) := by
  induction g using Nat.strongRecOn with
  | _ g ih =>
    intro a hg ha
    by_cases h0 : g = 0
    · subst h0
      refine Ev.step (f := fun _ => some (a : Int)) (fun k => ?_) (by rw [Rg.unref_zero, Nat.xor_zero]; exact Ev.now _)
      simp only [impl_unreflected.l0]
      rw [if_neg (by omega)]
    · have h1 := ih (g / 2) (by omega) (a ^^^ g) (by omega) (Nat.xor_lt_two_pow ha hg)
      have e : a ^^^ Rg.unref g = (a ^^^ g) ^^^ Rg.unref (g / 2) := by rw [Rg.unref_half g, Nat.xor_assoc]
      rw [e]
      refine Ev.step (f := fun k => impl_unreflected.l0 k ((g / 2 : Nat) : Int) ((a ^^^ g : Nat) : Int)) (fun k => ?_) h1
      simp only [impl_unreflected.l0]
      rw [if_pos (by omega), xor64 a g (by omega) (by omega)]
      have : Int.tdiv (g : Int) 2 = ((g / 2 : Nat) : Int) := by rw [Int.tdiv_eq_ediv_of_nonneg (by omega)]; rfl
      rw [this, w64 (by omega) (by omega)]
theorem number (s : ByteArray) (hs : stB s = true) : Ev (fun k => impl_number.f k s) (nm s) := by
  unfold impl_number.f impl_bits.f impl_unreflected.f
  have hz := size_le hs
  have hz1 := size_pos hs
  have h1 := bitsLoop s hs s.size (Nat.le_refl _)
  have e : (bl s).drop s.size = [] := List.drop_of_length_le (by rw [bl_length]; omega)
  rw [e] at h1
  rw [w64 (by omega) (by omega)]
  refine Ev.bind h1 ?_
  have hg := gray_drop_lt s hz 0
  rw [List.drop_zero] at hg
  have h2 := unrefLoop (Rg.gray (bl s)) 0 (by omega) (by omega)
  rw [Nat.zero_xor, Rg.unref_gray] at h2
  exact Ev.bind h2 (Ev.now _)
theorem riNumberLoop (s : ByteArray) (hs : stB s = true) : ∀ i : Nat, i ≤ s.size → Ev (fun k => spec_riNumber.l0 k s (Rg.num ((bl s).drop i)) ((Rg.num ((bl s).drop i) % 2 : Nat) : Int) ((i : Int) - 1)) (nm s) := by
  intro i
  induction i with
  | zero =>
    intro _
    refine Ev.step (f := fun _ => some (nm s : Int)) (fun k => ?_) (Ev.now _)
    simp only [spec_riNumber.l0]
    rw [if_neg (by omega)]; rfl
  | succ i ih =>
    intro hi
    have hb := bt_bl s (okb_st hs) i (by omega)
    have hg := num_drop_lt s (size_le hs) (i + 1)
    have e : Rg.num ((bl s).drop i) = 2 * Rg.num ((bl s).drop (i + 1)) + ((bl s)[i]'(by rw [bl_length]; omega) ^^ (Rg.num ((bl s).drop (i + 1)) % 2 == 1)).toNat := by rw [drop_bl s i (by omega)]; rfl
    have hz := size_le hs
    refine Ev.step (f := fun k => spec_riNumber.l0 k s (Rg.num ((bl s).drop i)) ((Rg.num ((bl s).drop i) % 2 : Nat) : Int) ((i : Int) - 1)) (fun k => ?_) (ih (by omega))
    simp only [spec_riNumber.l0]
    rw [if_pos (by omega), if_pos (by omega), if_pos (by omega)]
    have e1 : ((i + 1 : Nat) : Int) - 1 = (i : Int) := by omega
    rw [e1, hb, e, w64 (x := 2 * _) (by omega) (by omega), w64 (x := (i : Int) - 1) (by omega) (by omega), w64 (x := 1 - _) (by omega) (by omega)]
    generalize Rg.num ((bl s).drop (i + 1)) = q at hg
    have hq : q % 2 = 0 ∨ q % 2 = 1 := by omega
    cases (bl s)[i]'(by rw [bl_length]; omega)
    · rw [if_neg (by simp), w64 (by omega) (by omega)]
      rcases hq with hq | hq <;> simp [hq]
    · rw [if_pos (by simp), w64 (by omega) (by omega)]
      rcases hq with hq | hq <;> simp [hq]
theorem riNumber (s : ByteArray) (hs : stB s = true) : Ev (fun k => spec_riNumber.f k s) (nm s) := by
  unfold spec_riNumber.f
  have hz := size_le hs
  have hz1 := size_pos hs
  have h1 := riNumberLoop s hs s.size (Nat.le_refl _)
  have e : (bl s).drop s.size = [] := List.drop_of_length_le (by rw [bl_length]; omega)
  rw [e] at h1
  rw [w64 (by omega) (by omega)]
  exact h1
/-- The greatest number. -/
def top (s : ByteArray) : Nat := 2 ^ s.size - 1
theorem topI (s : ByteArray) (hs : s.size ≤ 20) : wrap64 ((shl .i64 1 (s.size : Int)) - 1) = ((top s : Nat) : Int) := by
  have := pow_le hs
  have hp : 0 < 2 ^ s.size := Nat.two_pow_pos _
  rw [shl1 _ (by omega), w64 (by omega) (by omega)]
  unfold top; omega
/-- How far two numbers are apart. -/
def ap (a b : Nat) : Nat := (a - b) + (b - a)
theorem apart (a b : Nat) (ha : a < 1048576) (hb : b < 1048576) : impl_apart.f a b = some (ap a b : Int) := by
  unfold impl_apart.f mx ap
  rw [w64 (x := (a : Int) - b) (by omega) (by omega), w64 (x := (b : Int) - a) (by omega) (by omega)]
  congr 1
  split <;> omega
theorem nm_lt20 {s : ByteArray} (hs : stB s = true) : nm s < 1048576 := by have := nm_lt s; have := pow_le (size_le hs); omega
theorem inV (a b c : Int) : impl_in.f a b c = some (decide (b ≤ a ∧ a ≤ c)) := by
  unfold impl_in.f
  by_cases h : a ≥ b
  · rw [if_pos h]; congr 1; rw [Bool.eq_iff_iff]; simp; intro; exact h
  · rw [if_neg h]; congr 1; rw [Bool.eq_iff_iff]; simp; intro q; exact absurd q h
theorem l1In (a b c : Int) : spec_l1In.f a b c = some (decide (b ≤ a ∧ a ≤ c)) := by
  unfold spec_l1In.f
  by_cases h : a ≥ b
  · rw [if_pos h]; congr 1; rw [Bool.eq_iff_iff]; simp; intro; exact h
  · rw [if_neg h]; congr 1; rw [Bool.eq_iff_iff]; simp; intro q; exact absurd q h
def lowV (x y : Nat) : Int × Int := (((x / Nat.gcd x y : Nat) : Int), ((y / Nat.gcd x y : Nat) : Int))
theorem tdivN (x y : Nat) : Int.tdiv (x : Int) (y : Int) = ((x / y : Nat) : Int) := by rw [Int.tdiv_eq_ediv_of_nonneg (by omega)]; rfl
theorem tmodN (x y : Nat) : Int.tmod (x : Int) (y : Int) = ((x % y : Nat) : Int) := by rw [Int.tmod_eq_emod_of_nonneg (by omega)]; rfl
theorem div_lt62 {x : Nat} (y : Nat) (h : x < 4611686018427387904) : x / y < 4611686018427387904 := Nat.lt_of_le_of_lt (Nat.div_le_self _ _) h
theorem lowestLoop (x y : Nat) (hx : x < 4611686018427387904) (hy : y < 4611686018427387904) (b : Nat) : ∀ a : Nat, a ≠ 0 ∨ b ≠ 0 →
    Ev (fun k => impl_lowest.l0 k x y a b) (((x / Nat.gcd a b : Nat) : Int), ((y / Nat.gcd a b : Nat) : Int)) := by
  induction b using Nat.strongRecOn with
  | _ b ih =>
    intro a hab
    by_cases hb : b = 0
    · subst hb
      rw [Nat.gcd_zero_right]
      refine Ev.step (f := fun _ => some (((x / a : Nat) : Int), ((y / a : Nat) : Int))) (fun k => ?_) (Ev.now _)
      have h1 := div_lt62 a hx
      have h2 := div_lt62 a hy
      simp only [impl_lowest.l0]
      rw [if_neg (by omega), if_neg (by omega), tdivN, tdivN]
      generalize x / a = p at h1
      generalize y / a = q at h2
      rw [w64 (by omega) (by omega), w64 (by omega) (by omega)]
    · have e : Nat.gcd a b = Nat.gcd b (a % b) := by rw [Nat.gcd_comm a b, Nat.gcd_rec b a, Nat.gcd_comm]
      rw [e]
      refine Ev.step (f := fun k => impl_lowest.l0 k x y (b : Int) ((a % b : Nat) : Int)) (fun k => ?_) (ih (a % b) (Nat.mod_lt _ (by omega)) b (.inl hb))
      simp only [impl_lowest.l0]
      rw [if_pos (by omega), if_neg (by omega), tmodN]
theorem lowest (x y : Nat) (hx : x < 4611686018427387904) (hy : y < 4611686018427387904) (h : y ≠ 0) : Ev (fun k => impl_lowest.f k x y) (lowV x y) := by
  unfold impl_lowest.f lowV
  exact lowestLoop x y hx hy y x (.inr h)
theorem waLowLoop (x y : Nat) (hx : x < 4611686018427387904) (hy : y < 4611686018427387904) (b : Nat) : ∀ a : Nat, a ≠ 0 ∨ b ≠ 0 →
    Ev (fun k => spec_waLow.l0 k x y a b) (((x / Nat.gcd a b : Nat) : Int), ((y / Nat.gcd a b : Nat) : Int)) := by
  induction b using Nat.strongRecOn with
  | _ b ih =>
    intro a hab
    by_cases hb : b = 0
    · subst hb
      rw [Nat.gcd_zero_right]
      refine Ev.step (f := fun _ => some (((x / a : Nat) : Int), ((y / a : Nat) : Int))) (fun k => ?_) (Ev.now _)
      have h1 := div_lt62 a hx
      have h2 := div_lt62 a hy
      simp only [spec_waLow.l0]
      rw [if_neg (by omega), if_neg (by omega), tdivN, tdivN]
      generalize x / a = p at h1
      generalize y / a = q at h2
      rw [w64 (by omega) (by omega), w64 (by omega) (by omega)]
    · have e : Nat.gcd a b = Nat.gcd b (a % b) := by rw [Nat.gcd_comm a b, Nat.gcd_rec b a, Nat.gcd_comm]
      rw [e]
      refine Ev.step (f := fun k => spec_waLow.l0 k x y (b : Int) ((a % b : Nat) : Int)) (fun k => ?_) (ih (a % b) (Nat.mod_lt _ (by omega)) b (.inl hb))
      simp only [spec_waLow.l0]
      rw [if_pos (by omega), if_neg (by omega), tmodN]
theorem waLow (x y : Nat) (hx : x < 4611686018427387904) (hy : y < 4611686018427387904) (h : y ≠ 0) : Ev (fun k => spec_waLow.f k x y) (lowV x y) := by
  unfold spec_waLow.f lowV
  exact waLowLoop x y hx hy y x (.inr h)
theorem evc {α : Type} {x : Option α} {r : α} (h : x = some r) : Ev (fun _ => x) r := ⟨0, fun _ _ => h⟩
theorem Ev.ite_pos {α : Type} {c : Prop} [Decidable c] {g f : Nat → Option α} {r : α} (h : c) (k : Ev g r) : Ev (fun n => if c then g n else f n) r := Ev.congr (fun _ => if_pos h) k
theorem Ev.ite_neg {α : Type} {c : Prop} [Decidable c] {g f : Nat → Option α} {r : α} (h : ¬ c) (k : Ev f r) : Ev (fun n => if c then g n else f n) r := Ev.congr (fun _ => if_neg h) k
theorem absV (x : Int) (h0 : -4611686018427387904 < x) (h1 : x < 4611686018427387904) : spec_l1Abs.f x = some ((x.natAbs : Nat) : Int) := by
  unfold spec_l1Abs.f spec_l1Most.f
  rw [w64 (by omega) (by omega)]
  by_cases h : x > -x
  · rw [if_pos h]; simp only [Option.bind_some]; congr 1; omega
  · rw [if_neg h]; simp only [Option.bind_some]; congr 1; omega
theorem isWalk (a : ByteArray) (ha : stB a = true) : impl_isWalk.f a = some (decide (a.size ≤ 12)) := by
  unfold impl_isWalk.f
  rw [isState a (by have := size_le ha; omega), ha]
  simp only [Option.bind_some, if_true]
  congr 1
  rw [Bool.eq_iff_iff, decide_eq_true_iff, decide_eq_true_iff]; omega
theorem waNumbers (a b : ByteArray) (h : alB a b = true) : Ev (fun k => spec_waNumbers.f k a b) ((nm a : Int), (nm b : Int), (top a : Int)) := by
  obtain ⟨a1, a2, a3⟩ := (alB_iff a b).1 h
  unfold spec_waNumbers.f
  rw [topI a (size_le a1)]
  exact Ev.bind (riNumber a a1) (Ev.bind (riNumber b a2) (Ev.now _))
end Go.Proofs.YtkdfhgilpnohpaaDoor.ScP
namespace Rg
theorem st_get (r : Nat) : ∀ (n i : Nat) (h : i < (st r n).length), (st r n)[i] = (n.testBit i ^^ n.testBit (i + 1)) := by
  induction r with
  | zero => intro n i h; simp [st] at h
  | succ r ih =>
    intro n i h
    cases i with
    | zero =>
      simp only [st, List.getElem_cons_zero]
      rw [Nat.testBit_succ, Nat.testBit_zero, Nat.testBit_zero]; rfl
    | succ i =>
      simp only [st, List.getElem_cons_succ]
      rw [ih, Nat.testBit_succ n i, Nat.testBit_succ n (i + 1)]
end Rg
namespace Go.Proofs.YtkdfhgilpnohpaaDoor.ScP
open Go.RowKit Go.Proofs.YtkdfhgilpnohpaaDoor.Sc Go.Proofs.YtkdfhgilpnohpaaDoorW.PrintWords Go.Proofs.YtkdfhgilpnohpaaDoorW.PrintMore
def dig (b : Bool) : UInt8 := if b = true then 49 else 48
def ofBits (l : List Bool) : ByteArray := ⟨(l.map dig).toArray⟩
/-- The state of r rings with the number n. -/
def sb (r n : Nat) : ByteArray := ofBits (Rg.st r n)
theorem ofBits_list (l : List Bool) : (ofBits l).data.toList = l.map dig := by simp [ofBits]
theorem bl_ofBits (l : List Bool) : bl (ofBits l) = l := by
  unfold bl
  rw [ofBits_list, List.map_map]
  have : ((fun x : UInt8 => x == 49) ∘ dig) = id := by funext b; cases b <;> rfl
  rw [this, List.map_id]
theorem sb_bl (r n : Nat) : bl (sb r n) = Rg.st r n := bl_ofBits _
theorem sb_size (r n : Nat) : (sb r n).size = r := by rw [← bl_length, sb_bl, Rg.st_length]
theorem sb_ok (r n : Nat) (h1 : 1 ≤ r) (h2 : r ≤ 20) : stB (sb r n) = true := by
  rw [stB_iff, sb_size]
  refine ⟨h1, h2, ?_⟩
  unfold sb okb
  rw [ofBits_list, List.all_map, List.all_eq_true]
  intro b _
  cases b <;> rfl
theorem sb_nm (r n : Nat) (h : n < 2 ^ r) : nm (sb r n) = n := by unfold nm; rw [sb_bl]; exact Rg.num_st r n h
def stRow (r n i : Nat) : List Int := (List.range r).map fun j => if j < i then 48 + (((n ^^^ n / 2).testBit j).toNat : Int) else 0
theorem stRow_length (r n i : Nat) : (stRow r n i).length = r := by simp [stRow]
theorem stRow_set (r n i : Nat) : (stRow r n i).set i (48 + (((n ^^^ n / 2).testBit i).toNat : Int)) = stRow r n (i + 1) := by
  apply List.ext_getElem
  · simp [stRow]
  · intro j h1 h2
    rw [List.getElem_set]
    simp only [stRow, List.getElem_map, List.getElem_range]
    by_cases h : i = j
    · subst h; simp
    · rw [if_neg h]
      have : (j < i + 1) ↔ (j < i) := by omega
      simp only [this]
theorem stRow_all (r n : Nat) : strOfNums (stRow r n r) = sb r n := by
  unfold strOfNums sb ofBits
  congr 2
  apply List.ext_getElem
  · simp [stRow, Rg.st_length]
  · intro j h1 h2
    have hj : j < r := by simpa [stRow] using h1
    simp only [stRow, List.getElem_map, List.getElem_range]
    rw [if_pos hj, Rg.st_get, Nat.testBit_xor, ← Nat.testBit_succ]
    cases (n.testBit j ^^ n.testBit (j + 1)) <;> rfl
theorem stateLoop (r n : Nat) (hr : r ≤ 20) (hn : n < 2 ^ 40) (d : Nat) : ∀ i, i ≤ r → r - i = d →
    Ev (fun k => impl_state.l0 k ((n ^^^ n / 2 : Nat) : Int) (stRow r n i) (r : Int) i) (sb r n) := by
  induction d with
  | zero =>
    intro i h1 h2
    obtain rfl : i = r := by omega
    refine Ev.step (f := fun _ => some (sb i n)) (fun k => ?_) (Ev.now _)
    rw [impl_state.l0, if_neg (by omega), stRow_all]
  | succ d ih =>
    intro i h1 h2
    have h3 := ih (i + 1) (by omega) (by omega)
    have ej : wrap64 ((i : Int) + 1) = ((i + 1 : Nat) : Int) := by rw [w64 (by omega) (by omega)]; omega
    refine Ev.step (f := fun k => impl_state.l0 k ((n ^^^ n / 2 : Nat) : Int) (stRow r n (i + 1)) (r : Int) ((i + 1 : Nat) : Int)) (fun k => ?_) h3
    have hx : n ^^^ n / 2 < 2 ^ 40 := Nat.xor_lt_two_pow hn (by omega)
    have hd : (n ^^^ n / 2) / 2 ^ i < 2 ^ 40 := Nat.lt_of_le_of_lt (Nat.div_le_self _ _) hx
    rw [impl_state.l0, if_pos (by omega), if_pos (by omega), stRow_length, if_pos (by omega), shr64 _ _ (by omega), and64_1 _ (by omega), ← Nat.toNat_testBit, ej, Int.toNat_natCast]
    have hb := Bool.toNat_le ((n ^^^ n / 2).testBit i)
    have e : (48 + (((n ^^^ n / 2).testBit i).toNat : Int) % 256) % 256 = 48 + (((n ^^^ n / 2).testBit i).toNat : Int) := by omega
    rw [e, stRow_set]
theorem state (r n : Nat) (hr : r ≤ 20) (hn : n < 2 ^ 40) : Ev (fun k => impl_state.f k r n) (sb r n) := by
  refine Ev.congr (fun k => ?_) (stateLoop r n hr hn r 0 (by omega) (by omega))
  unfold impl_state.f
  have e1 : wrap64 (Int.tdiv (n : Int) 2) = ((n / 2 : Nat) : Int) := by
    have := tdivN n 2
    rw [show ((2 : Nat) : Int) = 2 from rfl] at this
    rw [this, w64 (by omega) (by omega)]
  rw [if_pos (by omega), Int.toNat_natCast, if_pos (by omega), e1, xor64 _ _ (by omega) (by omega)]
  simp only [Option.bind_some]
  have e2 : List.replicate r (0 : Int) = stRow r n 0 := by
    apply List.ext_getElem
    · simp [stRow]
    · intro j h1 h2; simp [stRow]
  rw [e2, stRow_length]; rfl
theorem ofBits_snoc (l : List Bool) (b : Bool) : ofBits l ++ (⟨#[dig b]⟩ : ByteArray) = ofBits (l ++ [b]) := by
  apply ByteArray.ext
  rw [ByteArray.data_append]
  simp [ofBits]
theorem ofBits_size (l : List Bool) : (ofBits l).size = l.length := by rw [← data_length, ofBits_list, List.length_map]
theorem riStateLoop (r n : Nat) (hr : r ≤ 20) (hn : n < 2 ^ 40) (d : Nat) : ∀ i, i ≤ r → r - i = d →
    Ev (fun k => spec_riState.l0 k (r : Int) (n : Int) (ofBits ((Rg.st r n).take i)) i) (sb r n) := by
  induction d with
  | zero =>
    intro i h1 h2
    obtain rfl : i = r := by omega
    refine Ev.step (f := fun _ => some (sb i n)) (fun k => ?_) (Ev.now _)
    rw [spec_riState.l0, if_neg (by omega), List.take_of_length_le (by rw [Rg.st_length]; omega)]; rfl
  | succ d ih =>
    intro i h1 h2
    have h3 := ih (i + 1) (by omega) (by omega)
    have ej : wrap64 ((i : Int) + 1) = ((i + 1 : Nat) : Int) := by rw [w64 (by omega) (by omega)]; omega
    refine Ev.step (f := fun k => spec_riState.l0 k (r : Int) (n : Int) (ofBits ((Rg.st r n).take (i + 1))) ((i + 1 : Nat) : Int)) (fun k => ?_) h3
    have hd : n / 2 ^ i < 2 ^ 40 := Nat.lt_of_le_of_lt (Nat.div_le_self _ _) hn
    have hd2 : n / 2 ^ (i + 1) < 2 ^ 40 := Nat.lt_of_le_of_lt (Nat.div_le_self _ _) hn
    have hl : i < (Rg.st r n).length := by rw [Rg.st_length]; omega
    have hs : (ofBits ((Rg.st r n).take i)).size ≤ 20 := by rw [ofBits_size, List.length_take]; omega
    rw [spec_riState.l0, if_pos (by omega), if_pos (by omega), ej, if_pos (by omega), shr64 _ _ (by omega), shr64 _ _ (by omega), and64_1 _ (by omega), and64_1 _ (by omega), ← Nat.toNat_testBit, ← Nat.toNat_testBit,
      List.take_succ_eq_append_getElem hl, Rg.st_get, ← ofBits_snoc]
    cases n.testBit i <;> cases n.testBit (i + 1)
    · rw [if_pos rfl, if_pos (by omega)]; rfl
    · rw [if_neg (by decide), if_pos (by omega)]; rfl
    · rw [if_neg (by decide), if_pos (by omega)]; rfl
    · rw [if_pos rfl, if_pos (by omega)]; rfl
theorem riState (r n : Nat) (hr : r ≤ 20) (hn : n < 2 ^ 40) : Ev (fun k => spec_riState.f k r n) (sb r n) := by
  have := riStateLoop r n hr hn r 0 (by omega) (by omega)
  exact this
theorem all_ev {α : Type} (l : List Nat) (g : Nat → Nat → Option α) (v : Nat → α) (h : ∀ n ∈ l, Ev (fun k => g k n) (v n)) : ∃ K, ∀ k, K ≤ k → ∀ n ∈ l, g k n = some (v n) := by
  induction l with
  | nil => exact ⟨0, fun _ _ _ h => by cases h⟩
  | cons a t ih =>
    obtain ⟨K1, h1⟩ := ih fun n hn => h n (List.mem_cons_of_mem _ hn)
    obtain ⟨K2, h2⟩ := h a List.mem_cons_self
    refine ⟨K1 + K2, fun k hk n hn => ?_⟩
    rcases List.mem_cons.1 hn with rfl | hn
    · exact h2 k (by omega)
    · exact h1 k (by omega) n hn
theorem taken (r : Nat) (hr : r ≤ 20) (p : Nat → Bool) : Ev (fun k => takenStates k r p) (((List.range (2 ^ r)).filter p).map (sb r)) := by
  have h2 := pow_le hr
  obtain ⟨K, hK⟩ := all_ev (List.range (2 ^ r)) (fun k n => impl_state.f k r n) (sb r) fun n hn => state r n hr (by have := List.mem_range.1 hn; omega)
  refine ⟨K, fun k hk => ?_⟩
  have h := hK k hk
  unfold takenStates
  dsimp only
  rw [if_pos]
  · congr 1
    apply List.map_congr_left
    intro n hn
    rw [h n (List.mem_filter.1 hn).1]; rfl
  · rw [List.all_eq_true]
    intro n hn
    rw [h n hn]; rfl
theorem l1MostV (a b : Int) : spec_l1Most.f a b = some (mx a b) := by
  unfold spec_l1Most.f mx
  by_cases h : a > b
  · rw [if_pos h, if_neg (by omega)]
  · rw [if_neg h]
    by_cases h2 : a < b
    · rw [if_pos h2]
    · rw [if_neg h2]; congr 1; omega
theorem textsLoop (l : List ByteArray) (d : Nat) : ∀ i, i ≤ l.length → l.length - i = d → l.length < 2 ^ 60 → Ev (fun k => laws_yTexts.l0 k l l (l.length : Int) i) true := by
  induction d with
  | zero =>
    intro i h1 h2 _
    refine Ev.step (f := fun _ => some true) (fun k => ?_) (Ev.now _)
    rw [laws_yTexts.l0, if_neg (by omega)]
  | succ d ih =>
    intro i h1 h2 h0
    have h3 := ih (i + 1) (by omega) (by omega) h0
    have ej : wrap64 ((i : Int) + 1) = ((i + 1 : Nat) : Int) := by rw [w64 (by omega) (by omega)]; omega
    refine Ev.step (f := fun k => laws_yTexts.l0 k l l (l.length : Int) ((i + 1 : Nat) : Int)) (fun k => ?_) h3
    rw [laws_yTexts.l0, if_pos (by omega), if_pos (by omega), if_pos (by omega), if_pos (by omega), if_pos rfl, ej]
theorem texts (l : List ByteArray) (h : l.length < 2 ^ 60) : Ev (fun k => laws_yTexts.f k l l) true := by
  unfold laws_yTexts.f
  exact ScP.Ev.ite_pos rfl (textsLoop l l.length 0 (by omega) (by omega) h)
theorem Ev.cases {α : Type} {b : Bool} {g f : Nat → Option α} {r : α} (h1 : b = true → Ev g r) (h2 : b = false → Ev f r) : Ev (fun n => if b = true then g n else f n) r := by
  cases b
  · exact ScP.Ev.ite_neg (by decide) (h2 rfl)
  · exact ScP.Ev.ite_pos rfl (h1 rfl)
theorem ne_self (b : Bool) : ¬ ((b != b) = true) := by cases b <;> decide
end Go.Proofs.YtkdfhgilpnohpaaDoor.ScP
