/- Plain facts on rings as lists of Bools: numbers of states, states of numbers, moves. No program is imported. -/
namespace Rg

/-- The number of a state, its rings from the free end on. -/
def num : List Bool → Nat
  | [] => 0
  | b :: t => 2 * num t + (b ^^ (num t % 2 == 1)).toNat

/-- A state as a number, ring k being worth 2 to the power k. -/
def gray : List Bool → Nat
  | [] => 0
  | b :: t => 2 * gray t + b.toNat

/-- The state of r rings with a number. -/
def st : Nat → Nat → List Bool
  | 0, _ => []
  | r + 1, n => ((n % 2 == 1) ^^ (n / 2 % 2 == 1)) :: st r (n / 2)

def can : List Bool → Nat → Bool
  | [], _ => false
  | _ :: _, 0 => true
  | b :: t, 1 => b && !t.isEmpty
  | b :: t, k + 2 => !b && can t (k + 1)

def flip : List Bool → Nat → List Bool
  | [], _ => []
  | b :: t, 0 => (!b) :: t
  | b :: t, k + 1 => b :: flip t k

theorem odd_toNat (b c : Bool) (m : Nat) : ((2 * m + (b ^^ c).toNat) % 2 == 1) = (b ^^ c) := by
  cases b <;> cases c <;> simp <;> omega

theorem num_odd (b : Bool) (t : List Bool) : (num (b :: t) % 2 == 1) = (b ^^ (num t % 2 == 1)) := odd_toNat _ _ _
theorem num_half (b : Bool) (t : List Bool) : num (b :: t) / 2 = num t := by
  have : (b ^^ (num t % 2 == 1)).toNat ≤ 1 := Bool.toNat_le _
  show (2 * num t + (b ^^ (num t % 2 == 1)).toNat) / 2 = num t
  omega

theorem num_lt (l : List Bool) : num l < 2 ^ l.length := by
  induction l with
  | nil => simp [num]
  | cons b t ih =>
    have : (b ^^ (num t % 2 == 1)).toNat ≤ 1 := Bool.toNat_le _
    show 2 * num t + (b ^^ (num t % 2 == 1)).toNat < 2 ^ (t.length + 1)
    rw [Nat.pow_succ]; omega

theorem gray_lt (l : List Bool) : gray l < 2 ^ l.length := by
  induction l with
  | nil => simp [gray]
  | cons b t ih =>
    have := Bool.toNat_le b
    show 2 * gray t + b.toNat < 2 ^ (t.length + 1)
    rw [Nat.pow_succ]; omega

theorem st_length (r n : Nat) : (st r n).length = r := by
  induction r generalizing n with
  | zero => rfl
  | succ r ih => simp [st, ih]

theorem num_st (r n : Nat) (h : n < 2 ^ r) : num (st r n) = n := by
  induction r generalizing n with
  | zero => simp at h; subst h; rfl
  | succ r ih =>
    rw [Nat.pow_succ] at h
    have h2 := ih (n / 2) (by omega)
    show 2 * num (st r (n / 2)) + (((n % 2 == 1) ^^ (n / 2 % 2 == 1)) ^^ (num (st r (n / 2)) % 2 == 1)).toNat = n
    rw [h2, Bool.xor_assoc, Bool.xor_self, Bool.xor_false]
    rcases Nat.mod_two_eq_zero_or_one n with h3 | h3 <;> simp [h3] <;> omega

theorem st_num (l : List Bool) : st l.length (num l) = l := by
  induction l with
  | nil => rfl
  | cons b t ih =>
    show ((num (b :: t) % 2 == 1) ^^ (num (b :: t) / 2 % 2 == 1)) :: st t.length (num (b :: t) / 2) = b :: t
    rw [num_odd, num_half, ih, Bool.xor_assoc, Bool.xor_self, Bool.xor_false]

theorem num_inj {a b : List Bool} (hl : a.length = b.length) (h : num a = num b) : a = b := by
  rw [← st_num a, ← st_num b, hl, h]

theorem flip_length (l : List Bool) (k : Nat) : (flip l k).length = l.length := by
  induction l generalizing k with
  | nil => rfl
  | cons b t ih => cases k <;> simp [flip, ih]

/-- Ring 0 moved: the number goes up where it is even, down where it is odd. -/
theorem num_flip0 (l : List Bool) (h : l ≠ []) : num (flip l 0) = if num l % 2 = 0 then num l + 1 else num l - 1 := by
  cases l with
  | nil => exact absurd rfl h
  | cons b t =>
    show 2 * num t + ((!b) ^^ (num t % 2 == 1)).toNat = _
    have e : num (b :: t) = 2 * num t + (b ^^ (num t % 2 == 1)).toNat := rfl
    rw [e]
    cases b <;> cases (num t % 2 == 1) <;> simp <;> omega

/-- Another ring moved: the number goes up where it is odd, down where it is even. -/
theorem num_flipS (l : List Bool) (k : Nat) (h : can l (k + 1) = true) :
    (num l % 2 = 1 ∧ num (flip l (k + 1)) = num l + 1) ∨ (num l % 2 = 0 ∧ num (flip l (k + 1)) + 1 = num l) := by
  induction l generalizing k with
  | nil => simp [can] at h
  | cons b t ih =>
    have e2 : ∀ u, num (b :: u) = 2 * num u + (b ^^ (num u % 2 == 1)).toNat := fun _ => rfl
    cases k with
    | zero =>
      simp [can] at h
      obtain ⟨rfl, hne⟩ := h
      have h0 := num_flip0 t hne
      show (_ ∧ num (true :: flip t 0) = _) ∨ (_ ∧ num (true :: flip t 0) + 1 = _)
      rw [e2 (flip t 0), e2 t, h0]
      rcases Nat.mod_two_eq_zero_or_one (num t) with h3 | h3
      · have h4 : (num t + 1) % 2 = 1 := by omega
        simp [h3, h4]; omega
      · have h4 : (num t - 1) % 2 = 0 := by omega
        simp [h3, h4]; omega
    | succ k =>
      simp [can] at h
      obtain ⟨rfl, hc⟩ := h
      show (_ ∧ num (false :: flip t (k + 1)) = _) ∨ (_ ∧ num (false :: flip t (k + 1)) + 1 = _)
      rw [e2 (flip t (k + 1)), e2 t]
      rcases ih k hc with ⟨h3, h4⟩ | ⟨h3, h4⟩
      · rw [h4]
        have h5 : (num t + 1) % 2 = 0 := by omega
        simp [h3, h5]; omega
      · have h5 : num (flip t (k + 1)) % 2 = 1 := by omega
        simp [h3, h5]; omega

/-- The first ring that is on. -/
def first : List Bool → Nat
  | [] => 0
  | b :: t => if b then 0 else first t + 1

theorem first_le (l : List Bool) : first l ≤ l.length := by
  induction l with
  | nil => simp [first]
  | cons b t ih => cases b <;> simp [first] <;> omega

theorem can_iff (l : List Bool) (k : Nat) : can l (k + 1) = true ↔ k = first l ∧ k + 1 < l.length := by
  induction l generalizing k with
  | nil => simp [can]
  | cons b t ih =>
    cases k with
    | zero =>
      cases b
      · simp [can, first]
      · simp [can, first]; cases t <;> simp
    | succ k =>
      cases b
      · simp [can, first, ih]
      · simp [can, first]

theorem num_zero_iff (l : List Bool) : num l = 0 ↔ first l = l.length := by
  induction l with
  | nil => simp [num, first]
  | cons b t ih =>
    have e : num (b :: t) = 2 * num t + (b ^^ (num t % 2 == 1)).toNat := rfl
    have hl := first_le t
    rw [e]
    cases b
    · simp only [first, Bool.false_eq_true, ↓reduceIte, List.length_cons, Nat.add_right_cancel_iff]
      rw [← ih]
      constructor
      · intro h; omega
      · intro h; simp [h]
    · simp only [first, ↓reduceIte, List.length_cons]
      constructor
      · intro h
        have h0 : num t = 0 := by omega
        simp [h0] at h
      · intro h; omega

/-- Just the last ring is on at the greatest number. -/
theorem num_last_iff (l : List Bool) (h : l ≠ []) : num l + 1 = 2 ^ l.length ↔ first l + 1 = l.length := by
  induction l with
  | nil => exact absurd rfl h
  | cons b t ih =>
    have e : num (b :: t) = 2 * num t + (b ^^ (num t % 2 == 1)).toNat := rfl
    have hl := first_le t
    have hlt := num_lt t
    cases t with
    | nil => cases b <;> simp [num, first]
    | cons c u =>
      have ih := ih (by simp)
      have hp : 2 ^ (b :: c :: u).length = 2 * 2 ^ (c :: u).length := by rw [List.length_cons, Nat.pow_succ, Nat.mul_comm]
      rw [e, hp]
      have hp2 : 2 ^ (c :: u).length = 2 * 2 ^ u.length := by rw [List.length_cons, Nat.pow_succ, Nat.mul_comm]
      have hx : (b ^^ (num (c :: u) % 2 == 1)).toNat ≤ 1 := Bool.toNat_le _
      cases b
      · have hf : first (false :: c :: u) = first (c :: u) + 1 := rfl
        have hlen : (false :: c :: u).length = (c :: u).length + 1 := rfl
        rw [hf, hlen, Nat.add_right_cancel_iff, ← ih]
        constructor
        · intro hh; omega
        · intro hh
          have h1 : num (c :: u) % 2 = 1 := by omega
          simp [h1]; omega
      · simp only [first, ↓reduceIte, List.length_cons]
        constructor
        · intro hh
          have h1 : num (c :: u) + 1 = 2 ^ (c :: u).length := by omega
          have h2 : num (c :: u) % 2 = 1 := by omega
          simp [h2] at hh; omega
        · intro hh; omega

/-- What reflecting is taken back by: the sum without carry of a number and all its halves. -/
def unref (g : Nat) : Nat := if _h : g = 0 then 0 else g ^^^ unref (g / 2)
termination_by g
decreasing_by omega

theorem unref_zero : unref 0 = 0 := by rw [unref]; simp
theorem unref_half (g : Nat) : unref g = g ^^^ unref (g / 2) := by
  rw [unref]
  split
  · rename_i h; subst h; simp [unref_zero]
  · rfl

theorem xor_bits (a c : Nat) (b d : Bool) : (2 * a + b.toNat) ^^^ (2 * c + d.toNat) = 2 * (a ^^^ c) + (b ^^ d).toNat := by
  apply Nat.eq_of_testBit_eq
  intro i
  cases i with
  | zero =>
    rw [Nat.testBit_xor, Nat.testBit_zero, Nat.testBit_zero, Nat.testBit_zero]
    cases b <;> cases d <;> simp <;> omega
  | succ i =>
    rw [Nat.testBit_xor, Nat.testBit_succ, Nat.testBit_succ, Nat.testBit_succ]
    have h1 : (2 * a + b.toNat) / 2 = a := by have := Bool.toNat_le b; omega
    have h2 : (2 * c + d.toNat) / 2 = c := by have := Bool.toNat_le d; omega
    have h3 : (2 * (a ^^^ c) + (b ^^ d).toNat) / 2 = a ^^^ c := by have := Bool.toNat_le (b ^^ d); omega
    rw [h1, h2, h3, Nat.testBit_xor]

theorem unref_step (h : Nat) : ∀ c : Bool, unref (2 * h + c.toNat) = 2 * unref h + (c ^^ (unref h % 2 == 1)).toNat := by
  induction h using Nat.strongRecOn with
  | _ h ih =>
    intro c
    have e1 : (2 * h + c.toNat) / 2 = h := by have := Bool.toNat_le c; omega
    rw [unref_half, e1]
    by_cases h0 : h = 0
    · subst h0; cases c <;> simp [unref_zero]
    · have hd : 2 * (h / 2) + (h % 2 == 1).toNat = h := by
        rcases Nat.mod_two_eq_zero_or_one h with h3 | h3 <;> simp [h3] <;> omega
      have h2 := ih (h / 2) (by omega) (h % 2 == 1)
      rw [hd] at h2
      have h4 := unref_half h
      have h5 : (unref h % 2 == 1) = ((h % 2 == 1) ^^ (unref (h / 2) % 2 == 1)) := by rw [h2]; exact odd_toNat _ _ _
      rw [h5]
      rw [show (2 * h + c.toNat) ^^^ unref h = (2 * h + c.toNat) ^^^ (2 * unref (h / 2) + ((h % 2 == 1) ^^ (unref (h / 2) % 2 == 1)).toNat) by rw [← h2]]
      rw [xor_bits, ← h4]

theorem unref_gray (l : List Bool) : unref (gray l) = num l := by
  induction l with
  | nil => exact unref_zero
  | cons b t ih =>
    show unref (2 * gray t + b.toNat) = _
    rw [unref_step, ih]; rfl

end Rg

/- Plain facts on walks along a line 0..last: how many lists of moves lead from one number to another, where a move from an end counts e times. No program is imported. -/

/- Plain facts on how many states have so many rings on. No program is imported. -/
namespace Rg

/-- How many rings are on in the state of r rings with the number n. -/
def ones : Nat → Nat → Nat
  | 0, _ => 0
  | r + 1, n => ((n % 2 == 1) ^^ (n / 2 % 2 == 1)).toNat + ones r (n / 2)

theorem st_count (r : Nat) : ∀ n, (st r n).count true = ones r n := by
  induction r with
  | zero => intro n; rfl
  | succ r ih =>
    intro n
    simp only [st, ones, List.count_cons, ih]
    cases ((n % 2 == 1) ^^ (n / 2 % 2 == 1)) <;> simp <;> omega

theorem ones_le (r : Nat) : ∀ n, ones r n ≤ r := by
  induction r with
  | zero => intro n; exact Nat.le_refl _
  | succ r ih =>
    intro n
    have := ih (n / 2)
    have := Bool.toNat_le ((n % 2 == 1) ^^ (n / 2 % 2 == 1))
    simp only [ones]; omega

theorem countP_twice (p : Nat → Bool) (N : Nat) : (List.range (2 * N)).countP p = (List.range N).countP (fun m => p (2 * m)) + (List.range N).countP (fun m => p (2 * m + 1)) := by
  induction N with
  | zero => rfl
  | succ N ih =>
    rw [show 2 * (N + 1) = 2 * N + 1 + 1 by omega, List.range_succ, List.range_succ, List.range_succ, List.countP_append, List.countP_append, List.countP_append, List.countP_append, ih]
    simp only [List.countP_cons, List.countP_nil]
    omega

theorem countP_pair (p1 p2 q1 q2 : Nat → Bool) (h : ∀ m, (p1 m).toNat + (p2 m).toNat = (q1 m).toNat + (q2 m).toNat) (l : List Nat) :
    l.countP p1 + l.countP p2 = l.countP q1 + l.countP q2 := by
  induction l with
  | nil => rfl
  | cons a t ih =>
    have := h a
    simp only [List.countP_cons]
    cases h1 : p1 a <;> cases h2 : p2 a <;> cases h3 : q1 a <;> cases h4 : q2 a <;> simp [h1, h2, h3, h4] at this ⊢ <;> omega

/-- How many states of r rings have k rings on. -/
def cnt (r k : Nat) : Nat := (List.range (2 ^ r)).countP fun n => ones r n == k
def bin : Nat → Nat → Nat
  | 0, 0 => 1
  | 0, _ + 1 => 0
  | r + 1, 0 => bin r 0
  | r + 1, k + 1 => bin r (k + 1) + bin r k

theorem ones_even (r m : Nat) : ones (r + 1) (2 * m) = (m % 2 == 1).toNat + ones r m := by
  have h1 : 2 * m % 2 = 0 := by omega
  have h2 : 2 * m / 2 = m := by omega
  simp [ones, h1, h2]
theorem ones_odd (r m : Nat) : ones (r + 1) (2 * m + 1) = (!(m % 2 == 1)).toNat + ones r m := by
  have h1 : (2 * m + 1) % 2 = 1 := by omega
  have h2 : (2 * m + 1) / 2 = m := by omega
  simp [ones, h1, h2]

theorem cnt_succ (r k : Nat) : cnt (r + 1) (k + 1) = cnt r (k + 1) + cnt r k := by
  unfold cnt
  rw [Nat.pow_succ, Nat.mul_comm, countP_twice]
  apply countP_pair
  intro m
  rw [ones_even, ones_odd]
  cases (m % 2 == 1)
  · simp only [Bool.toNat_false, Bool.not_false, Bool.toNat_true, Nat.zero_add]
    have : (1 + ones r m == k + 1) = (ones r m == k) := by rw [Bool.eq_iff_iff, beq_iff_eq, beq_iff_eq]; omega
    rw [this]
  · simp only [Bool.toNat_false, Bool.not_true, Bool.toNat_true, Nat.zero_add]
    have : (1 + ones r m == k + 1) = (ones r m == k) := by rw [Bool.eq_iff_iff, beq_iff_eq, beq_iff_eq]; omega
    rw [this, Nat.add_comm]
theorem cnt_succ0 (r : Nat) : cnt (r + 1) 0 = cnt r 0 := by
  unfold cnt
  rw [Nat.pow_succ, Nat.mul_comm, countP_twice]
  have h0 : (List.range (2 ^ r)).countP (fun _ => false) = 0 := by simp
  rw [← Nat.add_zero ((List.range (2 ^ r)).countP fun n => ones r n == 0), ← h0]
  apply countP_pair
  intro m
  rw [ones_even, ones_odd]
  cases (m % 2 == 1)
  · have : (1 + ones r m == 0) = false := by rw [beq_eq_false_iff_ne]; omega
    simp [this]
  · have : (1 + ones r m == 0) = false := by rw [beq_eq_false_iff_ne]; omega
    simp [this]

theorem cnt_bin (r : Nat) : ∀ k, cnt r k = bin r k := by
  induction r with
  | zero =>
    intro k
    cases k with
    | zero => rfl
    | succ k => simp [cnt, bin, ones]
  | succ r ih =>
    intro k
    cases k with
    | zero => rw [cnt_succ0, ih]; rfl
    | succ k => rw [cnt_succ, ih, ih]; rfl

/-- All states are counted. -/
def binSum (r : Nat) : Nat → Nat
  | 0 => 0
  | k + 1 => binSum r k + bin r k
theorem bin_all : ∀ r, r < 13 → binSum r (r + 1) = 2 ^ r := by decide
theorem bin_pos : ∀ r, r < 13 → ∀ k, k < r + 1 → 1 ≤ bin r k := by decide
theorem bin_le : ∀ r, r < 13 → ∀ k, k < r + 1 → bin r k ≤ 924 := by decide
/-- Counted by factors. -/
def binMul (r k : Nat) : Nat → Nat
  | 0 => 1
  | i + 1 => binMul r k i * (r - k + (i + 1)) / (i + 1)
theorem bin_mul : ∀ r, r < 13 → ∀ k, k < r + 1 → binMul r k k = bin r k := by decide
theorem bin_mul_le : ∀ r, r < 13 → ∀ k, k < r + 1 → ∀ i, i < k + 1 → binMul r k i ≤ 924 := by decide
end Rg
