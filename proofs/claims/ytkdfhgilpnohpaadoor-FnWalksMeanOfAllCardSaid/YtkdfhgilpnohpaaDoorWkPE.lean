/- What the printed functions on rings come to: walks and shares along the line of numbers. -/
import Derived.Test.YtkdfhgilpnohpaaDoorWkPA
import Derived.Test.YtkdfhgilpnohpaaDoorMathRing
import Derived.Test.YtkdfhgilpnohpaaDoorWk6
import Derived.Test.YtkdfhgilpnohpaaDoorWk8
import Derived.Test.YtkdfhgilpnohpaaDoorWk7
import Derived.Test.YtkdfhgilpnohpaaDoorExtC
import Derived.Test.YtkdfhgilpnohpaaDoorExtD
import Derived.Test.YtkdfhgilpnohpaaDoorExtB
import Derived.Test.YtkdfhgilpnohpaaDoorWk11
namespace Go.Proofs.YtkdfhgilpnohpaaDoor.WkP
open Go.RowKit Go.Proofs.YtkdfhgilpnohpaaDoor.Wk Go.Proofs.YtkdfhgilpnohpaaDoorW.PrintWords Go.Proofs.YtkdfhgilpnohpaaDoorW.PrintMore

/-! ### 1. Rows of numbers 0..L -/
def vec (L : Nat) (f : Nat → Nat) : List Int := (List.range (L + 1)).map fun n => (f n : Int)
theorem vec_length (L : Nat) (f : Nat → Nat) : (vec L f).length = L + 1 := by simp [vec]
theorem vec_congr {L : Nat} {f g : Nat → Nat} (h : ∀ n, n ≤ L → f n = g n) : vec L f = vec L g := by
  unfold vec
  apply List.map_congr_left
  intro n hn
  rw [h n (by have := List.mem_range.1 hn; omega)]
theorem vec_rd (L : Nat) (f : Nat → Nat) (i : Nat) (h : i ≤ L) : rd (vec L f) i = f i := by
  have h' : i < (vec L f).length := by rw [vec_length]; omega
  unfold rd
  rw [Int.toNat_natCast, List.getD_eq_getElem?_getD, List.getElem?_eq_getElem h']
  simp [vec]
def up (f : Nat → Nat) (i v : Nat) : Nat → Nat := fun n => if n = i then v else f n
theorem vec_set (L : Nat) (f : Nat → Nat) (i v : Nat) : (vec L f).set i (v : Int) = vec L (up f i v) := by
  apply List.ext_getElem
  · simp [vec]
  · intro n h1 h2
    rw [List.getElem_set]
    simp only [vec, List.getElem_map, List.getElem_range, up]
    by_cases h : i = n
    · subst h; simp
    · rw [if_neg h, if_neg (fun q => h q.symm)]
theorem vec_zero (L : Nat) : List.replicate (L + 1) (0 : Int) = vec L fun _ => 0 := by
  unfold vec
  apply List.ext_getElem
  · simp
  · intro n h1 h2; simp

/-- A row in the making: what the numbers below j have handed on. -/
def ps (e L : Nat) (row : Nat → Nat) (j y : Nat) : Nat :=
  (if 0 < y ∧ y - 1 < j then Wk.wt e L (y - 1) * row (y - 1) else 0) + (if y < L ∧ y + 1 < j then Wk.wt e L (y + 1) * row (y + 1) else 0)
theorem ps_zero (e L : Nat) (row : Nat → Nat) (y : Nat) : ps e L row 0 y = 0 := by unfold ps; rw [if_neg (by omega), if_neg (by omega)]
theorem ps_step (e L : Nat) (row : Nat → Nat) (j y : Nat) (hj : j ≤ L) :
    ps e L row (j + 1) y = ps e L row j y + (if y = j + 1 ∨ y + 1 = j then Wk.wt e L j * row j else 0) := by
  unfold ps
  by_cases h1 : y = j + 1
  · subst h1
    rw [if_pos (by omega), if_neg (by omega), if_neg (by omega), if_neg (by omega), if_pos (.inl rfl)]; simp
  · by_cases h2 : y + 1 = j
    · subst h2
      rw [if_pos (show y = y + 1 + 1 ∨ y + 1 = y + 1 from .inr rfl)]
      have e1 : (0 < y ∧ y - 1 < y + 1 + 1) ↔ (0 < y ∧ y - 1 < y + 1) := by omega
      simp only [e1]
      rw [if_pos (c := y < L ∧ y + 1 < y + 1 + 1) (by omega), if_neg (c := y < L ∧ y + 1 < y + 1) (by omega)]; omega
    · rw [if_neg (c := y = j + 1 ∨ y + 1 = j) (by omega)]
      have e1 : (0 < y ∧ y - 1 < j + 1) ↔ (0 < y ∧ y - 1 < j) := by omega
      have e2 : (y < L ∧ y + 1 < j + 1) ↔ (y < L ∧ y + 1 < j) := by omega
      simp only [e1, e2, Nat.add_zero]
theorem wt_le (e L n : Nat) (he : e ≤ 2) : Wk.wt e L n ≤ 2 := by unfold Wk.wt; split <;> omega
theorem wr_le (e L : Nat) (row : Nat → Nat) (he : e ≤ 2) (hr : ∀ n, n ≤ L → row n ≤ 2 ^ 40) (j : Nat) (hj : j ≤ L) : Wk.wt e L j * row j ≤ 2 ^ 41 := by
  have := Nat.mul_le_mul (wt_le e L j he) (hr j hj)
  omega
theorem ps_le (e L : Nat) (row : Nat → Nat) (he : e ≤ 2) (hr : ∀ n, n ≤ L → row n ≤ 2 ^ 40) (j y : Nat) (hy : y ≤ L) : ps e L row j y ≤ 2 ^ 42 := by
  unfold ps
  have h1 : (if 0 < y ∧ y - 1 < j then Wk.wt e L (y - 1) * row (y - 1) else 0) ≤ 2 ^ 41 := by
    split
    · exact wr_le e L row he hr _ (by omega)
    · omega
  have h2 : (if y < L ∧ y + 1 < j then Wk.wt e L (y + 1) * row (y + 1) else 0) ≤ 2 ^ 41 := by
    split
    · exact wr_le e L row he hr _ (by omega)
    · omega
  omega
theorem ps_all (e L m x y : Nat) (hy : y ≤ L) : ps e L (Wk.C e L m x) (L + 1) y = Wk.C e L (m + 1) x y := by
  show _ = (if 0 < y then _ else 0) + (if y < L then _ else 0)
  unfold ps
  have e1 : (0 < y ∧ y - 1 < L + 1) ↔ 0 < y := by omega
  have e2 : (y < L ∧ y + 1 < L + 1) ↔ y < L := by omega
  simp only [e1, e2]

/-- Both numbers beside j get what j hands on. -/
theorem vec_both (e L : Nat) (row : Nat → Nat) (j : Nat) (h0 : 0 < j) (hj : j < L) (w : Nat) (hw : w = Wk.wt e L j * row j) :
    vec L (up (up (ps e L row j) (j - 1) (ps e L row j (j - 1) + w)) (j + 1) (ps e L row j (j + 1) + w)) = vec L (ps e L row (j + 1)) := by
  apply vec_congr
  intro n hn
  rw [ps_step e L row j n (by omega), ← hw]
  unfold up
  by_cases h1 : n = j + 1
  · subst h1; rw [if_pos rfl, if_pos (.inl rfl)]
  · rw [if_neg h1]
    by_cases h2 : n = j - 1
    · subst h2; rw [if_pos rfl, if_pos (by omega)]
    · rw [if_neg h2, if_neg (by omega), Nat.add_zero]
theorem vec_left (e L : Nat) (row : Nat → Nat) (h0 : 0 < L) (w : Nat) (hw : w = Wk.wt e L L * row L) :
    vec L (up (ps e L row L) (L - 1) (ps e L row L (L - 1) + w)) = vec L (ps e L row (L + 1)) := by
  apply vec_congr
  intro n hn
  rw [ps_step e L row L n (by omega), ← hw]
  unfold up
  by_cases h2 : n = L - 1
  · subst h2; rw [if_pos rfl, if_pos (by omega)]
  · rw [if_neg h2, if_neg (by omega), Nat.add_zero]
theorem vec_right (e L : Nat) (row : Nat → Nat) (w : Nat) (hw : w = Wk.wt e L 0 * row 0) :
    vec L (up (ps e L row 0) 1 (ps e L row 0 1 + w)) = vec L (ps e L row 1) := by
  apply vec_congr
  intro n hn
  rw [ps_step e L row 0 n (by omega), ← hw]
  unfold up
  by_cases h2 : n = 1
  · subst h2; rw [if_pos rfl, if_pos (by omega)]
  · rw [if_neg h2, if_neg (by omega), Nat.add_zero]

/-! ### 2. What one number hands on, in the code's words -/
/-- Sets the entries beside j. -/
def put (L j w : Nat) (f : Nat → Nat) : Nat → Nat :=
  if j = 0 then up f 1 (f 1 + w) else if j = L then up f (L - 1) (f (L - 1) + w) else up (up f (j - 1) (f (j - 1) + w)) (j + 1) (f (j + 1) + w)
theorem vec_put (e L : Nat) (row : Nat → Nat) (hL : 0 < L) (j : Nat) (hj : j ≤ L) : vec L (put L j (Wk.wt e L j * row j) (ps e L row j)) = vec L (ps e L row (j + 1)) := by
  unfold put
  by_cases h0 : j = 0
  · subst h0; rw [if_pos rfl]; exact vec_right e L row _ rfl
  · rw [if_neg h0]
    by_cases h1 : j = L
    · subst h1; rw [if_pos rfl]; exact vec_left e j row hL _ rfl
    · rw [if_neg h1]; exact vec_both e L row j (by omega) (by omega) _ rfl

theorem set_at (L : Nat) (f : Nat → Nat) (i w : Nat) (hi : i ≤ L) (hf : f i ≤ 2 ^ 43) (hw : w ≤ 2 ^ 43) (x : Int) (hx : x = (i : Int)) :
    (vec L f).set x.toNat (wrap64 (rd (vec L f) x + (w : Int))) = vec L (up f i (f i + w)) := by
  subst hx
  rw [vec_rd L f i hi, w64 (by omega) (by omega), Int.toNat_natCast]
  exact vec_set L f i (f i + w)

/-! ### 3. The loops -/
theorem spreadL1 (e L : Nat) (he : e ≤ 2) (hL : 0 < L) (hL2 : L < 1048576) (row : Nat → Nat) (hr : ∀ n, n ≤ L → row n ≤ 2 ^ 40) (x23 x24 : Int) (r : List Int)
    (h : Ev (fun k => impl_spread.l0 k e L (vec L (ps e L row (L + 1))) x23 (wrap64 (x24 + 1))) r) (d : Nat) : ∀ j, j ≤ L + 1 → L + 1 - j = d →
    Ev (fun k => impl_spread.l1 k e L (vec L (ps e L row j)) x23 x24 (vec L row) ((L + 1 : Nat) : Int) j) r := by
  induction d with
  | zero =>
    intro j h1 h2
    obtain rfl : j = L + 1 := by omega
    refine Ev.step (f := fun k => impl_spread.l0 k e L (vec L (ps e L row (L + 1))) x23 (wrap64 (x24 + 1))) (fun k => ?_) h
    rw [impl_spread.l1, if_neg (by omega)]
  | succ d ih =>
    intro j h1 h2
    have hj : j ≤ L := by omega
    have h3 := ih (j + 1) (by omega) (by omega)
    rw [← vec_put e L row hL j hj] at h3
    have hrow := hr j hj
    have hw := wr_le e L row he hr j hj
    have ej : wrap64 ((j : Int) + 1) = ((j + 1 : Nat) : Int) := by rw [w64 (by omega) (by omega)]; omega
    have key : ∀ f : Nat → Nat, (∀ n, n ≤ L → f n ≤ 2 ^ 42) → ∀ w : Nat, w ≤ 2 ^ 41 →
        Ev (fun k => impl_spread.l1 k e L (vec L (put L j w f)) x23 x24 (vec L row) ((L + 1 : Nat) : Int) ((j + 1 : Nat) : Int)) r →
        Ev (fun k => impl_spread.j3 k e L (vec L f) j w x23 x24 (vec L row) ((L + 1 : Nat) : Int) j) r := by
      intro f hf w hw hh
      refine Ev.step (f := fun k => impl_spread.l1 k e L (vec L (put L j w f)) x23 x24 (vec L row) ((L + 1 : Nat) : Int) ((j + 1 : Nat) : Int)) (fun k => ?_) hh
      rw [impl_spread.j3, ej]
      unfold put
      by_cases h0 : j = 0
      · subst h0
        rw [if_neg (by omega), if_pos (by omega), if_pos (by omega), vec_length, if_pos (by omega), if_pos rfl,
          set_at L f 1 w (by omega) (by have := hf 1 (by omega); omega) (by omega) _ (by omega)]
      · have em : wrap64 ((j : Int) - 1) = ((j - 1 : Nat) : Int) := by rw [w64 (by omega) (by omega)]; omega
        rw [if_pos (by omega), em, if_pos (by omega), vec_length, if_pos (by omega), if_neg h0,
          set_at L f (j - 1) w (by omega) (by have := hf (j - 1) (by omega); omega) (by omega) _ rfl]
        simp only [Option.bind_some]
        by_cases h4 : j = L
        · rw [if_neg (by omega), if_pos h4, h4]
        · have hu : up f (j - 1) (f (j - 1) + w) (j + 1) = f (j + 1) := by unfold up; rw [if_neg (by omega)]
          rw [if_pos (by omega), if_pos (by omega), if_pos (by omega), if_neg h4,
            set_at L _ (j + 1) w (by omega) (by rw [hu]; have := hf (j + 1) (by omega); omega) (by omega) _ rfl, hu]
    have k3 := key (ps e L row j) (fun n hn => ps_le e L row he hr j n hn) _ hw h3
    have k2 : Ev (fun k => impl_spread.j2 k e L (vec L (ps e L row j)) j (row j) x23 x24 (vec L row) ((L + 1 : Nat) : Int) j (decide (j = 0 ∨ j = L))) r := by
      refine Ev.step (f := fun k => impl_spread.j3 k e L (vec L (ps e L row j)) j ((Wk.wt e L j * row j : Nat) : Int) x23 x24 (vec L row) ((L + 1 : Nat) : Int) j) (fun k => ?_) k3
      rw [impl_spread.j2]
      by_cases hb : j = 0 ∨ j = L
      · rw [decide_eq_true hb, if_pos rfl]
        have e1 : Wk.wt e L j = e := if_pos hb
        have e2 : wrap64 ((row j : Int) * (e : Int)) = ((Wk.wt e L j * row j : Nat) : Int) := by
          rw [e1] at hw ⊢
          rw [show (row j : Int) * (e : Int) = ((e * row j : Nat) : Int) by rw [Int.natCast_mul, Int.mul_comm]]
          exact w64 (by omega) (by omega)
        rw [e2]
      · rw [decide_eq_false hb, if_neg (by decide)]
        have e1 : Wk.wt e L j = 1 := if_neg hb
        rw [e1, Nat.one_mul]
    refine Ev.step (f := fun k => impl_spread.j2 k e L (vec L (ps e L row j)) j (row j) x23 x24 (vec L row) ((L + 1 : Nat) : Int) j (decide (j = 0 ∨ j = L))) (fun k => ?_) k2
    rw [impl_spread.l1, if_pos (by omega), if_pos (by omega), vec_length, if_pos (by omega), vec_rd L row j hj]
    by_cases h0 : j = 0
    · rw [if_pos (by omega), decide_eq_true (.inl h0)]
    · rw [if_neg (by omega)]
      congr 1
      rw [Bool.eq_iff_iff, beq_iff_eq, decide_eq_true_iff]; omega

theorem C_bound (e L m x : Nat) (he : e = 1 ∨ e = 2) (hL : 0 < L) (hm : m ≤ 40) (hx : x ≤ L) : ∀ n, n ≤ L → Wk.C e L m x n ≤ 2 ^ 40 := by
  intro n hn
  have h1 := Wk.C_le L hL m x n hx hn
  have h2 := Wk.C_mono L m x n
  have h3 : 2 ^ m ≤ 2 ^ 40 := Nat.pow_le_pow_right (by omega) hm
  rcases he with rfl | rfl <;> omega

theorem spreadL0 (e L : Nat) (he : e = 1 ∨ e = 2) (hL : 0 < L) (hL2 : L < 1048576) (x M : Nat) (hx : x ≤ L) (hM : M ≤ 40) (d : Nat) : ∀ m, m ≤ M → M - m = d →
    Ev (fun k => impl_spread.l0 k e L (vec L (Wk.C e L m x)) M m) (vec L (Wk.C e L M x)) := by
  induction d with
  | zero =>
    intro m h1 h2
    obtain rfl : m = M := by omega
    refine Ev.step (f := fun _ => some (vec L (Wk.C e L m x))) (fun k => ?_) (Ev.now _)
    rw [impl_spread.l0, if_neg (by omega)]
  | succ d ih =>
    intro m h1 h2
    have h3 := ih (m + 1) (by omega) (by omega)
    have e1 : vec L (Wk.C e L (m + 1) x) = vec L (ps e L (Wk.C e L m x) (L + 1)) := vec_congr fun n hn => (ps_all e L m x n hn).symm
    have em : wrap64 ((m : Int) + 1) = ((m + 1 : Nat) : Int) := by rw [w64 (by omega) (by omega)]; omega
    rw [e1, ← em] at h3
    have h4 := spreadL1 e L (by omega) hL hL2 (Wk.C e L m x) (C_bound e L m x he hL (by omega) hx) M m _ h3 (L + 1) 0 (by omega) (by omega)
    refine Ev.step (f := fun k => impl_spread.l1 k e L (vec L (ps e L (Wk.C e L m x) 0)) M m (vec L (Wk.C e L m x)) ((L + 1 : Nat) : Int) ((0 : Nat) : Int)) (fun k => ?_) h4
    have eL : wrap64 ((L : Int) + 1) = ((L + 1 : Nat) : Int) := by rw [w64 (by omega) (by omega)]; omega
    rw [impl_spread.l0, if_pos (by omega), eL, if_pos (by omega), Int.toNat_natCast, if_pos (by omega), vec_length, vec_zero]
    have : vec L (ps e L (Wk.C e L m x) 0) = vec L fun _ => 0 := vec_congr fun n _ => ps_zero _ _ _ n
    rw [this]; rfl

theorem top_pos {s : ByteArray} (hs : stB s = true) : 0 < top s := by
  have h : 2 ^ 1 ≤ 2 ^ s.size := Nat.pow_le_pow_right (by omega) (size_pos hs)
  unfold top; omega
theorem vec_one (L x : Nat) (e : Nat) : (List.replicate (L + 1) (0 : Int)).set x 1 = vec L (Wk.C e L 0 x) := by
  rw [vec_zero]
  have := vec_set L (fun _ => 0) x 1
  rw [show ((1 : Nat) : Int) = 1 from rfl] at this
  rw [this]
  apply vec_congr
  intro n _
  unfold up
  show _ = if x = n then 1 else 0
  by_cases h : n = x
  · rw [if_pos h, if_pos h.symm]
  · rw [if_neg h, if_neg (fun q => h q.symm)]

theorem spread (s : ByteArray) (hs : stB s = true) (M e : Nat) (hM : M ≤ 40) (he : e = 1 ∨ e = 2) :
    Ev (fun k => impl_spread.f k s M e) (vec (top s) (Wk.C e (top s) M (nm s))) := by
  have ht := top_lt (size_le hs)
  have hn := nm_top s
  have e1 : wrap64 ((top s : Int) + 1) = ((top s + 1 : Nat) : Int) := by rw [w64 (by omega) (by omega)]; omega
  refine Ev.congr (f := fun k => (impl_number.f k s).bind fun t169 => (if 0 ≤ t169 then (if t169 < ((List.replicate (top s + 1) (0 : Int)).length : Int) then (impl_spread.l0 k e (top s : Int) ((List.replicate (top s + 1) 0).set (t169 : Int).toNat 1) M 0) else none) else none)) (fun k => ?_) ?_
  · unfold impl_spread.f
    rw [topI s (size_le hs), e1, if_pos (by omega), Int.toNat_natCast, if_pos (by omega)]
    rfl
  · refine Ev.bind (number s hs) ?_
    refine Ev.congr (fun k => by rw [if_pos (by omega), if_pos (by rw [List.length_replicate]; omega), Int.toNat_natCast, vec_one _ _ e]) ?_
    exact spreadL0 e (top s) he (top_pos hs) ht (nm s) M hn hM M 0 (by omega) (by omega)
end Go.Proofs.YtkdfhgilpnohpaaDoor.WkP

/- What the printed functions on rings come to: the other program's walks and shares; WalksTo, ChanceAfter. -/
namespace Go.Proofs.YtkdfhgilpnohpaaDoor.WkP
open Go.RowKit Go.Proofs.YtkdfhgilpnohpaaDoor.Wk Go.Proofs.YtkdfhgilpnohpaaDoorW.PrintWords Go.Proofs.YtkdfhgilpnohpaaDoorW.PrintMore

theorem walksL1 (L : Nat) (hL : 0 < L) (hL2 : L < 1048576) (row : Nat → Nat) (hr : ∀ n, n ≤ L → row n ≤ 2 ^ 40) (x2 : Int) (r : List Int)
    (h : Ev (fun k => spec_waWalks.l0 k L (wrap64 (x2 - 1)) (vec L (ps 1 L row (L + 1)))) r) (d : Nat) : ∀ j, j ≤ L + 1 → L + 1 - j = d →
    Ev (fun k => spec_waWalks.l1 k L x2 (vec L (ps 1 L row j)) (vec L row) ((L + 1 : Nat) : Int) j) r := by
  induction d with
  | zero =>
    intro j h1 h2
    obtain rfl : j = L + 1 := by omega
    refine Ev.step (f := fun k => spec_waWalks.l0 k L (wrap64 (x2 - 1)) (vec L (ps 1 L row (L + 1)))) (fun k => ?_) h
    rw [spec_waWalks.l1, if_neg (by omega)]
  | succ d ih =>
    intro j h1 h2
    have hj : j ≤ L := by omega
    have h3 := ih (j + 1) (by omega) (by omega)
    rw [← vec_put 1 L row hL j hj] at h3
    have hrow := hr j hj
    have hw := wr_le 1 L row (by omega) hr j hj
    have ej : wrap64 ((j : Int) + 1) = ((j + 1 : Nat) : Int) := by rw [w64 (by omega) (by omega)]; omega
    have hf : ∀ n, n ≤ L → ps 1 L row j n ≤ 2 ^ 42 := fun n hn => ps_le 1 L row (by omega) hr j n hn
    have ew : Wk.wt 1 L j * row j = row j := by rw [Wk.wt_one, Nat.one_mul]
    rw [ew] at h3
    refine Ev.step (f := fun k => spec_waWalks.l1 k L x2 (vec L (put L j (row j) (ps 1 L row j))) (vec L row) ((L + 1 : Nat) : Int) ((j + 1 : Nat) : Int)) (fun k => ?_) h3
    generalize ps 1 L row j = f at hf
    rw [spec_waWalks.l1, if_pos (by omega), if_pos (by omega), vec_length, if_pos (by omega), vec_rd L row j hj, ej]
    unfold put
    by_cases h0 : j = 0
    · subst h0
      rw [if_neg (by omega), if_pos (by omega), if_pos (by omega), vec_length, if_pos (by omega), if_pos rfl,
        set_at L f 1 _ (by omega) (by have := hf 1 (by omega); omega) (by omega) _ (by omega)]
    · have em : wrap64 ((j : Int) - 1) = ((j - 1 : Nat) : Int) := by rw [w64 (by omega) (by omega)]; omega
      rw [if_pos (by omega), em, if_pos (by omega), vec_length, if_pos (by omega), if_neg h0,
        set_at L f (j - 1) _ (by omega) (by have := hf (j - 1) (by omega); omega) (by omega) _ rfl]
      simp only [Option.bind_some]
      by_cases h4 : j = L
      · rw [if_neg (by omega), if_pos h4, h4]
      · have hu : up f (j - 1) (f (j - 1) + row j) (j + 1) = f (j + 1) := by unfold up; rw [if_neg (by omega)]
        rw [if_pos (by omega), if_pos (by omega), if_pos (by omega), if_neg h4,
          set_at L _ (j + 1) _ (by omega) (by rw [hu]; have := hf (j + 1) (by omega); omega) (by omega) _ rfl, hu]

theorem walksL0 (L : Nat) (hL : 0 < L) (hL2 : L < 1048576) (x M : Nat) (hx : x ≤ L) (hM : M ≤ 40) (d : Nat) : ∀ m, m ≤ M → M - m = d →
    Ev (fun k => spec_waWalks.l0 k L (d : Int) (vec L (Wk.C 1 L m x))) (vec L (Wk.C 1 L M x)) := by
  induction d with
  | zero =>
    intro m h1 h2
    obtain rfl : m = M := by omega
    refine Ev.step (f := fun _ => some (vec L (Wk.C 1 L m x))) (fun k => ?_) (Ev.now _)
    rw [spec_waWalks.l0, if_neg (by omega)]
  | succ d ih =>
    intro m h1 h2
    have h3 := ih (m + 1) (by omega) (by omega)
    have e1 : vec L (Wk.C 1 L (m + 1) x) = vec L (ps 1 L (Wk.C 1 L m x) (L + 1)) := vec_congr fun n hn => (ps_all 1 L m x n hn).symm
    have em : wrap64 (((d + 1 : Nat) : Int) - 1) = (d : Int) := by rw [w64 (by omega) (by omega)]; omega
    rw [e1, ← em] at h3
    have h4 := walksL1 L hL hL2 (Wk.C 1 L m x) (C_bound 1 L m x (.inl rfl) hL (by omega) hx) ((d + 1 : Nat) : Int) _ h3 (L + 1) 0 (by omega) (by omega)
    refine Ev.step (f := fun k => spec_waWalks.l1 k L ((d + 1 : Nat) : Int) (vec L (ps 1 L (Wk.C 1 L m x) 0)) (vec L (Wk.C 1 L m x)) ((L + 1 : Nat) : Int) ((0 : Nat) : Int)) (fun k => ?_) h4
    have eL : wrap64 ((L : Int) + 1) = ((L + 1 : Nat) : Int) := by rw [w64 (by omega) (by omega)]; omega
    rw [spec_waWalks.l0, if_pos (by omega), eL, if_pos (by omega), Int.toNat_natCast, if_pos (by omega), vec_length, vec_zero]
    have : vec L (ps 1 L (Wk.C 1 L m x) 0) = vec L fun _ => 0 := vec_congr fun n _ => ps_zero _ _ _ n
    rw [this]; rfl

theorem waWalks (L x M : Nat) (hL : 0 < L) (hL2 : L < 1048576) (hx : x ≤ L) (hM : M ≤ 40) : Ev (fun k => spec_waWalks.f k x L M) (vec L (Wk.C 1 L M x)) := by
  have eL : wrap64 ((L : Int) + 1) = ((L + 1 : Nat) : Int) := by rw [w64 (by omega) (by omega)]; omega
  refine Ev.congr (f := fun k => spec_waWalks.l0 k L (M : Int) (vec L (Wk.C 1 L 0 x))) (fun k => ?_) (walksL0 L hL hL2 x M hx hM M 0 (by omega) (by omega))
  unfold spec_waWalks.f
  rw [eL, if_pos (by omega), Int.toNat_natCast, if_pos (by omega)]
  simp only [Option.bind_some]
  rw [if_pos (by omega), if_pos (by rw [List.length_replicate]; omega), Int.toNat_natCast, vec_one]

theorem chancesL1 (L : Nat) (hL : 0 < L) (hL2 : L < 1048576) (row : Nat → Nat) (hr : ∀ n, n ≤ L → row n ≤ 2 ^ 40) (x2 : Int) (r : List Int)
    (h : Ev (fun k => spec_waChances.l0 k L (wrap64 (x2 - 1)) (vec L (ps 2 L row (L + 1)))) r) (d : Nat) : ∀ j, j ≤ L + 1 → L + 1 - j = d →
    Ev (fun k => spec_waChances.l1 k L x2 (vec L (ps 2 L row j)) (vec L row) ((L + 1 : Nat) : Int) j) r := by
  induction d with
  | zero =>
    intro j h1 h2
    obtain rfl : j = L + 1 := by omega
    refine Ev.step (f := fun k => spec_waChances.l0 k L (wrap64 (x2 - 1)) (vec L (ps 2 L row (L + 1)))) (fun k => ?_) h
    rw [spec_waChances.l1, if_neg (by omega)]
  | succ d ih =>
    intro j h1 h2
    have hj : j ≤ L := by omega
    have h3 := ih (j + 1) (by omega) (by omega)
    rw [← vec_put 2 L row hL j hj] at h3
    have hrow := hr j hj
    have hw := wr_le 2 L row (by omega) hr j hj
    have ej : wrap64 ((j : Int) + 1) = ((j + 1 : Nat) : Int) := by rw [w64 (by omega) (by omega)]; omega
    have hf : ∀ n, n ≤ L → ps 2 L row j n ≤ 2 ^ 42 := fun n hn => ps_le 2 L row (by omega) hr j n hn
    have e2 : wrap64 (2 * (row j : Int)) = ((2 * row j : Nat) : Int) := by rw [w64 (by omega) (by omega)]; omega
    refine Ev.step (f := fun k => spec_waChances.l1 k L x2 (vec L (put L j (Wk.wt 2 L j * row j) (ps 2 L row j))) (vec L row) ((L + 1 : Nat) : Int) ((j + 1 : Nat) : Int)) (fun k => ?_) h3
    generalize ps 2 L row j = f at hf
    rw [spec_waChances.l1, if_pos (by omega), if_pos (by omega), vec_length, if_pos (by omega), vec_rd L row j hj, ej, e2]
    unfold put
    by_cases h0 : j = 0
    · subst h0
      have ew : Wk.wt 2 L 0 = 2 := if_pos (.inl rfl)
      rw [if_pos (by omega), vec_length, if_pos (by omega), if_pos rfl, ew,
        set_at L f 1 _ (by omega) (by have := hf 1 (by omega); omega) (by omega) _ (by omega)]
    · have em : wrap64 ((j : Int) - 1) = ((j - 1 : Nat) : Int) := by rw [w64 (by omega) (by omega)]; omega
      rw [if_neg (by omega), if_neg h0]
      by_cases h4 : j = L
      · have ew : Wk.wt 2 L j = 2 := if_pos (.inr h4)
        rw [if_pos (by omega), em, if_pos (by omega), vec_length, if_pos (by omega), if_pos h4, ew,
          set_at L f (j - 1) _ (by omega) (by have := hf (j - 1) (by omega); omega) (by omega) _ rfl, h4]
      · have ew : Wk.wt 2 L j * row j = row j := by
          have : Wk.wt 2 L j = 1 := if_neg (by omega)
          rw [this, Nat.one_mul]
        have hu : up f (j - 1) (f (j - 1) + row j) (j + 1) = f (j + 1) := by unfold up; rw [if_neg (by omega)]
        rw [if_neg (by omega), em, if_pos (by omega), vec_length, if_pos (by omega), if_neg h4, ew,
          set_at L f (j - 1) _ (by omega) (by have := hf (j - 1) (by omega); omega) (by omega) _ rfl]
        simp only [Option.bind_some]
        rw [if_pos (by omega), if_pos (by omega),
          set_at L _ (j + 1) _ (by omega) (by rw [hu]; have := hf (j + 1) (by omega); omega) (by omega) _ rfl, hu]

theorem chancesL0 (L : Nat) (hL : 0 < L) (hL2 : L < 1048576) (x M : Nat) (hx : x ≤ L) (hM : M ≤ 40) (d : Nat) : ∀ m, m ≤ M → M - m = d →
    Ev (fun k => spec_waChances.l0 k L (d : Int) (vec L (Wk.C 2 L m x))) (vec L (Wk.C 2 L M x)) := by
  induction d with
  | zero =>
    intro m h1 h2
    obtain rfl : m = M := by omega
    refine Ev.step (f := fun _ => some (vec L (Wk.C 2 L m x))) (fun k => ?_) (Ev.now _)
    rw [spec_waChances.l0, if_neg (by omega)]
  | succ d ih =>
    intro m h1 h2
    have h3 := ih (m + 1) (by omega) (by omega)
    have e1 : vec L (Wk.C 2 L (m + 1) x) = vec L (ps 2 L (Wk.C 2 L m x) (L + 1)) := vec_congr fun n hn => (ps_all 2 L m x n hn).symm
    have em : wrap64 (((d + 1 : Nat) : Int) - 1) = (d : Int) := by rw [w64 (by omega) (by omega)]; omega
    rw [e1, ← em] at h3
    have h4 := chancesL1 L hL hL2 (Wk.C 2 L m x) (C_bound 2 L m x (.inr rfl) hL (by omega) hx) ((d + 1 : Nat) : Int) _ h3 (L + 1) 0 (by omega) (by omega)
    refine Ev.step (f := fun k => spec_waChances.l1 k L ((d + 1 : Nat) : Int) (vec L (ps 2 L (Wk.C 2 L m x) 0)) (vec L (Wk.C 2 L m x)) ((L + 1 : Nat) : Int) ((0 : Nat) : Int)) (fun k => ?_) h4
    have eL : wrap64 ((L : Int) + 1) = ((L + 1 : Nat) : Int) := by rw [w64 (by omega) (by omega)]; omega
    rw [spec_waChances.l0, if_pos (by omega), eL, if_pos (by omega), Int.toNat_natCast, if_pos (by omega), vec_length, vec_zero]
    have : vec L (ps 2 L (Wk.C 2 L m x) 0) = vec L fun _ => 0 := vec_congr fun n _ => ps_zero _ _ _ n
    rw [this]; rfl

theorem waChances (L x M : Nat) (hL : 0 < L) (hL2 : L < 1048576) (hx : x ≤ L) (hM : M ≤ 40) : Ev (fun k => spec_waChances.f k x L M) (vec L (Wk.C 2 L M x)) := by
  have eL : wrap64 ((L : Int) + 1) = ((L + 1 : Nat) : Int) := by rw [w64 (by omega) (by omega)]; omega
  refine Ev.congr (f := fun k => spec_waChances.l0 k L (M : Int) (vec L (Wk.C 2 L 0 x))) (fun k => ?_) (chancesL0 L hL hL2 x M hx hM M 0 (by omega) (by omega))
  unfold spec_waChances.f
  rw [eL, if_pos (by omega), Int.toNat_natCast, if_pos (by omega)]
  simp only [Option.bind_some]
  rw [if_pos (by omega), if_pos (by rw [List.length_replicate]; omega), Int.toNat_natCast, vec_one]

/-! ### WalksTo, ChanceAfter -/
/-- May the walks from a to b in m moves be counted? -/
def smB (a b : ByteArray) (m : Int) : Bool := alB a b && (decide (a.size ≤ 12) && decide (0 ≤ m ∧ m ≤ 40))
theorem smB_iff (a b : ByteArray) (m : Int) : smB a b m = true ↔ alB a b = true ∧ a.size ≤ 12 ∧ 0 ≤ m ∧ m ≤ 40 := by simp [smB]

theorem isWalk (a : ByteArray) (ha : stB a = true) : impl_isWalk.f a = some (decide (a.size ≤ 12)) := by
  unfold impl_isWalk.f
  rw [isState a (by have := size_le ha; omega), ha]
  simp only [Option.bind_some, if_true]
  congr 1
  rw [Bool.eq_iff_iff, decide_eq_true_iff, decide_eq_true_iff]; omega

theorem waSmall (a b : ByteArray) (m : Int) : Ev (fun k => spec_waSmall.f k a b m) (smB a b m) := by
  unfold spec_waSmall.f smB
  refine Ev.bind (riTwo a b) ?_
  by_cases h : alB a b = true
  · simp only [h, if_true, Bool.true_and]
    by_cases h2 : a.size ≤ 12
    · have h2' : (a.size : Int) ≤ 12 := by omega
      simp only [h2, h2', if_true, decide_true, Bool.true_and]
      rw [l1In]
      exact Ev.now _
    · have h2' : ¬ (a.size : Int) ≤ 12 := by omega
      simp only [h2, h2', if_false, decide_false, Bool.false_and]
      exact Ev.now _
  · have : alB a b = false := by simpa using h
    simp only [this, Bool.false_and]
    exact Ev.now _

def wkC (e : Nat) (a b : ByteArray) (m : Int) : Nat := Wk.C e (top a) m.toNat (nm a) (nm b)
def wkV (a b : ByteArray) (m : Int) : Int × Bool := if smB a b m = true then ((wkC 1 a b m : Int), true) else (0, false)

theorem walksJ (a b : ByteArray) (m : Int) (h : smB a b m = true) : Ev (fun k => impl_WalksTo.j0 k a b m false) ((wkC 1 a b m : Int), true) := by
  obtain ⟨h1, h2, h3, h4⟩ := (smB_iff a b m).1 h
  obtain ⟨a1, a2, a3⟩ := (alB_iff a b).1 h1
  obtain ⟨m, rfl⟩ := Int.eq_ofNat_of_zero_le h3
  have hb : nm b ≤ top a := by rw [top_eq a3]; exact nm_top b
  have hsp := spread a a1 m 1 (by omega) (.inl rfl)
  rw [show ((1 : Nat) : Int) = 1 from rfl] at hsp
  refine Ev.step (f := fun k => (impl_spread.f k a m 1).bind fun t184 => ((impl_number.f k b).bind fun t187 => (if 0 ≤ t187 then (if t187 < (t184.length : Int) then (some (rd t184 t187, true)) else (none)) else (none)))) (fun k => ?_) (Ev.bind hsp (Ev.bind (number b a2) ?_))
  · rw [impl_WalksTo.j0, if_neg (by decide)]
  · refine Ev.congr (fun k => by rw [if_pos (by omega), if_pos (by rw [vec_length]; omega), vec_rd _ _ _ hb]) ?_
    exact Ev.now _
theorem walksJt (a b : ByteArray) (m : Int) : Ev (fun k => impl_WalksTo.j0 k a b m true) (0, false) :=
  Ev.step (f := fun _ => some (0, false)) (fun k => by rw [impl_WalksTo.j0, if_pos rfl]) (Ev.now _)

theorem walksTo (a b : ByteArray) (m : Int) (ha : a.size ≤ 140737488351232) (hb : b.size ≤ 140737488351232) : Ev (fun k => impl_WalksTo.f k a b m) (wkV a b m) := by
  unfold impl_WalksTo.f wkV
  refine Ev.bind (evc (alike a b ha hb)) ?_
  by_cases h : alB a b = true
  · refine WkP.Ev.ite_pos h (Ev.bind (evc (isWalk a ((alB_iff a b).1 h).1)) ?_)
    by_cases h2 : a.size ≤ 12
    · refine WkP.Ev.ite_pos (decide_eq_true h2) (Ev.bind (evc (inV m 0 40)) ?_)
      by_cases h3 : 0 ≤ m ∧ m ≤ 40
      · have hs : smB a b m = true := (smB_iff a b m).2 ⟨h, h2, h3⟩
        rw [if_pos hs, decide_eq_true h3]
        exact walksJ a b m hs
      · have hs : ¬ smB a b m = true := fun q => h3 ((smB_iff a b m).1 q).2.2
        rw [if_neg hs, decide_eq_false h3]
        exact walksJt a b m
    · have hs : ¬ smB a b m = true := fun q => h2 ((smB_iff a b m).1 q).2.1
      rw [if_neg hs]
      exact WkP.Ev.ite_neg (by rw [decide_eq_false h2]; decide) (walksJt a b m)
  · have hs : ¬ smB a b m = true := fun q => h ((smB_iff a b m).1 q).1
    rw [if_neg hs]
    exact WkP.Ev.ite_neg h (walksJt a b m)

theorem waNumbers (a b : ByteArray) (h : alB a b = true) : Ev (fun k => spec_waNumbers.f k a b) ((nm a : Int), (nm b : Int), (top a : Int)) := by
  obtain ⟨a1, a2, a3⟩ := (alB_iff a b).1 h
  unfold spec_waNumbers.f
  rw [topI a (size_le a1)]
  exact Ev.bind (riNumber a a1) (Ev.bind (riNumber b a2) (Ev.now _))

theorem specWalksTo (a b : ByteArray) (m : Int) : Ev (fun k => spec_WalksTo.f k a b m) (wkV a b m) := by
  unfold spec_WalksTo.f wkV
  refine Ev.bind (waSmall a b m) ?_
  by_cases h : smB a b m = true
  · rw [if_pos h]
    obtain ⟨h1, h2, h3, h4⟩ := (smB_iff a b m).1 h
    obtain ⟨a1, a2, a3⟩ := (alB_iff a b).1 h1
    obtain ⟨m, rfl⟩ := Int.eq_ofNat_of_zero_le h3
    have hb : nm b ≤ top a := by rw [top_eq a3]; exact nm_top b
    refine WkP.Ev.ite_pos h (Ev.bind (waNumbers a b h1) (Ev.bind (waWalks (top a) (nm a) m (top_pos a1) (top_lt (size_le a1)) (nm_top a) (by omega)) ?_))
    dsimp only
    refine Ev.congr (fun k => by rw [if_pos (by omega), if_pos (by rw [vec_length]; omega), vec_rd _ _ _ hb]) ?_
    exact Ev.now _
  · rw [if_neg h]
    exact WkP.Ev.ite_neg h (Ev.now _)

def caV (a b : ByteArray) (m : Int) : Int × Int × Bool := if smB a b m = true then ((lowV (wkC 2 a b m) (2 ^ m.toNat)).1, (lowV (wkC 2 a b m) (2 ^ m.toNat)).2, true) else (0, 0, false)
theorem wkC_le {a b : ByteArray} {m : Int} (h : smB a b m = true) : wkC 2 a b m ≤ 2 ^ m.toNat := by
  obtain ⟨h1, h2, h3, h4⟩ := (smB_iff a b m).1 h
  obtain ⟨a1, a2, a3⟩ := (alB_iff a b).1 h1
  exact Wk.C_le (top a) (top_pos a1) _ _ _ (nm_top a) (by rw [top_eq a3]; exact nm_top b)
theorem pow40 {m : Nat} (h : m ≤ 40) : 2 ^ m ≤ 1099511627776 := Nat.pow_le_pow_right (by omega) h

theorem caJ (a b : ByteArray) (m : Int) (h : smB a b m = true) : Ev (fun k => impl_ChanceAfter.j0 k a b m false) ((lowV (wkC 2 a b m) (2 ^ m.toNat)).1, (lowV (wkC 2 a b m) (2 ^ m.toNat)).2, true) := by
  have hle := wkC_le h
  obtain ⟨h1, h2, h3, h4⟩ := (smB_iff a b m).1 h
  obtain ⟨a1, a2, a3⟩ := (alB_iff a b).1 h1
  obtain ⟨m, rfl⟩ := Int.eq_ofNat_of_zero_le h3
  rw [Int.toNat_natCast] at hle ⊢
  have hp := pow40 (m := m) (by omega)
  have hp0 : 0 < 2 ^ m := Nat.two_pow_pos _
  have hb : nm b ≤ top a := by rw [top_eq a3]; exact nm_top b
  have hsp := spread a a1 m 2 (by omega) (.inr rfl)
  rw [show ((2 : Nat) : Int) = 2 from rfl] at hsp
  refine Ev.step (f := fun k => (impl_spread.f k a m 2).bind fun t216 => ((impl_number.f k b).bind fun t219 => (if 0 ≤ t219 then (if t219 < (t216.length : Int) then (if 0 ≤ (m : Int) then ((impl_lowest.f k (rd t216 t219) (shl .i64 1 m)).bind fun bt221 => (some (bt221.1, bt221.2, true))) else (none)) else (none)) else (none)))) (fun k => ?_) (Ev.bind hsp (Ev.bind (number b a2) ?_))
  · rw [impl_ChanceAfter.j0, if_neg (by decide)]
  · refine Ev.congr (fun k => by rw [if_pos (by omega), if_pos (by rw [vec_length]; omega), if_pos (by omega), vec_rd _ _ _ hb, shl1 m (by omega)]) ?_
    exact Ev.bind (lowest (wkC 2 a b m) (2 ^ m) (by omega) (by omega) (by omega)) (Ev.now _)
theorem caJt (a b : ByteArray) (m : Int) : Ev (fun k => impl_ChanceAfter.j0 k a b m true) (0, 0, false) :=
  Ev.step (f := fun _ => some (0, 0, false)) (fun k => by rw [impl_ChanceAfter.j0, if_pos rfl]) (Ev.now _)

theorem chanceAfter (a b : ByteArray) (m : Int) (ha : a.size ≤ 140737488351232) (hb : b.size ≤ 140737488351232) : Ev (fun k => impl_ChanceAfter.f k a b m) (caV a b m) := by
  unfold impl_ChanceAfter.f caV
  refine Ev.bind (evc (alike a b ha hb)) ?_
  by_cases h : alB a b = true
  · refine WkP.Ev.ite_pos h (Ev.bind (evc (isWalk a ((alB_iff a b).1 h).1)) ?_)
    by_cases h2 : a.size ≤ 12
    · refine WkP.Ev.ite_pos (decide_eq_true h2) (Ev.bind (evc (inV m 0 40)) ?_)
      by_cases h3 : 0 ≤ m ∧ m ≤ 40
      · have hs : smB a b m = true := (smB_iff a b m).2 ⟨h, h2, h3⟩
        rw [if_pos hs, decide_eq_true h3]
        exact caJ a b m hs
      · have hs : ¬ smB a b m = true := fun q => h3 ((smB_iff a b m).1 q).2.2
        rw [if_neg hs, decide_eq_false h3]
        exact caJt a b m
    · have hs : ¬ smB a b m = true := fun q => h2 ((smB_iff a b m).1 q).2.1
      rw [if_neg hs]
      exact WkP.Ev.ite_neg (by rw [decide_eq_false h2]; decide) (caJt a b m)
  · have hs : ¬ smB a b m = true := fun q => h ((smB_iff a b m).1 q).1
    rw [if_neg hs]
    exact WkP.Ev.ite_neg h (caJt a b m)

theorem specChanceAfter (a b : ByteArray) (m : Int) : Ev (fun k => spec_ChanceAfter.f k a b m) (caV a b m) := by
  unfold spec_ChanceAfter.f caV
  refine Ev.bind (waSmall a b m) ?_
  by_cases h : smB a b m = true
  · rw [if_pos h]
    have hle := wkC_le h
    obtain ⟨h1, h2, h3, h4⟩ := (smB_iff a b m).1 h
    obtain ⟨a1, a2, a3⟩ := (alB_iff a b).1 h1
    obtain ⟨m, rfl⟩ := Int.eq_ofNat_of_zero_le h3
    rw [Int.toNat_natCast] at hle ⊢
    have hp := pow40 (m := m) (by omega)
    have hp0 : 0 < 2 ^ m := Nat.two_pow_pos _
    have hb : nm b ≤ top a := by rw [top_eq a3]; exact nm_top b
    refine WkP.Ev.ite_pos h (Ev.bind (waNumbers a b h1) (Ev.bind (waChances (top a) (nm a) m (top_pos a1) (top_lt (size_le a1)) (nm_top a) (by omega)) ?_))
    dsimp only
    refine Ev.congr (fun k => by rw [if_pos (by omega), if_pos (by rw [vec_length]; omega), if_pos (by omega), vec_rd _ _ _ hb, shl1 m (by omega)]) ?_
    exact Ev.bind (waLow (wkC 2 a b m) (2 ^ m) (by omega) (by omega) (by omega)) (Ev.now _)
  · rw [if_neg h]
    exact WkP.Ev.ite_neg h (Ev.now _)
end Go.Proofs.YtkdfhgilpnohpaaDoor.WkP

/- What the printed functions on rings come to: states of numbers, the likeliest states. -/
namespace Rg
theorem st_get (r : Nat) : ∀ (n i : Nat) (h : i < (st r n).length), (st r n)[i] = (n.testBit i ^^ n.testBit (i + 1)) := by
  induction r with
  | zero => intro n i h; simp [st] at h
  | succ r ih =>
    intro n i h
    cases i with
    | zero =>
      simp only [st, List.getElem_cons_zero]
      rw [Nat.testBit_succ, Nat.testBit_zero, Nat.testBit_zero]; rfl
    | succ i =>
      simp only [st, List.getElem_cons_succ]
      rw [ih, Nat.testBit_succ n i, Nat.testBit_succ n (i + 1)]
end Rg
namespace Go.Proofs.YtkdfhgilpnohpaaDoor.WkP
open Go.RowKit Go.Proofs.YtkdfhgilpnohpaaDoor.Wk Go.Proofs.YtkdfhgilpnohpaaDoorW.PrintWords Go.Proofs.YtkdfhgilpnohpaaDoorW.PrintMore

def dig (b : Bool) : UInt8 := if b = true then 49 else 48
def ofBits (l : List Bool) : ByteArray := ⟨(l.map dig).toArray⟩
/-- The state of r rings with the number n. -/
def sb (r n : Nat) : ByteArray := ofBits (Rg.st r n)
theorem ofBits_list (l : List Bool) : (ofBits l).data.toList = l.map dig := by simp [ofBits]
theorem bl_ofBits (l : List Bool) : bl (ofBits l) = l := by
  unfold bl
  rw [ofBits_list, List.map_map]
  have : ((fun x : UInt8 => x == 49) ∘ dig) = id := by funext b; cases b <;> rfl
  rw [this, List.map_id]
theorem sb_bl (r n : Nat) : bl (sb r n) = Rg.st r n := bl_ofBits _
theorem sb_size (r n : Nat) : (sb r n).size = r := by rw [← bl_length, sb_bl, Rg.st_length]
theorem sb_ok (r n : Nat) (h1 : 1 ≤ r) (h2 : r ≤ 20) : stB (sb r n) = true := by
  rw [stB_iff, sb_size]
  refine ⟨h1, h2, ?_⟩
  unfold sb okb
  rw [ofBits_list, List.all_map, List.all_eq_true]
  intro b _
  cases b <;> rfl
theorem sb_nm (r n : Nat) (h : n < 2 ^ r) : nm (sb r n) = n := by unfold nm; rw [sb_bl]; exact Rg.num_st r n h

/-! ### 1. impl.state -/
def stRow (r n i : Nat) : List Int := (List.range r).map fun j => if j < i then 48 + (((n ^^^ n / 2).testBit j).toNat : Int) else 0
theorem stRow_length (r n i : Nat) : (stRow r n i).length = r := by simp [stRow]
theorem stRow_set (r n i : Nat) : (stRow r n i).set i (48 + (((n ^^^ n / 2).testBit i).toNat : Int)) = stRow r n (i + 1) := by
  apply List.ext_getElem
  · simp [stRow]
  · intro j h1 h2
    rw [List.getElem_set]
    simp only [stRow, List.getElem_map, List.getElem_range]
    by_cases h : i = j
    · subst h; simp
    · rw [if_neg h]
      have : (j < i + 1) ↔ (j < i) := by omega
      simp only [this]
theorem stRow_all (r n : Nat) : strOfNums (stRow r n r) = sb r n := by
  unfold strOfNums sb ofBits
  congr 2
  apply List.ext_getElem
  · simp [stRow, Rg.st_length]
  · intro j h1 h2
    have hj : j < r := by simpa [stRow] using h1
    simp only [stRow, List.getElem_map, List.getElem_range]
    rw [if_pos hj, Rg.st_get, Nat.testBit_xor, ← Nat.testBit_succ]
    cases (n.testBit j ^^ n.testBit (j + 1)) <;> rfl

theorem stateLoop (r n : Nat) (hr : r ≤ 20) (hn : n < 2 ^ 40) (d : Nat) : ∀ i, i ≤ r → r - i = d →
    Ev (fun k => impl_state.l0 k ((n ^^^ n / 2 : Nat) : Int) (stRow r n i) (r : Int) i) (sb r n) := by
  induction d with
  | zero =>
    intro i h1 h2
    obtain rfl : i = r := by omega
    refine Ev.step (f := fun _ => some (sb i n)) (fun k => ?_) (Ev.now _)
    rw [impl_state.l0, if_neg (by omega), stRow_all]
  | succ d ih =>
    intro i h1 h2
    have h3 := ih (i + 1) (by omega) (by omega)
    have ej : wrap64 ((i : Int) + 1) = ((i + 1 : Nat) : Int) := by rw [w64 (by omega) (by omega)]; omega
    refine Ev.step (f := fun k => impl_state.l0 k ((n ^^^ n / 2 : Nat) : Int) (stRow r n (i + 1)) (r : Int) ((i + 1 : Nat) : Int)) (fun k => ?_) h3
    have hx : n ^^^ n / 2 < 2 ^ 40 := Nat.xor_lt_two_pow hn (by omega)
    have hd : (n ^^^ n / 2) / 2 ^ i < 2 ^ 40 := Nat.lt_of_le_of_lt (Nat.div_le_self _ _) hx
    rw [impl_state.l0, if_pos (by omega), if_pos (by omega), stRow_length, if_pos (by omega), shr64 _ _ (by omega), and64_1 _ (by omega), ← Nat.toNat_testBit, ej, Int.toNat_natCast]
    have hb := Bool.toNat_le ((n ^^^ n / 2).testBit i)
    have e : (48 + (((n ^^^ n / 2).testBit i).toNat : Int) % 256) % 256 = 48 + (((n ^^^ n / 2).testBit i).toNat : Int) := by omega
    rw [e, stRow_set]

theorem state (r n : Nat) (hr : r ≤ 20) (hn : n < 2 ^ 40) : Ev (fun k => impl_state.f k r n) (sb r n) := by
  refine Ev.congr (fun k => ?_) (stateLoop r n hr hn r 0 (by omega) (by omega))
  unfold impl_state.f
  have e1 : wrap64 (Int.tdiv (n : Int) 2) = ((n / 2 : Nat) : Int) := by
    have := tdivN n 2
    rw [show ((2 : Nat) : Int) = 2 from rfl] at this
    rw [this, w64 (by omega) (by omega)]
  rw [if_pos (by omega), Int.toNat_natCast, if_pos (by omega), e1, xor64 _ _ (by omega) (by omega)]
  simp only [Option.bind_some]
  have e2 : List.replicate r (0 : Int) = stRow r n 0 := by
    apply List.ext_getElem
    · simp [stRow]
    · intro j h1 h2; simp [stRow]
  rw [e2, stRow_length]; rfl

/-! ### 2. spec.riState -/
theorem ofBits_snoc (l : List Bool) (b : Bool) : ofBits l ++ (⟨#[dig b]⟩ : ByteArray) = ofBits (l ++ [b]) := by
  apply ByteArray.ext
  rw [ByteArray.data_append]
  simp [ofBits]
theorem ofBits_size (l : List Bool) : (ofBits l).size = l.length := by rw [← data_length, ofBits_list, List.length_map]

theorem riStateLoop (r n : Nat) (hr : r ≤ 20) (hn : n < 2 ^ 40) (d : Nat) : ∀ i, i ≤ r → r - i = d →
    Ev (fun k => spec_riState.l0 k (r : Int) (n : Int) (ofBits ((Rg.st r n).take i)) i) (sb r n) := by
  induction d with
  | zero =>
    intro i h1 h2
    obtain rfl : i = r := by omega
    refine Ev.step (f := fun _ => some (sb i n)) (fun k => ?_) (Ev.now _)
    rw [spec_riState.l0, if_neg (by omega), List.take_of_length_le (by rw [Rg.st_length]; omega)]; rfl
  | succ d ih =>
    intro i h1 h2
    have h3 := ih (i + 1) (by omega) (by omega)
    have ej : wrap64 ((i : Int) + 1) = ((i + 1 : Nat) : Int) := by rw [w64 (by omega) (by omega)]; omega
    refine Ev.step (f := fun k => spec_riState.l0 k (r : Int) (n : Int) (ofBits ((Rg.st r n).take (i + 1))) ((i + 1 : Nat) : Int)) (fun k => ?_) h3
    have hd : n / 2 ^ i < 2 ^ 40 := Nat.lt_of_le_of_lt (Nat.div_le_self _ _) hn
    have hd2 : n / 2 ^ (i + 1) < 2 ^ 40 := Nat.lt_of_le_of_lt (Nat.div_le_self _ _) hn
    have hl : i < (Rg.st r n).length := by rw [Rg.st_length]; omega
    have hs : (ofBits ((Rg.st r n).take i)).size ≤ 20 := by rw [ofBits_size, List.length_take]; omega
    rw [spec_riState.l0, if_pos (by omega), if_pos (by omega), ej, if_pos (by omega), shr64 _ _ (by omega), shr64 _ _ (by omega), and64_1 _ (by omega), and64_1 _ (by omega), ← Nat.toNat_testBit, ← Nat.toNat_testBit,
      List.take_succ_eq_append_getElem hl, Rg.st_get, ← ofBits_snoc]
    cases n.testBit i <;> cases n.testBit (i + 1)
    · rw [if_pos rfl, if_pos (by omega)]; rfl
    · rw [if_neg (by decide), if_pos (by omega)]; rfl
    · rw [if_neg (by decide), if_pos (by omega)]; rfl
    · rw [if_pos rfl, if_pos (by omega)]; rfl

theorem riState (r n : Nat) (hr : r ≤ 20) (hn : n < 2 ^ 40) : Ev (fun k => spec_riState.f k r n) (sb r n) := by
  have := riStateLoop r n hr hn r 0 (by omega) (by omega)
  exact this

/-! ### 3. The likeliest states -/
theorem all_ev {α : Type} (l : List Nat) (g : Nat → Nat → Option α) (v : Nat → α) (h : ∀ n ∈ l, Ev (fun k => g k n) (v n)) : ∃ K, ∀ k, K ≤ k → ∀ n ∈ l, g k n = some (v n) := by
  induction l with
  | nil => exact ⟨0, fun _ _ _ h => by cases h⟩
  | cons a t ih =>
    obtain ⟨K1, h1⟩ := ih fun n hn => h n (List.mem_cons_of_mem _ hn)
    obtain ⟨K2, h2⟩ := h a List.mem_cons_self
    refine ⟨K1 + K2, fun k hk n hn => ?_⟩
    rcases List.mem_cons.1 hn with rfl | hn
    · exact h2 k (by omega)
    · exact h1 k (by omega) n hn

theorem taken (r : Nat) (hr : r ≤ 20) (p : Nat → Bool) : Ev (fun k => takenStates k r p) (((List.range (2 ^ r)).filter p).map (sb r)) := by
  have h2 := pow_le hr
  obtain ⟨K, hK⟩ := all_ev (List.range (2 ^ r)) (fun k n => impl_state.f k r n) (sb r) fun n hn => state r n hr (by have := List.mem_range.1 hn; omega)
  refine ⟨K, fun k hk => ?_⟩
  have h := hK k hk
  unfold takenStates
  dsimp only
  rw [if_pos]
  · congr 1
    apply List.map_congr_left
    intro n hn
    rw [h n (List.mem_filter.1 hn).1]; rfl
  · rw [List.all_eq_true]
    intro n hn
    rw [h n hn]; rfl

theorem mx_ge (a b : Int) : a ≤ mx a b ∧ b ≤ mx a b := by unfold mx; split <;> omega
theorem foldl_mx (l : List Int) : ∀ a : Int, (a ≤ l.foldl (fun m x => mx m x) a) ∧ (∀ x ∈ l, x ≤ l.foldl (fun m x => mx m x) a) ∧ (l.foldl (fun m x => mx m x) a = a ∨ l.foldl (fun m x => mx m x) a ∈ l) := by
  induction l with
  | nil => intro a; simp
  | cons b t ih =>
    intro a
    obtain ⟨h1, h2, h3⟩ := ih (mx a b)
    have h4 := mx_ge a b
    simp only [List.foldl_cons]
    refine ⟨by omega, ?_, ?_⟩
    · intro x hx
      rcases List.mem_cons.1 hx with rfl | hx
      · omega
      · exact h2 x hx
    · rcases h3 with h3 | h3
      · rw [h3]
        unfold mx
        split
        · exact .inr List.mem_cons_self
        · exact .inl rfl
      · exact .inr (List.mem_cons_of_mem _ h3)
theorem vec_mem (L : Nat) (f : Nat → Nat) (x : Int) : x ∈ vec L f ↔ ∃ n, n ≤ L ∧ x = (f n : Int) := by
  unfold vec
  rw [List.mem_map]
  constructor
  · rintro ⟨n, h1, h2⟩; exact ⟨n, by have := List.mem_range.1 h1; omega, h2.symm⟩
  · rintro ⟨n, h1, h2⟩; exact ⟨n, List.mem_range.2 (by omega), h2.symm⟩
/-- The greatest number of a row stands in it. -/
theorem most_vec (L : Nat) (f : Nat → Nat) : ∃ n, n ≤ L ∧ mostOf (vec L f) = (f n : Int) ∧ ∀ m, m ≤ L → f m ≤ f n := by
  obtain ⟨h1, h2, h3⟩ := foldl_mx (vec L f) 0
  have hm : mostOf (vec L f) = (vec L f).foldl (fun m x => mx m x) 0 := rfl
  rw [← hm] at h1 h2 h3
  have h4 : ∃ n, n ≤ L ∧ mostOf (vec L f) = (f n : Int) := by
    rcases h3 with h3 | h3
    · refine ⟨0, by omega, ?_⟩
      have := h2 (f 0) ((vec_mem L f _).2 ⟨0, by omega, rfl⟩)
      omega
    · exact (vec_mem L f _).1 h3
  obtain ⟨n, h5, h6⟩ := h4
  refine ⟨n, h5, h6, fun m hm => ?_⟩
  have := h2 (f m) ((vec_mem L f _).2 ⟨m, hm, rfl⟩)
  omega

theorem l1MostV (a b : Int) : spec_l1Most.f a b = some (mx a b) := by
  unfold spec_l1Most.f mx
  by_cases h : a > b
  · rw [if_pos h, if_neg (by omega)]
  · rw [if_neg h]
    by_cases h2 : a < b
    · rw [if_pos h2]
    · rw [if_neg h2]; congr 1; omega

theorem likeL1 (a : ByteArray) (ha : a.size ≤ 20) (t : List Int) (ht : t.length = 2 ^ a.size) (x7 : Int) (d : Nat) : ∀ i, i ≤ t.length → t.length - i = d →
    Ev (fun k => spec_LikeliestAfter.l1 k a x7 (((List.range i).filter fun n : Nat => rd t n == x7).map (sb a.size)) t (t.length : Int) i) ((((List.range t.length).filter fun n : Nat => rd t n == x7).map (sb a.size)), true) := by
  have hp := pow_le ha
  induction d with
  | zero =>
    intro i h1 h2
    obtain rfl : i = t.length := by omega
    refine Ev.step (f := fun _ => some ((((List.range t.length).filter fun n : Nat => rd t n == x7).map (sb a.size)), true)) (fun k => ?_) (Ev.now _)
    rw [spec_LikeliestAfter.l1, if_neg (by omega)]
  | succ d ih =>
    intro i h1 h2
    have h3 := ih (i + 1) (by omega) (by omega)
    have ej : wrap64 ((i : Int) + 1) = ((i + 1 : Nat) : Int) := by rw [w64 (by omega) (by omega)]; omega
    rw [List.range_succ, List.filter_append, List.map_append] at h3
    have hlen : (((List.range i).filter fun n : Nat => rd t n == x7).map (sb a.size)).length ≤ i := by
      rw [List.length_map]
      have := List.length_filter_le (fun n : Nat => rd t n == x7) (List.range i)
      rwa [List.length_range] at this
    generalize ((List.range i).filter fun n : Nat => rd t n == x7).map (sb a.size) = acc at *
    by_cases hb : rd t i = x7
    · have e : (List.filter (fun n : Nat => rd t n == x7) [i]).map (sb a.size) = [sb a.size i] := by simp [hb]
      rw [e] at h3
      have hs := riState a.size i ha (by omega)
      refine Ev.step (f := fun k => (spec_riState.f k (a.size : Int) (i : Int)).bind fun t243 => (if acc.length < 8796093022208 then (spec_LikeliestAfter.l1 k a x7 (acc ++ [t243]) t (t.length : Int) (wrap64 ((i : Int) + 1))) else (none))) (fun k => ?_) (Ev.bind hs ?_)
      · rw [spec_LikeliestAfter.l1, if_pos (by omega), if_pos (by omega), if_pos (by omega), if_pos hb]
      · rw [ej]
        exact WkP.Ev.ite_pos (by omega) h3
    · have e : (List.filter (fun n : Nat => rd t n == x7) [i]).map (sb a.size) = [] := by simp [hb]
      rw [e, List.append_nil] at h3
      refine Ev.step (f := fun k => spec_LikeliestAfter.l1 k a x7 acc t (t.length : Int) ((i + 1 : Nat) : Int)) (fun k => ?_) h3
      rw [spec_LikeliestAfter.l1, if_pos (by omega), if_pos (by omega), if_pos (by omega), if_neg hb, ej]

theorem likeL0 (a : ByteArray) (ha : a.size ≤ 20) (t : List Int) (ht : t.length = 2 ^ a.size) (d : Nat) : ∀ i, i ≤ t.length → t.length - i = d →
    Ev (fun k => spec_LikeliestAfter.l0 k a t (mostOf (t.take i)) t (t.length : Int) i) ((((List.range t.length).filter fun n : Nat => rd t n == mostOf t).map (sb a.size)), true) := by
  have hp := pow_le ha
  induction d with
  | zero =>
    intro i h1 h2
    obtain rfl : i = t.length := by omega
    have h3 := likeL1 a ha t ht (mostOf t) t.length 0 (by omega) (by omega)
    refine Ev.step (f := fun k => spec_LikeliestAfter.l1 k a (mostOf t) (((List.range 0).filter fun n : Nat => rd t n == mostOf t).map (sb a.size)) t (t.length : Int) ((0 : Nat) : Int)) (fun k => ?_) h3
    rw [spec_LikeliestAfter.l0, if_neg (by omega), List.take_length]; rfl
  | succ d ih =>
    intro i h1 h2
    have h3 := ih (i + 1) (by omega) (by omega)
    have hl : i < t.length := by omega
    have ej : wrap64 ((i : Int) + 1) = ((i + 1 : Nat) : Int) := by rw [w64 (by omega) (by omega)]; omega
    have e : mostOf (t.take (i + 1)) = mx (mostOf (t.take i)) (rd t i) := by
      rw [List.take_succ_eq_append_getElem hl]
      unfold mostOf
      rw [List.foldl_append]
      have : rd t i = t[i] := by unfold rd; rw [Int.toNat_natCast, List.getD_eq_getElem?_getD, List.getElem?_eq_getElem hl]; rfl
      rw [this]; rfl
    rw [e] at h3
    refine Ev.step (f := fun k => spec_LikeliestAfter.l0 k a t (mx (mostOf (t.take i)) (rd t i)) t (t.length : Int) ((i + 1 : Nat) : Int)) (fun k => ?_) h3
    rw [spec_LikeliestAfter.l0, if_pos (by omega), if_pos (by omega), if_pos (by omega), l1MostV, ej]
    rfl

/-- The likeliest states after m moves, least number first. -/
def laL (a : ByteArray) (m : Int) : List ByteArray := ((List.range (2 ^ a.size)).filter fun n : Nat => rd (vec (top a) (Wk.C 2 (top a) m.toNat (nm a))) n == mostOf (vec (top a) (Wk.C 2 (top a) m.toNat (nm a)))).map (sb a.size)
def laV (a : ByteArray) (m : Int) : List ByteArray × Bool := if smB a a m = true then (laL a m, true) else ([], false)
theorem vec_top (a : ByteArray) (f : Nat → Nat) : (vec (top a) f).length = 2 ^ a.size := by
  have hp : 0 < 2 ^ a.size := Nat.two_pow_pos _
  rw [vec_length]; unfold top; omega
theorem smA (a : ByteArray) (m : Int) : smB a a m = (stB a && (decide (a.size ≤ 12) && decide (0 ≤ m ∧ m ≤ 40))) := by
  unfold smB alB
  rw [Bool.and_self, show (a.size == a.size) = true from beq_self_eq_true _, Bool.and_true]

theorem likeliest (a : ByteArray) (m : Int) (ha : a.size ≤ 140737488351232) : Ev (fun k => impl_LikeliestAfter.f k a m) (laV a m) := by
  unfold impl_LikeliestAfter.f laV
  by_cases h : stB a = true
  · refine Ev.bind (evc (isWalk a h)) ?_
    by_cases h2 : a.size ≤ 12
    · refine WkP.Ev.ite_pos (decide_eq_true h2) (Ev.bind (evc (inV m 0 40)) ?_)
      by_cases h3 : 0 ≤ m ∧ m ≤ 40
      · have hs : smB a a m = true := by rw [smA, h, decide_eq_true h2, decide_eq_true h3]; rfl
        rw [if_pos hs]
        obtain ⟨m, rfl⟩ := Int.eq_ofNat_of_zero_le h3.1
        have hsp := spread a h m 2 (by omega) (.inr rfl)
        refine WkP.Ev.ite_pos (decide_eq_true h3) (Ev.bind hsp ?_)
        refine WkP.Ev.ite_pos ⟨vec_top a _, by omega⟩ (Ev.bind (taken a.size (by omega) _) ?_)
        exact Ev.now _
      · have hs : ¬ smB a a m = true := fun q => h3 ((smB_iff a a m).1 q).2.2
        rw [if_neg hs]
        exact WkP.Ev.ite_neg (by rw [decide_eq_false h3]; decide) (Ev.now _)
    · have hs : ¬ smB a a m = true := fun q => h2 ((smB_iff a a m).1 q).2.1
      rw [if_neg hs]
      exact WkP.Ev.ite_neg (by rw [decide_eq_false h2]; decide) (Ev.now _)
  · have hs : ¬ smB a a m = true := fun q => h ((alB_iff a a).1 ((smB_iff a a m).1 q).1).1
    rw [if_neg hs]
    have e : impl_isWalk.f a = some false := by
      unfold impl_isWalk.f
      rw [isState a ha]
      have : stB a = false := by simpa using h
      rw [this]; rfl
    exact Ev.bind (evc e) (WkP.Ev.ite_neg (by decide) (Ev.now _))

theorem specLikeliest (a : ByteArray) (m : Int) : Ev (fun k => spec_LikeliestAfter.f k a m) (laV a m) := by
  unfold spec_LikeliestAfter.f laV
  refine Ev.bind (waSmall a a m) ?_
  by_cases h : smB a a m = true
  · rw [if_pos h]
    obtain ⟨h1, h2, h3, h4⟩ := (smB_iff a a m).1 h
    have a1 := ((alB_iff a a).1 h1).1
    obtain ⟨m, rfl⟩ := Int.eq_ofNat_of_zero_le h3
    refine WkP.Ev.ite_pos h (Ev.bind (riNumber a a1) ?_)
    rw [topI a (by omega)]
    refine Ev.bind (waChances (top a) (nm a) m (top_pos a1) (top_lt (size_le a1)) (nm_top a) (by omega)) ?_
    have h5 := likeL0 a (by omega) (vec (top a) (Wk.C 2 (top a) m (nm a))) (vec_top a _) (vec (top a) (Wk.C 2 (top a) m (nm a))).length 0 (by omega) (by omega)
    unfold laL
    rw [Int.toNat_natCast]
    rw [show List.range (vec (top a) (Wk.C 2 (top a) m (nm a))).length = List.range (2 ^ a.size) by rw [vec_top]] at h5
    exact h5
  · rw [if_neg h]
    exact WkP.Ev.ite_neg h (Ev.now _)

/-- The first of them: a state that no other one is likelier than. -/
theorem laL_first (a b : ByteArray) (m : Int) (h : smB a b m = true) : laL a m ≠ [] ∧ ∃ c, rdOf ByteArray.empty (laL a m) 0 = c ∧ smB a c m = true ∧ wkC 2 a b m ≤ wkC 2 a c m := by
  obtain ⟨h1, h2, h3, h4⟩ := (smB_iff a b m).1 h
  obtain ⟨a1, a2, a3⟩ := (alB_iff a b).1 h1
  obtain ⟨n0, g1, g2, g3⟩ := most_vec (top a) (Wk.C 2 (top a) m.toNat (nm a))
  have hp : 0 < 2 ^ a.size := Nat.two_pow_pos _
  have hmem : n0 ∈ (List.range (2 ^ a.size)).filter fun n : Nat => rd (vec (top a) (Wk.C 2 (top a) m.toNat (nm a))) n == mostOf (vec (top a) (Wk.C 2 (top a) m.toNat (nm a))) := by
    rw [List.mem_filter, List.mem_range]
    refine ⟨by unfold top at g1; omega, ?_⟩
    rw [vec_rd _ _ _ g1, g2]; simp
  unfold laL
  generalize hl : (List.range (2 ^ a.size)).filter (fun n : Nat => rd (vec (top a) (Wk.C 2 (top a) m.toNat (nm a))) n == mostOf (vec (top a) (Wk.C 2 (top a) m.toNat (nm a)))) = l at hmem
  cases l with
  | nil => cases hmem
  | cons n1 t =>
    refine ⟨by simp, sb a.size n1, rfl, ?_, ?_⟩
    · rw [smB_iff, alB_iff]
      exact ⟨⟨a1, sb_ok _ _ (size_pos a1) (size_le a1), (sb_size _ _).symm⟩, h2, h3, h4⟩
    · have hn1 : n1 ∈ (List.range (2 ^ a.size)).filter fun n : Nat => rd (vec (top a) (Wk.C 2 (top a) m.toNat (nm a))) n == mostOf (vec (top a) (Wk.C 2 (top a) m.toNat (nm a))) := by rw [hl]; exact List.mem_cons_self
      rw [List.mem_filter, List.mem_range] at hn1
      have ht : n1 ≤ top a := by unfold top; omega
      have e := hn1.2
      rw [vec_rd _ _ _ ht, g2, beq_iff_eq] at e
      have hb : nm b ≤ top a := by rw [top_eq a3]; exact nm_top b
      have := g3 _ hb
      unfold wkC
      rw [sb_nm _ _ hn1.1]
      omega

/-! ### 4. Lists compared -/
theorem textsLoop (l : List ByteArray) (d : Nat) : ∀ i, i ≤ l.length → l.length - i = d → l.length < 2 ^ 60 → Ev (fun k => laws_yTexts.l0 k l l (l.length : Int) i) true := by
  induction d with
  | zero =>
    intro i h1 h2 _
    refine Ev.step (f := fun _ => some true) (fun k => ?_) (Ev.now _)
    rw [laws_yTexts.l0, if_neg (by omega)]
  | succ d ih =>
    intro i h1 h2 h0
    have h3 := ih (i + 1) (by omega) (by omega) h0
    have ej : wrap64 ((i : Int) + 1) = ((i + 1 : Nat) : Int) := by rw [w64 (by omega) (by omega)]; omega
    refine Ev.step (f := fun k => laws_yTexts.l0 k l l (l.length : Int) ((i + 1 : Nat) : Int)) (fun k => ?_) h3
    rw [laws_yTexts.l0, if_pos (by omega), if_pos (by omega), if_pos (by omega), if_pos (by omega), if_pos rfl, ej]
theorem texts (l : List ByteArray) (h : l.length < 2 ^ 60) : Ev (fun k => laws_yTexts.f k l l) true := by
  unfold laws_yTexts.f
  exact WkP.Ev.ite_pos rfl (textsLoop l l.length 0 (by omega) (by omega) h)
theorem laL_length (a : ByteArray) (m : Int) (ha : a.size ≤ 20) : (laL a m).length < 2 ^ 60 := by
  unfold laL
  rw [List.length_map]
  have := List.length_filter_le (fun n : Nat => rd (vec (top a) (Wk.C 2 (top a) m.toNat (nm a))) n == mostOf (vec (top a) (Wk.C 2 (top a) m.toNat (nm a)))) (List.range (2 ^ a.size))
  rw [List.length_range] at this
  have := pow_le ha
  omega
end Go.Proofs.YtkdfhgilpnohpaaDoor.WkP
