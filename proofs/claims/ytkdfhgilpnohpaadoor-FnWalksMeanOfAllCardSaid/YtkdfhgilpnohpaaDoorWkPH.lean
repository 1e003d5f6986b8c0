/- The law of walks and means: the plain part. -/
import Derived.Test.YtkdfhgilpnohpaaDoorWkPE
import Derived.Test.YtkdfhgilpnohpaaDoorWk12d
namespace Go.Proofs.YtkdfhgilpnohpaaDoor.WkP
open Go.RowKit Go.Proofs.YtkdfhgilpnohpaaDoor.Wk Go.Proofs.YtkdfhgilpnohpaaDoorW.PrintWords Go.Proofs.YtkdfhgilpnohpaaDoorW.PrintMore

/-! ### 1. Means -/
theorem mn_le (n g m : Int) (h : n ≤ g) : mn n g m = g * g - n * n := if_pos h
theorem mn_ge (n g m : Int) (h : g ≤ n) : mn n g m = (m - g) * (m - g) - (m - n) * (m - n) := by
  unfold mn
  by_cases h' : n ≤ g
  · obtain rfl : n = g := by omega
    simp
  · rw [if_neg h']
theorem mn_sq (n g m : Nat) (hn : n ≤ m) (hg : g ≤ m) : ∃ a d : Nat, d = ap n g ∧ a + d ≤ m ∧ mn n g m = (d : Int) * (2 * a + d) := by
  by_cases h : n ≤ g
  · refine ⟨n, g - n, by unfold ap; omega, by omega, ?_⟩
    rw [mn_le _ _ _ (by omega)]
    have : ((g - n : Nat) : Int) = g - n := by omega
    rw [this]; grind
  · refine ⟨m - n, n - g, by unfold ap; omega, by omega, ?_⟩
    rw [mn_ge _ _ _ (by omega)]
    have e1 : ((n - g : Nat) : Int) = n - g := by omega
    have e2 : ((m - n : Nat) : Int) = m - n := by omega
    rw [e1, e2]; grind
/-- At least the fewest moves; none just at the goal itself. -/
theorem mn_fewest (n g m : Nat) (hn : n ≤ m) (hg : g ≤ m) (hm : m < 1048576) : (ap n g : Int) ≤ mn n g m ∧ (mn n g m = 0 ↔ n = g) ∧ mn n g m ≤ 4398046511104 := by
  obtain ⟨a, d, h1, h2, h3⟩ := mn_sq n g m hn hg
  rw [h3, ← h1]
  by_cases h0 : d = 0
  · subst h0
    refine ⟨by simp, ?_, by simp⟩
    simp
    unfold ap at h1; omega
  · have h4 : (d : Int) * 1 ≤ (d : Int) * (2 * a + d) := Int.mul_le_mul_of_nonneg_left (by omega) (by omega)
    have h5 := pr_le (x := (d : Int)) (y := 2 * (a : Int) + d) (by omega) (by omega) (by omega) (by omega)
    refine ⟨by omega, ?_, h5.2⟩
    constructor
    · intro h6; omega
    · intro h6; unfold ap at h1; omega
/-- What a move hands on: one neighbour at the ends. -/
theorem mn_end0 (g m : Int) (hg : 1 ≤ g) : mn 0 g m - 1 = mn 1 g m := by
  rw [mn_le _ _ _ (by omega), mn_le _ _ _ (by omega)]; grind
theorem mn_endL (g m : Int) (hg : g ≤ m - 1) : mn m g m - 1 = mn (m - 1) g m := by
  rw [mn_ge _ _ _ (by omega), mn_ge _ _ _ (by omega)]; grind
theorem mn_mid (n g m : Int) (h : n ≠ g) : (mn n g m - 1) * 2 = mn (n - 1) g m + mn (n + 1) g m := by
  by_cases h1 : n < g
  · rw [mn_le _ _ _ (by omega), mn_le _ _ _ (by omega), mn_le _ _ _ (by omega)]; grind
  · rw [mn_ge _ _ _ (by omega), mn_ge _ _ _ (by omega), mn_ge _ _ _ (by omega)]; grind

/-! ### 2. Neighbours -/
theorem nbr (s : ByteArray) (hs : stB s = true) :
    (¬ fst s + 1 < s.size ∧ ((nm s = 0 ∧ nm (fl s 0) = 1) ∨ (nm s = top s ∧ nm (fl s 0) + 1 = top s))) ∨
    (fst s + 1 < s.size ∧ 0 < nm s ∧ nm s < top s ∧ ((nm (fl s 0) = nm s + 1 ∧ nm (fl s (fst s + 1)) + 1 = nm s) ∨ (nm (fl s 0) + 1 = nm s ∧ nm (fl s (fst s + 1)) = nm s + 1))) := by
  have h0 := nm_fl0 s hs
  have ht := nm_top s
  have hp := top_pos hs
  have hodd : top s % 2 = 1 := by
    obtain ⟨r, hr⟩ : ∃ r, s.size = r + 1 := ⟨s.size - 1, by have := size_pos hs; omega⟩
    unfold top
    rw [hr, Nat.pow_succ]
    have : 0 < 2 ^ r := Nat.two_pow_pos _
    omega
  by_cases h : fst s + 1 < s.size
  · right
    obtain ⟨h1, h2⟩ := ends2 s hs h
    refine ⟨h, by omega, by omega, ?_⟩
    rcases nm_flF s hs h with ⟨h3, h4⟩ | ⟨h3, h4⟩
    · right
      rw [h0, if_neg (by omega)]; omega
    · left
      rw [h0, if_pos h3]; omega
  · left
    refine ⟨h, ?_⟩
    rcases ends s hs h with h1 | h1
    · left
      rw [h0, h1]; simp
    · right
      rw [h0, if_neg (by omega)]; omega
theorem fl_top (s : ByteArray) (k : Nat) : top (fl s k) = top s := top_eq (fl_size s k)
theorem fl_al (s b : ByteArray) (h : alB s b = true) (k : Nat) (hk : k < s.size) : alB (fl s k) b = true := by
  obtain ⟨h1, h2, h3⟩ := (alB_iff s b).1 h
  exact (alB_iff _ _).2 ⟨fl_ok s h1 k hk, h2, by rw [fl_size]; exact h3⟩

/-- The mean, out of the neighbours' means. -/
theorem mean_moves (s b : ByteArray) (h : alB s b = true) (hne : nm s ≠ nm b) :
    (mv s = [0] ∧ (mn (nm s) (nm b) (top s) - 1) * 1 = mn (nm (fl s 0)) (nm b) (top s)) ∨
    (fst s + 1 < s.size ∧ mv s = [0, ((fst s + 1 : Nat) : Int)] ∧ (mn (nm s) (nm b) (top s) - 1) * 2 = mn (nm (fl s 0)) (nm b) (top s) + mn (nm (fl s (fst s + 1))) (nm b) (top s)) := by
  obtain ⟨h1, h2, h3⟩ := (alB_iff s b).1 h
  have hb : nm b ≤ top s := by rw [top_eq h3]; exact nm_top b
  have hp := top_pos h1
  rcases nbr s h1 with ⟨k1, k2⟩ | ⟨k1, k2, k3, k4⟩
  · left
    refine ⟨if_neg k1, ?_⟩
    rcases k2 with ⟨k2, k3⟩ | ⟨k2, k3⟩
    · have := mn_end0 (nm b) (top s) (by omega)
      rw [k2, k3]; simp; exact this
    · have := mn_endL (nm b) (top s) (by omega)
      have e : ((nm (fl s 0) : Nat) : Int) = (top s : Int) - 1 := by omega
      rw [k2, e]; simp; exact this
  · right
    refine ⟨k1, if_pos k1, ?_⟩
    have := mn_mid (nm s) (nm b) (top s) (by omega)
    rcases k4 with ⟨k4, k5⟩ | ⟨k4, k5⟩
    · have e1 : ((nm (fl s 0) : Nat) : Int) = (nm s : Int) + 1 := by omega
      have e2 : ((nm (fl s (fst s + 1)) : Nat) : Int) = (nm s : Int) - 1 := by omega
      rw [e1, e2, this]; omega
    · have e1 : ((nm (fl s 0) : Nat) : Int) = (nm s : Int) - 1 := by omega
      have e2 : ((nm (fl s (fst s + 1)) : Nat) : Int) = (nm s : Int) + 1 := by omega
      rw [e1, e2, this]

/-- The walks of a move more, out of the neighbours' walks. -/
theorem walks_moves (s b : ByteArray) (m : Nat) (h : alB s b = true) :
    (mv s = [0] ∧ Wk.C 1 (top s) (m + 1) (nm s) (nm b) = Wk.C 1 (top s) m (nm (fl s 0)) (nm b)) ∨
    (fst s + 1 < s.size ∧ mv s = [0, ((fst s + 1 : Nat) : Int)] ∧ Wk.C 1 (top s) (m + 1) (nm s) (nm b) = Wk.C 1 (top s) m (nm (fl s 0)) (nm b) + Wk.C 1 (top s) m (nm (fl s (fst s + 1))) (nm b)) := by
  obtain ⟨h1, h2, h3⟩ := (alB_iff s b).1 h
  have hb : nm b ≤ top s := by rw [top_eq h3]; exact nm_top b
  have hp := top_pos h1
  have hC := Wk.C_first 1 (top s) m (nm s) (nm b) (nm_top s) hb
  rw [Wk.wt_one, Nat.one_mul] at hC
  rcases nbr s h1 with ⟨k1, k2⟩ | ⟨k1, k2, k3, k4⟩
  · left
    refine ⟨if_neg k1, ?_⟩
    rcases k2 with ⟨k2, k3⟩ | ⟨k2, k3⟩
    · rw [hC, if_neg (by omega), if_pos (by omega), k3, k2]; simp
    · rw [hC, if_pos (by omega), if_neg (by omega), show nm s - 1 = nm (fl s 0) by omega]; simp
  · right
    refine ⟨k1, if_pos k1, ?_⟩
    rw [hC, if_pos k2, if_pos k3]
    rcases k4 with ⟨k4, k5⟩ | ⟨k4, k5⟩
    · rw [k4, show nm s - 1 = nm (fl s (fst s + 1)) by omega]; omega
    · rw [k5, show nm s - 1 = nm (fl s 0) by omega]

/-! ### 3. Shares -/
/-- Of two shares of one whole the fractions' order is theirs. -/
theorem share_le (c M P : Nat) (hP : 0 < P) (h : c ≤ M) : c / Nat.gcd c P * (P / Nat.gcd M P) ≤ M / Nat.gcd M P * (P / Nat.gcd c P) := by
  obtain ⟨c1, hc⟩ := Nat.gcd_dvd_left c P
  obtain ⟨P1, hP1⟩ := Nat.gcd_dvd_right c P
  obtain ⟨M1, hM⟩ := Nat.gcd_dvd_left M P
  obtain ⟨P2, hP2⟩ := Nat.gcd_dvd_right M P
  have g0 : 0 < Nat.gcd c P := Nat.gcd_pos_of_pos_right _ hP
  have g1 : 0 < Nat.gcd M P := Nat.gcd_pos_of_pos_right _ hP
  generalize Nat.gcd c P = g at *
  generalize Nat.gcd M P = k at *
  have e1 : c / g = c1 := by rw [hc]; exact Nat.mul_div_cancel_left _ g0
  have e2 : P / k = P2 := by rw [hP2]; exact Nat.mul_div_cancel_left _ g1
  have e3 : M / k = M1 := by rw [hM]; exact Nat.mul_div_cancel_left _ g1
  have e4 : P / g = P1 := by rw [hP1]; exact Nat.mul_div_cancel_left _ g0
  rw [e1, e2, e3, e4]
  have key : g * k * (c1 * P2) ≤ g * k * (M1 * P1) := by
    have a1 : g * k * (c1 * P2) = (g * c1) * (k * P2) := by grind
    have a2 : g * k * (M1 * P1) = (k * M1) * (g * P1) := by grind
    rw [a1, a2, ← hc, ← hP2, ← hM, ← hP1]
    exact Nat.mul_le_mul_right _ h
  exact Nat.le_of_mul_le_mul_left key (Nat.mul_pos g0 g1)
theorem low_pos (x y : Nat) (hy : 0 < y) : (lowV x y).1 > 0 ↔ x > 0 := by
  unfold lowV
  have g0 : 0 < Nat.gcd x y := Nat.gcd_pos_of_pos_right _ hy
  obtain ⟨x1, hx⟩ := Nat.gcd_dvd_left x y
  generalize Nat.gcd x y = g at *
  have e1 : x / g = x1 := by rw [hx]; exact Nat.mul_div_cancel_left _ g0
  simp only [e1]
  constructor
  · intro h; rw [hx]; exact Nat.mul_pos g0 (by omega)
  · intro h
    rcases Nat.eq_zero_or_pos x1 with h0 | h0
    · rw [h0] at hx; omega
    · omega
theorem low_range (x y : Nat) (h : x ≤ y) : 0 ≤ (lowV x y).1 ∧ (lowV x y).1 ≤ (lowV x y).2 ∧ (lowV x y).2 ≤ y := by
  unfold lowV
  have h1 : x / Nat.gcd x y ≤ y / Nat.gcd x y := Nat.div_le_div_right h
  have h2 : y / Nat.gcd x y ≤ y := Nat.div_le_self _ _
  simp only
  generalize x / Nat.gcd x y = p at *
  generalize y / Nat.gcd x y = q at *
  omega
end Go.Proofs.YtkdfhgilpnohpaaDoor.WkP

/- The law of walks and means: what the program's law answers. -/
namespace Go.Proofs.YtkdfhgilpnohpaaDoor.WkP
open Go.RowKit Go.Proofs.YtkdfhgilpnohpaaDoor.Wk Go.Proofs.YtkdfhgilpnohpaaDoorW.PrintWords Go.Proofs.YtkdfhgilpnohpaaDoorW.PrintMore

theorem rd0 (a : Int) (l : List Int) : rd (a :: l) 0 = a := rfl
theorem rd1 (a b : Int) (l : List Int) : rd (a :: b :: l) 1 = b := rfl

/-! ### 1. The walks by the first move -/
theorem l1Step (x5 x6 : ByteArray) (x7 x42 : Int) (x65 : Bool) (x66 : Int) (L : List Int) (i : Nat) (q : Nat) (v : Int) (r : Bool)
    (hi : i < L.length) (hL : L.length ≤ 2) (hq : rd L i = (q : Int)) (hm : impl_MoveRing.f x5 q = some (fl x5 q, true))
    (hw : Ev (fun k => impl_WalksTo.f k (fl x5 q) x6 (wrap64 (x7 - 1))) (v, true))
    (h : Ev (fun k => laws_FnWalksMeanOfAll.l1 k x5 x6 x7 x42 x65 (wrap64 (x66 + v)) L (L.length : Int) ((i + 1 : Nat) : Int)) r) :
    Ev (fun k => laws_FnWalksMeanOfAll.l1 k x5 x6 x7 x42 x65 x66 L (L.length : Int) i) r := by
  have ej : wrap64 ((i : Int) + 1) = ((i + 1 : Nat) : Int) := by rw [w64 (by omega) (by omega)]; omega
  refine Ev.step (f := fun k => (impl_MoveRing.f x5 (rd L i)).bind fun bt307 => ((impl_WalksTo.f k bt307.1 x6 (wrap64 (x7 - 1))).bind fun bt309 => (if bt307.2 = true then (if bt309.2 = true then (laws_FnWalksMeanOfAll.l1 k x5 x6 x7 x42 x65 (wrap64 (x66 + bt309.1)) L (L.length : Int) (wrap64 ((i : Int) + 1))) else (some false)) else (some false)))) (fun k => ?_) ?_
  · rw [laws_FnWalksMeanOfAll.l1, if_pos (by omega), if_pos (by omega), if_pos (by omega)]
  · rw [hq, ej]
    refine Ev.bind (evc hm) (Ev.bind hw ?_)
    exact WkP.Ev.ite_pos rfl (WkP.Ev.ite_pos rfl h)
theorem l1End (x5 x6 : ByteArray) (x7 x42 : Int) (x66 : Int) (L : List Int) (h : x66 = x42) :
    Ev (fun k => laws_FnWalksMeanOfAll.l1 k x5 x6 x7 x42 true x66 L (L.length : Int) (L.length : Int)) true := by
  refine Ev.step (f := fun _ => some true) (fun k => ?_) (Ev.now _)
  rw [laws_FnWalksMeanOfAll.l1, if_neg (by omega), if_pos rfl, if_pos h]

theorem fl_sm {a b : ByteArray} {m : Int} (h : smB a b m = true) (h0 : 0 < m) (k : Nat) (hk : k < a.size) : smB (fl a k) b (m - 1) = true := by
  obtain ⟨h1, h2, h3, h4⟩ := (smB_iff a b m).1 h
  exact (smB_iff _ _ _).2 ⟨fl_al a b h1 k hk, by rw [fl_size]; exact h2, by omega, by omega⟩
theorem wk_le {a b : ByteArray} {m : Int} (h : smB a b m = true) : wkC 1 a b m ≤ 1099511627776 := by
  have h1 := wkC_le h
  have h2 := Wk.C_mono (top a) m.toNat (nm a) (nm b)
  obtain ⟨_, _, h3, h4⟩ := (smB_iff a b m).1 h
  have h5 := pow40 (m := m.toNat) (by omega)
  unfold wkC at h1 ⊢
  omega

theorem j9V (x5 x6 : ByteArray) (x7 : Int) (h : smB x5 x6 x7 = true) : Ev (fun k => laws_FnWalksMeanOfAll.j9 k x5 x6 x7 (wkC 1 x5 x6 x7) false) true := by
  obtain ⟨h1, h2, h3, h4⟩ := (smB_iff x5 x6 x7).1 h
  obtain ⟨a1, a2, a3⟩ := (alB_iff x5 x6).1 h1
  by_cases h0 : x7 > 0
  · refine Ev.step (f := fun k => (impl_MovesOf.f k x5).bind fun bt302 => (laws_FnWalksMeanOfAll.l1 k x5 x6 x7 (wkC 1 x5 x6 x7) bt302.2 0 bt302.1 (bt302.1.length : Int) 0)) (fun k => ?_) ?_
    · rw [laws_FnWalksMeanOfAll.j9, if_neg (by decide), if_pos h0]
    · have hmv := movesOfV x5 (by omega)
      unfold mvV at hmv
      rw [if_pos a1] at hmv
      refine Ev.bind hmv ?_
      have e7 : wrap64 (x7 - 1) = x7 - 1 := w64 (by omega) (by omega)
      obtain ⟨m, hm⟩ : ∃ m : Nat, x7 = ((m + 1 : Nat) : Int) := ⟨x7.toNat - 1, by omega⟩
      have em : (x7 - 1).toNat = m := by omega
      have em2 : x7.toNat = m + 1 := by omega
      have hwk : ∀ k, k < x5.size → Ev (fun n => impl_WalksTo.f n (fl x5 k) x6 (wrap64 (x7 - 1))) ((wkC 1 (fl x5 k) x6 (x7 - 1) : Int), true) := by
        intro k hk
        have hh := walksTo (fl x5 k) x6 (x7 - 1) (by rw [fl_size]; omega) (by omega)
        unfold wkV at hh
        rw [if_pos (fl_sm h h0 k hk)] at hh
        rw [e7]
        exact hh
      have hle : ∀ k, k < x5.size → wkC 1 (fl x5 k) x6 (x7 - 1) ≤ 1099511627776 := fun k hk => wk_le (fl_sm h h0 k hk)
      have hp := size_pos a1
      have hv : ∀ k, wkC 1 (fl x5 k) x6 (x7 - 1) = Wk.C 1 (top x5) m (nm (fl x5 k)) (nm x6) := by intro k; unfold wkC; rw [em, fl_top]
      have hv2 : wkC 1 x5 x6 x7 = Wk.C 1 (top x5) (m + 1) (nm x5) (nm x6) := by unfold wkC; rw [em2]
      have q0 := hwk 0 hp
      have l0 := hle 0 hp
      rcases walks_moves x5 x6 m h1 with ⟨k1, k2⟩ | ⟨k0, k1, k2⟩
      · rw [← hv, ← hv2] at k2
        dsimp only
        rw [k1]
        refine l1Step x5 x6 x7 _ true 0 [0] 0 0 _ true (by simp) (by simp) rfl (moveRing x5 a1 0 hp (can0 x5 a1)) q0 ?_
        refine l1End x5 x6 x7 _ _ [0] ?_
        rw [w64 (by omega) (by omega)]; omega
      · have q1 := hwk (fst x5 + 1) k0
        have l1 := hle (fst x5 + 1) k0
        rw [← hv, ← hv, ← hv2] at k2
        dsimp only
        rw [k1]
        refine l1Step x5 x6 x7 _ true 0 [0, ((fst x5 + 1 : Nat) : Int)] 0 0 _ true (by simp) (by simp) rfl (moveRing x5 a1 0 hp (can0 x5 a1)) q0 ?_
        refine l1Step x5 x6 x7 _ true _ [0, ((fst x5 + 1 : Nat) : Int)] 1 (fst x5 + 1) _ true (by simp) (by simp) rfl (moveRing x5 a1 _ k0 (canF x5 k0)) q1 ?_
        refine l1End x5 x6 x7 _ _ [0, ((fst x5 + 1 : Nat) : Int)] ?_
        rw [w64 (x := 0 + _) (by omega) (by omega), w64 (by omega) (by omega)]; omega
  · refine Ev.step (f := fun _ => some true) (fun k => ?_) (Ev.now _)
    rw [laws_FnWalksMeanOfAll.j9, if_neg (by decide), if_neg h0]

/-! ### 2. The likeliest state -/
theorem j8V (x5 x6 : ByteArray) (x7 : Int) (h : smB x5 x6 x7 = true) :
    Ev (fun k => laws_FnWalksMeanOfAll.j8 k x5 x6 x7 (wkC 1 x5 x6 x7) (lowV (wkC 2 x5 x6 x7) (2 ^ x7.toNat)).1 (lowV (wkC 2 x5 x6 x7) (2 ^ x7.toNat)).2 (laL x5 x7) false) true := by
  obtain ⟨h1, h2, h3, h4⟩ := (smB_iff x5 x6 x7).1 h
  obtain ⟨g1, c, g2, g3, g4⟩ := laL_first x5 x6 x7 h
  have hlen : 0 < (laL x5 x7).length := List.length_pos_iff.2 g1
  have hc : c.size ≤ 20 := size_le ((alB_iff _ _).1 ((smB_iff _ _ _).1 g3).1).2.1
  have hca := chanceAfter x5 c x7 (by omega) (by omega)
  unfold caV at hca
  rw [if_pos g3] at hca
  have hk : ((laL x5 x7).length : Int) ≥ 1 := by omega
  refine Ev.step (f := fun k => (impl_ChanceAfter.f k x5 (rdOf ByteArray.empty (laL x5 x7) 0) x7).bind fun bt299 => (if bt299.2.2 = true then (if x7 ≤ 20 then (laws_FnWalksMeanOfAll.j9 k x5 x6 x7 (wkC 1 x5 x6 x7) (decide ((wrap64 (bt299.1 * (lowV (wkC 2 x5 x6 x7) (2 ^ x7.toNat)).2)) < (wrap64 ((lowV (wkC 2 x5 x6 x7) (2 ^ x7.toNat)).1 * bt299.2.1))))) else (laws_FnWalksMeanOfAll.j9 k x5 x6 x7 (wkC 1 x5 x6 x7) false)) else (laws_FnWalksMeanOfAll.j9 k x5 x6 x7 (wkC 1 x5 x6 x7) true))) (fun k => ?_) ?_
  · rw [laws_FnWalksMeanOfAll.j8, if_neg (by decide), if_neg (by omega), if_pos (by omega)]
  · rw [g2]
    refine Ev.bind hca (WkP.Ev.ite_pos rfl ?_)
    by_cases h5 : x7 ≤ 20
    · refine WkP.Ev.ite_pos h5 ?_
      have hP : 2 ^ x7.toNat ≤ 1048576 := pow_le (by omega)
      have hP0 : 0 < 2 ^ x7.toNat := Nat.two_pow_pos _
      have b1 := low_range _ _ (wkC_le h)
      have b2 := low_range _ _ (wkC_le g3)
      have key := share_le _ _ _ hP0 g4
      have p1 := pr_le (x := (lowV (wkC 2 x5 c x7) (2 ^ x7.toNat)).1) (y := (lowV (wkC 2 x5 x6 x7) (2 ^ x7.toNat)).2) (by omega) (by omega) (by omega) (by omega)
      have p2 := pr_le (x := (lowV (wkC 2 x5 x6 x7) (2 ^ x7.toNat)).1) (y := (lowV (wkC 2 x5 c x7) (2 ^ x7.toNat)).2) (by omega) (by omega) (by omega) (by omega)
      have e : decide ((wrap64 ((lowV (wkC 2 x5 c x7) (2 ^ x7.toNat)).1 * (lowV (wkC 2 x5 x6 x7) (2 ^ x7.toNat)).2)) < (wrap64 ((lowV (wkC 2 x5 x6 x7) (2 ^ x7.toNat)).1 * (lowV (wkC 2 x5 c x7) (2 ^ x7.toNat)).2))) = false := by
        rw [w64 (by omega) (by omega), w64 (by omega) (by omega), decide_eq_false_iff_not]
        have : ((lowV (wkC 2 x5 x6 x7) (2 ^ x7.toNat)).1 * (lowV (wkC 2 x5 c x7) (2 ^ x7.toNat)).2) ≤ ((lowV (wkC 2 x5 c x7) (2 ^ x7.toNat)).1 * (lowV (wkC 2 x5 x6 x7) (2 ^ x7.toNat)).2) := by
          unfold lowV
          simp only
          rw [← Int.natCast_mul, ← Int.natCast_mul]
          exact Int.ofNat_le.2 key
        omega
      dsimp only
      rw [e]
      exact j9V x5 x6 x7 h
    · exact WkP.Ev.ite_neg h5 (j9V x5 x6 x7 h)

theorem sm_symm {a b : ByteArray} {m : Int} (h : smB a b m = true) : smB b a m = true ∧ wkC 1 b a m = wkC 1 a b m := by
  obtain ⟨h1, h2, h3, h4⟩ := (smB_iff a b m).1 h
  obtain ⟨a1, a2, a3⟩ := (alB_iff a b).1 h1
  refine ⟨(smB_iff _ _ _).2 ⟨(alB_iff _ _).2 ⟨a2, a1, a3.symm⟩, by omega, h3, h4⟩, ?_⟩
  unfold wkC
  rw [top_eq a3.symm]
  exact Wk.C_symm _ _ _ _ (by rw [top_eq a3]; exact nm_top b) (nm_top a)

theorem j7V (x5 x6 : ByteArray) (x7 : Int) (h : smB x5 x6 x7 = true) :
    Ev (fun k => laws_FnWalksMeanOfAll.j7 k x5 x6 x7 (wkC 1 x5 x6 x7) (lowV (wkC 2 x5 x6 x7) (2 ^ x7.toNat)).1 (lowV (wkC 2 x5 x6 x7) (2 ^ x7.toNat)).2 (laL x5 x7) false) true := by
  obtain ⟨h1, h2, h3, h4⟩ := (smB_iff x5 x6 x7).1 h
  obtain ⟨a1, a2, a3⟩ := (alB_iff x5 x6).1 h1
  obtain ⟨s1, s2⟩ := sm_symm h
  have hw := walksTo x6 x5 x7 (by omega) (by omega)
  unfold wkV at hw
  rw [if_pos s1, s2] at hw
  refine Ev.step (f := fun k => (impl_WalksTo.f k x6 x5 x7).bind fun bt296 => (if bt296.2 = true then (laws_FnWalksMeanOfAll.j8 k x5 x6 x7 (wkC 1 x5 x6 x7) (lowV (wkC 2 x5 x6 x7) (2 ^ x7.toNat)).1 (lowV (wkC 2 x5 x6 x7) (2 ^ x7.toNat)).2 (laL x5 x7) (bt296.1 != (wkC 1 x5 x6 x7 : Int))) else (laws_FnWalksMeanOfAll.j8 k x5 x6 x7 (wkC 1 x5 x6 x7) (lowV (wkC 2 x5 x6 x7) (2 ^ x7.toNat)).1 (lowV (wkC 2 x5 x6 x7) (2 ^ x7.toNat)).2 (laL x5 x7) true))) (fun k => ?_) (Ev.bind hw (WkP.Ev.ite_pos rfl ?_))
  · rw [laws_FnWalksMeanOfAll.j7, if_neg (by decide)]
  · rw [show ((wkC 1 x5 x6 x7 : Int) != (wkC 1 x5 x6 x7 : Int)) = false from bne_self_eq_false _]
    exact j8V x5 x6 x7 h

theorem wk_pos (a b : ByteArray) (m : Int) : ((wkC 1 a b m : Int) > 0) ↔ ((lowV (wkC 2 a b m) (2 ^ m.toNat)).1 > 0) := by
  rw [low_pos _ _ (Nat.two_pow_pos _)]
  have := Wk.C_pos (top a) m.toNat (nm a) (nm b)
  unfold wkC
  omega

/-- What ChanceAfter and WalksTo answer, put in. -/
theorem j6V (x5 x6 : ByteArray) (x7 : Int) : Ev (fun k => laws_FnWalksMeanOfAll.j6 k x5 x6 x7 (wkV x5 x6 x7).1 (caV x5 x6 x7).1 (caV x5 x6 x7).2.1 (caV x5 x6 x7).2.2 (laV x5 x7).1) true := by
  by_cases h : smB x5 x6 x7 = true
  · have e1 : wkV x5 x6 x7 = ((wkC 1 x5 x6 x7 : Int), true) := if_pos h
    have e2 : caV x5 x6 x7 = ((lowV (wkC 2 x5 x6 x7) (2 ^ x7.toNat)).1, (lowV (wkC 2 x5 x6 x7) (2 ^ x7.toNat)).2, true) := if_pos h
    obtain ⟨h1, h2, h3, h4⟩ := (smB_iff x5 x6 x7).1 h
    obtain ⟨a1, a2, a3⟩ := (alB_iff x5 x6).1 h1
    have hs : smB x5 x5 x7 = true := (smB_iff _ _ _).2 ⟨(alB_iff _ _).2 ⟨a1, a1, rfl⟩, h2, h3, h4⟩
    have e3 : laV x5 x7 = (laL x5 x7, true) := if_pos hs
    rw [e1, e2, e3]
    have hp := wk_pos x5 x6 x7
    have hr := low_range _ _ (wkC_le h)
    refine Ev.step (f := fun k => laws_FnWalksMeanOfAll.j7 k x5 x6 x7 (wkC 1 x5 x6 x7) (lowV (wkC 2 x5 x6 x7) (2 ^ x7.toNat)).1 (lowV (wkC 2 x5 x6 x7) (2 ^ x7.toNat)).2 (laL x5 x7) false) (fun k => ?_) (j7V x5 x6 x7 h)
    have d1 : (decide ((wkC 1 x5 x6 x7 : Int) > 0) != decide ((lowV (wkC 2 x5 x6 x7) (2 ^ x7.toNat)).1 > 0)) = false := by
      rw [decide_eq_decide.2 hp]; exact bne_self_eq_false _
    rw [laws_FnWalksMeanOfAll.j6, if_pos rfl]
    dsimp only
    rw [d1, if_neg (by decide), if_neg (by omega), if_neg (by omega)]
    by_cases h0 : x7 = 0
    · rw [if_pos h0]
      congr 1
      subst h0
      have e : ((lowV (wkC 2 x5 x6 0) (2 ^ (0 : Int).toNat)).1 == 1) = (nm x5 == nm x6) := by
        have e0 : wkC 2 x5 x6 0 = if nm x5 = nm x6 then 1 else 0 := rfl
        rw [e0]
        by_cases hn : nm x5 = nm x6
        · rw [if_pos hn, beq_iff_eq.2 hn]; rfl
        · rw [if_neg hn, beq_eq_false_iff_ne.2 hn]; rfl
      rw [e, nm_inj h1]; exact bne_self_eq_false _
    · rw [if_neg h0]
  · have e2 : caV x5 x6 x7 = (0, 0, false) := if_neg h
    rw [e2]
    refine Ev.step (f := fun _ => some true) (fun k => ?_) (Ev.now _)
    rw [laws_FnWalksMeanOfAll.j6, if_neg (by decide)]
end Go.Proofs.YtkdfhgilpnohpaaDoor.WkP

/- The law of walks and means: what the program's law answers, to its head. -/
namespace Go.Proofs.YtkdfhgilpnohpaaDoor.WkP
open Go.RowKit Go.Proofs.YtkdfhgilpnohpaaDoor.Wk Go.Proofs.YtkdfhgilpnohpaaDoorW.PrintWords Go.Proofs.YtkdfhgilpnohpaaDoorW.PrintMore

theorem list_eq {a b : ByteArray} (h : alB a b = true) : a.toList = b.toList ↔ nm a = nm b := by
  have := nm_inj h
  rw [Bool.eq_iff_iff, beq_iff_eq, beq_iff_eq] at this
  exact this

/-! ### 1. Which state is met first -/
theorem j5V (x2 x3 x4 x5 x6 : ByteArray) (x7 : Int) (h2 : x2.size ≤ 1048576) (h3 : x3.size ≤ 1048576) (h4 : x4.size ≤ 1048576) :
    Ev (fun k => laws_FnWalksMeanOfAll.j5 k x2 x3 x4 x5 x6 x7 (chV x2 x3 x4).1 (chV x2 x3 x4).2.1 (chV x2 x3 x4).2.2 (wkV x5 x6 x7).1 (caV x5 x6 x7).1 (caV x5 x6 x7).2.1 (caV x5 x6 x7).2.2 (laV x5 x7).1 false) true := by
  have h6 := j6V x5 x6 x7
  by_cases h : (alB x2 x3 && alB x2 x4 && !(nm x3 == nm x4)) = true
  · have e1 : chV x2 x3 x4 = ((cb (nm x2) (nm x3) (nm x4)).1, (cb (nm x2) (nm x3) (nm x4)).2, true) := if_pos h
    rw [Bool.and_eq_true, Bool.and_eq_true] at h
    obtain ⟨⟨g1, g2⟩, g3⟩ := h
    have g3 : nm x3 ≠ nm x4 := by simpa using g3
    have h' : (alB x2 x4 && alB x2 x3 && !(nm x4 == nm x3)) = true := by
      rw [g1, g2, beq_eq_false_iff_ne.2 (Ne.symm g3)]; rfl
    have e2 : chV x2 x4 x3 = ((cb (nm x2) (nm x4) (nm x3)).1, (cb (nm x2) (nm x4) (nm x3)).2, true) := if_pos h'
    have hb := chanceBefore x2 x4 x3 (by omega) (by omega) (by omega)
    rw [e2] at hb
    rw [e1]
    obtain ⟨s2, s3, _⟩ := (alB_iff _ _).1 g1
    obtain ⟨_, s4, _⟩ := (alB_iff _ _).1 g2
    have l2 := nm_lt20 s2
    have l3 := nm_lt20 s3
    have l4 := nm_lt20 s4
    have hs := cb_sum (nm x2) (nm x3) (nm x4) g3
    obtain ⟨p1, p2, p3, p4⟩ := cb_le (nm x2) (nm x3) (nm x4) l2 l3 l4
    obtain ⟨q1, q2, q3, q4⟩ := cb_le (nm x2) (nm x4) (nm x3) l2 l4 l3
    have i3 := list_eq g1
    have i4 := list_eq g2
    have z3 : nm x2 = nm x3 → (cb (nm x2) (nm x3) (nm x4)).1 = (cb (nm x2) (nm x3) (nm x4)).2 := by
      intro e; rw [cb_one _ _ _ (by omega)]
    have z4 : nm x2 = nm x4 → (cb (nm x2) (nm x3) (nm x4)).1 = 0 := by
      intro e; rw [cb_zero _ _ _ (by omega)]
    generalize (cb (nm x2) (nm x3) (nm x4)).1 = a at *
    generalize (cb (nm x2) (nm x3) (nm x4)).2 = b at *
    generalize (cb (nm x2) (nm x4) (nm x3)).1 = c at *
    generalize (cb (nm x2) (nm x4) (nm x3)).2 = d at *
    have r1 := pr_le p1 p2 q3 q4
    have r2 := pr_le q1 q2 p3 p4
    have r3 := pr_le p3 p4 q3 q4
    have hw : wrap64 ((wrap64 (a * d)) + (wrap64 (c * b))) = wrap64 (b * d) := by
      rw [w64 (x := a * d) (by omega) (by omega), w64 (x := c * b) (by omega) (by omega), w64 (x := b * d) (by omega) (by omega), w64 (by omega) (by omega)]
      exact hs
    refine Ev.step (f := fun k => (impl_ChanceBefore.f k x2 x4 x3).bind fun bt293 => (if bt293.2.2 = true then (if (wrap64 ((wrap64 (a * bt293.2.1)) + (wrap64 (bt293.1 * b)))) = (wrap64 (b * bt293.2.1)) then (if x2.toList = x3.toList then (if a = b then (if x2.toList = x4.toList then (if a = 0 then (laws_FnWalksMeanOfAll.j6 k x5 x6 x7 (wkV x5 x6 x7).1 (caV x5 x6 x7).1 (caV x5 x6 x7).2.1 (caV x5 x6 x7).2.2 (laV x5 x7).1) else (some false)) else (laws_FnWalksMeanOfAll.j6 k x5 x6 x7 (wkV x5 x6 x7).1 (caV x5 x6 x7).1 (caV x5 x6 x7).2.1 (caV x5 x6 x7).2.2 (laV x5 x7).1)) else (some false)) else (if x2.toList = x4.toList then (if a = 0 then (laws_FnWalksMeanOfAll.j6 k x5 x6 x7 (wkV x5 x6 x7).1 (caV x5 x6 x7).1 (caV x5 x6 x7).2.1 (caV x5 x6 x7).2.2 (laV x5 x7).1) else (some false)) else (laws_FnWalksMeanOfAll.j6 k x5 x6 x7 (wkV x5 x6 x7).1 (caV x5 x6 x7).1 (caV x5 x6 x7).2.1 (caV x5 x6 x7).2.2 (laV x5 x7).1))) else (some false)) else (some false))) (fun k => ?_) ?_
    · rw [laws_FnWalksMeanOfAll.j5, if_neg (by decide), if_pos rfl]
    · refine Ev.bind hb (WkP.Ev.ite_pos rfl (WkP.Ev.ite_pos hw ?_))
      by_cases c3 : x2.toList = x3.toList
      · refine WkP.Ev.ite_pos c3 (WkP.Ev.ite_pos (z3 (i3.1 c3)) ?_)
        have : ¬ x2.toList = x4.toList := fun q => g3 (by rw [← i3.1 c3, ← i4.1 q])
        exact WkP.Ev.ite_neg this h6
      · refine WkP.Ev.ite_neg c3 ?_
        by_cases c4 : x2.toList = x4.toList
        · exact WkP.Ev.ite_pos c4 (WkP.Ev.ite_pos (z4 (i4.1 c4)) h6)
        · exact WkP.Ev.ite_neg c4 h6
  · have e1 : chV x2 x3 x4 = (0, 0, false) := if_neg h
    rw [e1]
    refine Ev.step (f := fun k => laws_FnWalksMeanOfAll.j6 k x5 x6 x7 (wkV x5 x6 x7).1 (caV x5 x6 x7).1 (caV x5 x6 x7).2.1 (caV x5 x6 x7).2.2 (laV x5 x7).1) (fun k => ?_) h6
    rw [laws_FnWalksMeanOfAll.j5, if_neg (by decide), if_neg (by decide)]

/-! ### 2. The two programs compared -/
theorem sm_la {a b : ByteArray} {m : Int} (h : smB a b m = true) : smB a a m = true := by
  obtain ⟨h1, h2, h3, h4⟩ := (smB_iff a b m).1 h
  obtain ⟨a1, a2, a3⟩ := (alB_iff a b).1 h1
  exact (smB_iff _ _ _).2 ⟨(alB_iff _ _).2 ⟨a1, a1, rfl⟩, h2, h3, h4⟩
theorem ca_ok (a b : ByteArray) (m : Int) : (caV a b m).2.2 = smB a b m := by
  unfold caV
  by_cases h : smB a b m = true
  · rw [if_pos h, h]
  · rw [if_neg h]; simpa using h
theorem wk_ok (a b : ByteArray) (m : Int) : (wkV a b m).2 = smB a b m := by
  unfold wkV
  by_cases h : smB a b m = true
  · rw [if_pos h, h]
  · rw [if_neg h]; simpa using h
theorem la_ok (a : ByteArray) (m : Int) : (laV a m).2 = smB a a m := by
  unfold laV
  by_cases h : smB a a m = true
  · rw [if_pos h, h]
  · rw [if_neg h]; simpa using h
theorem la_len (a : ByteArray) (m : Int) : (laV a m).1.length < 2 ^ 60 := by
  unfold laV
  by_cases h : smB a a m = true
  · rw [if_pos h]
    exact laL_length a m (size_le ((alB_iff _ _).1 ((smB_iff _ _ _).1 h).1).1)
  · rw [if_neg h]; decide
theorem Ev.cases {α : Type} {b : Bool} {g f : Nat → Option α} {r : α} (h1 : b = true → Ev g r) (h2 : b = false → Ev f r) : Ev (fun n => if b = true then g n else f n) r := by
  cases b
  · exact WkP.Ev.ite_neg (by decide) (h2 rfl)
  · exact WkP.Ev.ite_pos rfl (h1 rfl)
theorem ne_self (b : Bool) : ¬ ((b != b) = true) := by cases b <;> decide

theorem j4V (x2 x3 x4 x5 x6 : ByteArray) (x7 : Int) (h2 : x2.size ≤ 1048576) (h3 : x3.size ≤ 1048576) (h4 : x4.size ≤ 1048576) (h5 : x5.size ≤ 1048576) (h6 : x6.size ≤ 1048576) :
    Ev (fun k => laws_FnWalksMeanOfAll.j4 k x2 x3 x4 x5 x6 x7) true := by
  have g := j5V x2 x3 x4 x5 x6 x7 h2 h3 h4
  refine Ev.step (f := fun k => _) (fun k => by rw [laws_FnWalksMeanOfAll.j4]) ?_
  refine Ev.bind (chanceBefore x2 x3 x4 (by omega) (by omega) (by omega)) (Ev.bind (specChanceBefore x2 x3 x4) (Ev.bind (walksTo x5 x6 x7 (by omega) (by omega)) (Ev.bind (specWalksTo x5 x6 x7)
    (Ev.bind (chanceAfter x5 x6 x7 (by omega) (by omega)) (Ev.bind (specChanceAfter x5 x6 x7) (Ev.bind (likeliest x5 x7 (by omega)) (Ev.bind (specLikeliest x5 x7) ?_)))))))
  refine WkP.Ev.ite_neg (ne_self _) (WkP.Ev.ite_pos rfl (WkP.Ev.ite_pos rfl (WkP.Ev.ite_neg (ne_self _) (WkP.Ev.ite_pos rfl (WkP.Ev.ite_neg (ne_self _) (WkP.Ev.ite_pos rfl (WkP.Ev.ite_pos rfl ?_)))))))
  refine WkP.Ev.ite_neg (by rw [ca_ok, wk_ok]; exact ne_self _) (WkP.Ev.ite_neg (ne_self _) (Ev.bind (texts _ (la_len x5 x7)) (WkP.Ev.ite_pos rfl (WkP.Ev.cases ?_ ?_))))
  · intro q
    rw [ca_ok] at q
    rw [la_ok, sm_la q]
    exact g
  · intro _
    exact g

/-! ### 3. The means -/
theorem l0Step (x0 x1 x2 x3 x4 x5 x6 : ByteArray) (x7 x17 : Int) (x27 : List Int) (x28 : Bool) (x29 : Int) (L : List Int) (i q : Nat) (v : Int) (r : Bool)
    (hi : i < L.length) (hL : L.length ≤ 2) (hq : rd L i = (q : Int)) (hm : impl_MoveRing.f x0 q = some (fl x0 q, true))
    (hw : Ev (fun k => impl_MeanFrom.f k (fl x0 q) x1) (v, true))
    (h : Ev (fun k => laws_FnWalksMeanOfAll.l0 k x0 x1 x2 x3 x4 x5 x6 x7 x17 x27 x28 (wrap64 (x29 + v)) L (L.length : Int) ((i + 1 : Nat) : Int)) r) :
    Ev (fun k => laws_FnWalksMeanOfAll.l0 k x0 x1 x2 x3 x4 x5 x6 x7 x17 x27 x28 x29 L (L.length : Int) i) r := by
  have ej : wrap64 ((i : Int) + 1) = ((i + 1 : Nat) : Int) := by rw [w64 (by omega) (by omega)]; omega
  refine Ev.step (f := fun k => (impl_MoveRing.f x0 (rd L i)).bind fun bt264 => ((impl_MeanFrom.f k bt264.1 x1).bind fun bt266 => (if bt264.2 = true then (if bt266.2 = true then (laws_FnWalksMeanOfAll.l0 k x0 x1 x2 x3 x4 x5 x6 x7 x17 x27 x28 (wrap64 (x29 + bt266.1)) L (L.length : Int) (wrap64 ((i : Int) + 1))) else (some false)) else (some false)))) (fun k => ?_) ?_
  · rw [laws_FnWalksMeanOfAll.l0, if_pos (by omega), if_pos (by omega), if_pos (by omega)]
  · rw [hq, ej]
    refine Ev.bind (evc hm) (Ev.bind hw ?_)
    exact WkP.Ev.ite_pos rfl (WkP.Ev.ite_pos rfl h)
theorem l0End (x0 x1 x2 x3 x4 x5 x6 : ByteArray) (x7 x17 : Int) (x27 : List Int) (x29 : Int) (L : List Int) (h : wrap64 (wrap64 (x17 - 1) * (x27.length : Int)) = x29)
    (g : Ev (fun k => laws_FnWalksMeanOfAll.j4 k x2 x3 x4 x5 x6 x7) true) :
    Ev (fun k => laws_FnWalksMeanOfAll.l0 k x0 x1 x2 x3 x4 x5 x6 x7 x17 x27 true x29 L (L.length : Int) (L.length : Int)) true := by
  refine Ev.step (f := fun k => laws_FnWalksMeanOfAll.j4 k x2 x3 x4 x5 x6 x7) (fun k => ?_) g
  rw [laws_FnWalksMeanOfAll.l0, if_neg (by omega), if_pos rfl, if_pos h]

theorem j2V (x0 x1 x2 x3 x4 x5 x6 : ByteArray) (x7 : Int) (h : alB x0 x1 = true) (g : Ev (fun k => laws_FnWalksMeanOfAll.j4 k x2 x3 x4 x5 x6 x7) true) :
    Ev (fun k => laws_FnWalksMeanOfAll.j2 k x0 x1 x2 x3 x4 x5 x6 x7 (mn (nm x0) (nm x1) (top x0)) false) true := by
  obtain ⟨a1, a2, a3⟩ := (alB_iff x0 x1).1 h
  have z0 := size_le a1
  have z1 := size_le a2
  by_cases hne : x0.toList = x1.toList
  · refine Ev.step (f := fun k => laws_FnWalksMeanOfAll.j4 k x2 x3 x4 x5 x6 x7) (fun k => ?_) g
    rw [laws_FnWalksMeanOfAll.j2, if_neg (by decide), if_pos hne]
  · have hn : nm x0 ≠ nm x1 := fun q => hne ((list_eq h).2 q)
    refine Ev.step (f := fun k => (impl_MovesOf.f k x0).bind fun bt259 => (laws_FnWalksMeanOfAll.l0 k x0 x1 x2 x3 x4 x5 x6 x7 (mn (nm x0) (nm x1) (top x0)) bt259.1 bt259.2 0 bt259.1 (bt259.1.length : Int) 0)) (fun k => ?_) ?_
    · rw [laws_FnWalksMeanOfAll.j2, if_neg (by decide), if_neg hne]
    · have hmv := movesOfV x0 (by omega)
      unfold mvV at hmv
      rw [if_pos a1] at hmv
      refine Ev.bind hmv ?_
      have hp := size_pos a1
      have hb : nm x1 ≤ top x0 := by rw [top_eq a3]; exact nm_top x1
      have ht := top_lt z0
      have hmf : ∀ k, k < x0.size → Ev (fun n => impl_MeanFrom.f n (fl x0 k) x1) (mn (nm (fl x0 k)) (nm x1) (top x0), true) := by
        intro k hk
        have hh := meanFrom (fl x0 k) x1 (by rw [fl_size]; omega) (by omega)
        unfold mfV at hh
        rw [if_pos (fl_al x0 x1 h k hk), fl_top] at hh
        exact hh
      have hle : ∀ k, 0 ≤ mn (nm (fl x0 k)) (nm x1) (top x0) ∧ mn (nm (fl x0 k)) (nm x1) (top x0) ≤ 4398046511104 := by
        intro k
        have hh := mn_fewest (nm (fl x0 k)) (nm x1) (top x0) (by have := nm_top (fl x0 k); rwa [fl_top] at this) hb ht
        exact ⟨by have := hh.1; omega, hh.2.2⟩
      have hM := mn_fewest (nm x0) (nm x1) (top x0) (nm_top x0) hb ht
      have q0 := hmf 0 hp
      have l0 := hle 0
      rcases mean_moves x0 x1 h hn with ⟨k1, k2⟩ | ⟨k0, k1, k2⟩
      · dsimp only
        rw [k1]
        generalize mn (nm x0) (nm x1) (top x0) = M at *
        generalize mn (nm (fl x0 0)) (nm x1) (top x0) = A at *
        refine l0Step x0 x1 x2 x3 x4 x5 x6 x7 _ _ true 0 [0] 0 0 _ true (by simp) (by simp) rfl (moveRing x0 a1 0 hp (can0 x0 a1)) q0 ?_
        refine l0End x0 x1 x2 x3 x4 x5 x6 x7 _ _ _ [0] ?_ g
        rw [w64 (x := M - 1) (by omega) (by omega)]
        have e : (([0] : List Int).length : Int) = 1 := rfl
        rw [e, k2, Int.zero_add]
      · have q1 := hmf (fst x0 + 1) k0
        have l1 := hle (fst x0 + 1)
        dsimp only
        rw [k1]
        generalize mn (nm x0) (nm x1) (top x0) = M at *
        generalize mn (nm (fl x0 0)) (nm x1) (top x0) = A at *
        generalize mn (nm (fl x0 (fst x0 + 1))) (nm x1) (top x0) = B at *
        refine l0Step x0 x1 x2 x3 x4 x5 x6 x7 _ _ true 0 [0, ((fst x0 + 1 : Nat) : Int)] 0 0 _ true (by simp) (by simp) rfl (moveRing x0 a1 0 hp (can0 x0 a1)) q0 ?_
        refine l0Step x0 x1 x2 x3 x4 x5 x6 x7 _ _ true _ [0, ((fst x0 + 1 : Nat) : Int)] 1 (fst x0 + 1) _ true (by simp) (by simp) rfl (moveRing x0 a1 _ k0 (canF x0 k0)) q1 ?_
        refine l0End x0 x1 x2 x3 x4 x5 x6 x7 _ _ _ [0, ((fst x0 + 1 : Nat) : Int)] ?_ g
        have e : (([0, ((fst x0 + 1 : Nat) : Int)] : List Int).length : Int) = 2 := rfl
        rw [w64 (x := M - 1) (by omega) (by omega), e, k2, Int.zero_add, w64 (x := A) (by omega) (by omega)]

theorem j1V (x0 x1 x2 x3 x4 x5 x6 : ByteArray) (x7 : Int) (h0 : x0.size ≤ 1048576) (g : Ev (fun k => laws_FnWalksMeanOfAll.j4 k x2 x3 x4 x5 x6 x7) true) :
    Ev (fun k => laws_FnWalksMeanOfAll.j1 k x0 x1 x2 x3 x4 x5 x6 x7 (mfV x0 x1).1 (mfV x0 x1).2 false) true := by
  by_cases h : alB x0 x1 = true
  · have e1 : mfV x0 x1 = (mn (nm x0) (nm x1) (top x0), true) := if_pos h
    rw [e1]
    obtain ⟨a1, a2, a3⟩ := (alB_iff x0 x1).1 h
    have hb : nm x1 ≤ top x0 := by rw [top_eq a3]; exact nm_top x1
    have hM := mn_fewest (nm x0) (nm x1) (top x0) (nm_top x0) hb (top_lt (size_le a1))
    have hf := fewest x0 x1 (by omega) (by omega)
    have e2 : fmV x0 x1 = ((ap (nm x0) (nm x1) : Int), true) := if_pos h
    rw [e2] at hf
    refine Ev.step (f := fun k => (impl_FewestMoves.f k x0 x1).bind fun bt257 => (if bt257.2 = true then (if mn (nm x0) (nm x1) (top x0) < bt257.1 then (laws_FnWalksMeanOfAll.j2 k x0 x1 x2 x3 x4 x5 x6 x7 (mn (nm x0) (nm x1) (top x0)) true) else (laws_FnWalksMeanOfAll.j2 k x0 x1 x2 x3 x4 x5 x6 x7 (mn (nm x0) (nm x1) (top x0)) ((mn (nm x0) (nm x1) (top x0) == 0) != (x0.toList == x1.toList)))) else (laws_FnWalksMeanOfAll.j2 k x0 x1 x2 x3 x4 x5 x6 x7 (mn (nm x0) (nm x1) (top x0)) true))) (fun k => ?_) ?_
    · rw [laws_FnWalksMeanOfAll.j1, if_neg (by decide), if_pos rfl]
    · refine Ev.bind hf (WkP.Ev.ite_pos rfl (WkP.Ev.ite_neg (by have := hM.1; dsimp only; omega) ?_))
      have e3 : ((mn (nm x0) (nm x1) (top x0) == 0) != (x0.toList == x1.toList)) = false := by
        rw [nm_inj h]
        have : (mn (nm x0) (nm x1) (top x0) == 0) = (nm x0 == nm x1) := by rw [Bool.eq_iff_iff, beq_iff_eq, beq_iff_eq]; exact hM.2.1
        rw [this]; exact bne_self_eq_false _
      rw [e3]
      exact j2V x0 x1 x2 x3 x4 x5 x6 x7 h g
  · have e1 : mfV x0 x1 = (0, false) := if_neg h
    rw [e1]
    refine Ev.step (f := fun k => laws_FnWalksMeanOfAll.j4 k x2 x3 x4 x5 x6 x7) (fun k => ?_) g
    rw [laws_FnWalksMeanOfAll.j1, if_neg (by decide), if_neg (by decide)]

theorem j0t (x0 x1 x2 x3 x4 x5 x6 : ByteArray) (x7 : Int) : Ev (fun k => laws_FnWalksMeanOfAll.j0 k x0 x1 x2 x3 x4 x5 x6 x7 true) true :=
  Ev.step (f := fun _ => some true) (fun k => by rw [laws_FnWalksMeanOfAll.j0, if_pos rfl]) (Ev.now _)
theorem j0f (x0 x1 x2 x3 x4 x5 x6 : ByteArray) (x7 : Int) (h0 : x0.size ≤ 1048576) (h1 : x1.size ≤ 1048576) (h2 : x2.size ≤ 1048576) (h3 : x3.size ≤ 1048576) (h4 : x4.size ≤ 1048576) (h5 : x5.size ≤ 1048576) (h6 : x6.size ≤ 1048576) :
    Ev (fun k => laws_FnWalksMeanOfAll.j0 k x0 x1 x2 x3 x4 x5 x6 x7 false) true := by
  have g := j1V x0 x1 x2 x3 x4 x5 x6 x7 h0 (j4V x2 x3 x4 x5 x6 x7 h2 h3 h4 h5 h6)
  refine Ev.step (f := fun k => _) (fun k => by rw [laws_FnWalksMeanOfAll.j0, if_neg (by decide)]) ?_
  refine Ev.bind (meanFrom x0 x1 (by omega) (by omega)) (Ev.bind (specMeanFrom x0 x1) (Ev.bind (meanToClear x0 (by omega)) (Ev.bind (specMeanToClear x0) ?_)))
  refine WkP.Ev.ite_neg (ne_self _) (WkP.Ev.ite_pos rfl (WkP.Ev.ite_neg (ne_self _) (WkP.Ev.ite_pos rfl (WkP.Ev.cases ?_ ?_))))
  · intro q
    have hs : stB x0 = true := by
      unfold mfV at q
      by_cases h : alB x0 x1 = true
      · exact ((alB_iff _ _).1 h).1
      · rw [if_neg h] at q; cases q
    have : (mcV x0).2 = true := by unfold mcV; rw [if_pos hs]
    rw [this]
    exact g
  · intro _
    exact g

theorem FnWalksMeanOfAll : laws_FnWalksMeanOfAll.Pure := by
  intro a0 a1 a2 a3 a4 a5 a6 a7 _ _ _ _ _ _ _ _
  suffices h : Ev (fun k => laws_FnWalksMeanOfAll.f k a0 a1 a2 a3 a4 a5 a6 a7) true from h.rounds
  have t := j0t a0 a1 a2 a3 a4 a5 a6 a7
  unfold laws_FnWalksMeanOfAll.f
  by_cases c0 : (a0.size : Int) > 1048576
  · exact WkP.Ev.ite_pos c0 t
  refine WkP.Ev.ite_neg c0 ?_
  by_cases c1 : (a1.size : Int) > 1048576
  · exact WkP.Ev.ite_pos c1 t
  refine WkP.Ev.ite_neg c1 ?_
  by_cases c2 : (a2.size : Int) > 1048576
  · exact WkP.Ev.ite_pos c2 t
  refine WkP.Ev.ite_neg c2 ?_
  by_cases c3 : (a3.size : Int) > 1048576
  · exact WkP.Ev.ite_pos c3 t
  refine WkP.Ev.ite_neg c3 ?_
  by_cases c4 : (a4.size : Int) > 1048576
  · exact WkP.Ev.ite_pos c4 t
  refine WkP.Ev.ite_neg c4 ?_
  by_cases c5 : (a5.size : Int) > 1048576
  · exact WkP.Ev.ite_pos c5 t
  refine WkP.Ev.ite_neg c5 ?_
  by_cases c6 : (a6.size : Int) > 1048576
  · rw [decide_eq_true c6]; exact t
  · rw [decide_eq_false c6]
    exact j0f a0 a1 a2 a3 a4 a5 a6 a7 (by omega) (by omega) (by omega) (by omega) (by omega) (by omega) (by omega)
end Go.Proofs.YtkdfhgilpnohpaaDoor.WkP
