/- The law of counted states: what the program's law answers. -/
import Derived.Test.YtkdfhgilpnohpaaDoorScPB
import Derived.Test.YtkdfhgilpnohpaaDoorSc9d
namespace Go.Proofs.YtkdfhgilpnohpaaDoor.ScP
open Go.RowKit Go.Proofs.YtkdfhgilpnohpaaDoor.Sc Go.Proofs.YtkdfhgilpnohpaaDoorW.PrintWords Go.Proofs.YtkdfhgilpnohpaaDoorW.PrintMore

theorem addN (x y : Nat) (h : x + y < 4611686018427387904) : wrap64 ((x : Int) + (y : Int)) = ((x + y : Nat) : Int) := by rw [w64 (by omega) (by omega)]; omega
theorem succN (x : Nat) (h : x < 4611686018427387904) : wrap64 ((x : Int) + 1) = ((x + 1 : Nat) : Int) := by rw [w64 (by omega) (by omega)]; omega
theorem mul3N (x : Nat) (h : x ≤ 16777215) : wrap64 ((x : Int) * 3) = ((x * 3 : Nat) : Int) := by rw [w64 (by omega) (by omega)]; omega
/-! ### 1. The states between two -/
theorem low_cross (S c : Nat) : S * (c / Nat.gcd S c) = S / Nat.gcd S c * c := by
  have h1 : Nat.gcd S c ∣ S := Nat.gcd_dvd_left _ _
  have h2 : Nat.gcd S c ∣ c := Nat.gcd_dvd_right _ _
  rw [← Nat.mul_div_assoc _ h2, Nat.div_mul_right_comm h1]
theorem scL2 (x63 x64 : Int) (L : List ByteArray) (hL : ∀ s ∈ L, stB s = true) (hlen : L.length ≤ 2000) (he : ((sumOn L : Nat) : Int) * x64 = x63 * (L.length : Int)) (d : Nat) : ∀ i, i ≤ L.length → L.length - i = d →
    Ev (fun k => laws_FnStatesCountedOfAll.l2 k x63 x64 L ((sumOn (L.take i) : Nat) : Int) L (L.length : Int) (i : Int)) true := by
  have hsum : ∀ i, sumOn (L.take i) ≤ 20 * i := by
    intro i
    induction i with
    | zero => exact Nat.le_refl _
    | succ i ih =>
      by_cases h : i < L.length
      · rw [sumOn_take L i h]
        have h1 := hL _ (List.getElem_mem h)
        have h2 : (bl L[i]).count true ≤ (bl L[i]).length := List.count_le_length
        rw [bl_length] at h2
        have h3 := size_le h1
        omega
      · rw [List.take_of_length_le (by omega)]
        rw [List.take_of_length_le (by omega)] at ih
        omega
  induction d with
  | zero =>
    intro i h1 h2
    obtain rfl : i = L.length := by omega
    refine Ev.step (f := fun _ => some true) (fun k => ?_) (Ev.now _)
    rw [laws_FnStatesCountedOfAll.l2, if_neg (by omega), List.take_length, he, beq_self_eq_true]
  | succ d ih =>
    intro i h1 h2
    have h3 := ih (i + 1) (by omega) (by omega)
    have hl : i < L.length := by omega
    have hs := hsum i
    have hs2 := hsum (i + 1)
    rw [sumOn_take L i hl] at h3 hs2
    have hr : rdOf ByteArray.empty L (i : Int) = L[i] := by
      unfold rdOf
      rw [Int.toNat_natCast, List.getD_eq_getElem?_getD, List.getElem?_eq_getElem hl]; rfl
    have ec := countOnV _ (hL _ (List.getElem_mem hl))
    have q1 : (i : Int) < (L.length : Int) := by omega
    have ej : wrap64 ((i : Int) + 1) = ((i + 1 : Nat) : Int) := by rw [w64 (by omega) (by omega)]; omega
    have es : wrap64 (((sumOn (L.take i) : Nat) : Int) + (((bl L[i]).count true : Nat) : Int)) = ((sumOn (L.take i) + (bl L[i]).count true : Nat) : Int) := by rw [w64 (by omega) (by omega)]; omega
    refine Ev.step (f := fun k => laws_FnStatesCountedOfAll.l2 k x63 x64 L ((sumOn (L.take i) + (bl L[i]).count true : Nat) : Int) L (L.length : Int) ((i + 1 : Nat) : Int)) (fun k => ?_) h3
    rw [laws_FnStatesCountedOfAll.l2, if_pos q1, if_pos (Int.natCast_nonneg _), if_pos q1, hr, ec]
    simp only [Option.bind_some, if_true]
    rw [es, ej]

theorem scJ8 (a b : ByteArray) (ha : a.size ≤ 140737488351232) (hb : b.size ≤ 140737488351232) : Ev (fun k => laws_FnStatesCountedOfAll.j8 k a b (alV a b).1 (alV a b).2.1 (alV a b).2.2) true := by
  by_cases h : maB a b = true
  · have e : alV a b = ((lowV (sumAlong a b) (ap (nm a) (nm b) + 1)).1, (lowV (sumAlong a b) (ap (nm a) (nm b) + 1)).2, true) := if_pos h
    rw [e]
    have hal : alB a b = true := by
      unfold maB at h; rw [Bool.and_eq_true] at h; exact h.1
    obtain ⟨L, g1, g2⟩ := statesBetween a b ha hb hal
    refine Ev.step (f := fun k => (impl_StatesBetween.f k a b).bind fun bt487 => (if bt487.2 = true then (laws_FnStatesCountedOfAll.l2 k (lowV (sumAlong a b) (ap (nm a) (nm b) + 1)).1 (lowV (sumAlong a b) (ap (nm a) (nm b) + 1)).2 bt487.1 0 bt487.1 (bt487.1.length : Int) 0) else (some true))) (fun k => ?_) (Ev.bind g1 ?_)
    · rw [laws_FnStatesCountedOfAll.j8, if_pos rfl]
    · by_cases h2 : ap (nm a) (nm b) + 1 ≤ 2000
      · obtain ⟨l1, l2, l3⟩ := g2 h2
        refine ScP.Ev.ite_pos (decide_eq_true h2) ?_
        refine scL2 _ _ L l3 (by omega) ?_ L.length 0 (by omega) (by omega)
        rw [l1, l2]
        unfold lowV
        show ((sumAlong a b : Nat) : Int) * (((ap (nm a) (nm b) + 1) / _ : Nat) : Int) = ((sumAlong a b / _ : Nat) : Int) * _
        rw [← Int.natCast_mul, ← Int.natCast_mul, low_cross]
      · exact ScP.Ev.ite_neg (by rw [decide_eq_false h2]; exact Bool.false_ne_true) (Ev.now _)
  · have e : alV a b = (0, 0, false) := if_neg h
    rw [e]
    exact Ev.step (f := fun _ => some true) (fun k => by rw [laws_FnStatesCountedOfAll.j8, if_neg (by decide)]) (Ev.now _)

/-! ### 2. Means -/
theorem scJ7 (n : Int) (a b : ByteArray) (x63 x64 : Int) (x65 : Bool) (g : Ev (fun k => laws_FnStatesCountedOfAll.j8 k a b x63 x64 x65) true) :
    Ev (fun k => laws_FnStatesCountedOfAll.j7 k n a b (mnV n).1 (mnV n).2.1 (mnV n).2.2 (mpV n).1 (mpV n).2.1 x63 x64 x65 false) true := by
  by_cases h : 1 ≤ n ∧ n ≤ 12
  · obtain ⟨r, rfl, h1, h2⟩ := mean_ge h
    have e1 : mnV (r : Int) = (((2 ^ r - 1 : Nat) : Int), 2, true) := by unfold mnV; rw [if_pos h, Int.toNat_natCast]
    have e2 : mpV (r : Int) = ((lowV (sqm r) (3 * 2 ^ r)).1, (lowV (sqm r) (3 * 2 ^ r)).2, true) := by unfold mpV; rw [if_pos h, Int.toNat_natCast]
    rw [e1, e2]
    obtain ⟨p1, p2, p3⟩ := pow12 h1 h2
    have hq := sqm_le h1 h2
    have hx : sqm r / Nat.gcd (sqm r) (3 * 2 ^ r) ≤ 16777215 := Nat.le_trans (Nat.div_le_self _ _) hq.2
    have c0 : (0 : Int) ≤ (r : Int) := by omega
    have w1 : wrap64 (shl .i64 1 (r : Int) - 1) = ((2 ^ r - 1 : Nat) : Int) := by rw [shl1 r (by omega), w64 (by omega) (by omega)]; omega
    have k1 : wrap64 (((2 ^ r - 1 : Nat) : Int) * 2) = wrap64 (2 * wrap64 (shl .i64 1 (r : Int) - 1)) := by rw [w1, Int.mul_comm]
    have k2 : wrap64 (wrap64 ((lowV (sqm r) (3 * 2 ^ r)).1 * 3) * shl .i64 1 (r : Int)) = wrap64 ((lowV (sqm r) (3 * 2 ^ r)).2 * wrap64 (wrap64 (shl .i64 1 (r : Int) * shl .i64 1 (r : Int)) - 1)) := by
      rw [sqI h1 h2, shl1 r (by omega)]
      unfold lowV
      show wrap64 (wrap64 (((sqm r / Nat.gcd (sqm r) (3 * 2 ^ r) : Nat) : Int) * 3) * ((2 ^ r : Nat) : Int)) = wrap64 (((3 * 2 ^ r / Nat.gcd (sqm r) (3 * 2 ^ r) : Nat) : Int) * ((sqm r : Nat) : Int))
      have e3 : wrap64 (((sqm r / Nat.gcd (sqm r) (3 * 2 ^ r) : Nat) : Int) * 3) = ((sqm r / Nat.gcd (sqm r) (3 * 2 ^ r) * 3 : Nat) : Int) := mul3N _ hx
      rw [e3, ← Int.natCast_mul, ← Int.natCast_mul]
      have := low_cross (sqm r) (3 * 2 ^ r)
      rw [Nat.mul_assoc, ← this, Nat.mul_comm]
    refine Ev.step (f := fun k => laws_FnStatesCountedOfAll.j8 k a b x63 x64 x65) (fun k => ?_) g
    rw [laws_FnStatesCountedOfAll.j7, if_neg (by decide), if_pos rfl, if_pos c0, if_pos k1, if_pos k2]
  · have e1 : mnV n = (0, 0, false) := if_neg h
    rw [e1]
    refine Ev.step (f := fun k => laws_FnStatesCountedOfAll.j8 k a b x63 x64 x65) (fun k => ?_) g
    rw [laws_FnStatesCountedOfAll.j7, if_neg (by decide), if_neg (by decide)]
theorem mn_mp (n : Int) : (mpV n).2.2 = (mnV n).2.2 := by
  unfold mpV mnV
  by_cases h : 1 ≤ n ∧ n ≤ 12
  · rw [if_pos h, if_pos h]
  · rw [if_neg h, if_neg h]
theorem scJ6 (n : Int) (a b : ByteArray) (ha : a.size ≤ 140737488351232) (hb : b.size ≤ 140737488351232) : Ev (fun k => laws_FnStatesCountedOfAll.j6 k n a b) true := by
  have g := scJ7 n a b _ _ _ (scJ8 a b ha hb)
  have hm := mn_mp n
  refine Ev.step (f := fun k => _) (fun k => by rw [laws_FnStatesCountedOfAll.j6]) ?_
  refine Ev.bind (meanNumber n) (Ev.bind (evc (specMeanNumber n)) (Ev.bind (meanOfPairs n) (Ev.bind (specMeanOfPairs n) (Ev.bind (meanOnAlong a b ha hb) (Ev.bind (specMeanOnAlong a b) ?_)))))
  refine ScP.Ev.ite_neg (ne_self _) (ScP.Ev.ite_pos rfl (ScP.Ev.ite_pos rfl (ScP.Ev.ite_neg (ne_self _) (ScP.Ev.ite_pos rfl (ScP.Ev.ite_pos rfl (ScP.Ev.ite_neg ?_ (ScP.Ev.ite_neg (ne_self _) (ScP.Ev.ite_pos rfl ?_))))))))
  · rw [hm]; exact ne_self _
  · have : ((alV a b).2.1 != (alV a b).2.1) = false := bne_self_eq_false _
    rw [this]
    exact g

/-! ### 3. The counted states -/
theorem Fn_less (r c i j : Nat) (h : i < j) (hj : j < Rg.bin r c) : (Fn r c).getD i 0 < (Fn r c).getD j 0 := by
  rw [Fn_getD r c i (by omega), Fn_getD r c j hj]
  exact List.pairwise_iff_getElem.1 (Fn_rising r c) i j _ _ h
theorem numberOfV (s : ByteArray) (hs : stB s = true) : Ev (fun k => impl_NumberOfState.f k s) ((nm s : Int), true) := by
  unfold impl_NumberOfState.f
  refine Ev.bind (evc (isState s (by have := size_le hs; omega))) (ScP.Ev.ite_pos hs ?_)
  exact Ev.bind (number s hs) (Ev.now _)
theorem nthNum (r c i : Nat) (h1 : 1 ≤ r) (h2 : r ≤ 12) (h : i < Rg.bin r c) : Ev (fun k => impl_NumberOfState.f k (nthS r c i)) ((((Fn r c).getD i 0 : Nat) : Int), true) := by
  have := numberOfV _ (nth_ok r c i h1 h2)
  rwa [nth_nm r c i h] at this
theorem nthOn (r c i : Nat) (h1 : 1 ≤ r) (h2 : r ≤ 12) (h : i < Rg.bin r c) : impl_CountOn.f (nthS r c i) = some ((c : Int), true) := by
  rw [nthS, countSb r _ h1 (by omega), (Fn_lt r c i h).2]
/-- The number before the i-th one. -/
def prevN (r c : Nat) : Nat → Int
  | 0 => -1
  | i + 1 => (((Fn r c).getD i 0 : Nat) : Int)
theorem prev_lt (r c i : Nat) (h : i < Rg.bin r c) : prevN r c i < (((Fn r c).getD i 0 : Nat) : Int) := by
  cases i with
  | zero => show (-1 : Int) < _; omega
  | succ i =>
    have := Fn_less r c i (i + 1) (by omega) h
    show (((Fn r c).getD i 0 : Nat) : Int) < _
    omega
theorem scL1 (r c : Nat) (h1 : 1 ≤ r) (h2 : r ≤ 12) (h3 : c ≤ r) (x2 : Int) (x3 x4 : ByteArray) (g : Ev (fun k => laws_FnStatesCountedOfAll.j6 k x2 x3 x4) true) (d : Nat) : ∀ i, i ≤ Rg.bin r c → Rg.bin r c - i = d →
    Ev (fun k => laws_FnStatesCountedOfAll.l1 k (r : Int) (c : Int) x2 x3 x4 (woL r c) ((Rg.bin r c : Nat) : Int) (nthS r c 0) (nthS r c (Rg.bin r c - 1)) ((psum r c (Rg.bin r c) : Nat) : Int) ((psum r c i : Nat) : Int) (prevN r c i) (woL r c) ((woL r c).length : Int) (i : Int)) true := by
  have hb := Rg.bin_pos r (by omega) c (by omega)
  have hb2 := Rg.bin_le r (by omega) c (by omega)
  have hl := woL_length r c
  have hp : 2 ^ r ≤ 2 ^ 12 := Nat.pow_le_pow_right (by omega) h2
  induction d with
  | zero =>
    intro i hi hd
    obtain rfl : i = Rg.bin r c := by omega
    have q0 : ¬ ((Rg.bin r c : Nat) : Int) < ((woL r c).length : Int) := by omega
    have q1 : ((woL r c).length : Int) = ((Rg.bin r c : Nat) : Int) := by omega
    have q2 : 0 < ((woL r c).length : Int) := by omega
    have q3 : ((Rg.bin r c - 1 : Nat) : Int) < ((woL r c).length : Int) := by omega
    have e0 := woL_nth r c 0 (by omega)
    have e1 := woL_nth r c (Rg.bin r c - 1) (by omega)
    have ew : wrap64 (((Rg.bin r c : Nat) : Int) - 1) = ((Rg.bin r c - 1 : Nat) : Int) := by rw [w64 (by omega) (by omega)]; omega
    rw [show ((0 : Nat) : Int) = 0 from rfl] at e0
    refine Ev.step (f := fun k => laws_FnStatesCountedOfAll.j6 k x2 x3 x4) (fun k => ?_) g
    rw [laws_FnStatesCountedOfAll.l1, if_neg q0, if_pos q1, if_pos rfl, if_pos q2, e0, if_pos rfl, ew, if_pos (Int.natCast_nonneg _), if_pos q3, e1, if_pos rfl]
  | succ d ih =>
    intro i hi hd
    have hib : i < Rg.bin r c := by omega
    have h4 := ih (i + 1) (by omega) (by omega)
    have hlt := prev_lt r c i hib
    have q1 : (i : Int) < ((woL r c).length : Int) := by omega
    have q2 : ¬ (((Fn r c).getD i 0 : Nat) : Int) ≤ prevN r c i := by omega
    have q3 : ((nthS r c i).size : Int) = (r : Int) := by rw [nthS, sb_size]
    have hs := psum_le r c h2 i (by omega)
    have hf := (Fn_lt r c i hib).1
    have e1 := woL_nth r c i hib
    have b1 : i < 4611686018427387904 := by omega
    have b2 : psum r c i + (Fn r c).getD i 0 < 4611686018427387904 := by omega
    have ej := succN i b1
    have es : wrap64 (((psum r c i : Nat) : Int) + (((Fn r c).getD i 0 : Nat) : Int)) = ((psum r c (i + 1) : Nat) : Int) := addN _ _ b2
    refine Ev.step (f := fun k => (impl_NumberOfState.f k (nthS r c i)).bind fun bt465 => ((impl_CountOn.f (nthS r c i)).bind fun bt467 => (if bt465.2 = true then (if bt465.1 ≤ prevN r c i then (some false) else (if bt467.2 = true then (if bt467.1 = (c : Int) then (if ((nthS r c i).size : Int) = (r : Int) then (laws_FnStatesCountedOfAll.l1 k (r : Int) (c : Int) x2 x3 x4 (woL r c) ((Rg.bin r c : Nat) : Int) (nthS r c 0) (nthS r c (Rg.bin r c - 1)) ((psum r c (Rg.bin r c) : Nat) : Int) (wrap64 (((psum r c i : Nat) : Int) + bt465.1)) bt465.1 (woL r c) ((woL r c).length : Int) ((i + 1 : Nat) : Int)) else (some false)) else (some false)) else (some false))) else (some false)))) (fun k => ?_) (Ev.bind (nthNum r c i h1 h2 hib) (Ev.bind (evc (nthOn r c i h1 h2 hib)) ?_))
    · rw [laws_FnStatesCountedOfAll.l1, if_pos q1, if_pos (Int.natCast_nonneg _), if_pos q1, e1, ej]
    · refine ScP.Ev.ite_pos rfl (ScP.Ev.ite_neg q2 (ScP.Ev.ite_pos rfl (ScP.Ev.ite_pos rfl (ScP.Ev.ite_pos q3 ?_))))
      rw [es]
      exact h4
theorem scJ4 (r c : Nat) (h1 : 1 ≤ r) (h2 : r ≤ 12) (h3 : c ≤ r) (x2 : Int) (x3 x4 : ByteArray) (g : Ev (fun k => laws_FnStatesCountedOfAll.j6 k x2 x3 x4) true) (l : List ByteArray) (q : Bool) (hl : q = true → l = woL r c) :
    Ev (fun k => laws_FnStatesCountedOfAll.j4 k (r : Int) (c : Int) x2 x3 x4 l q ((Rg.bin r c : Nat) : Int) (nthS r c 0) (nthS r c (Rg.bin r c - 1)) ((psum r c (Rg.bin r c) : Nat) : Int)) true := by
  cases q with
  | true =>
    rw [hl rfl]
    have := scL1 r c h1 h2 h3 x2 x3 x4 g (Rg.bin r c) 0 (by omega) (by omega)
    exact Ev.step (fun k => by rw [laws_FnStatesCountedOfAll.j4, if_pos rfl]; rfl) this
  | false => exact Ev.step (f := fun k => laws_FnStatesCountedOfAll.j6 k x2 x3 x4) (fun k => by rw [laws_FnStatesCountedOfAll.j4, if_neg (by decide)]) g
theorem binSum_le (r : Nat) (hr : r ≤ 12) (i : Nat) (h : i ≤ r + 1) : Rg.binSum r i ≤ 924 * i := by
  induction i with
  | zero => exact Nat.le_refl _
  | succ i ih =>
    have := ih (by omega)
    have := Rg.bin_le r (by omega) i (by omega)
    show Rg.binSum r i + Rg.bin r i ≤ _
    omega
theorem scL0 (r c : Nat) (h1 : 1 ≤ r) (h2 : r ≤ 12) (x2 : Int) (x3 x4 : ByteArray) (l : List ByteArray) (q : Bool) (x15 : Int) (x19 x23 : ByteArray) (x27 : Int)
    (g : Ev (fun k => laws_FnStatesCountedOfAll.j4 k (r : Int) (c : Int) x2 x3 x4 l q x15 x19 x23 x27) true) (d : Nat) : ∀ i, i ≤ r + 1 → r + 1 - i = d →
    Ev (fun k => laws_FnStatesCountedOfAll.l0 k (r : Int) (c : Int) x2 x3 x4 l q x15 x19 x23 x27 ((Rg.binSum r i : Nat) : Int) (i : Int)) true := by
  induction d with
  | zero =>
    intro i hi hd
    obtain rfl : i = r + 1 := by omega
    have q0 : ¬ ((r + 1 : Nat) : Int) ≤ (r : Int) := by omega
    have q1 : ((Rg.binSum r (r + 1) : Nat) : Int) = shl .i64 1 (r : Int) := by rw [Rg.bin_all r (by omega), shl1 r (by omega)]
    refine Ev.step (f := fun k => laws_FnStatesCountedOfAll.j4 k (r : Int) (c : Int) x2 x3 x4 l q x15 x19 x23 x27) (fun k => ?_) g
    rw [laws_FnStatesCountedOfAll.l0, if_neg q0, if_pos (Int.natCast_nonneg _), if_pos q1]
  | succ d ih =>
    intro i hi hd
    have h4 := ih (i + 1) (by omega) (by omega)
    have hs := binSum_le r h2 i (by omega)
    have hb := Rg.bin_le r (by omega) i (by omega)
    have q0 : (i : Int) ≤ (r : Int) := by omega
    have hc := countWith (r : Int) (i : Int)
    have e : cwV (r : Int) (i : Int) = (((Rg.bin r i : Nat) : Int), true) := by
      unfold cwV; rw [if_pos (okB_mk h1 h2 (by omega)), Int.toNat_natCast, Int.toNat_natCast]
    rw [e] at hc
    have ej : wrap64 ((i : Int) + 1) = ((i + 1 : Nat) : Int) := by rw [w64 (by omega) (by omega)]; omega
    have es : wrap64 (((Rg.binSum r i : Nat) : Int) + ((Rg.bin r i : Nat) : Int)) = ((Rg.binSum r (i + 1) : Nat) : Int) := by
      rw [w64 (by omega) (by omega)]; rfl
    refine Ev.step (f := fun k => (impl_CountWithOn.f k (r : Int) (i : Int)).bind fun bt460 => (if bt460.2 = true then (laws_FnStatesCountedOfAll.l0 k (r : Int) (c : Int) x2 x3 x4 l q x15 x19 x23 x27 (wrap64 (((Rg.binSum r i : Nat) : Int) + bt460.1)) ((i + 1 : Nat) : Int)) else (some false))) (fun k => ?_) (Ev.bind hc (ScP.Ev.ite_pos rfl ?_))
    · rw [laws_FnStatesCountedOfAll.l0, if_pos q0, ej]
    · rw [es]; exact h4
theorem scJ2 (r c : Nat) (h1 : 1 ≤ r) (h2 : r ≤ 12) (x2 : Int) (x3 x4 : ByteArray) (l : List ByteArray) (q : Bool) (x15 : Int) (x19 x23 : ByteArray) (x27 : Int)
    (g : Ev (fun k => laws_FnStatesCountedOfAll.j4 k (r : Int) (c : Int) x2 x3 x4 l q x15 x19 x23 x27) true) :
    Ev (fun k => laws_FnStatesCountedOfAll.j2 k (r : Int) (c : Int) x2 x3 x4 l q x15 x19 x23 x27 false) true := by
  have := scL0 r c h1 h2 x2 x3 x4 l q x15 x19 x23 x27 g (r + 1) 0 (by omega) (by omega)
  exact Ev.step (fun k => by rw [laws_FnStatesCountedOfAll.j2, if_neg (by decide)]; rfl) this
theorem scJ1 (r c : Nat) (h1 : 1 ≤ r) (h2 : r ≤ 12) (h3 : c ≤ r) (x2 : Int) (x3 x4 : ByteArray) (l : List ByteArray) (q : Bool) (x27 : Int)
    (g : Ev (fun k => laws_FnStatesCountedOfAll.j4 k (r : Int) (c : Int) x2 x3 x4 l q ((Rg.bin r c : Nat) : Int) (nthS r c 0) (nthS r c (Rg.bin r c - 1)) x27) true) :
    Ev (fun k => laws_FnStatesCountedOfAll.j1 k (r : Int) (c : Int) x2 x3 x4 l q ((Rg.bin r c : Nat) : Int) true (nthS r c 0) (nthS r c (Rg.bin r c - 1)) x27 false) true := by
  have hb := Rg.bin_pos r (by omega) c (by omega)
  have n0 := nthNum r c 0 h1 h2 (by omega)
  have n1 := nthNum r c (Rg.bin r c - 1) h1 h2 (by omega)
  have o0 := nthOn r c 0 h1 h2 (by omega)
  have o1 := nthOn r c (Rg.bin r c - 1) h1 h2 (by omega)
  have hle : (Fn r c).getD 0 0 ≤ (Fn r c).getD (Rg.bin r c - 1) 0 ∧ (((((Fn r c).getD 0 0 : Nat) : Int) == (((Fn r c).getD (Rg.bin r c - 1) 0 : Nat) : Int)) != (((Rg.bin r c : Nat) : Int) == 1)) = false := by
    by_cases e : Rg.bin r c = 1
    · rw [e]
      exact ⟨Nat.le_refl _, by simp⟩
    · have := Fn_less r c 0 (Rg.bin r c - 1) (by omega) (by omega)
      refine ⟨by omega, ?_⟩
      rw [beq_eq_false_iff_ne.2 (by omega), beq_eq_false_iff_ne.2 (by omega)]; rfl
  have q1 : ¬ (((Fn r c).getD 0 0 : Nat) : Int) > (((Fn r c).getD (Rg.bin r c - 1) 0 : Nat) : Int) := by omega
  have q2 : ¬ ((Rg.bin r c : Nat) : Int) < 1 := by omega
  refine Ev.step (f := fun k => _) (fun k => by rw [laws_FnStatesCountedOfAll.j1, if_neg (by decide), if_pos rfl]) ?_
  refine Ev.bind n0 (Ev.bind n1 (Ev.bind (evc o0) (Ev.bind (evc o1) ?_)))
  refine ScP.Ev.ite_pos rfl (ScP.Ev.ite_pos rfl (ScP.Ev.ite_neg q1 (ScP.Ev.ite_pos rfl (ScP.Ev.ite_pos rfl (ScP.Ev.ite_pos rfl (ScP.Ev.ite_pos rfl (ScP.Ev.ite_neg q2 ?_)))))))
  rw [hle.2]
  exact scJ2 r c h1 h2 x2 x3 x4 l q _ _ _ x27 g

theorem swLen (a b : Int) : (swV a b).1.length < 2 ^ 60 := by
  unfold swV
  by_cases h : okB a b = true
  · rw [if_pos h]
    obtain ⟨r, c, rfl, rfl, h1, h2, h3⟩ := okB_nat h
    simp only [Int.toNat_natCast]
    split
    · rw [woL_length]
      have := Rg.bin_le r (by omega) c (by omega)
      omega
    · simp
  · rw [if_neg h]; simp

theorem scJ0f (a b n : Int) (x y : ByteArray) (hx : x.size ≤ 140737488351232) (hy : y.size ≤ 140737488351232) : Ev (fun k => laws_FnStatesCountedOfAll.j0 k a b n x y false) true := by
  have g6 := scJ6 n x y hx hy
  refine Ev.step (f := fun k => _) (fun k => by rw [laws_FnStatesCountedOfAll.j0, if_neg (by decide)]) ?_
  refine Ev.bind (statesWith a b) (Ev.bind (specStatesWith a b) (Ev.bind (countWith a b) (Ev.bind (specCountWith a b) (Ev.bind (leastWith a b) (Ev.bind (specLeastWith a b) (Ev.bind (greatestWith a b) (Ev.bind (specGreatestWith a b) (Ev.bind (sumWith a b) (Ev.bind (specSumWith a b) ?_)))))))))
  refine ScP.Ev.ite_neg (ne_self _) (Ev.bind (texts _ (swLen a b)) (ScP.Ev.ite_pos rfl (ScP.Ev.ite_neg (ne_self _) (ScP.Ev.ite_pos rfl (ScP.Ev.ite_neg (ne_self _) (ScP.Ev.ite_pos rfl (ScP.Ev.ite_neg (ne_self _) (ScP.Ev.ite_pos rfl (ScP.Ev.ite_neg (ne_self _) (ScP.Ev.ite_pos rfl ?_))))))))))
  by_cases h : okB a b = true
  · have e1 : cwV a b = (((Rg.bin a.toNat b.toNat : Nat) : Int), true) := if_pos h
    have e2 : lwV a b = (nthS a.toNat b.toNat 0, true) := if_pos h
    have e3 : gwV a b = (nthS a.toNat b.toNat (Rg.bin a.toNat b.toNat - 1), true) := if_pos h
    have e4 : suV a b = (((psum a.toNat b.toNat (Rg.bin a.toNat b.toNat) : Nat) : Int), true) := if_pos h
    have e5 : swV a b = if Rg.bin a.toNat b.toNat ≤ 100 then (woL a.toNat b.toNat, true) else ([], false) := if_pos h
    rw [e1, e2, e3, e4]
    obtain ⟨r, c, rfl, rfl, h1, h2, h3⟩ := okB_nat h
    simp only [Int.toNat_natCast] at e5 ⊢
    refine ScP.Ev.ite_neg (by decide) (ScP.Ev.ite_neg (by decide) (ScP.Ev.ite_neg (by decide) (ScP.Ev.ite_pos trivial ?_)))
    have hq : ((swV (r : Int) (c : Int)).2 != decide (((Rg.bin r c : Nat) : Int) ≤ 100)) = false ∧ ((swV (r : Int) (c : Int)).2 = true → (swV (r : Int) (c : Int)).1 = woL r c) := by
      rw [e5]
      by_cases h4 : Rg.bin r c ≤ 100
      · rw [if_pos h4, decide_eq_true (by omega)]
        exact ⟨rfl, fun _ => rfl⟩
      · rw [if_neg h4, decide_eq_false (by omega)]
        exact ⟨rfl, fun q => by cases q⟩
    rw [hq.1]
    exact scJ1 r c h1 h2 h3 n x y _ _ _ (scJ4 r c h1 h2 h3 n x y g6 _ _ hq.2)
  · have e1 : cwV a b = (0, false) := if_neg h
    have e2 : lwV a b = (noS, false) := if_neg h
    have e3 : gwV a b = (noS, false) := if_neg h
    have e4 : suV a b = (0, false) := if_neg h
    have e5 : swV a b = ([], false) := if_neg h
    rw [e1, e2, e3, e4, e5]
    refine ScP.Ev.ite_neg (by decide) (ScP.Ev.ite_neg (by decide) (ScP.Ev.ite_neg (by decide) (ScP.Ev.ite_neg (by decide) ?_)))
    refine Ev.step (f := fun k => laws_FnStatesCountedOfAll.j4 k a b n x y [] false 0 noS noS 0) (fun k => by rw [laws_FnStatesCountedOfAll.j1, if_neg (by decide), if_neg (by decide)]) ?_
    exact Ev.step (f := fun k => laws_FnStatesCountedOfAll.j6 k n x y) (fun k => by rw [laws_FnStatesCountedOfAll.j4, if_neg (by decide)]) g6
theorem scJ0t (a b n : Int) (x y : ByteArray) : Ev (fun k => laws_FnStatesCountedOfAll.j0 k a b n x y true) true :=
  Ev.step (f := fun _ => some true) (fun k => by rw [laws_FnStatesCountedOfAll.j0, if_pos rfl]) (Ev.now _)

theorem FnStatesCountedOfAll : laws_FnStatesCountedOfAll.Pure := by
  intro a b n x y _ _ _ hx hy
  refine Ev.rounds (g := fun k => laws_FnStatesCountedOfAll.f k a b n x y) ?_
  unfold laws_FnStatesCountedOfAll.f
  by_cases h1 : (x.size : Int) > 1048576
  · exact ScP.Ev.ite_pos h1 (scJ0t a b n x y)
  · refine ScP.Ev.ite_neg h1 ?_
    by_cases h2 : (y.size : Int) > 1048576
    · rw [decide_eq_true h2]; exact scJ0t a b n x y
    · rw [decide_eq_false h2]; exact scJ0f a b n x y hx hy
end Go.Proofs.YtkdfhgilpnohpaaDoor.ScP
