/- What the printed functions on counted states and means come to. -/
import Derived.Test.YtkdfhgilpnohpaaDoorScPA
namespace Go.Proofs.YtkdfhgilpnohpaaDoor.ScP
open Go.RowKit Go.Proofs.YtkdfhgilpnohpaaDoor.Sc Go.Proofs.YtkdfhgilpnohpaaDoorW.PrintWords Go.Proofs.YtkdfhgilpnohpaaDoorW.PrintMore

/-- Is there a number of rings, and so many of them on? -/
def okB (a b : Int) : Bool := decide (1 ≤ a ∧ a ≤ 12) && decide (0 ≤ b ∧ b ≤ a)
theorem areWalksV (a : Int) : impl_areWalks.f a = some (decide (1 ≤ a ∧ a ≤ 12)) := by
  unfold impl_areWalks.f; rw [inV]; rfl
theorem waRingsV (a : Int) : spec_waRings.f a = some (decide (1 ≤ a ∧ a ≤ 12)) := by
  unfold spec_waRings.f; rw [l1In]; rfl
theorem isOnV (a b : Int) : impl_isOn.f a b = some (okB a b) := by
  unfold impl_isOn.f okB
  rw [areWalksV]
  simp only [Option.bind_some]
  by_cases h : 1 ≤ a ∧ a ≤ 12
  · rw [decide_eq_true h, if_pos rfl, inV]; rfl
  · rw [decide_eq_false h, if_neg (by decide)]; rfl
theorem waOnV (a b : Int) : spec_waOn.f a b = some (okB a b) := by
  unfold spec_waOn.f okB
  rw [waRingsV]
  simp only [Option.bind_some]
  by_cases h : 1 ≤ a ∧ a ≤ 12
  · rw [decide_eq_true h, if_pos rfl, l1In]; rfl
  · rw [decide_eq_false h, if_neg (by decide)]; rfl
theorem okB_nat {a b : Int} (h : okB a b = true) : ∃ r k : Nat, a = (r : Int) ∧ b = (k : Int) ∧ 1 ≤ r ∧ r ≤ 12 ∧ k ≤ r := by
  simp only [okB, Bool.and_eq_true, decide_eq_true_eq] at h
  exact ⟨a.toNat, b.toNat, by omega, by omega, by omega, by omega, by omega⟩
theorem okB_mk {r k : Nat} (h1 : 1 ≤ r) (h2 : r ≤ 12) (h3 : k ≤ r) : okB (r : Int) (k : Int) = true := by
  simp only [okB, Bool.and_eq_true, decide_eq_true_eq]; omega

/-! ### 1. How many -/
theorem chosenLoop (r c : Nat) (hr : r ≤ 12) (hc : c ≤ r) (d : Nat) : ∀ i, i ≤ c → c - i = d →
    Ev (fun n => impl_chosen.l0 n r c ((Rg.binMul r c i : Nat) : Int) ((i + 1 : Nat) : Int)) ((Rg.bin r c : Nat) : Int) := by
  induction d with
  | zero =>
    intro i h1 h2
    obtain rfl : i = c := by omega
    refine Ev.step (f := fun _ => some ((Rg.bin r i : Nat) : Int)) (fun n => ?_) (Ev.now _)
    rw [impl_chosen.l0, if_neg (by omega), Rg.bin_mul r (by omega) i (by omega)]
  | succ d ih =>
    intro i h1 h2
    have h3 := ih (i + 1) (by omega) (by omega)
    have hb := Rg.bin_mul_le r (by omega) c (by omega) i (by omega)
    have hb2 := Rg.bin_mul_le r (by omega) c (by omega) (i + 1) (by omega)
    have p1 : ((i + 1 : Nat) : Int) ≤ (c : Int) := by omega
    have p2 : ¬ ((i + 1 : Nat) : Int) = 0 := by omega
    have e0 : wrap64 ((r : Int) - (c : Int)) = ((r - c : Nat) : Int) := by rw [w64 (by omega) (by omega)]; omega
    have e1 : wrap64 (((r - c : Nat) : Int) + ((i + 1 : Nat) : Int)) = ((r - c + (i + 1) : Nat) : Int) := by rw [w64 (by omega) (by omega)]; omega
    have e2 : wrap64 (((Rg.binMul r c i : Nat) : Int) * ((r - c + (i + 1) : Nat) : Int)) = ((Rg.binMul r c i * (r - c + (i + 1)) : Nat) : Int) := by
      have : Rg.binMul r c i * (r - c + (i + 1)) ≤ 924 * 100 := Nat.mul_le_mul hb (by omega)
      rw [← Int.natCast_mul]; exact w64 (by omega) (by omega)
    have e3 : Rg.binMul r c i * (r - c + (i + 1)) / (i + 1) = Rg.binMul r c (i + 1) := rfl
    have e4 : wrap64 ((Rg.binMul r c (i + 1) : Nat) : Int) = ((Rg.binMul r c (i + 1) : Nat) : Int) := w64 (by omega) (by omega)
    have e5 : wrap64 (((i + 1 : Nat) : Int) + 1) = ((i + 1 + 1 : Nat) : Int) := by rw [w64 (by omega) (by omega)]; omega
    refine Ev.step (f := fun n => impl_chosen.l0 n r c ((Rg.binMul r c (i + 1) : Nat) : Int) ((i + 1 + 1 : Nat) : Int)) (fun n => ?_) h3
    rw [impl_chosen.l0, if_pos p1, if_neg p2, e0, e1, e2, tdivN, e3, e4, e5]
theorem chosenV (r c : Nat) (hr : r ≤ 12) (hc : c ≤ r) : Ev (fun n => impl_chosen.f n r c) ((Rg.bin r c : Nat) : Int) := by
  unfold impl_chosen.f
  refine Ev.bind (evc (inV _ _ _)) ?_
  refine ScP.Ev.ite_pos (decide_eq_true (by omega)) ?_
  exact chosenLoop r c hr hc c 0 (by omega) (by omega)

/-! ### 2. Which ones -/
/-- The numbers of the states of r rings with c on. -/
def Fn (r c : Nat) : List Nat := (List.range (2 ^ r)).filter fun n => Rg.ones r n == c
def woL (r c : Nat) : List ByteArray := (Fn r c).map (sb r)
def waL (r c : Nat) : List Int := (Fn r c).map fun n : Nat => (n : Int)
theorem Fn_length (r c : Nat) : (Fn r c).length = Rg.bin r c := by
  rw [← Rg.cnt_bin]; unfold Fn Rg.cnt; rw [List.countP_eq_length_filter]
theorem Fn_mem {r c n : Nat} (h : n ∈ Fn r c) : n < 2 ^ r ∧ Rg.ones r n = c := by
  have := List.mem_filter.1 h
  exact ⟨List.mem_range.1 this.1, beq_iff_eq.1 this.2⟩
theorem Fn_rising (r c : Nat) : (Fn r c).Pairwise (· < ·) := List.Pairwise.filter _ List.pairwise_lt_range
theorem woL_length (r c : Nat) : (woL r c).length = Rg.bin r c := by unfold woL; rw [List.length_map, Fn_length]
theorem waL_length (r c : Nat) : (waL r c).length = Rg.bin r c := by unfold waL; rw [List.length_map, Fn_length]

theorem countOnV (s : ByteArray) (h : stB s = true) : impl_CountOn.f s = some ((((bl s).count true : Nat) : Int), true) := by
  unfold impl_CountOn.f
  rw [isState s (by have := size_le h; omega), h]
  simp only [Option.bind_some, if_true]
  have : strings_Count.f s ⟨#[49]⟩ = some ((s.data.toList.count 49 : Nat) : Int) := by
    unfold strings_Count.f
    rw [if_pos (by decide)]; rfl
  rw [this]
  simp only [Option.bind_some]
  have : s.data.toList.count 49 = (bl s).count true := by
    unfold bl
    rw [List.count, List.count, List.countP_map]
    congr 1
    funext b
    simp
  rw [this]
theorem sb_count (r n : Nat) : (bl (sb r n)).count true = Rg.ones r n := by rw [sb_bl, Rg.st_count]
theorem countSb (r n : Nat) (h1 : 1 ≤ r) (h2 : r ≤ 20) : impl_CountOn.f (sb r n) = some (((Rg.ones r n : Nat) : Int), true) := by
  rw [countOnV _ (sb_ok r n h1 h2), sb_count]
theorem notState (s : ByteArray) (hs : s.size ≤ 140737488351232) (h : ¬ stB s = true) : impl_CountOn.f s = some (0, false) := by
  unfold impl_CountOn.f
  rw [isState s hs]
  simp only [Option.bind_some, h]
  rfl

theorem withOn (r c : Nat) (h1 : 1 ≤ r) (hr : r ≤ 12) : Ev (fun k => impl_withOn.f k r c) (woL r c) := by
  obtain ⟨K1, hK1⟩ := all_ev (List.range (2 ^ r)) (fun k n => onState k r n) (fun n => (((Rg.ones r n : Nat) : Int), true)) (fun n hn => by
    unfold onState
    have hp : 2 ^ r ≤ 1048576 := pow_le (by omega)
    refine Ev.bind (state r n (by omega) (by have := List.mem_range.1 hn; omega)) (evc ?_)
    exact countSb r n h1 (by omega))
  obtain ⟨K2, hK2⟩ := taken r (by omega) fun n => Rg.ones r n == c
  refine ⟨K1 + K2, fun k hk => ?_⟩
  have g1 := hK1 k (by omega)
  have g2 := hK2 k (by omega)
  unfold impl_withOn.f
  dsimp only
  rw [Int.toNat_natCast, if_pos]
  · rw [show woL r c = ((List.range (2 ^ r)).filter fun n => Rg.ones r n == c).map (sb r) from rfl, ← g2]
    unfold takenStates
    have e : (List.range (2 ^ r)).filter (fun n => ((onState k r n).getD (0, false)).1 == (c : Int)) = (List.range (2 ^ r)).filter (fun n => Rg.ones r n == c) := by
      apply List.filter_congr
      intro n hn
      rw [g1 n hn]
      show (((Rg.ones r n : Nat) : Int) == (c : Int)) = _
      rw [Bool.eq_iff_iff, beq_iff_eq, beq_iff_eq]; omega
    rw [e]
  · refine ⟨by omega, by omega, ?_⟩
    rw [List.all_eq_true]
    intro n hn
    rw [g1 n hn]; rfl

/-! ### 3. The other program's counts -/
theorem riOnLoop (s : ByteArray) (hs : stB s = true) (d : Nat) : ∀ i, i ≤ s.size → s.size - i = d →
    Ev (fun k => spec_riOn.l0 k s ((((bl s).take i).count true : Nat) : Int) (i : Int)) (((bl s).count true : Nat) : Int) := by
  have h20 := size_le hs
  induction d with
  | zero =>
    intro i h1 h2
    obtain rfl : i = s.size := by omega
    refine Ev.step (f := fun _ => some (((bl s).count true : Nat) : Int)) (fun k => ?_) (Ev.now _)
    rw [spec_riOn.l0, if_neg (by omega), List.take_of_length_le (by rw [bl_length]; omega)]
  | succ d ih =>
    intro i h1 h2
    have h3 := ih (i + 1) (by omega) (by omega)
    have hl : i < (bl s).length := by rw [bl_length]; omega
    have ej : wrap64 ((i : Int) + 1) = ((i + 1 : Nat) : Int) := by rw [w64 (by omega) (by omega)]; omega
    have hc : ((bl s).take i).count true ≤ i := by
      have := List.count_le_length (a := true) (l := (bl s).take i)
      rw [List.length_take] at this; omega
    have hb := bt_bl s ((stB_iff s).1 hs).2.2 i (by omega)
    rw [List.take_succ_eq_append_getElem hl, List.count_append] at h3
    cases hv : (bl s)[i] with
    | true =>
      rw [hv] at h3 hb
      have e : wrap64 (((((bl s).take i).count true : Nat) : Int) + 1) = ((((bl s).take i).count true + [true].count true : Nat) : Int) := by
        rw [w64 (by omega) (by omega)]; rfl
      refine Ev.step (f := fun k => spec_riOn.l0 k s ((((bl s).take i).count true + [true].count true : Nat) : Int) ((i + 1 : Nat) : Int)) (fun k => ?_) h3
      rw [spec_riOn.l0, if_pos (by omega), if_pos (by omega), if_pos (hb.trans (if_pos rfl)), e, ej]
    | false =>
      rw [hv] at h3 hb
      refine Ev.step (f := fun k => spec_riOn.l0 k s ((((bl s).take i).count true + [false].count true : Nat) : Int) ((i + 1 : Nat) : Int)) (fun k => ?_) h3
      have hb2 : bt s i = 48 := hb.trans (if_neg (by decide))
      rw [spec_riOn.l0, if_pos (by omega), if_pos (by omega), if_neg (by omega), ej]; rfl
theorem riOnV (s : ByteArray) (hs : stB s = true) : Ev (fun k => spec_riOn.f k s) (((bl s).count true : Nat) : Int) := by
  have := riOnLoop s hs s.size 0 (by omega) (by omega)
  exact this

theorem waWithLoop (r c : Nat) (h1 : 1 ≤ r) (hr : r ≤ 12) (d : Nat) : ∀ i, i ≤ 2 ^ r → 2 ^ r - i = d →
    Ev (fun k => spec_waWith.l0 k r c (((List.range i).filter fun n => Rg.ones r n == c).map fun n : Nat => (n : Int)) (i : Int)) (waL r c) := by
  have hp : 2 ^ r ≤ 1048576 := pow_le (by omega)
  have es := shl1 r (by omega)
  induction d with
  | zero =>
    intro i hi h2
    obtain rfl : i = 2 ^ r := by omega
    refine Ev.step (f := fun _ => some (waL r c)) (fun k => ?_) (Ev.now _)
    rw [spec_waWith.l0, if_pos (by omega), es, if_neg (by omega)]; rfl
  | succ d ih =>
    intro i hi h2
    have h3 := ih (i + 1) (by omega) (by omega)
    have ej : wrap64 ((i : Int) + 1) = ((i + 1 : Nat) : Int) := by rw [w64 (by omega) (by omega)]; omega
    have hlen : (((List.range i).filter fun n => Rg.ones r n == c).map fun n : Nat => (n : Int)).length ≤ i := by
      rw [List.length_map]
      have := List.length_filter_le (fun n => Rg.ones r n == c) (List.range i)
      rwa [List.length_range] at this
    rw [List.range_succ, List.filter_append, List.map_append] at h3
    generalize ((List.range i).filter fun n => Rg.ones r n == c).map (fun n : Nat => (n : Int)) = acc at *
    have hs := riState r i (by omega) (by omega)
    have ho := riOnV (sb r i) (sb_ok r i h1 (by omega))
    rw [sb_count] at ho
    refine Ev.step (f := fun k => (spec_riState.f k r i).bind fun t323 => ((spec_riOn.f k t323).bind fun t324 => (if t324 = (c : Int) then (if acc.length < 17592186044416 then (spec_waWith.l0 k r c (acc ++ [(i : Int)]) ((i + 1 : Nat) : Int)) else (none)) else (spec_waWith.l0 k r c acc ((i + 1 : Nat) : Int))))) (fun k => ?_) (Ev.bind hs (Ev.bind ho ?_))
    · rw [spec_waWith.l0, if_pos (by omega), es, if_pos (by omega), ej]
    · by_cases hb : Rg.ones r i = c
      · have e : (List.filter (fun n => Rg.ones r n == c) [i]).map (fun n : Nat => (n : Int)) = [(i : Int)] := by simp [hb]
        rw [e] at h3
        exact ScP.Ev.ite_pos (by omega) (ScP.Ev.ite_pos (by omega) h3)
      · have e : (List.filter (fun n => Rg.ones r n == c) [i]).map (fun n : Nat => (n : Int)) = [] := by simp [hb]
        rw [e, List.append_nil] at h3
        exact ScP.Ev.ite_neg (by omega) h3
theorem waWithV (r c : Nat) (h1 : 1 ≤ r) (hr : r ≤ 12) : Ev (fun k => spec_waWith.f k r c) (waL r c) := by
  have := waWithLoop r c h1 hr (2 ^ r) 0 (Nat.zero_le _) (Nat.sub_zero _)
  exact this

/-! ### 4. StatesWithOn, CountWithOn -/
theorem waL_rd (r c i : Nat) (h : i < Rg.bin r c) : rd (waL r c) i = (((Fn r c)[i]'(by rw [Fn_length]; exact h) : Nat) : Int) := by
  unfold rd waL
  rw [Int.toNat_natCast, List.getD_eq_getElem?_getD, List.getElem?_map, List.getElem?_eq_getElem (by rw [Fn_length]; exact h)]; rfl
theorem woL_rd (r c i : Nat) (h : i < Rg.bin r c) : rdOf ByteArray.empty (woL r c) (i : Int) = sb r ((Fn r c)[i]'(by rw [Fn_length]; exact h)) := by
  unfold rdOf woL
  rw [Int.toNat_natCast, List.getD_eq_getElem?_getD, List.getElem?_map, List.getElem?_eq_getElem (by rw [Fn_length]; exact h)]; rfl

def swV (a b : Int) : List ByteArray × Bool := if okB a b = true then (if Rg.bin a.toNat b.toNat ≤ 100 then (woL a.toNat b.toNat, true) else ([], false)) else ([], false)
theorem statesWith (a b : Int) : Ev (fun k => impl_StatesWithOn.f k a b) (swV a b) := by
  unfold impl_StatesWithOn.f swV
  refine Ev.bind (evc (isOnV a b)) ?_
  by_cases h : okB a b = true
  · rw [if_pos h]
    refine ScP.Ev.ite_pos h ?_
    obtain ⟨r, c, rfl, rfl, h1, h2, h3⟩ := okB_nat h
    simp only [Int.toNat_natCast]
    refine Ev.bind (chosenV r c h2 h3) ?_
    by_cases h4 : Rg.bin r c ≤ 100
    · rw [if_pos h4]
      exact ScP.Ev.ite_neg (by omega) (Ev.bind (withOn r c h1 h2) (Ev.now _))
    · rw [if_neg h4]
      exact ScP.Ev.ite_pos (by omega) (Ev.now _)
  · rw [if_neg h]
    exact ScP.Ev.ite_neg h (Ev.now _)
theorem specStatesLoop (r c : Nat) (h2 : r ≤ 12) (h3 : c ≤ r) (d : Nat) : ∀ i, i ≤ Rg.bin r c → Rg.bin r c - i = d →
    Ev (fun k => spec_StatesWithOn.l0 k r ((woL r c).take i) (waL r c) ((waL r c).length : Int) i) (woL r c, true) := by
  have hb := Rg.bin_le r (by omega) c (by omega)
  have hp : 2 ^ r ≤ 1048576 := pow_le (by omega)
  have hl := waL_length r c
  have hw := woL_length r c
  induction d with
  | zero =>
    intro i hi hd
    obtain rfl : i = Rg.bin r c := by omega
    refine Ev.step (f := fun _ => some (woL r c, true)) (fun k => ?_) (Ev.now _)
    rw [spec_StatesWithOn.l0, hl, if_neg (by omega), List.take_of_length_le (by omega)]
  | succ d ih =>
    intro i hi hd
    have h4 := ih (i + 1) (by omega) (by omega)
    have ej : wrap64 ((i : Int) + 1) = ((i + 1 : Nat) : Int) := by rw [w64 (by omega) (by omega)]; omega
    have hi2 : i < (woL r c).length := by omega
    have hi3 : i < (Fn r c).length := by rw [Fn_length]; omega
    have hm := Fn_mem (List.getElem_mem hi3)
    have e : (woL r c)[i] = sb r ((Fn r c)[i]) := by simp [woL]
    rw [List.take_succ_eq_append_getElem hi2, e] at h4
    have hm2 : (Fn r c)[i] < 2 ^ 40 := by omega
    have hlt : ((woL r c).take i).length < 8796093022208 := by rw [List.length_take]; omega
    refine Ev.step (f := fun k => (spec_riState.f k r (((Fn r c)[i] : Nat) : Int)).bind fun t333 => (if ((woL r c).take i).length < 8796093022208 then (spec_StatesWithOn.l0 k r ((woL r c).take i ++ [t333]) (waL r c) ((waL r c).length : Int) ((i + 1 : Nat) : Int)) else (none))) (fun k => ?_) (Ev.bind (riState r ((Fn r c)[i]) (by omega) hm2) (ScP.Ev.ite_pos hlt h4))
    rw [spec_StatesWithOn.l0, if_pos (by omega), if_pos (by omega), if_pos (by omega), waL_rd r c i (by omega), ej]
theorem specStatesWith (a b : Int) : Ev (fun k => spec_StatesWithOn.f k a b) (swV a b) := by
  unfold spec_StatesWithOn.f swV
  refine Ev.bind (evc (waOnV a b)) ?_
  by_cases h : okB a b = true
  · rw [if_pos h]
    refine ScP.Ev.ite_pos h ?_
    obtain ⟨r, c, rfl, rfl, h1, h2, h3⟩ := okB_nat h
    simp only [Int.toNat_natCast]
    refine Ev.bind (waWithV r c h1 h2) ?_
    rw [waL_length]
    by_cases h4 : Rg.bin r c ≤ 100
    · rw [if_pos h4]
      refine ScP.Ev.ite_neg (by omega) ?_
      have := specStatesLoop r c h2 h3 (Rg.bin r c) 0 (by omega) (by omega)
      rw [waL_length] at this
      exact this
    · rw [if_neg h4]
      exact ScP.Ev.ite_pos (by omega) (Ev.now _)
  · rw [if_neg h]
    exact ScP.Ev.ite_neg h (Ev.now _)

def cwV (a b : Int) : Int × Bool := if okB a b = true then (((Rg.bin a.toNat b.toNat : Nat) : Int), true) else (0, false)
theorem countWith (a b : Int) : Ev (fun k => impl_CountWithOn.f k a b) (cwV a b) := by
  unfold impl_CountWithOn.f cwV
  refine Ev.bind (evc (isOnV a b)) ?_
  by_cases h : okB a b = true
  · rw [if_pos h]
    refine ScP.Ev.ite_pos h ?_
    obtain ⟨r, c, rfl, rfl, h1, h2, h3⟩ := okB_nat h
    simp only [Int.toNat_natCast]
    exact Ev.bind (chosenV r c h2 h3) (Ev.now _)
  · rw [if_neg h]
    exact ScP.Ev.ite_neg h (Ev.now _)
theorem specCountWith (a b : Int) : Ev (fun k => spec_CountWithOn.f k a b) (cwV a b) := by
  unfold spec_CountWithOn.f cwV
  refine Ev.bind (evc (waOnV a b)) ?_
  by_cases h : okB a b = true
  · rw [if_pos h]
    refine ScP.Ev.ite_pos h ?_
    obtain ⟨r, c, rfl, rfl, h1, h2, h3⟩ := okB_nat h
    simp only [Int.toNat_natCast]
    refine Ev.bind (waWithV r c h1 h2) ?_
    rw [waL_length]
    exact Ev.now _
  · rw [if_neg h]
    exact ScP.Ev.ite_neg h (Ev.now _)

/-! ### 5. LeastWithOn, GreatestWithOn, SumWithOn -/
def noS : ByteArray := ⟨#[]⟩
/-- The state of the i-th number. -/
def nthS (r c i : Nat) : ByteArray := sb r ((Fn r c).getD i 0)
theorem Fn_getD (r c i : Nat) (h : i < Rg.bin r c) : (Fn r c).getD i 0 = (Fn r c)[i]'(by rw [Fn_length]; exact h) := by
  rw [List.getD_eq_getElem?_getD, List.getElem?_eq_getElem (by rw [Fn_length]; exact h)]; rfl
theorem woL_nth (r c i : Nat) (h : i < Rg.bin r c) : rdOf ByteArray.empty (woL r c) (i : Int) = nthS r c i := by rw [woL_rd r c i h, nthS, Fn_getD r c i h]
theorem waL_nth (r c i : Nat) (h : i < Rg.bin r c) : rd (waL r c) (i : Int) = (((Fn r c).getD i 0 : Nat) : Int) := by rw [waL_rd r c i h, Fn_getD r c i h]
theorem Fn_lt (r c i : Nat) (h : i < Rg.bin r c) : (Fn r c).getD i 0 < 2 ^ r ∧ Rg.ones r ((Fn r c).getD i 0) = c := by
  rw [Fn_getD r c i h]; exact Fn_mem (List.getElem_mem _)

def lwV (a b : Int) : ByteArray × Bool := if okB a b = true then (nthS a.toNat b.toNat 0, true) else (noS, false)
theorem leastWith (a b : Int) : Ev (fun k => impl_LeastWithOn.f k a b) (lwV a b) := by
  unfold impl_LeastWithOn.f lwV
  refine Ev.bind (evc (isOnV a b)) ?_
  by_cases h : okB a b = true
  · rw [if_pos h]
    refine ScP.Ev.ite_pos h ?_
    obtain ⟨r, c, rfl, rfl, h1, h2, h3⟩ := okB_nat h
    simp only [Int.toNat_natCast]
    have hb := Rg.bin_pos r (by omega) c (by omega)
    refine Ev.bind (withOn r c h1 h2) (ScP.Ev.ite_pos (by rw [woL_length]; omega) ?_)
    have := woL_nth r c 0 (by omega)
    rw [show ((0 : Nat) : Int) = 0 from rfl] at this
    rw [this]
    exact Ev.now _
  · rw [if_neg h]
    exact ScP.Ev.ite_neg h (Ev.now _)
theorem specLeastWith (a b : Int) : Ev (fun k => spec_LeastWithOn.f k a b) (lwV a b) := by
  unfold spec_LeastWithOn.f lwV
  refine Ev.bind (evc (waOnV a b)) ?_
  by_cases h : okB a b = true
  · rw [if_pos h]
    refine ScP.Ev.ite_pos h ?_
    obtain ⟨r, c, rfl, rfl, h1, h2, h3⟩ := okB_nat h
    simp only [Int.toNat_natCast]
    have hb := Rg.bin_pos r (by omega) c (by omega)
    have hp : 2 ^ r ≤ 1048576 := pow_le (by omega)
    have hf := Fn_lt r c 0 (by omega)
    refine Ev.bind (waWithV r c h1 h2) (ScP.Ev.ite_pos (by rw [waL_length]; omega) ?_)
    have := waL_nth r c 0 (by omega)
    rw [show ((0 : Nat) : Int) = 0 from rfl] at this
    rw [this]
    exact Ev.bind (riState r _ (by omega) (by omega)) (Ev.now _)
  · rw [if_neg h]
    exact ScP.Ev.ite_neg h (Ev.now _)

def gwV (a b : Int) : ByteArray × Bool := if okB a b = true then (nthS a.toNat b.toNat (Rg.bin a.toNat b.toNat - 1), true) else (noS, false)
theorem greatestWith (a b : Int) : Ev (fun k => impl_GreatestWithOn.f k a b) (gwV a b) := by
  unfold impl_GreatestWithOn.f gwV
  refine Ev.bind (evc (isOnV a b)) ?_
  by_cases h : okB a b = true
  · rw [if_pos h]
    refine ScP.Ev.ite_pos h ?_
    obtain ⟨r, c, rfl, rfl, h1, h2, h3⟩ := okB_nat h
    simp only [Int.toNat_natCast]
    have hb := Rg.bin_pos r (by omega) c (by omega)
    have hb2 := Rg.bin_le r (by omega) c (by omega)
    have e : wrap64 (((woL r c).length : Int) - 1) = ((Rg.bin r c - 1 : Nat) : Int) := by rw [woL_length, w64 (by omega) (by omega)]; omega
    refine Ev.bind (withOn r c h1 h2) ?_
    rw [e, woL_nth r c _ (by omega)]
    exact ScP.Ev.ite_pos (by omega) (ScP.Ev.ite_pos (by rw [woL_length]; omega) (Ev.now _))
  · rw [if_neg h]
    exact ScP.Ev.ite_neg h (Ev.now _)
theorem specGreatestWith (a b : Int) : Ev (fun k => spec_GreatestWithOn.f k a b) (gwV a b) := by
  unfold spec_GreatestWithOn.f gwV
  refine Ev.bind (evc (waOnV a b)) ?_
  by_cases h : okB a b = true
  · rw [if_pos h]
    refine ScP.Ev.ite_pos h ?_
    obtain ⟨r, c, rfl, rfl, h1, h2, h3⟩ := okB_nat h
    simp only [Int.toNat_natCast]
    have hb := Rg.bin_pos r (by omega) c (by omega)
    have hb2 := Rg.bin_le r (by omega) c (by omega)
    have hp : 2 ^ r ≤ 1048576 := pow_le (by omega)
    have hf := Fn_lt r c (Rg.bin r c - 1) (by omega)
    have e : wrap64 (((waL r c).length : Int) - 1) = ((Rg.bin r c - 1 : Nat) : Int) := by rw [waL_length, w64 (by omega) (by omega)]; omega
    refine Ev.bind (waWithV r c h1 h2) ?_
    rw [e, waL_nth r c _ (by omega)]
    exact ScP.Ev.ite_pos (by omega) (ScP.Ev.ite_pos (by rw [waL_length]; omega) (Ev.bind (riState r _ (by omega) (by omega)) (Ev.now _)))
  · rw [if_neg h]
    exact ScP.Ev.ite_neg h (Ev.now _)

/-- The sum of the first i numbers. -/
def psum (r c : Nat) : Nat → Nat
  | 0 => 0
  | i + 1 => psum r c i + (Fn r c).getD i 0
theorem psum_le (r c : Nat) (hr : r ≤ 12) (i : Nat) (h : i ≤ Rg.bin r c) : psum r c i ≤ 4096 * i := by
  have hp : 2 ^ r ≤ 2 ^ 12 := Nat.pow_le_pow_right (by omega) hr
  induction i with
  | zero => exact Nat.le_refl _
  | succ i ih =>
    have := ih (by omega)
    have := (Fn_lt r c i (by omega)).1
    show psum r c i + (Fn r c).getD i 0 ≤ _
    omega
theorem nth_nm (r c i : Nat) (h : i < Rg.bin r c) : nm (nthS r c i) = (Fn r c).getD i 0 := sb_nm r _ (Fn_lt r c i h).1
theorem nth_ok (r c i : Nat) (h1 : 1 ≤ r) (h2 : r ≤ 12) : stB (nthS r c i) = true := sb_ok r _ h1 (by omega)
theorem nth_numb (r c i : Nat) (h1 : 1 ≤ r) (h2 : r ≤ 12) (h : i < Rg.bin r c) : Ev (fun k => impl_number.f k (nthS r c i)) (((Fn r c).getD i 0 : Nat) : Int) := by
  have := number (nthS r c i) (nth_ok r c i h1 h2)
  rwa [nth_nm r c i h] at this

def suV (a b : Int) : Int × Bool := if okB a b = true then (((psum a.toNat b.toNat (Rg.bin a.toNat b.toNat) : Nat) : Int), true) else (0, false)
theorem sumLoop (r c : Nat) (h1 : 1 ≤ r) (h2 : r ≤ 12) (h3 : c ≤ r) (d : Nat) : ∀ i, i ≤ Rg.bin r c → Rg.bin r c - i = d →
    Ev (fun k => impl_SumWithOn.l0 k ((psum r c i : Nat) : Int) (woL r c) ((woL r c).length : Int) i) (((psum r c (Rg.bin r c) : Nat) : Int), true) := by
  have hb := Rg.bin_le r (by omega) c (by omega)
  have hl := woL_length r c
  have hp : 2 ^ r ≤ 2 ^ 12 := Nat.pow_le_pow_right (by omega) h2
  induction d with
  | zero =>
    intro i hi hd
    obtain rfl : i = Rg.bin r c := by omega
    refine Ev.step (f := fun _ => some (((psum r c (Rg.bin r c) : Nat) : Int), true)) (fun k => ?_) (Ev.now _)
    rw [impl_SumWithOn.l0, hl, if_neg (by omega)]
  | succ d ih =>
    intro i hi hd
    have h4 := ih (i + 1) (by omega) (by omega)
    have ej : wrap64 ((i : Int) + 1) = ((i + 1 : Nat) : Int) := by rw [w64 (by omega) (by omega)]; omega
    have hs := psum_le r c h2 i (by omega)
    have hf := (Fn_lt r c i (by omega)).1
    have es : wrap64 (((psum r c i : Nat) : Int) + (((Fn r c).getD i 0 : Nat) : Int)) = ((psum r c (i + 1) : Nat) : Int) := by
      rw [w64 (by omega) (by omega)]; rfl
    rw [← es] at h4
    refine Ev.step (f := fun k => (impl_number.f k (nthS r c i)).bind fun t370 => (impl_SumWithOn.l0 k (wrap64 (((psum r c i : Nat) : Int) + t370)) (woL r c) ((woL r c).length : Int) ((i + 1 : Nat) : Int))) (fun k => ?_) (Ev.bind (nth_numb r c i h1 h2 (by omega)) h4)
    rw [impl_SumWithOn.l0, if_pos (by omega), if_pos (by omega), if_pos (by omega), woL_nth r c i (by omega), ej]
theorem sumWith (a b : Int) : Ev (fun k => impl_SumWithOn.f k a b) (suV a b) := by
  unfold impl_SumWithOn.f suV
  refine Ev.bind (evc (isOnV a b)) ?_
  by_cases h : okB a b = true
  · rw [if_pos h]
    refine ScP.Ev.ite_pos h ?_
    obtain ⟨r, c, rfl, rfl, h1, h2, h3⟩ := okB_nat h
    simp only [Int.toNat_natCast]
    refine Ev.bind (withOn r c h1 h2) ?_
    exact sumLoop r c h1 h2 h3 (Rg.bin r c) 0 (by omega) (by omega)
  · rw [if_neg h]
    exact ScP.Ev.ite_neg h (Ev.now _)
theorem specSumLoop (r c : Nat) (h2 : r ≤ 12) (h3 : c ≤ r) (d : Nat) : ∀ i, i ≤ Rg.bin r c → Rg.bin r c - i = d →
    Ev (fun k => spec_SumWithOn.l0 k ((psum r c i : Nat) : Int) (waL r c) ((waL r c).length : Int) i) (((psum r c (Rg.bin r c) : Nat) : Int), true) := by
  have hb := Rg.bin_le r (by omega) c (by omega)
  have hl := waL_length r c
  have hp : 2 ^ r ≤ 2 ^ 12 := Nat.pow_le_pow_right (by omega) h2
  induction d with
  | zero =>
    intro i hi hd
    obtain rfl : i = Rg.bin r c := by omega
    refine Ev.step (f := fun _ => some (((psum r c (Rg.bin r c) : Nat) : Int), true)) (fun k => ?_) (Ev.now _)
    rw [spec_SumWithOn.l0, hl, if_neg (by omega)]
  | succ d ih =>
    intro i hi hd
    have h4 := ih (i + 1) (by omega) (by omega)
    have ej : wrap64 ((i : Int) + 1) = ((i + 1 : Nat) : Int) := by rw [w64 (by omega) (by omega)]; omega
    have hs := psum_le r c h2 i (by omega)
    have hf := (Fn_lt r c i (by omega)).1
    have es : wrap64 (((psum r c i : Nat) : Int) + (((Fn r c).getD i 0 : Nat) : Int)) = ((psum r c (i + 1) : Nat) : Int) := by
      rw [w64 (by omega) (by omega)]; rfl
    refine Ev.step (f := fun k => spec_SumWithOn.l0 k ((psum r c (i + 1) : Nat) : Int) (waL r c) ((waL r c).length : Int) ((i + 1 : Nat) : Int)) (fun k => ?_) h4
    rw [spec_SumWithOn.l0, if_pos (by omega), if_pos (by omega), if_pos (by omega), waL_nth r c i (by omega), ej, es]
theorem specSumWith (a b : Int) : Ev (fun k => spec_SumWithOn.f k a b) (suV a b) := by
  unfold spec_SumWithOn.f suV
  refine Ev.bind (evc (waOnV a b)) ?_
  by_cases h : okB a b = true
  · rw [if_pos h]
    refine ScP.Ev.ite_pos h ?_
    obtain ⟨r, c, rfl, rfl, h1, h2, h3⟩ := okB_nat h
    simp only [Int.toNat_natCast]
    refine Ev.bind (waWithV r c h1 h2) ?_
    exact specSumLoop r c h2 h3 (Rg.bin r c) 0 (by omega) (by omega)
  · rw [if_neg h]
    exact ScP.Ev.ite_neg h (Ev.now _)
end Go.Proofs.YtkdfhgilpnohpaaDoor.ScP
namespace Rg
/-- How many rings are on in c states from the number f on. -/
def osum (r f : Nat) : Nat → Nat
  | 0 => 0
  | c + 1 => osum r f c + ones r (f + c)
theorem osum_cons (r f c : Nat) : osum r f (c + 1) = ones r f + osum r (f + 1) c := by
  induction c with
  | zero => simp [osum]
  | succ c ih =>
    show osum r f (c + 1) + ones r (f + (c + 1)) = ones r f + (osum r (f + 1) c + ones r (f + 1 + c))
    rw [ih, show f + (c + 1) = f + 1 + c by omega]; omega
theorem osum_le (r f c : Nat) : osum r f c ≤ r * c := by
  induction c with
  | zero => exact Nat.zero_le _
  | succ c ih =>
    have := ones_le r (f + c)
    show osum r f c + ones r (f + c) ≤ r * (c + 1)
    rw [Nat.mul_succ]; omega
end Rg
namespace Go.Proofs.YtkdfhgilpnohpaaDoor.ScP
open Go.RowKit Go.Proofs.YtkdfhgilpnohpaaDoor.Sc Go.Proofs.YtkdfhgilpnohpaaDoorW.PrintWords Go.Proofs.YtkdfhgilpnohpaaDoorW.PrintMore

/-! ### 1. MeanNumber, MeanOfPairs -/
def mnV (a : Int) : Int × Int × Bool := if 1 ≤ a ∧ a ≤ 12 then (((2 ^ a.toNat - 1 : Nat) : Int), 2, true) else (0, 0, false)
theorem pow12 {r : Nat} (h1 : 1 ≤ r) (h : r ≤ 12) : 2 ≤ 2 ^ r ∧ 2 ^ r ≤ 4096 ∧ 2 ^ r % 2 = 0 := by
  obtain ⟨q, rfl⟩ : ∃ q, r = q + 1 := ⟨r - 1, by omega⟩
  have h2 : 2 ^ (q + 1) ≤ 2 ^ 12 := Nat.pow_le_pow_right (by omega) h
  have h3 : 0 < 2 ^ q := Nat.two_pow_pos _
  rw [Nat.pow_succ] at h2 ⊢
  omega
theorem mean_ge {a : Int} (h : 1 ≤ a ∧ a ≤ 12) : ∃ r : Nat, a = (r : Int) ∧ 1 ≤ r ∧ r ≤ 12 := ⟨a.toNat, by omega, by omega, by omega⟩
theorem meanNumber (a : Int) : Ev (fun k => impl_MeanNumber.f k a) (mnV a) := by
  unfold impl_MeanNumber.f mnV
  refine Ev.bind (evc (areWalksV a)) ?_
  by_cases h : 1 ≤ a ∧ a ≤ 12
  · rw [if_pos h]
    refine ScP.Ev.ite_pos (decide_eq_true h) (ScP.Ev.ite_pos (by omega) ?_)
    obtain ⟨r, rfl, h1, h2⟩ := mean_ge h
    obtain ⟨p1, p2, p3⟩ := pow12 h1 h2
    have e : wrap64 (shl .i64 1 (r : Int) - 1) = ((2 ^ r - 1 : Nat) : Int) := by rw [shl1 r (by omega), w64 (by omega) (by omega)]; omega
    rw [e, Int.toNat_natCast]
    refine Ev.bind (lowest (2 ^ r - 1) 2 (by omega) (by omega) (by omega)) ?_
    have hg : Nat.gcd (2 ^ r - 1) 2 = 1 := by
      rw [Nat.gcd_comm, Nat.gcd_rec, show (2 ^ r - 1) % 2 = 1 by omega]; decide
    have hl : lowV (2 ^ r - 1) 2 = (((2 ^ r - 1 : Nat) : Int), 2) := by
      unfold lowV; rw [hg, Nat.div_one, Nat.div_one]; rfl
    rw [hl]
    exact Ev.now _
  · rw [if_neg h]
    exact ScP.Ev.ite_neg (by rw [decide_eq_false h]; decide) (Ev.now _)
theorem specMeanNumber (a : Int) : spec_MeanNumber.f a = some (mnV a) := by
  unfold spec_MeanNumber.f mnV
  rw [waRingsV]
  simp only [Option.bind_some]
  by_cases h : 1 ≤ a ∧ a ≤ 12
  · rw [if_pos h, if_pos (decide_eq_true h), if_pos (by omega)]
    obtain ⟨r, rfl, h1, h2⟩ := mean_ge h
    obtain ⟨p1, p2, p3⟩ := pow12 h1 h2
    have e : wrap64 (shl .i64 1 (r : Int) - 1) = ((2 ^ r - 1 : Nat) : Int) := by rw [shl1 r (by omega), w64 (by omega) (by omega)]; omega
    rw [e, Int.toNat_natCast]
  · rw [if_neg h, if_neg (by rw [decide_eq_false h]; decide)]

def sqm (r : Nat) : Nat := 2 ^ r * 2 ^ r - 1
theorem sqm_le {r : Nat} (h1 : 1 ≤ r) (h : r ≤ 12) : 3 ≤ sqm r ∧ sqm r ≤ 16777215 := by
  obtain ⟨p1, p2, p3⟩ := pow12 h1 h
  have h3 := Nat.mul_le_mul p1 p1
  have h4 := Nat.mul_le_mul p2 p2
  unfold sqm; omega
def mpV (a : Int) : Int × Int × Bool := if 1 ≤ a ∧ a ≤ 12 then ((lowV (sqm a.toNat) (3 * 2 ^ a.toNat)).1, (lowV (sqm a.toNat) (3 * 2 ^ a.toNat)).2, true) else (0, 0, false)
theorem sqI {r : Nat} (h1 : 1 ≤ r) (h : r ≤ 12) : wrap64 (wrap64 (shl .i64 1 (r : Int) * shl .i64 1 (r : Int)) - 1) = ((sqm r : Nat) : Int) := by
  obtain ⟨p1, p2, p3⟩ := pow12 h1 h
  have h4 := Nat.mul_le_mul p2 p2
  have h3 := Nat.mul_le_mul p1 p1
  rw [shl1 r (by omega), ← Int.natCast_mul]
  unfold sqm
  generalize 2 ^ r * 2 ^ r = x at *
  rw [w64 (x := (x : Int)) (by omega) (by omega), w64 (by omega) (by omega)]; omega
theorem thI {r : Nat} (h1 : 1 ≤ r) (h : r ≤ 12) : wrap64 (3 * shl .i64 1 (r : Int)) = ((3 * 2 ^ r : Nat) : Int) := by
  obtain ⟨p1, p2, p3⟩ := pow12 h1 h
  rw [shl1 r (by omega), w64 (by omega) (by omega)]; omega
theorem meanOfPairs (a : Int) : Ev (fun k => impl_MeanOfPairs.f k a) (mpV a) := by
  unfold impl_MeanOfPairs.f mpV
  refine Ev.bind (evc (areWalksV a)) ?_
  by_cases h : 1 ≤ a ∧ a ≤ 12
  · rw [if_pos h]
    refine ScP.Ev.ite_pos (decide_eq_true h) (ScP.Ev.ite_pos (by omega) ?_)
    obtain ⟨r, rfl, h1, h2⟩ := mean_ge h
    obtain ⟨p1, p2, p3⟩ := pow12 h1 h2
    have hq := sqm_le h1 h2
    rw [sqI h1 h2, thI h1 h2, Int.toNat_natCast]
    exact Ev.bind (lowest (sqm r) (3 * 2 ^ r) (by omega) (by omega) (by omega)) (Ev.now _)
  · rw [if_neg h]
    exact ScP.Ev.ite_neg (by rw [decide_eq_false h]; decide) (Ev.now _)
theorem specMeanOfPairs (a : Int) : Ev (fun k => spec_MeanOfPairs.f k a) (mpV a) := by
  unfold spec_MeanOfPairs.f mpV
  refine Ev.bind (evc (waRingsV a)) ?_
  by_cases h : 1 ≤ a ∧ a ≤ 12
  · rw [if_pos h]
    refine ScP.Ev.ite_pos (decide_eq_true h) (ScP.Ev.ite_pos (by omega) ?_)
    obtain ⟨r, rfl, h1, h2⟩ := mean_ge h
    obtain ⟨p1, p2, p3⟩ := pow12 h1 h2
    have hq := sqm_le h1 h2
    rw [sqI h1 h2, thI h1 h2, Int.toNat_natCast]
    exact Ev.bind (waLow (sqm r) (3 * 2 ^ r) (by omega) (by omega) (by omega)) (Ev.now _)
  · rw [if_neg h]
    exact ScP.Ev.ite_neg (by rw [decide_eq_false h]; decide) (Ev.now _)

/-! ### 2. MeanOnAlong -/
/-- May means along the way from a to b be told? -/
def maB (a b : ByteArray) : Bool := alB a b && decide (a.size ≤ 12)
def lo (a b : ByteArray) : Nat := min (nm a) (nm b)
def sumAlong (a b : ByteArray) : Nat := Rg.osum a.size (lo a b) (ap (nm a) (nm b) + 1)
def alV (a b : ByteArray) : Int × Int × Bool := if maB a b = true then ((lowV (sumAlong a b) (ap (nm a) (nm b) + 1)).1, (lowV (sumAlong a b) (ap (nm a) (nm b) + 1)).2, true) else (0, 0, false)
theorem mxI (a b : Nat) : mx (a : Int) (b : Int) = ((max a b : Nat) : Int) := by unfold mx; split <;> omega
theorem mnI (a b : Nat) : Go.Proofs.YtkdfhgilpnohpaaDoorW.PrintWords.mn (a : Int) (b : Int) = ((min a b : Nat) : Int) := by unfold Go.Proofs.YtkdfhgilpnohpaaDoorW.PrintWords.mn; split <;> omega

theorem alongLoop (a : ByteArray) (f c : Nat) (h1 : 1 ≤ a.size) (h2 : a.size ≤ 12) (hf : f + c ≤ 2 ^ a.size) (hc : 1 ≤ c) (d : Nat) : ∀ i, i ≤ c → c - i = d →
    Ev (fun k => impl_MeanOnAlong.l0 k a (f : Int) ((f + c - 1 : Nat) : Int) ((Rg.osum a.size f i : Nat) : Int) ((f + i : Nat) : Int)) ((lowV (Rg.osum a.size f c) c).1, (lowV (Rg.osum a.size f c) c).2, true) := by
  obtain ⟨p1, p2, p3⟩ := pow12 h1 h2
  have bnd : ∀ i, i ≤ c → Rg.osum a.size f i ≤ 65536 := fun i hi => by
    have := Rg.osum_le a.size f i
    have := Nat.mul_le_mul h2 (show i ≤ 4096 by omega)
    omega
  induction d with
  | zero =>
    intro i hi hd
    obtain rfl : i = c := by omega
    have hb := bnd i (by omega)
    have q : ¬ ((f + i : Nat) : Int) ≤ ((f + i - 1 : Nat) : Int) := by omega
    have b1 : Rg.osum a.size f i < 4611686018427387904 := by omega
    have b2 : i < 4611686018427387904 := by omega
    have b3 : i ≠ 0 := by omega
    have e1 : wrap64 (((f + i - 1 : Nat) : Int) - (f : Int)) = ((i - 1 : Nat) : Int) := by rw [w64 (by omega) (by omega)]; omega
    have e2 : wrap64 (((i - 1 : Nat) : Int) + 1) = (i : Int) := by rw [w64 (by omega) (by omega)]; omega
    refine Ev.step (f := fun k => (impl_lowest.f k ((Rg.osum a.size f i : Nat) : Int) (i : Int)).bind fun bt397 => some (bt397.1, bt397.2, true)) (fun k => ?_) (Ev.bind (lowest (Rg.osum a.size f i) i b1 b2 b3) (Ev.now _))
    rw [impl_MeanOnAlong.l0, if_neg q, e1, e2]
  | succ d ih =>
    intro i hi hd
    have h3 := ih (i + 1) (by omega) (by omega)
    have hb := bnd i (by omega)
    have ho := Rg.ones_le a.size (f + i)
    have q : ((f + i : Nat) : Int) ≤ ((f + c - 1 : Nat) : Int) := by omega
    have hst := state a.size (f + i) (by omega) (by omega)
    have ej : wrap64 (((f + i : Nat) : Int) + 1) = ((f + (i + 1) : Nat) : Int) := by rw [w64 (by omega) (by omega)]; omega
    have es : wrap64 (((Rg.osum a.size f i : Nat) : Int) + ((Rg.ones a.size (f + i) : Nat) : Int)) = ((Rg.osum a.size f (i + 1) : Nat) : Int) := by
      rw [w64 (by omega) (by omega)]; rfl
    rw [← es, ← ej] at h3
    refine Ev.step (f := fun k => (impl_state.f k (a.size : Int) ((f + i : Nat) : Int)).bind fun t394 => ((impl_CountOn.f t394).bind fun bt395 => (impl_MeanOnAlong.l0 k a (f : Int) ((f + c - 1 : Nat) : Int) (wrap64 (((Rg.osum a.size f i : Nat) : Int) + bt395.1)) (wrap64 (((f + i : Nat) : Int) + 1))))) (fun k => ?_) (Ev.bind hst (Ev.bind (evc (countSb _ _ h1 (by omega))) h3))
    rw [impl_MeanOnAlong.l0, if_pos q]

theorem ap_max (a b : Nat) : max a b = min a b + (ap a b + 1) - 1 := by unfold ap; omega
theorem lo_le (a b : ByteArray) (h : alB a b = true) : lo a b + (ap (nm a) (nm b) + 1) ≤ 2 ^ a.size := by
  obtain ⟨_, _, h3⟩ := (alB_iff a b).1 h
  have h1 := nm_lt a
  have h2 := nm_lt b
  rw [← h3] at h2
  unfold lo ap; omega
theorem meanOnAlong (a b : ByteArray) (ha : a.size ≤ 140737488351232) (hb : b.size ≤ 140737488351232) : Ev (fun k => impl_MeanOnAlong.f k a b) (alV a b) := by
  have hn : Ev (fun k => impl_MeanOnAlong.j0 k a b true) (0, 0, false) := Ev.step (f := fun _ => some (0, 0, false)) (fun k => by rw [impl_MeanOnAlong.j0, if_pos rfl]) (Ev.now _)
  unfold impl_MeanOnAlong.f alV maB
  refine Ev.bind (evc (alike a b ha hb)) ?_
  by_cases h : alB a b = true
  · obtain ⟨s1, s2, s3⟩ := (alB_iff a b).1 h
    refine ScP.Ev.ite_pos h (Ev.bind (evc (isWalk a s1)) ?_)
    by_cases h2 : a.size ≤ 12
    · rw [h, decide_eq_true h2, if_pos (show (true && true) = true from rfl)]
      have h3 := alongLoop a (lo a b) (ap (nm a) (nm b) + 1) (size_pos s1) h2 (lo_le a b h) (by omega) (ap (nm a) (nm b) + 1) 0 (by omega) (by omega)
      refine Ev.step (f := fun k => (impl_number.f k a).bind fun t390 => ((impl_number.f k b).bind fun t391 => ((impl_number.f k a).bind fun t392 => ((impl_number.f k b).bind fun t393 => (impl_MeanOnAlong.l0 k a (Go.Proofs.YtkdfhgilpnohpaaDoorW.PrintWords.mn t390 t391) (mx t392 t393) 0 (Go.Proofs.YtkdfhgilpnohpaaDoorW.PrintWords.mn t390 t391)))))) (fun k => ?_) ?_
      · rw [impl_MeanOnAlong.j0, if_neg (by decide)]
      · refine Ev.bind (number a s1) (Ev.bind (number b s2) (Ev.bind (number a s1) (Ev.bind (number b s2) ?_)))
        rw [mxI, mnI, ap_max]
        exact h3
    · rw [h, decide_eq_false h2, if_neg (by decide)]
      exact hn
  · rw [if_neg (by simp [h])]
    exact ScP.Ev.ite_neg h hn
theorem specAlongLoop (a : ByteArray) (x y : Nat) (h1 : 1 ≤ a.size) (h2 : a.size ≤ 12) (hf : min x y + (ap x y + 1) ≤ 2 ^ a.size) (d : Nat) : ∀ i, i ≤ ap x y + 1 → ap x y + 1 - i = d →
    Ev (fun k => spec_MeanOnAlong.l0 k a (x : Int) (y : Int) ((Rg.osum a.size (min x y) i : Nat) : Int) ((min x y + i : Nat) : Int)) ((lowV (Rg.osum a.size (min x y) (ap x y + 1)) (ap x y + 1)).1, (lowV (Rg.osum a.size (min x y) (ap x y + 1)) (ap x y + 1)).2, true) := by
  obtain ⟨p1, p2, p3⟩ := pow12 h1 h2
  have bnd : ∀ i, i ≤ ap x y + 1 → Rg.osum a.size (min x y) i ≤ 65536 := fun i hi => by
    have := Rg.osum_le a.size (min x y) i
    have := Nat.mul_le_mul h2 (show i ≤ 4096 by omega)
    omega
  have hmx := ap_max x y
  have hm : spec_l1Most.f (x : Int) (y : Int) = some ((max x y : Nat) : Int) := by rw [l1MostV, mxI]
  induction d with
  | zero =>
    intro i hi hd
    obtain rfl : i = ap x y + 1 := by omega
    have hb := bnd _ (Nat.le_refl _)
    have q : ¬ ((min x y + (ap x y + 1) : Nat) : Int) ≤ ((max x y : Nat) : Int) := by omega
    have b1 : Rg.osum a.size (min x y) (ap x y + 1) < 4611686018427387904 := by omega
    have b2 : ap x y + 1 < 4611686018427387904 := by omega
    have hx : x < 4096 := by unfold ap at hf; omega
    have hy : y < 4096 := by unfold ap at hf; omega
    have hap : ap x y < 4096 := by unfold ap; omega
    have e0 : wrap64 ((x : Int) - (y : Int)) = (x : Int) - (y : Int) := w64 (by omega) (by omega)
    have e1 : spec_l1Abs.f ((x : Int) - (y : Int)) = some ((ap x y : Nat) : Int) := by
      rw [absV _ (by omega) (by omega)]
      have : ((x : Int) - (y : Int)).natAbs = ap x y := by unfold ap; omega
      rw [this]
    have e2 : wrap64 (((ap x y : Nat) : Int) + 1) = ((ap x y + 1 : Nat) : Int) := by rw [w64 (by omega) (by omega)]; omega
    refine Ev.step (f := fun k => (spec_waLow.f k ((Rg.osum a.size (min x y) (ap x y + 1) : Nat) : Int) ((ap x y + 1 : Nat) : Int)).bind fun bt408 => some (bt408.1, bt408.2, true)) (fun k => ?_) (Ev.bind (waLow (Rg.osum a.size (min x y) (ap x y + 1)) (ap x y + 1) b1 b2 (Nat.succ_ne_zero _)) (Ev.now _))
    rw [spec_MeanOnAlong.l0, hm]
    simp only [Option.bind_some]
    rw [if_neg q, e0, e1]
    simp only [Option.bind_some]
    rw [e2]
  | succ d ih =>
    intro i hi hd
    have h3 := ih (i + 1) (by omega) (by omega)
    have hb := bnd i (by omega)
    have ho := Rg.ones_le a.size (min x y + i)
    have q : ((min x y + i : Nat) : Int) ≤ ((max x y : Nat) : Int) := by omega
    have hst := riState a.size (min x y + i) (by omega) (by omega)
    have hon := riOnV (sb a.size (min x y + i)) (sb_ok _ _ h1 (by omega))
    rw [sb_count] at hon
    have ej : wrap64 (((min x y + i : Nat) : Int) + 1) = ((min x y + (i + 1) : Nat) : Int) := by rw [w64 (by omega) (by omega)]; omega
    have es : wrap64 (((Rg.osum a.size (min x y) i : Nat) : Int) + ((Rg.ones a.size (min x y + i) : Nat) : Int)) = ((Rg.osum a.size (min x y) (i + 1) : Nat) : Int) := by
      rw [w64 (by omega) (by omega)]; rfl
    rw [← es, ← ej] at h3
    refine Ev.step (f := fun k => (spec_riState.f k (a.size : Int) ((min x y + i : Nat) : Int)).bind fun t405 => ((spec_riOn.f k t405).bind fun t406 => (spec_MeanOnAlong.l0 k a (x : Int) (y : Int) (wrap64 (((Rg.osum a.size (min x y) i : Nat) : Int) + t406)) (wrap64 (((min x y + i : Nat) : Int) + 1))))) (fun k => ?_) (Ev.bind hst (Ev.bind hon h3))
    rw [spec_MeanOnAlong.l0, hm]
    simp only [Option.bind_some]
    rw [if_pos q]
theorem leastV (x y : Nat) : spec_l1Least.f (x : Int) (y : Int) = some ((min x y : Nat) : Int) := by
  unfold spec_l1Least.f
  by_cases h : (x : Int) < (y : Int)
  · rw [if_pos h]; congr 1; omega
  · rw [if_neg h]; congr 1; omega
theorem specMeanOnAlong (a b : ByteArray) : Ev (fun k => spec_MeanOnAlong.f k a b) (alV a b) := by
  have hn : Ev (fun k => spec_MeanOnAlong.j0 k a b true) (0, 0, false) := Ev.step (f := fun _ => some (0, 0, false)) (fun k => by rw [spec_MeanOnAlong.j0, if_pos rfl]) (Ev.now _)
  unfold spec_MeanOnAlong.f alV maB
  refine Ev.bind (riTwo a b) ?_
  by_cases h : alB a b = true
  · obtain ⟨s1, s2, s3⟩ := (alB_iff a b).1 h
    refine ScP.Ev.ite_pos h ?_
    by_cases h2 : a.size ≤ 12
    · have h2' : ¬ (a.size : Int) > 12 := by omega
      rw [h, decide_eq_true h2, if_pos (show (true && true) = true from rfl), decide_eq_false h2']
      have h3 := specAlongLoop a (nm a) (nm b) (size_pos s1) h2 (lo_le a b h) (ap (nm a) (nm b) + 1) 0 (by omega) (by omega)
      refine Ev.step (f := fun k => (spec_waNumbers.f k a b).bind fun bt400 => ((spec_l1Least.f bt400.1 bt400.2.1).bind fun t403 => (spec_MeanOnAlong.l0 k a bt400.1 bt400.2.1 0 t403))) (fun k => ?_) ?_
      · rw [spec_MeanOnAlong.j0, if_neg (by decide)]
      · refine Ev.bind (waNumbers a b h) (Ev.bind (evc (leastV _ _)) ?_)
        exact h3
    · have h2' : (a.size : Int) > 12 := by omega
      rw [h, decide_eq_false h2, if_neg (by decide), decide_eq_true h2']
      exact hn
  · rw [if_neg (by simp [h])]
    exact ScP.Ev.ite_neg h hn

/-! ### 3. StatesBetween -/
theorem zerosV (n : Nat) (h : 0 < n) (hn : n < 2 ^ 40) : ∀ c : Nat, c + n < 2 ^ 41 → ∃ z, Ev (fun k => impl_zeros.l0 k (n : Int) (c : Int)) z := by
  induction n using Nat.strongRecOn with
  | _ n ih =>
    intro c hc
    by_cases h2 : n % 2 = 0
    · have em : Int.tmod (n : Int) 2 = ((n % 2 : Nat) : Int) := tmodN n 2
      have ed : Int.tdiv (n : Int) 2 = ((n / 2 : Nat) : Int) := tdivN n 2
      have e1 : wrap64 ((n / 2 : Nat) : Int) = ((n / 2 : Nat) : Int) := w64 (by omega) (by omega)
      have e2 : wrap64 ((c : Int) + 1) = ((c + 1 : Nat) : Int) := by rw [w64 (by omega) (by omega)]; omega
      obtain ⟨z, hz⟩ := ih (n / 2) (by omega) (by omega) (by omega) (c + 1) (by omega)
      refine ⟨z, Ev.step (f := fun k => impl_zeros.l0 k ((n / 2 : Nat) : Int) ((c + 1 : Nat) : Int)) (fun k => ?_) hz⟩
      rw [impl_zeros.l0, em, h2, if_pos (show ((0 : Nat) : Int) = 0 from rfl), ed, e1, e2]
    · have em : Int.tmod (n : Int) 2 = ((n % 2 : Nat) : Int) := tmodN n 2
      refine ⟨(c : Int), Ev.step (f := fun _ => some (c : Int)) (fun k => ?_) (Ev.now _)⟩
      have q : ¬ ((n % 2 : Nat) : Int) = 0 := by omega
      rw [impl_zeros.l0, em, if_neg q]
theorem nextUp (n t : Nat) (h : n < t) (ht : t < 1048576) : ∃ z, Ev (fun k => impl_next.f k (n : Int) (t : Int)) (((n + 1 : Nat) : Int), z) := by
  obtain ⟨z, hz⟩ := zerosV (n + 1) (by omega) (by omega) 0 (by omega)
  have q : (n : Int) < (t : Int) := by omega
  have e : wrap64 ((n : Int) + 1) = ((n + 1 : Nat) : Int) := by rw [w64 (by omega) (by omega)]; omega
  refine ⟨z, ?_⟩
  unfold impl_next.f
  refine ScP.Ev.ite_pos q ?_
  rw [e]
  exact Ev.bind hz (Ev.now _)
theorem nextDown (n t : Nat) (h : t < n) (hn : n < 1048576) : ∃ z, Ev (fun k => impl_next.f k (n : Int) (t : Int)) (((n - 1 : Nat) : Int), z) := by
  obtain ⟨z, hz⟩ := zerosV n (by omega) (by omega) 0 (by omega)
  have q : ¬ (n : Int) < (t : Int) := by omega
  have e : wrap64 ((n : Int) - 1) = ((n - 1 : Nat) : Int) := by rw [w64 (by omega) (by omega)]; omega
  refine ⟨z, ?_⟩
  unfold impl_next.f
  refine ScP.Ev.ite_neg q ?_
  rw [e]
  exact Ev.bind hz (Ev.now _)

/-- How many rings are on in all states of a list. -/
def sumOn : List ByteArray → Nat
  | [] => 0
  | s :: t => (bl s).count true + sumOn t
theorem sumOn_snoc (l : List ByteArray) (s : ByteArray) : sumOn (l ++ [s]) = sumOn l + (bl s).count true := by
  induction l with
  | nil => simp [sumOn]
  | cons a t ih => simp only [List.cons_append, sumOn, ih]; omega
theorem sumOn_take (l : List ByteArray) (i : Nat) (h : i < l.length) : sumOn (l.take (i + 1)) = sumOn (l.take i) + (bl l[i]).count true := by
  rw [List.take_succ_eq_append_getElem h, sumOn_snoc]
theorem betweenUp (a : ByteArray) (h1 : 1 ≤ a.size) (h2 : a.size ≤ 20) (t : Nat) (ht : t < 2 ^ a.size) (d : Nat) : ∀ n (acc : List ByteArray), n ≤ t → t - n = d → (∀ s ∈ acc, stB s = true) → acc.length + d < 1000000000 →
    ∃ L, Ev (fun k => impl_StatesBetween.l0 k a acc (n : Int) (t : Int)) (L, true) ∧ L.length = acc.length + d ∧ sumOn L = sumOn acc + Rg.osum a.size (n + 1) d ∧ ∀ s ∈ L, stB s = true := by
  have hp : 2 ^ a.size ≤ 1048576 := pow_le h2
  induction d with
  | zero =>
    intro n acc hn hd hacc hlen
    obtain rfl : n = t := by omega
    exact ⟨acc, Ev.step (f := fun _ => some (acc, true)) (fun k => by rw [impl_StatesBetween.l0, if_pos rfl]) (Ev.now _), rfl, rfl, hacc⟩
  | succ d ih =>
    intro n acc hn hd hacc hlen
    obtain ⟨z, hz⟩ := nextUp n t (by omega) (by omega)
    have hok := sb_ok a.size (n + 1) h1 h2
    obtain ⟨L, hL, l1, l2, l3⟩ := ih (n + 1) (acc ++ [sb a.size (n + 1)]) (by omega) (by omega) (by
      intro s hs
      rcases List.mem_append.1 hs with hs | hs
      · exact hacc s hs
      · rw [List.mem_singleton.1 hs]; exact hok) (by rw [List.length_append]; simp only [List.length_singleton]; omega)
    have q : ¬ (n : Int) = (t : Int) := by omega
    have q2 : acc.length < 8796093022208 := by omega
    refine ⟨L, Ev.step (f := fun k => (impl_next.f k (n : Int) (t : Int)).bind fun bt421 => ((impl_state.f k (a.size : Int) bt421.1).bind fun t423 => (if acc.length < 8796093022208 then (impl_StatesBetween.l0 k a (acc ++ [t423]) bt421.1 (t : Int)) else (none)))) (fun k => ?_) (Ev.bind hz (Ev.bind (state a.size (n + 1) h2 (by omega)) (ScP.Ev.ite_pos q2 hL))), ?_, ?_, l3⟩
    · rw [impl_StatesBetween.l0, if_neg q]
    · rw [l1, List.length_append]; simp only [List.length_singleton]; omega
    · rw [l2, sumOn_snoc, sb_count, Rg.osum_cons]; omega
theorem betweenDown (a : ByteArray) (h1 : 1 ≤ a.size) (h2 : a.size ≤ 20) (t : Nat) (d : Nat) : ∀ n (acc : List ByteArray), n < 2 ^ a.size → t ≤ n → n - t = d → (∀ s ∈ acc, stB s = true) → acc.length + d < 1000000000 →
    ∃ L, Ev (fun k => impl_StatesBetween.l0 k a acc (n : Int) (t : Int)) (L, true) ∧ L.length = acc.length + d ∧ sumOn L = sumOn acc + Rg.osum a.size t d ∧ ∀ s ∈ L, stB s = true := by
  have hp : 2 ^ a.size ≤ 1048576 := pow_le h2
  induction d with
  | zero =>
    intro n acc hn0 hn hd hacc hlen
    obtain rfl : n = t := by omega
    exact ⟨acc, Ev.step (f := fun _ => some (acc, true)) (fun k => by rw [impl_StatesBetween.l0, if_pos rfl]) (Ev.now _), rfl, rfl, hacc⟩
  | succ d ih =>
    intro n acc hn0 hn hd hacc hlen
    obtain ⟨z, hz⟩ := nextDown n t (by omega) (by omega)
    have hok := sb_ok a.size (n - 1) h1 h2
    obtain ⟨L, hL, l1, l2, l3⟩ := ih (n - 1) (acc ++ [sb a.size (n - 1)]) (by omega) (by omega) (by omega) (by
      intro s hs
      rcases List.mem_append.1 hs with hs | hs
      · exact hacc s hs
      · rw [List.mem_singleton.1 hs]; exact hok) (by rw [List.length_append]; simp only [List.length_singleton]; omega)
    have q : ¬ (n : Int) = (t : Int) := by omega
    have q2 : acc.length < 8796093022208 := by omega
    refine ⟨L, Ev.step (f := fun k => (impl_next.f k (n : Int) (t : Int)).bind fun bt421 => ((impl_state.f k (a.size : Int) bt421.1).bind fun t423 => (if acc.length < 8796093022208 then (impl_StatesBetween.l0 k a (acc ++ [t423]) bt421.1 (t : Int)) else (none)))) (fun k => ?_) (Ev.bind hz (Ev.bind (state a.size (n - 1) h2 (by omega)) (ScP.Ev.ite_pos q2 hL))), ?_, ?_, l3⟩
    · rw [impl_StatesBetween.l0, if_neg q]
    · rw [l1, List.length_append]; simp only [List.length_singleton]; omega
    · have e : t + d = n - 1 := by omega
      rw [l2, sumOn_snoc, sb_count]
      show _ = sumOn acc + (Rg.osum a.size t d + Rg.ones a.size (t + d))
      rw [e]; omega

theorem statesBetween (a b : ByteArray) (ha : a.size ≤ 140737488351232) (hb : b.size ≤ 140737488351232) (h : alB a b = true) :
    ∃ L, Ev (fun k => impl_StatesBetween.f k a b) (L, decide (ap (nm a) (nm b) + 1 ≤ 2000)) ∧ (ap (nm a) (nm b) + 1 ≤ 2000 → L.length = ap (nm a) (nm b) + 1 ∧ sumOn L = sumAlong a b ∧ ∀ s ∈ L, stB s = true) := by
  obtain ⟨s1, s2, s3⟩ := (alB_iff a b).1 h
  have l1 := nm_lt20 s1
  have l2 := nm_lt20 s2
  have hap : ap (nm a) (nm b) < 1048576 := by unfold ap; omega
  have e0 : wrap64 (((ap (nm a) (nm b) : Nat) : Int) + 1) = ((ap (nm a) (nm b) + 1 : Nat) : Int) := by rw [w64 (by omega) (by omega)]; omega
  have hdr : ∀ (L : List ByteArray) (q : Bool), Ev (fun k => impl_StatesBetween.j0 k a b (decide (((ap (nm a) (nm b) + 1 : Nat) : Int) > 2000))) (L, q) → Ev (fun k => impl_StatesBetween.f k a b) (L, q) := by
    intro L q hj
    unfold impl_StatesBetween.f
    refine Ev.bind (evc (alike a b ha hb)) (ScP.Ev.ite_pos h (Ev.bind (number a s1) (Ev.bind (number b s2) (Ev.bind (evc (apart _ _ l1 l2)) ?_))))
    rw [e0]
    exact hj
  by_cases h2 : ap (nm a) (nm b) + 1 ≤ 2000
  · have h2' : ¬ ((ap (nm a) (nm b) + 1 : Nat) : Int) > 2000 := by omega
    have hall : ∀ s ∈ [a], stB s = true := by intro s hs; rw [List.mem_singleton.1 hs]; exact s1
    have hone : sumOn [a] = Rg.ones a.size (nm a) := by
      show (bl a).count true + 0 = _
      rw [← Rg.st_count, Nat.add_zero]
      unfold nm
      rw [← bl_length, Rg.st_num]
    have key : ∃ L, Ev (fun k => impl_StatesBetween.l0 k a [a] (nm a : Int) (nm b : Int)) (L, true) ∧ L.length = ap (nm a) (nm b) + 1 ∧ sumOn L = sumAlong a b ∧ ∀ s ∈ L, stB s = true := by
      have hl := lo_le a b h
      by_cases h3 : nm a ≤ nm b
      · have e : lo a b = nm a := by unfold lo; omega
        have ea : nm b - nm a = ap (nm a) (nm b) := by unfold ap; omega
        obtain ⟨L, g1, g2, g3, g4⟩ := betweenUp a (size_pos s1) (size_le s1) (nm b) (by have := nm_lt b; rw [s3]; exact this) (ap (nm a) (nm b)) (nm a) [a] h3 ea hall (by simp only [List.length_singleton]; omega)
        refine ⟨L, g1, ?_, ?_, g4⟩
        · rw [g2]; simp only [List.length_singleton]; omega
        · rw [g3, hone]; unfold sumAlong; rw [e, Rg.osum_cons]
      · have e : lo a b = nm b := by unfold lo; omega
        have ea : nm a - nm b = ap (nm a) (nm b) := by unfold ap; omega
        obtain ⟨L, g1, g2, g3, g4⟩ := betweenDown a (size_pos s1) (size_le s1) (nm b) (ap (nm a) (nm b)) (nm a) [a] (nm_lt a) (by omega) ea hall (by simp only [List.length_singleton]; omega)
        refine ⟨L, g1, ?_, ?_, g4⟩
        · rw [g2]; simp only [List.length_singleton]; omega
        · rw [g3, hone]; unfold sumAlong; rw [e]
          show _ = Rg.osum a.size (nm b) (ap (nm a) (nm b)) + Rg.ones a.size (nm b + ap (nm a) (nm b))
          rw [show nm b + ap (nm a) (nm b) = nm a by omega]; omega
    obtain ⟨L, g1, g2, g3, g4⟩ := key
    refine ⟨L, ?_, fun _ => ⟨g2, g3, g4⟩⟩
    rw [decide_eq_true h2]
    refine hdr L true ?_
    rw [decide_eq_false h2']
    refine Ev.step (f := fun k => (impl_number.f k a).bind fun t419 => ((impl_number.f k b).bind fun t420 => (impl_StatesBetween.l0 k a [a] t419 t420))) (fun k => ?_) (Ev.bind (number a s1) (Ev.bind (number b s2) g1))
    rw [impl_StatesBetween.j0, if_neg (by decide)]
  · have h2' : ((ap (nm a) (nm b) + 1 : Nat) : Int) > 2000 := by omega
    refine ⟨[], ?_, fun q => absurd q h2⟩
    rw [decide_eq_false h2]
    refine hdr [] false ?_
    rw [decide_eq_true h2']
    exact Ev.step (f := fun _ => some (([] : List ByteArray), false)) (fun k => by rw [impl_StatesBetween.j0, if_pos rfl]) (Ev.now _)
end Go.Proofs.YtkdfhgilpnohpaaDoor.ScP
