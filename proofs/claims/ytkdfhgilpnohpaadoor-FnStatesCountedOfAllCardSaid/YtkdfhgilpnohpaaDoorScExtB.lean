/- Contracts of functions that hand function values on: impl.withNumbers (whatever it is handed), impl.withOn. -/
import Derived.Test.YtkdfhgilpnohpaaDoorScExtA
import Derived.Test.YtkdfhgilpnohpaaDoorSc1
import Derived.Test.YtkdfhgilpnohpaaDoorSc3
namespace Go.Proofs.YtkdfhgilpnohpaaDoor.Sc
open Go.RowKit Go.Proofs.YtkdfhgilpnohpaaDoorW.PrintWords Go.Proofs.YtkdfhgilpnohpaaDoorW.PrintLast Go.Proofs.YtkdfhgilpnohpaaDoorW.PrintMore
attribute [local go_sem] max2_int min2_int max_two min_two max_three min_three max_four min_four
theorem range_snoc {α : Type} (p : Nat → Bool) (S : Nat → α) (j : Nat) : ((List.range (j + 1)).filter p).map S = ((List.range j).filter p).map S ++ if p j = true then [S j] else [] := by
  rw [List.range_succ, List.filter_append, List.map_append]
  by_cases h : p j = true <;> simp [h]
theorem range_len {α : Type} (p : Nat → Bool) (S : Nat → α) (j : Nat) : (((List.range j).filter p).map S).length ≤ j := by
  rw [List.length_map]; exact Nat.le_trans (List.length_filter_le _ _) (by simp)
theorem shl_pow (rings : Nat) (hr : rings ≤ 20) : wrap64 (2 ^ rings) = ((2 ^ rings : Nat) : Int) := by
  have h1 : 2 ^ rings ≤ 2 ^ 20 := Nat.pow_le_pow_right (by omega) hr
  have h2 : (2 : Int) ^ rings = ((2 ^ rings : Nat) : Int) := by rw [Int.natCast_pow]; rfl
  generalize 2 ^ rings = x at h1 h2
  rw [h2]; unfold wrap64; omega
set_option maxHeartbeats 1000000 in
set_option maxRecDepth 100000 in
theorem withNumbers_calls (rings : Nat) (hr : rings ≤ 20) (g : Nat) (lb : Array Value) (eg : ∀ args w, (callFunc g args).run Tryd.prog w = .ok (.enter g args) w) (p : Nat → Bool) (S : Nat → ByteArray) (k : Nat)
    (hS : ∀ n : Nat, n < 2 ^ rings → impl_state.f k rings n = some (S n)) (w : World)
    (hp : ∀ (W : World) (n : Nat), Below w.heap.size w W → n < 2 ^ rings → Calls Tryd.prog g (#[.int .i64 n] ++ lb) W fun e w' => e = .returned (.bool (p n)) ∧ Below W.heap.size W w') :
    Calls Tryd.prog 142 #[.int .i64 rings, .func (.func g) #[] lb] w fun e w' => ∃ v, e = .returned v ∧ Kd.R Kd.string 9 w' w.heap.size (fun _ => True) v (((List.range (2 ^ rings)).filter p).map S) ∧ Below w.heap.size w w' := by
  have HS := Aside0.mk hS
  have HP := Aside0.mk hp
  clear hS hp
  have HB := Aside0.mk (Below.refl w.heap.size w)
  have hN1 : 2 ^ rings ≤ 2 ^ 20 := Nat.pow_le_pow_right (by omega) hr
  have hsh := shl_pow rings hr
  obtain ⟨N, hN2⟩ : ∃ N : Nat, N = 2 ^ rings := ⟨_, rfl⟩
  have HN := Aside0.mk hN2
  rw [← hN2] at hN1 hsh
  clear hN2
  go_enter Tryd.func142, Tryd.ntmps142
  go_wp2
  rw [hsh]
  go_loopw [5, 9] (fun v5 v9 wr => ∃ j : Nat, j ≤ N ∧ v9 = .int .i64 j ∧ Aside0 (Kd.R Kd.string 9 wr w.heap.size (fun _ => True) v5 (((List.range j).filter p).map S)) ∧ Aside0 (Below w.heap.size w wr)) (fun _ v9 _ => N - (intOf v9).toNat)
  case atStart => exact ⟨0, Nat.zero_le _, rfl, ⟨Kd.R_nil _ _ _ _ _⟩, HB⟩
  case round =>
    obtain ⟨j, hj, rfl, HR, HB⟩ := hrel
    by_cases hlt : j < N
    · have hlt2 : decide ((j : Int) < (N : Int)) = true := decide_eq_true (by omega)
      have Hc := Aside0.mk (HP.out wr j HB.out (by rw [← HN.out]; exact hlt))
      have Hst := Aside0.mk (impl_state.calls k rings j (S j))
      have Hn := Aside0.mk (HS.out j (by rw [← HN.out]; exact hlt))
      have Hl := Aside0.mk (range_len p S j)
      have Hsn := Aside0.mk (range_snoc p S j)
      go_wp2_with fail
      refine Hc.out.mono ?_
      rintro e w1 ⟨rfl, hb⟩
      have HB1 := Aside0.mk (below_step HB.out hb)
      have HR1 := Aside0.mk (Kd.R_below HR.out hb)
      clear HB HR hb
      cases hpj : p j with
      | false =>
        have hpj0 := Aside0.mk hpj
        clear hpj
        go_wp2_with fail
        go_roundw
        case rel => exact ⟨j + 1, by omega, by go_num, ⟨by rw [Hsn.out]; simp only [hpj0.out, Bool.false_eq_true, ↓reduceIte, List.append_nil]; exact HR1.out⟩, HB1⟩
        case measure => simp [intOf]; omega
      | true =>
        have hpj0 := Aside0.mk hpj
        clear hpj
        go_wp2_with (first | (go_at_call 176; refine (Hst.out _ Hn.out).mono ?_; rintro e w2 ⟨rfl, hb⟩; have HB := Aside0.mk (below_step HB1.out hb); have HR := Aside0.mk (Kd.R_below HR1.out hb); clear HB1 HR1 hb) | ((with_reducible refine gate_builtin (b := .append) (xs := #[.tmp 15, .tmp 19]) rfl ?_); at_builtin; refine Kd.R_append Kd.string (w0 := w) w.heap.size rfl (.tmp 15) (.tmp 19) 22 9 (.string ⟨#[]⟩) 16 rfl Tryd.underlying22 info9 rfl (by decide) (by omega) u5 (((List.range j).filter p).map S) (S j) [.string (S j)] (fun _ => True) (fun _ => False) rfl rfl ?aP (fun _ hk => hk.elim) ?aF ?aO ?aB ?aS ?aL ?_; (case aP => exact rfl); (case aB => exact HB.out); (case aF => exact (fun _ _ => trivial)); (case aO => exact HR.out); (case aS => exact (below_size HB.out)); (case aL => have := Hl.out; omega); intro v2 w3 ho hb hg hat; have HB2 := Aside0.mk hb; have HR2 := Aside0.mk ho; clear HB HR ho hb hg hat))
        go_roundw
        case rel => exact ⟨j + 1, by omega, by go_num, ⟨by rw [Hsn.out]; simp only [hpj0.out, ↓reduceIte]; exact HR2.out⟩, HB2⟩
        case measure => simp [intOf]; omega
    · have hlt2 : decide ((j : Int) < (N : Int)) = false := decide_eq_false (by omega)
      go_wp2
      go_ret
      have : j = N := by omega
      subst this
      exact ⟨_, rfl, by rw [← HN.out]; exact HR.out, HB.out⟩

/-- The states with the numbers that p takes, if all states can be told in k rounds. -/
def takenStates (k rings : Nat) (p : Nat → Bool) : Option (List ByteArray) :=
  if ((List.range (2 ^ rings)).all fun n : Nat => (impl_state.f k rings n).isSome) = true then some (((List.range (2 ^ rings)).filter p).map fun n : Nat => (impl_state.f k rings n).getD ⟨#[]⟩) else none
theorem takenStates.mono (k rings : Nat) (p : Nat → Bool) : LeO (takenStates k rings p) (takenStates (k + 1) rings p) := by
  intro r h
  unfold takenStates at h ⊢
  split at h
  · rename_i hc
    have hs : ∀ n : Nat, n ∈ List.range (2 ^ rings) → impl_state.f (k + 1) rings n = impl_state.f k rings n := by
      intro n hn
      have := List.all_eq_true.1 hc n hn
      obtain ⟨x, hx⟩ := Option.isSome_iff_exists.1 this
      rw [hx]; exact impl_state.mono _ _ _ _ hx
    have hc2 : ((List.range (2 ^ rings)).all fun n : Nat => (impl_state.f (k + 1) rings n).isSome) = true := by
      rw [List.all_eq_true] at hc ⊢
      intro n hn; rw [hs n hn]; exact hc n hn
    rw [if_pos hc2, ← h]
    congr 1
    apply List.map_congr_left
    intro n hn
    rw [hs n (List.mem_filter.1 hn).1]
  · cases h
theorem takenStates.told {k rings : Nat} {p : Nat → Bool} {r : List ByteArray} (h : takenStates k rings p = some r) : ∃ S : Nat → ByteArray, (∀ n : Nat, n < 2 ^ rings → impl_state.f k rings n = some (S n)) ∧ r = ((List.range (2 ^ rings)).filter p).map S := by
  unfold takenStates at h
  split at h
  · rename_i hc
    refine ⟨fun n => (impl_state.f k rings n).getD ⟨#[]⟩, fun n hn => ?_, (Option.some.inj h).symm⟩
    obtain ⟨x, hx⟩ := Option.isSome_iff_exists.1 (List.all_eq_true.1 hc n (List.mem_range.2 hn))
    show _ = some ((impl_state.f k rings n).getD ⟨#[]⟩)
    rw [hx]; rfl
  · cases h
def onState (k rings n : Nat) : Option (Int × Bool) := (impl_state.f k rings n).bind impl_CountOn.f
def impl_withOn.f (k : Nat) (a0 : Int) (a1 : Int) : Option (List ByteArray) :=
  if 0 ≤ a0 ∧ a0 ≤ 20 ∧ ((List.range (2 ^ a0.toNat)).all fun n : Nat => (onState k a0.toNat n).isSome) = true then takenStates k a0.toNat (fun n => ((onState k a0.toNat n).getD (0, false)).1 == a1) else none
theorem onState.mono (k rings n : Nat) : LeO (onState k rings n) (onState (k + 1) rings n) := by
  unfold onState
  exact LeO.bind (impl_state.mono _ _ _) (fun _ => LeO.refl _)
theorem impl_withOn.mono : ∀ a0 a1 k, LeO (impl_withOn.f k a0 a1) (impl_withOn.f (k + 1) a0 a1) := by
  intro a0 a1 k r h
  unfold impl_withOn.f at h ⊢
  split at h
  · rename_i hc
    obtain ⟨h0, h1, h2⟩ := hc
    have hs : ∀ n : Nat, n ∈ List.range (2 ^ a0.toNat) → onState (k + 1) a0.toNat n = onState k a0.toNat n := by
      intro n hn
      obtain ⟨x, hx⟩ := Option.isSome_iff_exists.1 (List.all_eq_true.1 h2 n hn)
      rw [hx]; exact onState.mono _ _ _ _ hx
    rw [if_pos ⟨h0, h1, by rw [List.all_eq_true] at h2 ⊢; intro n hn; rw [hs n hn]; exact h2 n hn⟩]
    have h3 := takenStates.mono k a0.toNat (fun n => ((onState k a0.toNat n).getD (0, false)).1 == a1) r h
    rw [← h3]
    unfold takenStates
    have : (List.range (2 ^ a0.toNat)).filter (fun n => ((onState (k + 1) a0.toNat n).getD (0, false)).1 == a1) = (List.range (2 ^ a0.toNat)).filter (fun n => ((onState k a0.toNat n).getD (0, false)).1 == a1) := by
      apply List.filter_congr
      intro n hn
      rw [hs n hn]
    rw [this]
  · cases h

/-- 'func(n int) bool { k, _ := CountOn(state(rings, n)); return k == on }', over the two captured variables. -/
theorem withOn_takes (k rings n : Nat) (on c : Int) (t : ByteArray) (b : Bool) (g2 g3 : Nat) (W : World) (hs : impl_state.f k rings n = some t) (hc : impl_CountOn.f t = some (c, b))
    (h2 : W.cell? ⟨g2, 0, none⟩ = some (.int .i64 rings)) (h3 : W.cell? ⟨g3, 0, none⟩ = some (.int .i64 on)) (hz : g3 < W.heap.size) :
    Calls Tryd.prog 223 #[.int .i64 n, .pointer (some ⟨g2, 0, none⟩), .pointer (some ⟨g3, 0, none⟩)] W fun e w' => e = .returned (.bool (c == on)) ∧ Below W.heap.size W w' := by
  have HS := Aside0.mk hs
  have HC := Aside0.mk hc
  have H3 := Aside0.mk h3
  have HZ := Aside0.mk hz
  clear hs hc h3 hz
  go_enter Tryd.func223, Tryd.ntmps223
  go_wp2_with (first | (go_at_call 176; refine (impl_state.calls k rings n t _ HS.out).mono ?_; rintro e w1 ⟨rfl, hb⟩; have HB := Aside0.mk hb; clear hb) | (go_at_call 68; refine (impl_CountOn.calls t c b _ HC.out).mono ?_; rintro e w2 ⟨rfl, hb⟩; have HB2 := Aside0.mk (below_step HB.out hb); clear HB hb; have h3 := (HB2.out.cell (p := ⟨g3, 0, none⟩) HZ.out).trans H3.out))
  go_ret
  exact ⟨rfl, HB2.out⟩

set_option maxHeartbeats 2000000 in
set_option maxRecDepth 100000 in
theorem impl_withOn.calls (k : Nat) (a0 : Int) (a1 : Int) (r : List ByteArray) (w : World) (h : impl_withOn.f k a0 a1 = some r) :
    Calls Tryd.prog 170 #[.int .i64 a0, .int .i64 a1] w fun e w' => ∃ v0_ : Value, e = .returned (v0_) ∧ Kd.R Kd.string 9 w' w.heap.size (fun _ => True) v0_ r ∧ Below w.heap.size w w' := by
  unfold impl_withOn.f at h
  split at h
  case isFalse => cases h
  rename_i hc
  obtain ⟨h0, h1, h2⟩ := hc
  obtain ⟨rings, rfl⟩ := Int.eq_ofNat_of_zero_le h0
  simp only [Int.toNat_natCast] at h h2
  obtain ⟨S, hS, rfl⟩ := takenStates.told h
  have hr : rings ≤ 20 := by omega
  have Hw := Aside0.mk (fun (W : World) (hz : w.heap.size + 1 < W.heap.size) (hc2 : W.cell? ⟨w.heap.size, 0, none⟩ = some (.int .i64 rings)) (hc3 : W.cell? ⟨w.heap.size + 1, 0, none⟩ = some (.int .i64 a1)) =>
    withNumbers_calls rings hr 223 #[.pointer (some ⟨w.heap.size, 0, none⟩), .pointer (some ⟨w.heap.size + 1, 0, none⟩)] (enters_of Tryd.func223 (by kernel_rfl) rfl) (fun n => ((onState k rings n).getD (0, false)).1 == a1) S k hS W (fun W' n hb hn => by
      obtain ⟨⟨c, b⟩, hcb⟩ := Option.isSome_iff_exists.1 (List.all_eq_true.1 h2 n (List.mem_range.2 hn))
      have hcb2 := hcb
      unfold onState at hcb2
      rw [hS n hn, Option.bind_some] at hcb2
      rw [hcb]
      exact withOn_takes k rings n a1 c (S n) b _ _ W' (hS n hn) hcb2 ((hb.cell (p := ⟨w.heap.size, 0, none⟩) (by show w.heap.size < _; omega)).trans hc2) ((hb.cell (p := ⟨w.heap.size + 1, 0, none⟩) hz).trans hc3) (Nat.lt_of_lt_of_le hz hb.size)))
  clear h h0 h1 h2 hS
  go_enter Tryd.func170, Tryd.ntmps170
  go_wp2_with (go_at_call 142; refine (Hw.out _ (by simp) (by simp) (by simp)).mono ?_; rintro e w4 ⟨v4, rfl, hR4, hb4⟩; have HR4 := Aside0.mk hR4; have HB4 := Aside0.mk hb4; clear hR4 hb4)
  go_ret
  have HB5 : Below w.heap.size w _ := below_step (by repeat (first | exact Below.refl _ _ | apply below_alloc)) HB4.out
  exact ⟨_, rfl, Kd.R_lower HR4.out (by simp; omega), HB5⟩
end Go.Proofs.YtkdfhgilpnohpaaDoor.Sc
