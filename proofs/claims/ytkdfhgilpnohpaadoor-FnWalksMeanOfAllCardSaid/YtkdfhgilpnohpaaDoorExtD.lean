/- The contract of spec.ChanceAfter (the region that draws its order is walked by hand). -/
import Derived.Test.YtkdfhgilpnohpaaDoorWk0
import Derived.Test.YtkdfhgilpnohpaaDoorWk2
import Derived.Test.YtkdfhgilpnohpaaDoorWk4
import Derived.Test.YtkdfhgilpnohpaaDoorWk7
import Derived.Test.YtkdfhgilpnohpaaDoorWk8
import Derived.Deep.RegionWith
namespace Go.Proofs.YtkdfhgilpnohpaaDoor.Wk
open Go.RowKit Go.Proofs.YtkdfhgilpnohpaaDoorW.PrintWords Go.Proofs.YtkdfhgilpnohpaaDoorW.PrintLast Go.Proofs.YtkdfhgilpnohpaaDoorW.PrintMore
attribute [local go_sem] max2_int min2_int max_two min_two max_three min_three max_four min_four   -- for this text's walks alone
set_option linter.unusedVariables false
set_option linter.unusedSimpArgs false

/-! ### spec_ChanceAfter: function 32 -/
def spec_ChanceAfter.f (k : Nat) (a0 : ByteArray) (a1 : ByteArray) (a2 : Int) : Option (Int × Int × Bool) := (spec_waSmall.f k a0 a1 a2).bind fun t229 => (if t229 = true then ((spec_waNumbers.f k a0 a1).bind fun bt230 => ((spec_waChances.f k bt230.1 bt230.2.2 a2).bind fun t233 => (if 0 ≤ bt230.2.1 then (if bt230.2.1 < (t233.length : Int) then (if 0 ≤ a2 then ((spec_waLow.f k (rd t233 bt230.2.1) (shl .i64 1 a2)).bind fun bt237 => (some (bt237.1, bt237.2, true))) else (none)) else (none)) else (none)))) else (some (0, 0, false)))
theorem spec_ChanceAfter.mono : ∀ a0 a1 a2 k, LeO (spec_ChanceAfter.f k a0 a1 a2) (spec_ChanceAfter.f (k + 1) a0 a1 a2) := by
 intro a0 a1 a2 k
 unfold spec_ChanceAfter.f
 repeat' first
   | (with_reducible exact spec_waChances.mono _ _ _ _)
   | (with_reducible exact spec_waLow.mono _ _ _)
   | (with_reducible exact spec_waNumbers.mono _ _ _)
   | (with_reducible exact spec_waSmall.mono _ _ _ _)
   | (with_reducible exact LeO.refl _)
   | (with_reducible exact LeO.none _)
   | (with_reducible refine LeO.ite ?_ ?_)
   | (with_reducible refine LeO.bind ?_ (fun _ => ?_))
   | exact spec_waChances.mono _ _ _ _
   | exact spec_waLow.mono _ _ _
   | exact spec_waNumbers.mono _ _ _
   | exact spec_waSmall.mono _ _ _ _
   | exact LeO.none _
   | refine LeO.ite ?_ ?_
   | refine LeO.bind ?_ (fun _ => ?_)
def spec_ChanceAfter.T4 : Bool × List (List Nat × List Nat) := (true, [([], []), ([], []), ([], []), ([0, 1, 2], [0, 1, 2]), ([], []), ([3, 4], [3, 4]), ([5], [5]), ([], []), ([7], [7]), ([6, 8, 3], [6, 8]), ([9], [9]), ([10], [10]), ([10], [10]), ([11, 9, 0, 1, 2, 3, 4, 5, 6, 7, 8, 9, 10, 11], [11]), ([12, 13, 0, 1, 2, 3, 4, 5, 6, 7, 8, 9, 10, 11, 12, 13], [12])])
def spec_ChanceAfter.B4 : List Nat := [0, 0, 0, 7, 0, 31, 63, 0, 128, 511, 1023, 2047, 2047, 4095, 16383]
theorem spec_ChanceAfter.tab4 : rtab .any (opsOf Tryd.f32 4) = spec_ChanceAfter.T4 := by kernel_rfl
theorem spec_ChanceAfter.bits4 : waitsOk spec_ChanceAfter.T4.2 spec_ChanceAfter.B4 = true := by kernel_rfl
set_option maxHeartbeats 8000000 in
set_option maxRecDepth 100000 in
theorem spec_ChanceAfter.calls (k : Nat) (a0 : ByteArray) (a1 : ByteArray) (a2 : Int) (r1 : Int) (r2 : Int) (r3 : Bool) (w : World) (h : spec_ChanceAfter.f k a0 a1 a2 = some (r1, r2, r3)) :
  Calls Tryd.prog 32 #[.string a0, .string a1, .int .i64 a2] w fun e w' => e = .returned (.tuple #[.int .i64 r1, .int .i64 r2, .bool r3]) ∧ Below w.heap.size w w' := by
 have HB := Aside0.mk (Below.refl w.heap.size w)
 have H : ((spec_waSmall.f k a0 a1 a2).bind fun t229 => (if t229 = true then ((spec_waNumbers.f k a0 a1).bind fun bt230 => ((spec_waChances.f k bt230.1 bt230.2.2 a2).bind fun t233 => (if 0 ≤ bt230.2.1 then (if bt230.2.1 < (t233.length : Int) then (if 0 ≤ a2 then ((spec_waLow.f k (rd t233 bt230.2.1) (shl .i64 1 a2)).bind fun bt237 => (some (bt237.1, bt237.2, true))) else (none)) else (none)) else (none)))) else (some (0, 0, false)))) = some (r1, r2, r3) := h
 clear h
 replace H := Option.bind_eq_some_iff.mp H
 obtain ⟨t229, A40, H⟩ := H
 replace H : (if t229 = true then ((spec_waNumbers.f k a0 a1).bind fun bt230 => ((spec_waChances.f k bt230.1 bt230.2.2 a2).bind fun t233 => (if 0 ≤ bt230.2.1 then (if bt230.2.1 < (t233.length : Int) then (if 0 ≤ a2 then ((spec_waLow.f k (rd t233 bt230.2.1) (shl .i64 1 a2)).bind fun bt237 => (some (bt237.1, bt237.2, true))) else (none)) else (none)) else (none)))) else (some (0, 0, false))) = some (r1, r2, r3) := H
 have A4 := Aside0.mk A40
 clear A40
 by_cases c5 : t229 = true
 ·subst c5
  have H1 : ((spec_waNumbers.f k a0 a1).bind fun bt230 => ((spec_waChances.f k bt230.1 bt230.2.2 a2).bind fun t233 => (if 0 ≤ bt230.2.1 then (if bt230.2.1 < (t233.length : Int) then (if 0 ≤ a2 then ((spec_waLow.f k (rd t233 bt230.2.1) (shl .i64 1 a2)).bind fun bt237 => (some (bt237.1, bt237.2, true))) else (none)) else (none)) else (none)))) = some (r1, r2, r3) := by rw [if_pos rfl] at H; exact H
  clear H
  have H := H1
  clear H1
  replace H := Option.bind_eq_some_iff.mp H
  obtain ⟨⟨t230, t231, t232⟩, A60, H⟩ := H
  replace H : ((spec_waChances.f k t230 t232 a2).bind fun t233 => (if 0 ≤ t231 then (if t231 < (t233.length : Int) then (if 0 ≤ a2 then ((spec_waLow.f k (rd t233 t231) (shl .i64 1 a2)).bind fun bt237 => (some (bt237.1, bt237.2, true))) else (none)) else (none)) else (none))) = some (r1, r2, r3) := H
  have A6 := Aside0.mk A60
  clear A60
  replace H := Option.bind_eq_some_iff.mp H
  obtain ⟨t233, A70, H⟩ := H
  replace H : (if 0 ≤ t231 then (if t231 < (t233.length : Int) then (if 0 ≤ a2 then ((spec_waLow.f k (rd t233 t231) (shl .i64 1 a2)).bind fun bt237 => (some (bt237.1, bt237.2, true))) else (none)) else (none)) else (none)) = some (r1, r2, r3) := H
  have A7 := Aside0.mk A70
  clear A70
  by_cases c8 : 0 ≤ t231
  ·rw [if_pos c8] at H
   have c8b0 : decide (0 ≤ t231) = true := decide_eq_true c8
   clear c8
   by_cases c9 : t231 < (t233.length : Int)
   ·rw [if_pos c9] at H
    have c9b0 : decide (t231 < (t233.length : Int)) = true := decide_eq_true c9
    clear c9
    by_cases c10 : 0 ≤ a2
    ·rw [if_pos c10] at H
     have c10b0 := eq_true c10
     have c10b1 : decide (0 ≤ a2) = true := decide_eq_true c10
     clear c10
     obtain ⟨ji11, hji11⟩ : ∃ j_ : Int, (shl .i64 1 a2) = j_ := ⟨_, rfl⟩
     replace H : ((spec_waLow.f k (rd t233 t231) (ji11)).bind fun bt237 => (some (bt237.1, bt237.2, true))) = some (r1, r2, r3) := by first | (rw [hji11] at H; exact H) | (simp only [hji11] at H ⊢; exact H)
     (try rw [hji11] at A4)
     (try rw [hji11] at A6)
     (try rw [hji11] at A7)
     have hji11_ : (IntKind.i64.wrap (1 * 2 ^ min a2.toNat 64)) = ji11 := hji11
     have hji11z : a2 ≤ 64 → (IntKind.i64.wrap (1 * 2 ^ a2.toNat)) = ji11 := shl_small hji11
     have hji11u : (IntKind.i64.wrap (2 ^ min a2.toNat 64)) = ji11 := by have h_ := hji11_; rw [Int.one_mul] at h_; exact h_
     have hji11v : a2 ≤ 64 → (IntKind.i64.wrap (2 ^ a2.toNat)) = ji11 := fun hle_ => by have h_ := hji11z hle_; rw [Int.one_mul] at h_; exact h_
     have hji11y : (wrap64 (1 * 2 ^ min a2.toNat 64)) = ji11 := (i64_w _).symm.trans hji11_
     have hji11x : a2 ≤ 64 → (wrap64 (1 * 2 ^ a2.toNat)) = ji11 := fun h_ => (i64_w _).symm.trans (hji11z h_)
     have hji11k : (wrap64 (2 ^ min a2.toNat 64)) = ji11 := (i64_w _).symm.trans hji11u
     have hji11l : a2 ≤ 64 → (wrap64 (2 ^ a2.toNat)) = ji11 := fun h_ => (i64_w _).symm.trans (hji11v h_)
     replace H := Option.bind_eq_some_iff.mp H
     obtain ⟨⟨t237, t238⟩, A120, H⟩ := H
     replace H : (some (t237, t238, true)) = some (r1, r2, r3) := H
     have A12 := Aside0.mk A120
     clear A120
     simp only [Option.some.injEq, Prod.mk.injEq] at H
     obtain ⟨rfl, rfl, rfl⟩ := H
     go_enter Tryd.func32, Tryd.ntmps32
     try go_wp2_with (first | ((with_reducible refine gate_callee (f := 139) rfl ?_); refine goesL_ (some 17) rfl rfl Tryd.func139 (by kernel_rfl) rfl #[.string a0, .string a1, .int .i64 a2] rfl (by (try simp only [List.map_toArray, List.map_cons, List.map_nil]); first | done | rfl | (simp only [List.length_drop, List.length_take]; rfl)) ?_; (with_reducible refine (spec_waSmall.calls k a0 a1 a2 true _ A4.out).mono ?_); rintro e w' ⟨rfl, ⟨nd, rfl⟩⟩; refine ⟨_, rfl, ?_⟩) | ((with_reducible refine gate_callee (f := 124) rfl ?_); refine goesL_ (some 22) rfl rfl Tryd.func124 (by kernel_rfl) rfl #[.string a0, .string a1] rfl (by (try simp only [List.map_toArray, List.map_cons, List.map_nil]); first | done | rfl | (simp only [List.length_drop, List.length_take]; rfl)) ?_; (with_reducible refine (spec_waNumbers.calls k a0 a1 t230 t231 t232 _ A6.out).mono ?_); rintro e w' ⟨rfl, ⟨nd, rfl⟩⟩; refine ⟨_, rfl, ?_⟩))
     obtain ⟨i, hi⟩ := Int.eq_ofNat_of_zero_le (of_decide_eq_true c8b0)
     subst hi
     have c9n : i < t233.length := by have := of_decide_eq_true c9b0; omega
     have cs : ∀ W, Calls Tryd.prog 141 #[.int .i64 t230, .int .i64 t232, .int .i64 a2] W fun e w' => ∃ g cap, e = .returned (.slice (some ⟨g, 0, none⟩) t233.length cap) ∧ w'.cell? ⟨g, i, none⟩ = some (.int .i64 (rd t233 i)) ∧ Below W.heap.size W w' := by
      intro W
      refine (spec_waChances.calls k t230 t232 a2 t233 W A7.out).mono ?_
      rintro e w' ⟨v, rfl, hR, hb⟩
      obtain ⟨g, cap, rfl, _⟩ := Kd.R_form hR (by omega)
      exact ⟨g, cap, rfl, (Kd.R_cell (enc := Value.int .i64) (h1 := fun _ => rfl) 0 hR i (by omega) (by omega)).1, hb⟩
     have Hcs := Aside0.mk cs
     clear cs
     go_region_with (first | (go_at_call 141; refine (Hcs.out _).mono ?_; rintro e w1 ⟨g, cap, rfl, hcell, hb⟩) | (go_at_call 134; refine (spec_waLow.calls _ _ _ _ _ _ A12.out).mono ?_; rintro e w3 ⟨rfl, ⟨nd2, rfl⟩⟩))
     all_goals
      go_wp2
      go_ret3
      exact ⟨by first | rfl | simp, by repeat (first | assumption | exact HB.out | exact below_step (by repeat (first | exact HB.out | apply below_alloc | apply pw_below_drewN | apply below_drew1)) hb | apply pw_below_drewN | apply below_drew1)⟩
    ·rw [if_neg c10] at H
     exact absurd H (by simp)
   ·rw [if_neg c9] at H
    exact absurd H (by simp)
  ·rw [if_neg c8] at H
   exact absurd H (by simp)
 ·replace c5 := Bool.eq_false_iff.mpr c5
  subst c5
  have H1 : (some (0, 0, false)) = some (r1, r2, r3) := by rw [if_neg (show ¬ (false = true) by decide)] at H; exact H
  clear H
  have H := H1
  clear H1
  simp only [Option.some.injEq, Prod.mk.injEq] at H
  obtain ⟨rfl, rfl, rfl⟩ := H
  go_enter Tryd.func32, Tryd.ntmps32
  go_wp2_with (first | ((with_reducible refine gate_callee (f := 139) rfl ?_); refine goesL_ (some 17) rfl rfl Tryd.func139 (by kernel_rfl) rfl #[.string a0, .string a1, .int .i64 a2] rfl (by (try simp only [List.map_toArray, List.map_cons, List.map_nil]); first | done | rfl | (simp only [List.length_drop, List.length_take]; rfl)) ?_; (with_reducible refine (spec_waSmall.calls k a0 a1 a2 false _ A4.out).mono ?_); rintro e w' ⟨rfl, ⟨nd, rfl⟩⟩; refine ⟨_, rfl, ?_⟩))
  go_ret3
  exact ⟨by first | rfl | (simp [errW_none, errW_some] <;> rfl) | (simp [*, errW_none, errW_some] <;> rfl), by repeat (first | (with_reducible first | exact HB.out | apply below_alloc | apply pw_below_drewN | apply below_drew1) | exact HB.out)⟩

end Go.Proofs.YtkdfhgilpnohpaaDoor.Wk
