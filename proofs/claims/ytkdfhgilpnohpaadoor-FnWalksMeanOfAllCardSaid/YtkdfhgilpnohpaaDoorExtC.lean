/- The contract of impl.ChanceAfter (the printer's own text of it falls at the region that draws its order; that region is walked by hand here). -/
import Derived.Test.YtkdfhgilpnohpaaDoorWk0
import Derived.Test.YtkdfhgilpnohpaaDoorWk2
import Derived.Test.YtkdfhgilpnohpaaDoorWk4
import Derived.Test.YtkdfhgilpnohpaaDoorWk5
import Derived.Test.YtkdfhgilpnohpaaDoorWk6
import Derived.Deep.RegionWith
namespace Go.Proofs.YtkdfhgilpnohpaaDoor.Wk
open Go.RowKit Go.Proofs.YtkdfhgilpnohpaaDoorW.PrintWords Go.Proofs.YtkdfhgilpnohpaaDoorW.PrintLast Go.Proofs.YtkdfhgilpnohpaaDoorW.PrintMore
attribute [local go_sem] max2_int min2_int max_two min_two max_three min_three max_four min_four   -- for this text's walks alone
set_option linter.unusedVariables false
set_option linter.unusedSimpArgs false

/-! ### impl_ChanceAfter: function 31 -/
def impl_ChanceAfter.j0 : Nat → ByteArray → ByteArray → Int → Bool → Option (Int × Int × Bool)
 | 0, _, _, _, _ => none
 | k + 1, x0, x1, x2, x24 => if x24 = true then (some (0, 0, false)) else ((impl_spread.f k x0 x2 2).bind fun t216 => ((impl_number.f k x1).bind fun t219 => (if 0 ≤ t219 then (if t219 < (t216.length : Int) then (if 0 ≤ x2 then ((impl_lowest.f k (rd t216 t219) (shl .i64 1 x2)).bind fun bt221 => (some (bt221.1, bt221.2, true))) else (none)) else (none)) else (none))))
def impl_ChanceAfter.f (k : Nat) (a0 : ByteArray) (a1 : ByteArray) (a2 : Int) : Option (Int × Int × Bool) := (impl_alike.f a0 a1).bind fun t213 => (if t213 = true then ((impl_isWalk.f a0).bind fun t214 => (if t214 = true then ((impl_in.f a2 0 40).bind fun t215 => (impl_ChanceAfter.j0 k a0 a1 a2 (!t215))) else (impl_ChanceAfter.j0 k a0 a1 a2 true))) else (impl_ChanceAfter.j0 k a0 a1 a2 true))
theorem impl_ChanceAfter.mono_l : ∀ k, (∀ y0 y1 y2 y3, LeO (impl_ChanceAfter.j0 k y0 y1 y2 y3) (impl_ChanceAfter.j0 (k + 1) y0 y1 y2 y3))
 | 0 => fun _ _ _ _ r h => by simp [impl_ChanceAfter.j0] at h
 | k + 1 => by
  have ih0 := impl_ChanceAfter.mono_l k
  ·intro y0 y1 y2 y3
   unfold impl_ChanceAfter.j0
   repeat' first
   | (with_reducible exact ih0 _ _ _ _)
   | (with_reducible exact impl_lowest.mono _ _ _)
   | (with_reducible exact impl_number.mono _ _)
   | (with_reducible exact impl_spread.mono _ _ _ _)
   | (with_reducible exact LeO.refl _)
   | (with_reducible exact LeO.none _)
   | (with_reducible refine LeO.ite ?_ ?_)
   | (with_reducible refine LeO.bind ?_ (fun _ => ?_))
   | exact ih0 _ _ _ _
   | exact impl_lowest.mono _ _ _
   | exact impl_number.mono _ _
   | exact impl_spread.mono _ _ _ _
   | exact LeO.none _
   | refine LeO.ite ?_ ?_
   | refine LeO.bind ?_ (fun _ => ?_)
theorem impl_ChanceAfter.mono : ∀ a0 a1 a2 k, LeO (impl_ChanceAfter.f k a0 a1 a2) (impl_ChanceAfter.f (k + 1) a0 a1 a2) := by
 intro a0 a1 a2 k
 have ih0 := impl_ChanceAfter.mono_l k
 unfold impl_ChanceAfter.f
 repeat' first
   | (with_reducible exact ih0 _ _ _ _)
   | (with_reducible exact impl_lowest.mono _ _ _)
   | (with_reducible exact impl_number.mono _ _)
   | (with_reducible exact impl_spread.mono _ _ _ _)
   | (with_reducible exact LeO.refl _)
   | (with_reducible exact LeO.none _)
   | (with_reducible refine LeO.ite ?_ ?_)
   | (with_reducible refine LeO.bind ?_ (fun _ => ?_))
   | exact ih0 _ _ _ _
   | exact impl_lowest.mono _ _ _
   | exact impl_number.mono _ _
   | exact impl_spread.mono _ _ _ _
   | exact LeO.none _
   | refine LeO.ite ?_ ?_
   | refine LeO.bind ?_ (fun _ => ?_)
def impl_ChanceAfter.T3 : Bool × List (List Nat × List Nat) := (true, [([], []), ([], []), ([0, 1], [0, 1]), ([], []), ([3, 2], [3]), ([2, 4], [2, 4]), ([5], [5]), ([], []), ([7], [7]), ([6, 8, 4], [6, 8]), ([9], [9]), ([10], [10]), ([10], [10]), ([11, 9, 0, 1, 2, 3, 4, 5, 6, 7, 8, 9, 10, 11], [11]), ([12, 13, 0, 1, 2, 3, 4, 5, 6, 7, 8, 9, 10, 11, 12, 13], [12])])
def impl_ChanceAfter.B3 : List Nat := [0, 0, 3, 0, 15, 31, 63, 0, 128, 511, 1023, 2047, 2047, 4095, 16383]
theorem impl_ChanceAfter.tab3 : rtab .any (opsOf Tryd.f31 3) = impl_ChanceAfter.T3 := by kernel_rfl
theorem impl_ChanceAfter.bits3 : waitsOk impl_ChanceAfter.T3.2 impl_ChanceAfter.B3 = true := by kernel_rfl
set_option maxHeartbeats 8000000 in
set_option maxRecDepth 100000 in
theorem impl_ChanceAfter.calls (k : Nat) (a0 : ByteArray) (a1 : ByteArray) (a2 : Int) (r1 : Int) (r2 : Int) (r3 : Bool) (w : World) (h : impl_ChanceAfter.f k a0 a1 a2 = some (r1, r2, r3)) :
  Calls Tryd.prog 31 #[.string a0, .string a1, .int .i64 a2] w fun e w' => e = .returned (.tuple #[.int .i64 r1, .int .i64 r2, .bool r3]) ∧ Below w.heap.size w w' := by
 have HB := Aside0.mk (Below.refl w.heap.size w)
 have H : ((impl_alike.f a0 a1).bind fun t213 => (if t213 = true then ((impl_isWalk.f a0).bind fun t214 => (if t214 = true then ((impl_in.f a2 0 40).bind fun t215 => (impl_ChanceAfter.j0 k a0 a1 a2 (!t215))) else (impl_ChanceAfter.j0 k a0 a1 a2 true))) else (impl_ChanceAfter.j0 k a0 a1 a2 true))) = some (r1, r2, r3) := h
 clear h
 have HC4 := Aside0.mk H
 clear H
 go_enter Tryd.func31, Tryd.ntmps31
 go_upto_region 1 with (fail)
 go_cut [24] (fun v24 wc => ∃ (kq : Nat) (x24_3 : Bool), v24 = .bool x24_3 ∧ Aside0 (impl_ChanceAfter.j0 kq a0 a1 a2 x24_3 = some (r1, r2, r3)) ∧ Aside0 (kq ≤ k) ∧ Aside0 (Below w.heap.size w wc))
 case first =>
  have H := HC4.out
  clear HC4
  replace H := Option.bind_eq_some_iff.mp H
  obtain ⟨t213, A50, H⟩ := H
  replace H : (if t213 = true then ((impl_isWalk.f a0).bind fun t214 => (if t214 = true then ((impl_in.f a2 0 40).bind fun t215 => (impl_ChanceAfter.j0 k a0 a1 a2 (!t215))) else (impl_ChanceAfter.j0 k a0 a1 a2 true))) else (impl_ChanceAfter.j0 k a0 a1 a2 true)) = some (r1, r2, r3) := H
  have A5 := Aside0.mk A50
  clear A50
  by_cases c6 : t213 = true
  ·subst c6
   have H1 : ((impl_isWalk.f a0).bind fun t214 => (if t214 = true then ((impl_in.f a2 0 40).bind fun t215 => (impl_ChanceAfter.j0 k a0 a1 a2 (!t215))) else (impl_ChanceAfter.j0 k a0 a1 a2 true))) = some (r1, r2, r3) := by rw [if_pos rfl] at H; exact H
   clear H
   have H := H1
   clear H1
   replace H := Option.bind_eq_some_iff.mp H
   obtain ⟨t214, A70, H⟩ := H
   replace H : (if t214 = true then ((impl_in.f a2 0 40).bind fun t215 => (impl_ChanceAfter.j0 k a0 a1 a2 (!t215))) else (impl_ChanceAfter.j0 k a0 a1 a2 true)) = some (r1, r2, r3) := H
   have A7 := Aside0.mk A70
   clear A70
   by_cases c8 : t214 = true
   ·subst c8
    have H1 : ((impl_in.f a2 0 40).bind fun t215 => (impl_ChanceAfter.j0 k a0 a1 a2 (!t215))) = some (r1, r2, r3) := by rw [if_pos rfl] at H; exact H
    clear H
    have H := H1
    clear H1
    replace H := Option.bind_eq_some_iff.mp H
    obtain ⟨t215, A90, H⟩ := H
    replace H : (impl_ChanceAfter.j0 k a0 a1 a2 (!t215)) = some (r1, r2, r3) := H
    have A9 := Aside0.mk A90
    clear A90
    have H' := Aside0.mk H
    clear H
    go_wp2_with (first | ((with_reducible refine gate_callee (f := 120) rfl ?_); refine goesL_ (some 13) rfl rfl Tryd.func120 (by kernel_rfl) rfl #[.string a0, .string a1] rfl (by (try simp only [List.map_toArray, List.map_cons, List.map_nil]); first | done | rfl | (simp only [List.length_drop, List.length_take]; rfl)) ?_; (with_reducible refine (impl_alike.calls a0 a1 true _ A5.out).mono ?_); rintro e w10 ⟨rfl, hb⟩; refine ⟨_, rfl, ?_⟩; have n0_ := Aside0.mk (below_step (by repeat (first | (with_reducible first | exact HB.out | apply below_alloc | apply pw_below_drewN | apply below_drew1) | exact HB.out)) hb); clear HB; have HB := n0_; clear n0_; (try clear hb); (try clear hb2); (try clear hk); (try clear hi)) | (go_at_call 136; (with_reducible refine (impl_isWalk.calls a0 true _ A7.out).mono ?_); rintro e w11 ⟨rfl, hb⟩; have n0_ := Aside0.mk (below_step (by repeat (first | (with_reducible first | exact HB.out | apply below_alloc | apply pw_below_drewN | apply below_drew1) | exact HB.out)) hb); clear HB; have HB := n0_; clear n0_; (try clear hb); (try clear hb2); (try clear hk); (try clear hi)) | (go_at_call 137; (with_reducible refine (impl_in.calls a2 0 40 t215 _ A9.out).mono ?_); rintro e w' ⟨rfl, ⟨nd, rfl⟩⟩))
    go_meet
    case rel => exact ⟨_, (!t215), (by first | rfl | (simp; done) | (simp [*]; done)), H', ⟨by first | omega | exact Nat.le_refl _⟩, ⟨by repeat (first | (with_reducible first | exact HB.out | apply below_alloc | apply pw_below_drewN | apply below_drew1) | exact HB.out)⟩⟩
   ·replace c8 := Bool.eq_false_iff.mpr c8
    subst c8
    have H1 : (impl_ChanceAfter.j0 k a0 a1 a2 true) = some (r1, r2, r3) := by rw [if_neg (show ¬ (false = true) by decide)] at H; exact H
    clear H
    have H := H1
    clear H1
    have H' := Aside0.mk H
    clear H
    go_wp2_with (first | ((with_reducible refine gate_callee (f := 120) rfl ?_); refine goesL_ (some 13) rfl rfl Tryd.func120 (by kernel_rfl) rfl #[.string a0, .string a1] rfl (by (try simp only [List.map_toArray, List.map_cons, List.map_nil]); first | done | rfl | (simp only [List.length_drop, List.length_take]; rfl)) ?_; (with_reducible refine (impl_alike.calls a0 a1 true _ A5.out).mono ?_); rintro e w12 ⟨rfl, hb⟩; refine ⟨_, rfl, ?_⟩; have n0_ := Aside0.mk (below_step (by repeat (first | (with_reducible first | exact HB.out | apply below_alloc | apply pw_below_drewN | apply below_drew1) | exact HB.out)) hb); clear HB; have HB := n0_; clear n0_; (try clear hb); (try clear hb2); (try clear hk); (try clear hi)) | (go_at_call 136; (with_reducible refine (impl_isWalk.calls a0 false _ A7.out).mono ?_); rintro e w13 ⟨rfl, hb⟩; have n0_ := Aside0.mk (below_step (by repeat (first | (with_reducible first | exact HB.out | apply below_alloc | apply pw_below_drewN | apply below_drew1) | exact HB.out)) hb); clear HB; have HB := n0_; clear n0_; (try clear hb); (try clear hb2); (try clear hk); (try clear hi)))
    go_meet
    case rel => exact ⟨_, (true), (by first | rfl | (simp; done) | (simp [*]; done)), H', ⟨by first | omega | exact Nat.le_refl _⟩, ⟨by repeat (first | (with_reducible first | exact HB.out | apply below_alloc | apply pw_below_drewN | apply below_drew1) | exact HB.out)⟩⟩
  ·replace c6 := Bool.eq_false_iff.mpr c6
   subst c6
   have H1 : (impl_ChanceAfter.j0 k a0 a1 a2 true) = some (r1, r2, r3) := by rw [if_neg (show ¬ (false = true) by decide)] at H; exact H
   clear H
   have H := H1
   clear H1
   have H' := Aside0.mk H
   clear H
   go_wp2_with (first | ((with_reducible refine gate_callee (f := 120) rfl ?_); refine goesL_ (some 13) rfl rfl Tryd.func120 (by kernel_rfl) rfl #[.string a0, .string a1] rfl (by (try simp only [List.map_toArray, List.map_cons, List.map_nil]); first | done | rfl | (simp only [List.length_drop, List.length_take]; rfl)) ?_; (with_reducible refine (impl_alike.calls a0 a1 false _ A5.out).mono ?_); rintro e w14 ⟨rfl, hb⟩; refine ⟨_, rfl, ?_⟩; have n0_ := Aside0.mk (below_step (by repeat (first | (with_reducible first | exact HB.out | apply below_alloc | apply pw_below_drewN | apply below_drew1) | exact HB.out)) hb); clear HB; have HB := n0_; clear n0_; (try clear hb); (try clear hb2); (try clear hk); (try clear hi)))
   go_meet
   case rel => exact ⟨_, (true), (by first | rfl | (simp; done) | (simp [*]; done)), H', ⟨by first | omega | exact Nat.le_refl _⟩, ⟨by repeat (first | (with_reducible first | exact HB.out | apply below_alloc | apply pw_below_drewN | apply below_drew1) | exact HB.out)⟩⟩
 case rest =>
  clear HC4
  try clear c1
  try clear p2
  try clear c3
  try clear c6
  try clear c8
  try clear c12
  obtain ⟨kq, x24_3, rfl, HA, HJ3, HB⟩ := hcut
  cases kq with
  | zero => exact absurd HA.out (by simp [impl_ChanceAfter.j0])
  | succ kj3 =>
   have H := HA.out
   clear HA
   simp only [impl_ChanceAfter.j0] at H
   by_cases c15 : x24_3 = true
   ·subst c15
    have H1 : (some (0, 0, false)) = some (r1, r2, r3) := by rw [if_pos rfl] at H; exact H
    clear H
    have H := H1
    clear H1
    simp only [Option.some.injEq, Prod.mk.injEq] at H
    obtain ⟨rfl, rfl, rfl⟩ := H
    go_wp2
    go_ret3
    exact ⟨by first | rfl | (simp [errW_none, errW_some] <;> rfl) | (simp [*, errW_none, errW_some] <;> rfl), by repeat (first | (with_reducible first | exact HB.out | apply below_alloc | apply pw_below_drewN | apply below_drew1) | exact HB.out)⟩
   ·replace c15 := Bool.eq_false_iff.mpr c15
    subst c15
    have H1 : ((impl_spread.f kj3 a0 a2 2).bind fun t216 => ((impl_number.f kj3 a1).bind fun t219 => (if 0 ≤ t219 then (if t219 < (t216.length : Int) then (if 0 ≤ a2 then ((impl_lowest.f kj3 (rd t216 t219) (shl .i64 1 a2)).bind fun bt221 => (some (bt221.1, bt221.2, true))) else (none)) else (none)) else (none)))) = some (r1, r2, r3) := by rw [if_neg (show ¬ (false = true) by decide)] at H; exact H
    clear H
    have H := H1
    clear H1
    replace H := Option.bind_eq_some_iff.mp H
    obtain ⟨t216, A160, H⟩ := H
    replace H : ((impl_number.f kj3 a1).bind fun t219 => (if 0 ≤ t219 then (if t219 < (t216.length : Int) then (if 0 ≤ a2 then ((impl_lowest.f kj3 (rd t216 t219) (shl .i64 1 a2)).bind fun bt221 => (some (bt221.1, bt221.2, true))) else (none)) else (none)) else (none))) = some (r1, r2, r3) := H
    have A16 := Aside0.mk A160
    clear A160
    replace H := Option.bind_eq_some_iff.mp H
    obtain ⟨t219, A170, H⟩ := H
    replace H : (if 0 ≤ t219 then (if t219 < (t216.length : Int) then (if 0 ≤ a2 then ((impl_lowest.f kj3 (rd t216 t219) (shl .i64 1 a2)).bind fun bt221 => (some (bt221.1, bt221.2, true))) else (none)) else (none)) else (none)) = some (r1, r2, r3) := H
    have A17 := Aside0.mk A170
    clear A170
    by_cases c18 : 0 ≤ t219
    ·rw [if_pos c18] at H
     have c18b0 : decide (0 ≤ t219) = true := decide_eq_true c18
     clear c18
     by_cases c19 : t219 < (t216.length : Int)
     ·rw [if_pos c19] at H
      have c19b0 : decide (t219 < (t216.length : Int)) = true := decide_eq_true c19
      clear c19
      by_cases c20 : 0 ≤ a2
      ·rw [if_pos c20] at H
       have c20b0 := eq_true c20
       have c20b1 : decide (0 ≤ a2) = true := decide_eq_true c20
       clear c20
       obtain ⟨ji21, hji21⟩ : ∃ j_ : Int, (shl .i64 1 a2) = j_ := ⟨_, rfl⟩
       replace H : ((impl_lowest.f kj3 (rd t216 t219) (ji21)).bind fun bt221 => (some (bt221.1, bt221.2, true))) = some (r1, r2, r3) := by first | (rw [hji21] at H; exact H) | (simp only [hji21] at H ⊢; exact H)
       (try rw [hji21] at A16)
       (try rw [hji21] at A17)
       have hji21_ : (IntKind.i64.wrap (1 * 2 ^ min a2.toNat 64)) = ji21 := hji21
       have hji21z : a2 ≤ 64 → (IntKind.i64.wrap (1 * 2 ^ a2.toNat)) = ji21 := shl_small hji21
       have hji21u : (IntKind.i64.wrap (2 ^ min a2.toNat 64)) = ji21 := by have h_ := hji21_; rw [Int.one_mul] at h_; exact h_
       have hji21v : a2 ≤ 64 → (IntKind.i64.wrap (2 ^ a2.toNat)) = ji21 := fun hle_ => by have h_ := hji21z hle_; rw [Int.one_mul] at h_; exact h_
       have hji21y : (wrap64 (1 * 2 ^ min a2.toNat 64)) = ji21 := (i64_w _).symm.trans hji21_
       have hji21x : a2 ≤ 64 → (wrap64 (1 * 2 ^ a2.toNat)) = ji21 := fun h_ => (i64_w _).symm.trans (hji21z h_)
       have hji21k : (wrap64 (2 ^ min a2.toNat 64)) = ji21 := (i64_w _).symm.trans hji21u
       have hji21l : a2 ≤ 64 → (wrap64 (2 ^ a2.toNat)) = ji21 := fun h_ => (i64_w _).symm.trans (hji21v h_)
       replace H := Option.bind_eq_some_iff.mp H
       obtain ⟨⟨t221, t222⟩, A220, H⟩ := H
       replace H : (some (t221, t222, true)) = some (r1, r2, r3) := H
       have A22 := Aside0.mk A220
       clear A220
       simp only [Option.some.injEq, Prod.mk.injEq] at H
       obtain ⟨rfl, rfl, rfl⟩ := H
       obtain ⟨i, hi⟩ := Int.eq_ofNat_of_zero_le (of_decide_eq_true c18b0)
       subst hi
       have c19n : i < t216.length := by have := of_decide_eq_true c19b0; omega
       have cs : ∀ W, Calls Tryd.prog 138 #[.string a0, .int .i64 a2, .int .i64 2] W fun e w' => ∃ g cap, e = .returned (.slice (some ⟨g, 0, none⟩) t216.length cap) ∧ w'.cell? ⟨g, i, none⟩ = some (.int .i64 (rd t216 i)) ∧ Below W.heap.size W w' := by
        intro W
        refine (impl_spread.calls kj3 a0 a2 2 t216 W A16.out).mono ?_
        rintro e w' ⟨v, rfl, hR, hb⟩
        obtain ⟨g, cap, rfl, _⟩ := Kd.R_form hR (by omega)
        exact ⟨g, cap, rfl, (Kd.R_cell (enc := Value.int .i64) (h1 := fun _ => rfl) 0 hR i (by omega) (by omega)).1, hb⟩
       have Hcs := Aside0.mk cs
       clear cs
       go_wp2
       go_region_with (first | (go_at_call 138; refine (Hcs.out _).mono ?_; rintro e w1 ⟨g, cap, rfl, hcell, hb⟩) | (go_at_call 122; refine (impl_number.calls kj3 a1 i _ A17.out).mono ?_; rintro e w2 ⟨rfl, ⟨nd, rfl⟩⟩) | (go_at_call 133; refine (impl_lowest.calls _ _ _ _ _ _ A22.out).mono ?_; rintro e w3 ⟨rfl, ⟨nd2, rfl⟩⟩))
       go_wp2
       go_ret3
       exact ⟨by first | rfl | simp, by repeat (first | assumption | exact HB.out | exact below_step (by repeat (first | exact HB.out | apply below_alloc | apply pw_below_drewN | apply below_drew1)) hb | apply pw_below_drewN | apply below_drew1)⟩
      ·rw [if_neg c20] at H
       exact absurd H (by simp)
     ·rw [if_neg c19] at H
      exact absurd H (by simp)
    ·rw [if_neg c18] at H
     exact absurd H (by simp)
end Go.Proofs.YtkdfhgilpnohpaaDoor.Wk
