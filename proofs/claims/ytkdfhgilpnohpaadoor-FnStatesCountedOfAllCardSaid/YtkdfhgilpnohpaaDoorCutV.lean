/- A cut whose relation leaves the forgotten slots to one function: one existential for all of them. No program is in sight. -/
import Derived.Deep.DeepCutAuto
namespace Go.Proofs.YtkdfhgilpnohpaaDoor
open Go

/-- The frame behind a cut: 0 keeps a slot of the frame before, 1 takes the way's own, k + 2 the k-th listed value. -/
def mix : List Nat → List Value → List Value → List Value → List Value
  | 0 :: m, y :: a, vs, l => y :: mix m a vs l.tail
  | 1 :: m, _ :: a, vs, l => l.headD .nilIface :: mix m a vs l.tail
  | (k + 2) :: m, _ :: a, vs, l => vs.getD k .nilIface :: mix m a vs l.tail
  | _, _, _, _ => []
def mixF : List Nat → List Value → List Value → (Nat → Value) → Nat → List Value
  | 0 :: m, y :: a, vs, f, n => y :: mixF m a vs f (n + 1)
  | 1 :: m, _ :: a, vs, f, n => f n :: mixF m a vs f (n + 1)
  | (k + 2) :: m, _ :: a, vs, f, n => vs.getD k .nilIface :: mixF m a vs f (n + 1)
  | _, _, _, _, _ => []
theorem mix_mixF (m : List Nat) : ∀ (a vs l : List Value) (f : Nat → Value) (n : Nat), (∀ i, f (n + i) = l.getD i .nilIface) → mix m a vs l = mixF m a vs f n := by
  induction m with
  | nil => intro a vs l f n h; simp [mix, mixF]
  | cons c m ih =>
    intro a vs l f n h
    cases a with
    | nil => match c with
      | 0 => simp [mix, mixF]
      | 1 => simp [mix, mixF]
      | k + 2 => simp [mix, mixF]
    | cons y a =>
      have h0 : f n = l.headD .nilIface := by
        have := h 0
        cases l <;> simpa using this
      have ht : ∀ i, f (n + 1 + i) = l.tail.getD i .nilIface := by
        intro i
        have := h (i + 1)
        rw [show n + (i + 1) = n + 1 + i by omega] at this
        rw [this]
        cases l <;> simp
      have := ih a vs l.tail f (n + 1) ht
      match c with
      | 0 => simp only [mix, mixF, this]
      | 1 => simp only [mix, mixF, this, h0]
      | k + 2 => simp only [mix, mixF, this]

/-- What the listed slots hold (asked for where a way ends: it tells the listed values at once). -/
def picked (l : List Value) : List Nat → List Value → Prop
  | i :: is, v :: vs => (l.drop i).head? = some v ∧ picked l is vs
  | [], [] => True
  | _, _ => False

theorem wp_cutv {P : Program} {s : Code} {K : Act → World → Prop} {Q' : Exit → Act → World → Prop} {l0 : List Value} {d : _} {w : World} (slots mask : List Nat) (R : List Value → World → Prop)
    (first : ∀ (J K' : Act → World → Prop), (∀ a' w', (∃ vs, picked a'.tmps.toList slots vs ∧ R vs w' ∧ a' = ⟨(mix mask l0 vs a'.tmps.toList).toArray, d⟩) → J a' w') → (∀ a' w', Met J a' w' → K' a' w') → s.wp P (Exit.then K' Q') ⟨l0.toArray, d⟩ w)
    (rest : ∀ vs f w', R vs w' → K ⟨(mixF mask l0 vs f 0).toArray, d⟩ w') : s.wp P (Exit.then K Q') ⟨l0.toArray, d⟩ w := by
  refine wp_cut (fun a' w' => ∃ vs, picked a'.tmps.toList slots vs ∧ R vs w' ∧ a' = ⟨(mix mask l0 vs a'.tmps.toList).toArray, d⟩) ?_ first
  rintro a' w' ⟨vs, _, hR, ha⟩
  rw [ha, mix_mixF mask l0 vs a'.tmps.toList (fun i => a'.tmps.toList.getD i .nilIface) 0 (fun i => by simp)]
  exact rest vs _ w' hR
end Go.Proofs.YtkdfhgilpnohpaaDoor
