-- Written by a program of this session's: a turned copy of the kit's printer, over hand-proved contracts of some functions. Not trusted: Lean checks it.
import Derived.Test.YtkdfhgilpnohpaaDoorCutV
import Derived.Test.YtkdfhgilpnohpaaDoorWk12d
import Derived.Test.YtkdfhgilpnohpaaDoorWk0
import Derived.Test.YtkdfhgilpnohpaaDoorWk2
import Derived.Test.YtkdfhgilpnohpaaDoorWk3
import Derived.Test.YtkdfhgilpnohpaaDoorWk4
import Derived.Test.YtkdfhgilpnohpaaDoorWk5
import Derived.Test.YtkdfhgilpnohpaaDoorWk6
import Derived.Test.YtkdfhgilpnohpaaDoorWk7
import Derived.Test.YtkdfhgilpnohpaaDoorWk11
import Derived.Test.YtkdfhgilpnohpaaDoorExtB
import Derived.Test.YtkdfhgilpnohpaaDoorExtC
import Derived.Test.YtkdfhgilpnohpaaDoorExtD
namespace Go.Proofs.YtkdfhgilpnohpaaDoor.Wk
open Go.RowKit Go.Proofs.YtkdfhgilpnohpaaDoorW.PrintWords Go.Proofs.YtkdfhgilpnohpaaDoorW.PrintLast Go.Proofs.YtkdfhgilpnohpaaDoorW.PrintMore
attribute [local go_sem] max2_int min2_int max_two min_two max_three min_three max_four min_four   -- for this text's walks alone
set_option linter.unusedVariables false
set_option linter.unusedSimpArgs false

theorem laws_FnWalksMeanOfAll.mono_l : ∀ k, (∀ y0 y1 y2 y3 y4 y5 y6 y7 y8, LeO (laws_FnWalksMeanOfAll.j0 k y0 y1 y2 y3 y4 y5 y6 y7 y8) (laws_FnWalksMeanOfAll.j0 (k + 1) y0 y1 y2 y3 y4 y5 y6 y7 y8)) ∧ (∀ y0 y1 y2 y3 y4 y5 y6 y7 y8 y9 y10, LeO (laws_FnWalksMeanOfAll.j1 k y0 y1 y2 y3 y4 y5 y6 y7 y8 y9 y10) (laws_FnWalksMeanOfAll.j1 (k + 1) y0 y1 y2 y3 y4 y5 y6 y7 y8 y9 y10)) ∧ (∀ y0 y1 y2 y3 y4 y5, LeO (laws_FnWalksMeanOfAll.j4 k y0 y1 y2 y3 y4 y5) (laws_FnWalksMeanOfAll.j4 (k + 1) y0 y1 y2 y3 y4 y5)) ∧ (∀ y0 y1 y2 y3 y4 y5 y6 y7 y8 y9 y10 y11 y12 y13 y14, LeO (laws_FnWalksMeanOfAll.j5 k y0 y1 y2 y3 y4 y5 y6 y7 y8 y9 y10 y11 y12 y13 y14) (laws_FnWalksMeanOfAll.j5 (k + 1) y0 y1 y2 y3 y4 y5 y6 y7 y8 y9 y10 y11 y12 y13 y14)) ∧ (∀ y0 y1 y2 y3 y4 y5 y6 y7, LeO (laws_FnWalksMeanOfAll.j6 k y0 y1 y2 y3 y4 y5 y6 y7) (laws_FnWalksMeanOfAll.j6 (k + 1) y0 y1 y2 y3 y4 y5 y6 y7)) ∧ (∀ y0 y1 y2 y3 y4 y5 y6 y7, LeO (laws_FnWalksMeanOfAll.j7 k y0 y1 y2 y3 y4 y5 y6 y7) (laws_FnWalksMeanOfAll.j7 (k + 1) y0 y1 y2 y3 y4 y5 y6 y7)) ∧ (∀ y0 y1 y2 y3 y4 y5 y6 y7, LeO (laws_FnWalksMeanOfAll.j8 k y0 y1 y2 y3 y4 y5 y6 y7) (laws_FnWalksMeanOfAll.j8 (k + 1) y0 y1 y2 y3 y4 y5 y6 y7)) ∧ (∀ y0 y1 y2 y3 y4, LeO (laws_FnWalksMeanOfAll.j9 k y0 y1 y2 y3 y4) (laws_FnWalksMeanOfAll.j9 (k + 1) y0 y1 y2 y3 y4)) ∧ (∀ y0 y1 y2 y3 y4 y5 y6 y7 y8, LeO (laws_FnWalksMeanOfAll.l1 k y0 y1 y2 y3 y4 y5 y6 y7 y8) (laws_FnWalksMeanOfAll.l1 (k + 1) y0 y1 y2 y3 y4 y5 y6 y7 y8)) ∧ (∀ y0 y1 y2 y3 y4 y5 y6 y7 y8 y9, LeO (laws_FnWalksMeanOfAll.j2 k y0 y1 y2 y3 y4 y5 y6 y7 y8 y9) (laws_FnWalksMeanOfAll.j2 (k + 1) y0 y1 y2 y3 y4 y5 y6 y7 y8 y9)) ∧ (∀ y0 y1 y2 y3 y4 y5 y6 y7 y8 y9 y10 y11 y12 y13 y14, LeO (laws_FnWalksMeanOfAll.l0 k y0 y1 y2 y3 y4 y5 y6 y7 y8 y9 y10 y11 y12 y13 y14) (laws_FnWalksMeanOfAll.l0 (k + 1) y0 y1 y2 y3 y4 y5 y6 y7 y8 y9 y10 y11 y12 y13 y14))
 | 0 => ⟨fun _ _ _ _ _ _ _ _ _ r h => by simp [laws_FnWalksMeanOfAll.j0] at h, fun _ _ _ _ _ _ _ _ _ _ _ r h => by simp [laws_FnWalksMeanOfAll.j1] at h, fun _ _ _ _ _ _ r h => by simp [laws_FnWalksMeanOfAll.j4] at h, fun _ _ _ _ _ _ _ _ _ _ _ _ _ _ _ r h => by simp [laws_FnWalksMeanOfAll.j5] at h, fun _ _ _ _ _ _ _ _ r h => by simp [laws_FnWalksMeanOfAll.j6] at h, fun _ _ _ _ _ _ _ _ r h => by simp [laws_FnWalksMeanOfAll.j7] at h, fun _ _ _ _ _ _ _ _ r h => by simp [laws_FnWalksMeanOfAll.j8] at h, fun _ _ _ _ _ r h => by simp [laws_FnWalksMeanOfAll.j9] at h, fun _ _ _ _ _ _ _ _ _ r h => by simp [laws_FnWalksMeanOfAll.l1] at h, fun _ _ _ _ _ _ _ _ _ _ r h => by simp [laws_FnWalksMeanOfAll.j2] at h, fun _ _ _ _ _ _ _ _ _ _ _ _ _ _ _ r h => by simp [laws_FnWalksMeanOfAll.l0] at h⟩
 | k + 1 => by
  obtain ⟨ih0, ih1, ih2, ih3, ih4, ih5, ih6, ih7, ih8, ih9, ih10⟩ := laws_FnWalksMeanOfAll.mono_l k
  refine ⟨?_, ?_, ?_, ?_, ?_, ?_, ?_, ?_, ?_, ?_, ?_⟩
  ·intro y0 y1 y2 y3 y4 y5 y6 y7 y8
   unfold laws_FnWalksMeanOfAll.j0
   repeat' first
   | (with_reducible exact ih0 _ _ _ _ _ _ _ _ _)
   | (with_reducible exact ih1 _ _ _ _ _ _ _ _ _ _ _)
   | (with_reducible exact ih2 _ _ _ _ _ _)
   | (with_reducible exact ih3 _ _ _ _ _ _ _ _ _ _ _ _ _ _ _)
   | (with_reducible exact ih4 _ _ _ _ _ _ _ _)
   | (with_reducible exact ih5 _ _ _ _ _ _ _ _)
   | (with_reducible exact ih6 _ _ _ _ _ _ _ _)
   | (with_reducible exact ih7 _ _ _ _ _)
   | (with_reducible exact ih8 _ _ _ _ _ _ _ _ _)
   | (with_reducible exact ih9 _ _ _ _ _ _ _ _ _ _)
   | (with_reducible exact ih10 _ _ _ _ _ _ _ _ _ _ _ _ _ _ _)
   | (with_reducible exact impl_ChanceAfter.mono _ _ _ _)
   | (with_reducible exact impl_ChanceBefore.mono _ _ _ _)
   | (with_reducible exact impl_FewestMoves.mono _ _ _)
   | (with_reducible exact impl_LikeliestAfter.mono _ _ _)
   | (with_reducible exact impl_MeanFrom.mono _ _ _)
   | (with_reducible exact impl_MeanToClear.mono _ _)
   | (with_reducible exact impl_MovesOf.mono _ _)
   | (with_reducible exact impl_WalksTo.mono _ _ _ _)
   | (with_reducible exact laws_yTexts.mono _ _ _)
   | (with_reducible exact spec_ChanceAfter.mono _ _ _ _)
   | (with_reducible exact spec_ChanceBefore.mono _ _ _ _)
   | (with_reducible exact spec_LikeliestAfter.mono _ _ _)
   | (with_reducible exact spec_MeanFrom.mono _ _ _)
   | (with_reducible exact spec_MeanToClear.mono _ _)
   | (with_reducible exact spec_WalksTo.mono _ _ _ _)
   | (with_reducible exact LeO.refl _)
   | (with_reducible exact LeO.none _)
   | (with_reducible refine LeO.ite ?_ ?_)
   | (with_reducible refine LeO.bind ?_ (fun _ => ?_))
   | exact ih0 _ _ _ _ _ _ _ _ _
   | exact ih1 _ _ _ _ _ _ _ _ _ _ _
   | exact ih2 _ _ _ _ _ _
   | exact ih3 _ _ _ _ _ _ _ _ _ _ _ _ _ _ _
   | exact ih4 _ _ _ _ _ _ _ _
   | exact ih5 _ _ _ _ _ _ _ _
   | exact ih6 _ _ _ _ _ _ _ _
   | exact ih7 _ _ _ _ _
   | exact ih8 _ _ _ _ _ _ _ _ _
   | exact ih9 _ _ _ _ _ _ _ _ _ _
   | exact ih10 _ _ _ _ _ _ _ _ _ _ _ _ _ _ _
   | exact impl_ChanceAfter.mono _ _ _ _
   | exact impl_ChanceBefore.mono _ _ _ _
   | exact impl_FewestMoves.mono _ _ _
   | exact impl_LikeliestAfter.mono _ _ _
   | exact impl_MeanFrom.mono _ _ _
   | exact impl_MeanToClear.mono _ _
   | exact impl_MovesOf.mono _ _
   | exact impl_WalksTo.mono _ _ _ _
   | exact laws_yTexts.mono _ _ _
   | exact spec_ChanceAfter.mono _ _ _ _
   | exact spec_ChanceBefore.mono _ _ _ _
   | exact spec_LikeliestAfter.mono _ _ _
   | exact spec_MeanFrom.mono _ _ _
   | exact spec_MeanToClear.mono _ _
   | exact spec_WalksTo.mono _ _ _ _
   | exact LeO.none _
   | refine LeO.ite ?_ ?_
   | refine LeO.bind ?_ (fun _ => ?_)
  ·intro y0 y1 y2 y3 y4 y5 y6 y7 y8 y9 y10
   unfold laws_FnWalksMeanOfAll.j1
   repeat' first
   | (with_reducible exact ih0 _ _ _ _ _ _ _ _ _)
   | (with_reducible exact ih1 _ _ _ _ _ _ _ _ _ _ _)
   | (with_reducible exact ih2 _ _ _ _ _ _)
   | (with_reducible exact ih3 _ _ _ _ _ _ _ _ _ _ _ _ _ _ _)
   | (with_reducible exact ih4 _ _ _ _ _ _ _ _)
   | (with_reducible exact ih5 _ _ _ _ _ _ _ _)
   | (with_reducible exact ih6 _ _ _ _ _ _ _ _)
   | (with_reducible exact ih7 _ _ _ _ _)
   | (with_reducible exact ih8 _ _ _ _ _ _ _ _ _)
   | (with_reducible exact ih9 _ _ _ _ _ _ _ _ _ _)
   | (with_reducible exact ih10 _ _ _ _ _ _ _ _ _ _ _ _ _ _ _)
   | (with_reducible exact impl_ChanceAfter.mono _ _ _ _)
   | (with_reducible exact impl_ChanceBefore.mono _ _ _ _)
   | (with_reducible exact impl_FewestMoves.mono _ _ _)
   | (with_reducible exact impl_LikeliestAfter.mono _ _ _)
   | (with_reducible exact impl_MeanFrom.mono _ _ _)
   | (with_reducible exact impl_MeanToClear.mono _ _)
   | (with_reducible exact impl_MovesOf.mono _ _)
   | (with_reducible exact impl_WalksTo.mono _ _ _ _)
   | (with_reducible exact laws_yTexts.mono _ _ _)
   | (with_reducible exact spec_ChanceAfter.mono _ _ _ _)
   | (with_reducible exact spec_ChanceBefore.mono _ _ _ _)
   | (with_reducible exact spec_LikeliestAfter.mono _ _ _)
   | (with_reducible exact spec_MeanFrom.mono _ _ _)
   | (with_reducible exact spec_MeanToClear.mono _ _)
   | (with_reducible exact spec_WalksTo.mono _ _ _ _)
   | (with_reducible exact LeO.refl _)
   | (with_reducible exact LeO.none _)
   | (with_reducible refine LeO.ite ?_ ?_)
   | (with_reducible refine LeO.bind ?_ (fun _ => ?_))
   | exact ih0 _ _ _ _ _ _ _ _ _
   | exact ih1 _ _ _ _ _ _ _ _ _ _ _
   | exact ih2 _ _ _ _ _ _
   | exact ih3 _ _ _ _ _ _ _ _ _ _ _ _ _ _ _
   | exact ih4 _ _ _ _ _ _ _ _
   | exact ih5 _ _ _ _ _ _ _ _
   | exact ih6 _ _ _ _ _ _ _ _
   | exact ih7 _ _ _ _ _
   | exact ih8 _ _ _ _ _ _ _ _ _
   | exact ih9 _ _ _ _ _ _ _ _ _ _
   | exact ih10 _ _ _ _ _ _ _ _ _ _ _ _ _ _ _
   | exact impl_ChanceAfter.mono _ _ _ _
   | exact impl_ChanceBefore.mono _ _ _ _
   | exact impl_FewestMoves.mono _ _ _
   | exact impl_LikeliestAfter.mono _ _ _
   | exact impl_MeanFrom.mono _ _ _
   | exact impl_MeanToClear.mono _ _
   | exact impl_MovesOf.mono _ _
   | exact impl_WalksTo.mono _ _ _ _
   | exact laws_yTexts.mono _ _ _
   | exact spec_ChanceAfter.mono _ _ _ _
   | exact spec_ChanceBefore.mono _ _ _ _
   | exact spec_LikeliestAfter.mono _ _ _
   | exact spec_MeanFrom.mono _ _ _
   | exact spec_MeanToClear.mono _ _
   | exact spec_WalksTo.mono _ _ _ _
   | exact LeO.none _
   | refine LeO.ite ?_ ?_
   | refine LeO.bind ?_ (fun _ => ?_)
  ·intro y0 y1 y2 y3 y4 y5
   unfold laws_FnWalksMeanOfAll.j4
   repeat' first
   | (with_reducible exact ih0 _ _ _ _ _ _ _ _ _)
   | (with_reducible exact ih1 _ _ _ _ _ _ _ _ _ _ _)
   | (with_reducible exact ih2 _ _ _ _ _ _)
   | (with_reducible exact ih3 _ _ _ _ _ _ _ _ _ _ _ _ _ _ _)
   | (with_reducible exact ih4 _ _ _ _ _ _ _ _)
   | (with_reducible exact ih5 _ _ _ _ _ _ _ _)
   | (with_reducible exact ih6 _ _ _ _ _ _ _ _)
   | (with_reducible exact ih7 _ _ _ _ _)
   | (with_reducible exact ih8 _ _ _ _ _ _ _ _ _)
   | (with_reducible exact ih9 _ _ _ _ _ _ _ _ _ _)
   | (with_reducible exact ih10 _ _ _ _ _ _ _ _ _ _ _ _ _ _ _)
   | (with_reducible exact impl_ChanceAfter.mono _ _ _ _)
   | (with_reducible exact impl_ChanceBefore.mono _ _ _ _)
   | (with_reducible exact impl_FewestMoves.mono _ _ _)
   | (with_reducible exact impl_LikeliestAfter.mono _ _ _)
   | (with_reducible exact impl_MeanFrom.mono _ _ _)
   | (with_reducible exact impl_MeanToClear.mono _ _)
   | (with_reducible exact impl_MovesOf.mono _ _)
   | (with_reducible exact impl_WalksTo.mono _ _ _ _)
   | (with_reducible exact laws_yTexts.mono _ _ _)
   | (with_reducible exact spec_ChanceAfter.mono _ _ _ _)
   | (with_reducible exact spec_ChanceBefore.mono _ _ _ _)
   | (with_reducible exact spec_LikeliestAfter.mono _ _ _)
   | (with_reducible exact spec_MeanFrom.mono _ _ _)
   | (with_reducible exact spec_MeanToClear.mono _ _)
   | (with_reducible exact spec_WalksTo.mono _ _ _ _)
   | (with_reducible exact LeO.refl _)
   | (with_reducible exact LeO.none _)
   | (with_reducible refine LeO.ite ?_ ?_)
   | (with_reducible refine LeO.bind ?_ (fun _ => ?_))
   | exact ih0 _ _ _ _ _ _ _ _ _
   | exact ih1 _ _ _ _ _ _ _ _ _ _ _
   | exact ih2 _ _ _ _ _ _
   | exact ih3 _ _ _ _ _ _ _ _ _ _ _ _ _ _ _
   | exact ih4 _ _ _ _ _ _ _ _
   | exact ih5 _ _ _ _ _ _ _ _
   | exact ih6 _ _ _ _ _ _ _ _
   | exact ih7 _ _ _ _ _
   | exact ih8 _ _ _ _ _ _ _ _ _
   | exact ih9 _ _ _ _ _ _ _ _ _ _
   | exact ih10 _ _ _ _ _ _ _ _ _ _ _ _ _ _ _
   | exact impl_ChanceAfter.mono _ _ _ _
   | exact impl_ChanceBefore.mono _ _ _ _
   | exact impl_FewestMoves.mono _ _ _
   | exact impl_LikeliestAfter.mono _ _ _
   | exact impl_MeanFrom.mono _ _ _
   | exact impl_MeanToClear.mono _ _
   | exact impl_MovesOf.mono _ _
   | exact impl_WalksTo.mono _ _ _ _
   | exact laws_yTexts.mono _ _ _
   | exact spec_ChanceAfter.mono _ _ _ _
   | exact spec_ChanceBefore.mono _ _ _ _
   | exact spec_LikeliestAfter.mono _ _ _
   | exact spec_MeanFrom.mono _ _ _
   | exact spec_MeanToClear.mono _ _
   | exact spec_WalksTo.mono _ _ _ _
   | exact LeO.none _
   | refine LeO.ite ?_ ?_
   | refine LeO.bind ?_ (fun _ => ?_)
  ·intro y0 y1 y2 y3 y4 y5 y6 y7 y8 y9 y10 y11 y12 y13 y14
   unfold laws_FnWalksMeanOfAll.j5
   repeat' first
   | (with_reducible exact ih0 _ _ _ _ _ _ _ _ _)
   | (with_reducible exact ih1 _ _ _ _ _ _ _ _ _ _ _)
   | (with_reducible exact ih2 _ _ _ _ _ _)
   | (with_reducible exact ih3 _ _ _ _ _ _ _ _ _ _ _ _ _ _ _)
   | (with_reducible exact ih4 _ _ _ _ _ _ _ _)
   | (with_reducible exact ih5 _ _ _ _ _ _ _ _)
   | (with_reducible exact ih6 _ _ _ _ _ _ _ _)
   | (with_reducible exact ih7 _ _ _ _ _)
   | (with_reducible exact ih8 _ _ _ _ _ _ _ _ _)
   | (with_reducible exact ih9 _ _ _ _ _ _ _ _ _ _)
   | (with_reducible exact ih10 _ _ _ _ _ _ _ _ _ _ _ _ _ _ _)
   | (with_reducible exact impl_ChanceAfter.mono _ _ _ _)
   | (with_reducible exact impl_ChanceBefore.mono _ _ _ _)
   | (with_reducible exact impl_FewestMoves.mono _ _ _)
   | (with_reducible exact impl_LikeliestAfter.mono _ _ _)
   | (with_reducible exact impl_MeanFrom.mono _ _ _)
   | (with_reducible exact impl_MeanToClear.mono _ _)
   | (with_reducible exact impl_MovesOf.mono _ _)
   | (with_reducible exact impl_WalksTo.mono _ _ _ _)
   | (with_reducible exact laws_yTexts.mono _ _ _)
   | (with_reducible exact spec_ChanceAfter.mono _ _ _ _)
   | (with_reducible exact spec_ChanceBefore.mono _ _ _ _)
   | (with_reducible exact spec_LikeliestAfter.mono _ _ _)
   | (with_reducible exact spec_MeanFrom.mono _ _ _)
   | (with_reducible exact spec_MeanToClear.mono _ _)
   | (with_reducible exact spec_WalksTo.mono _ _ _ _)
   | (with_reducible exact LeO.refl _)
   | (with_reducible exact LeO.none _)
   | (with_reducible refine LeO.ite ?_ ?_)
   | (with_reducible refine LeO.bind ?_ (fun _ => ?_))
   | exact ih0 _ _ _ _ _ _ _ _ _
   | exact ih1 _ _ _ _ _ _ _ _ _ _ _
   | exact ih2 _ _ _ _ _ _
   | exact ih3 _ _ _ _ _ _ _ _ _ _ _ _ _ _ _
   | exact ih4 _ _ _ _ _ _ _ _
   | exact ih5 _ _ _ _ _ _ _ _
   | exact ih6 _ _ _ _ _ _ _ _
   | exact ih7 _ _ _ _ _
   | exact ih8 _ _ _ _ _ _ _ _ _
   | exact ih9 _ _ _ _ _ _ _ _ _ _
   | exact ih10 _ _ _ _ _ _ _ _ _ _ _ _ _ _ _
   | exact impl_ChanceAfter.mono _ _ _ _
   | exact impl_ChanceBefore.mono _ _ _ _
   | exact impl_FewestMoves.mono _ _ _
   | exact impl_LikeliestAfter.mono _ _ _
   | exact impl_MeanFrom.mono _ _ _
   | exact impl_MeanToClear.mono _ _
   | exact impl_MovesOf.mono _ _
   | exact impl_WalksTo.mono _ _ _ _
   | exact laws_yTexts.mono _ _ _
   | exact spec_ChanceAfter.mono _ _ _ _
   | exact spec_ChanceBefore.mono _ _ _ _
   | exact spec_LikeliestAfter.mono _ _ _
   | exact spec_MeanFrom.mono _ _ _
   | exact spec_MeanToClear.mono _ _
   | exact spec_WalksTo.mono _ _ _ _
   | exact LeO.none _
   | refine LeO.ite ?_ ?_
   | refine LeO.bind ?_ (fun _ => ?_)
  ·intro y0 y1 y2 y3 y4 y5 y6 y7
   unfold laws_FnWalksMeanOfAll.j6
   repeat' first
   | (with_reducible exact ih0 _ _ _ _ _ _ _ _ _)
   | (with_reducible exact ih1 _ _ _ _ _ _ _ _ _ _ _)
   | (with_reducible exact ih2 _ _ _ _ _ _)
   | (with_reducible exact ih3 _ _ _ _ _ _ _ _ _ _ _ _ _ _ _)
   | (with_reducible exact ih4 _ _ _ _ _ _ _ _)
   | (with_reducible exact ih5 _ _ _ _ _ _ _ _)
   | (with_reducible exact ih6 _ _ _ _ _ _ _ _)
   | (with_reducible exact ih7 _ _ _ _ _)
   | (with_reducible exact ih8 _ _ _ _ _ _ _ _ _)
   | (with_reducible exact ih9 _ _ _ _ _ _ _ _ _ _)
   | (with_reducible exact ih10 _ _ _ _ _ _ _ _ _ _ _ _ _ _ _)
   | (with_reducible exact impl_ChanceAfter.mono _ _ _ _)
   | (with_reducible exact impl_ChanceBefore.mono _ _ _ _)
   | (with_reducible exact impl_FewestMoves.mono _ _ _)
   | (with_reducible exact impl_LikeliestAfter.mono _ _ _)
   | (with_reducible exact impl_MeanFrom.mono _ _ _)
   | (with_reducible exact impl_MeanToClear.mono _ _)
   | (with_reducible exact impl_MovesOf.mono _ _)
   | (with_reducible exact impl_WalksTo.mono _ _ _ _)
   | (with_reducible exact laws_yTexts.mono _ _ _)
   | (with_reducible exact spec_ChanceAfter.mono _ _ _ _)
   | (with_reducible exact spec_ChanceBefore.mono _ _ _ _)
   | (with_reducible exact spec_LikeliestAfter.mono _ _ _)
   | (with_reducible exact spec_MeanFrom.mono _ _ _)
   | (with_reducible exact spec_MeanToClear.mono _ _)
   | (with_reducible exact spec_WalksTo.mono _ _ _ _)
   | (with_reducible exact LeO.refl _)
   | (with_reducible exact LeO.none _)
   | (with_reducible refine LeO.ite ?_ ?_)
   | (with_reducible refine LeO.bind ?_ (fun _ => ?_))
   | exact ih0 _ _ _ _ _ _ _ _ _
   | exact ih1 _ _ _ _ _ _ _ _ _ _ _
   | exact ih2 _ _ _ _ _ _
   | exact ih3 _ _ _ _ _ _ _ _ _ _ _ _ _ _ _
   | exact ih4 _ _ _ _ _ _ _ _
   | exact ih5 _ _ _ _ _ _ _ _
   | exact ih6 _ _ _ _ _ _ _ _
   | exact ih7 _ _ _ _ _
   | exact ih8 _ _ _ _ _ _ _ _ _
   | exact ih9 _ _ _ _ _ _ _ _ _ _
   | exact ih10 _ _ _ _ _ _ _ _ _ _ _ _ _ _ _
   | exact impl_ChanceAfter.mono _ _ _ _
   | exact impl_ChanceBefore.mono _ _ _ _
   | exact impl_FewestMoves.mono _ _ _
   | exact impl_LikeliestAfter.mono _ _ _
   | exact impl_MeanFrom.mono _ _ _
   | exact impl_MeanToClear.mono _ _
   | exact impl_MovesOf.mono _ _
   | exact impl_WalksTo.mono _ _ _ _
   | exact laws_yTexts.mono _ _ _
   | exact spec_ChanceAfter.mono _ _ _ _
   | exact spec_ChanceBefore.mono _ _ _ _
   | exact spec_LikeliestAfter.mono _ _ _
   | exact spec_MeanFrom.mono _ _ _
   | exact spec_MeanToClear.mono _ _
   | exact spec_WalksTo.mono _ _ _ _
   | exact LeO.none _
   | refine LeO.ite ?_ ?_
   | refine LeO.bind ?_ (fun _ => ?_)
  ·intro y0 y1 y2 y3 y4 y5 y6 y7
   unfold laws_FnWalksMeanOfAll.j7
   repeat' first
   | (with_reducible exact ih0 _ _ _ _ _ _ _ _ _)
   | (with_reducible exact ih1 _ _ _ _ _ _ _ _ _ _ _)
   | (with_reducible exact ih2 _ _ _ _ _ _)
   | (with_reducible exact ih3 _ _ _ _ _ _ _ _ _ _ _ _ _ _ _)
   | (with_reducible exact ih4 _ _ _ _ _ _ _ _)
   | (with_reducible exact ih5 _ _ _ _ _ _ _ _)
   | (with_reducible exact ih6 _ _ _ _ _ _ _ _)
   | (with_reducible exact ih7 _ _ _ _ _)
   | (with_reducible exact ih8 _ _ _ _ _ _ _ _ _)
   | (with_reducible exact ih9 _ _ _ _ _ _ _ _ _ _)
   | (with_reducible exact ih10 _ _ _ _ _ _ _ _ _ _ _ _ _ _ _)
   | (with_reducible exact impl_ChanceAfter.mono _ _ _ _)
   | (with_reducible exact impl_ChanceBefore.mono _ _ _ _)
   | (with_reducible exact impl_FewestMoves.mono _ _ _)
   | (with_reducible exact impl_LikeliestAfter.mono _ _ _)
   | (with_reducible exact impl_MeanFrom.mono _ _ _)
   | (with_reducible exact impl_MeanToClear.mono _ _)
   | (with_reducible exact impl_MovesOf.mono _ _)
   | (with_reducible exact impl_WalksTo.mono _ _ _ _)
   | (with_reducible exact laws_yTexts.mono _ _ _)
   | (with_reducible exact spec_ChanceAfter.mono _ _ _ _)
   | (with_reducible exact spec_ChanceBefore.mono _ _ _ _)
   | (with_reducible exact spec_LikeliestAfter.mono _ _ _)
   | (with_reducible exact spec_MeanFrom.mono _ _ _)
   | (with_reducible exact spec_MeanToClear.mono _ _)
   | (with_reducible exact spec_WalksTo.mono _ _ _ _)
   | (with_reducible exact LeO.refl _)
   | (with_reducible exact LeO.none _)
   | (with_reducible refine LeO.ite ?_ ?_)
   | (with_reducible refine LeO.bind ?_ (fun _ => ?_))
   | exact ih0 _ _ _ _ _ _ _ _ _
   | exact ih1 _ _ _ _ _ _ _ _ _ _ _
   | exact ih2 _ _ _ _ _ _
   | exact ih3 _ _ _ _ _ _ _ _ _ _ _ _ _ _ _
   | exact ih4 _ _ _ _ _ _ _ _
   | exact ih5 _ _ _ _ _ _ _ _
   | exact ih6 _ _ _ _ _ _ _ _
   | exact ih7 _ _ _ _ _
   | exact ih8 _ _ _ _ _ _ _ _ _
   | exact ih9 _ _ _ _ _ _ _ _ _ _
   | exact ih10 _ _ _ _ _ _ _ _ _ _ _ _ _ _ _
   | exact impl_ChanceAfter.mono _ _ _ _
   | exact impl_ChanceBefore.mono _ _ _ _
   | exact impl_FewestMoves.mono _ _ _
   | exact impl_LikeliestAfter.mono _ _ _
   | exact impl_MeanFrom.mono _ _ _
   | exact impl_MeanToClear.mono _ _
   | exact impl_MovesOf.mono _ _
   | exact impl_WalksTo.mono _ _ _ _
   | exact laws_yTexts.mono _ _ _
   | exact spec_ChanceAfter.mono _ _ _ _
   | exact spec_ChanceBefore.mono _ _ _ _
   | exact spec_LikeliestAfter.mono _ _ _
   | exact spec_MeanFrom.mono _ _ _
   | exact spec_MeanToClear.mono _ _
   | exact spec_WalksTo.mono _ _ _ _
   | exact LeO.none _
   | refine LeO.ite ?_ ?_
   | refine LeO.bind ?_ (fun _ => ?_)
  ·intro y0 y1 y2 y3 y4 y5 y6 y7
   unfold laws_FnWalksMeanOfAll.j8
   repeat' first
   | (with_reducible exact ih0 _ _ _ _ _ _ _ _ _)
   | (with_reducible exact ih1 _ _ _ _ _ _ _ _ _ _ _)
   | (with_reducible exact ih2 _ _ _ _ _ _)
   | (with_reducible exact ih3 _ _ _ _ _ _ _ _ _ _ _ _ _ _ _)
   | (with_reducible exact ih4 _ _ _ _ _ _ _ _)
   | (with_reducible exact ih5 _ _ _ _ _ _ _ _)
   | (with_reducible exact ih6 _ _ _ _ _ _ _ _)
   | (with_reducible exact ih7 _ _ _ _ _)
   | (with_reducible exact ih8 _ _ _ _ _ _ _ _ _)
   | (with_reducible exact ih9 _ _ _ _ _ _ _ _ _ _)
   | (with_reducible exact ih10 _ _ _ _ _ _ _ _ _ _ _ _ _ _ _)
   | (with_reducible exact impl_ChanceAfter.mono _ _ _ _)
   | (with_reducible exact impl_ChanceBefore.mono _ _ _ _)
   | (with_reducible exact impl_FewestMoves.mono _ _ _)
   | (with_reducible exact impl_LikeliestAfter.mono _ _ _)
   | (with_reducible exact impl_MeanFrom.mono _ _ _)
   | (with_reducible exact impl_MeanToClear.mono _ _)
   | (with_reducible exact impl_MovesOf.mono _ _)
   | (with_reducible exact impl_WalksTo.mono _ _ _ _)
   | (with_reducible exact laws_yTexts.mono _ _ _)
   | (with_reducible exact spec_ChanceAfter.mono _ _ _ _)
   | (with_reducible exact spec_ChanceBefore.mono _ _ _ _)
   | (with_reducible exact spec_LikeliestAfter.mono _ _ _)
   | (with_reducible exact spec_MeanFrom.mono _ _ _)
   | (with_reducible exact spec_MeanToClear.mono _ _)
   | (with_reducible exact spec_WalksTo.mono _ _ _ _)
   | (with_reducible exact LeO.refl _)
   | (with_reducible exact LeO.none _)
   | (with_reducible refine LeO.ite ?_ ?_)
   | (with_reducible refine LeO.bind ?_ (fun _ => ?_))
   | exact ih0 _ _ _ _ _ _ _ _ _
   | exact ih1 _ _ _ _ _ _ _ _ _ _ _
   | exact ih2 _ _ _ _ _ _
   | exact ih3 _ _ _ _ _ _ _ _ _ _ _ _ _ _ _
   | exact ih4 _ _ _ _ _ _ _ _
   | exact ih5 _ _ _ _ _ _ _ _
   | exact ih6 _ _ _ _ _ _ _ _
   | exact ih7 _ _ _ _ _
   | exact ih8 _ _ _ _ _ _ _ _ _
   | exact ih9 _ _ _ _ _ _ _ _ _ _
   | exact ih10 _ _ _ _ _ _ _ _ _ _ _ _ _ _ _
   | exact impl_ChanceAfter.mono _ _ _ _
   | exact impl_ChanceBefore.mono _ _ _ _
   | exact impl_FewestMoves.mono _ _ _
   | exact impl_LikeliestAfter.mono _ _ _
   | exact impl_MeanFrom.mono _ _ _
   | exact impl_MeanToClear.mono _ _
   | exact impl_MovesOf.mono _ _
   | exact impl_WalksTo.mono _ _ _ _
   | exact laws_yTexts.mono _ _ _
   | exact spec_ChanceAfter.mono _ _ _ _
   | exact spec_ChanceBefore.mono _ _ _ _
   | exact spec_LikeliestAfter.mono _ _ _
   | exact spec_MeanFrom.mono _ _ _
   | exact spec_MeanToClear.mono _ _
   | exact spec_WalksTo.mono _ _ _ _
   | exact LeO.none _
   | refine LeO.ite ?_ ?_
   | refine LeO.bind ?_ (fun _ => ?_)
  ·intro y0 y1 y2 y3 y4
   unfold laws_FnWalksMeanOfAll.j9
   repeat' first
   | (with_reducible exact ih0 _ _ _ _ _ _ _ _ _)
   | (with_reducible exact ih1 _ _ _ _ _ _ _ _ _ _ _)
   | (with_reducible exact ih2 _ _ _ _ _ _)
   | (with_reducible exact ih3 _ _ _ _ _ _ _ _ _ _ _ _ _ _ _)
   | (with_reducible exact ih4 _ _ _ _ _ _ _ _)
   | (with_reducible exact ih5 _ _ _ _ _ _ _ _)
   | (with_reducible exact ih6 _ _ _ _ _ _ _ _)
   | (with_reducible exact ih7 _ _ _ _ _)
   | (with_reducible exact ih8 _ _ _ _ _ _ _ _ _)
   | (with_reducible exact ih9 _ _ _ _ _ _ _ _ _ _)
   | (with_reducible exact ih10 _ _ _ _ _ _ _ _ _ _ _ _ _ _ _)
   | (with_reducible exact impl_ChanceAfter.mono _ _ _ _)
   | (with_reducible exact impl_ChanceBefore.mono _ _ _ _)
   | (with_reducible exact impl_FewestMoves.mono _ _ _)
   | (with_reducible exact impl_LikeliestAfter.mono _ _ _)
   | (with_reducible exact impl_MeanFrom.mono _ _ _)
   | (with_reducible exact impl_MeanToClear.mono _ _)
   | (with_reducible exact impl_MovesOf.mono _ _)
   | (with_reducible exact impl_WalksTo.mono _ _ _ _)
   | (with_reducible exact laws_yTexts.mono _ _ _)
   | (with_reducible exact spec_ChanceAfter.mono _ _ _ _)
   | (with_reducible exact spec_ChanceBefore.mono _ _ _ _)
   | (with_reducible exact spec_LikeliestAfter.mono _ _ _)
   | (with_reducible exact spec_MeanFrom.mono _ _ _)
   | (with_reducible exact spec_MeanToClear.mono _ _)
   | (with_reducible exact spec_WalksTo.mono _ _ _ _)
   | (with_reducible exact LeO.refl _)
   | (with_reducible exact LeO.none _)
   | (with_reducible refine LeO.ite ?_ ?_)
   | (with_reducible refine LeO.bind ?_ (fun _ => ?_))
   | exact ih0 _ _ _ _ _ _ _ _ _
   | exact ih1 _ _ _ _ _ _ _ _ _ _ _
   | exact ih2 _ _ _ _ _ _
   | exact ih3 _ _ _ _ _ _ _ _ _ _ _ _ _ _ _
   | exact ih4 _ _ _ _ _ _ _ _
   | exact ih5 _ _ _ _ _ _ _ _
   | exact ih6 _ _ _ _ _ _ _ _
   | exact ih7 _ _ _ _ _
   | exact ih8 _ _ _ _ _ _ _ _ _
   | exact ih9 _ _ _ _ _ _ _ _ _ _
   | exact ih10 _ _ _ _ _ _ _ _ _ _ _ _ _ _ _
   | exact impl_ChanceAfter.mono _ _ _ _
   | exact impl_ChanceBefore.mono _ _ _ _
   | exact impl_FewestMoves.mono _ _ _
   | exact impl_LikeliestAfter.mono _ _ _
   | exact impl_MeanFrom.mono _ _ _
   | exact impl_MeanToClear.mono _ _
   | exact impl_MovesOf.mono _ _
   | exact impl_WalksTo.mono _ _ _ _
   | exact laws_yTexts.mono _ _ _
   | exact spec_ChanceAfter.mono _ _ _ _
   | exact spec_ChanceBefore.mono _ _ _ _
   | exact spec_LikeliestAfter.mono _ _ _
   | exact spec_MeanFrom.mono _ _ _
   | exact spec_MeanToClear.mono _ _
   | exact spec_WalksTo.mono _ _ _ _
   | exact LeO.none _
   | refine LeO.ite ?_ ?_
   | refine LeO.bind ?_ (fun _ => ?_)
  ·intro y0 y1 y2 y3 y4 y5 y6 y7 y8
   unfold laws_FnWalksMeanOfAll.l1
   repeat' first
   | (with_reducible exact ih0 _ _ _ _ _ _ _ _ _)
   | (with_reducible exact ih1 _ _ _ _ _ _ _ _ _ _ _)
   | (with_reducible exact ih2 _ _ _ _ _ _)
   | (with_reducible exact ih3 _ _ _ _ _ _ _ _ _ _ _ _ _ _ _)
   | (with_reducible exact ih4 _ _ _ _ _ _ _ _)
   | (with_reducible exact ih5 _ _ _ _ _ _ _ _)
   | (with_reducible exact ih6 _ _ _ _ _ _ _ _)
   | (with_reducible exact ih7 _ _ _ _ _)
   | (with_reducible exact ih8 _ _ _ _ _ _ _ _ _)
   | (with_reducible exact ih9 _ _ _ _ _ _ _ _ _ _)
   | (with_reducible exact ih10 _ _ _ _ _ _ _ _ _ _ _ _ _ _ _)
   | (with_reducible exact impl_ChanceAfter.mono _ _ _ _)
   | (with_reducible exact impl_ChanceBefore.mono _ _ _ _)
   | (with_reducible exact impl_FewestMoves.mono _ _ _)
   | (with_reducible exact impl_LikeliestAfter.mono _ _ _)
   | (with_reducible exact impl_MeanFrom.mono _ _ _)
   | (with_reducible exact impl_MeanToClear.mono _ _)
   | (with_reducible exact impl_MovesOf.mono _ _)
   | (with_reducible exact impl_WalksTo.mono _ _ _ _)
   | (with_reducible exact laws_yTexts.mono _ _ _)
   | (with_reducible exact spec_ChanceAfter.mono _ _ _ _)
   | (with_reducible exact spec_ChanceBefore.mono _ _ _ _)
   | (with_reducible exact spec_LikeliestAfter.mono _ _ _)
   | (with_reducible exact spec_MeanFrom.mono _ _ _)
   | (with_reducible exact spec_MeanToClear.mono _ _)
   | (with_reducible exact spec_WalksTo.mono _ _ _ _)
   | (with_reducible exact LeO.refl _)
   | (with_reducible exact LeO.none _)
   | (with_reducible refine LeO.ite ?_ ?_)
   | (with_reducible refine LeO.bind ?_ (fun _ => ?_))
   | exact ih0 _ _ _ _ _ _ _ _ _
   | exact ih1 _ _ _ _ _ _ _ _ _ _ _
   | exact ih2 _ _ _ _ _ _
   | exact ih3 _ _ _ _ _ _ _ _ _ _ _ _ _ _ _
   | exact ih4 _ _ _ _ _ _ _ _
   | exact ih5 _ _ _ _ _ _ _ _
   | exact ih6 _ _ _ _ _ _ _ _
   | exact ih7 _ _ _ _ _
   | exact ih8 _ _ _ _ _ _ _ _ _
   | exact ih9 _ _ _ _ _ _ _ _ _ _
   | exact ih10 _ _ _ _ _ _ _ _ _ _ _ _ _ _ _
   | exact impl_ChanceAfter.mono _ _ _ _
   | exact impl_ChanceBefore.mono _ _ _ _
   | exact impl_FewestMoves.mono _ _ _
   | exact impl_LikeliestAfter.mono _ _ _
   | exact impl_MeanFrom.mono _ _ _
   | exact impl_MeanToClear.mono _ _
   | exact impl_MovesOf.mono _ _
   | exact impl_WalksTo.mono _ _ _ _
   | exact laws_yTexts.mono _ _ _
   | exact spec_ChanceAfter.mono _ _ _ _
   | exact spec_ChanceBefore.mono _ _ _ _
   | exact spec_LikeliestAfter.mono _ _ _
   | exact spec_MeanFrom.mono _ _ _
   | exact spec_MeanToClear.mono _ _
   | exact spec_WalksTo.mono _ _ _ _
   | exact LeO.none _
   | refine LeO.ite ?_ ?_
   | refine LeO.bind ?_ (fun _ => ?_)
  ·intro y0 y1 y2 y3 y4 y5 y6 y7 y8 y9
   unfold laws_FnWalksMeanOfAll.j2
   repeat' first
   | (with_reducible exact ih0 _ _ _ _ _ _ _ _ _)
   | (with_reducible exact ih1 _ _ _ _ _ _ _ _ _ _ _)
   | (with_reducible exact ih2 _ _ _ _ _ _)
   | (with_reducible exact ih3 _ _ _ _ _ _ _ _ _ _ _ _ _ _ _)
   | (with_reducible exact ih4 _ _ _ _ _ _ _ _)
   | (with_reducible exact ih5 _ _ _ _ _ _ _ _)
   | (with_reducible exact ih6 _ _ _ _ _ _ _ _)
   | (with_reducible exact ih7 _ _ _ _ _)
   | (with_reducible exact ih8 _ _ _ _ _ _ _ _ _)
   | (with_reducible exact ih9 _ _ _ _ _ _ _ _ _ _)
   | (with_reducible exact ih10 _ _ _ _ _ _ _ _ _ _ _ _ _ _ _)
   | (with_reducible exact impl_ChanceAfter.mono _ _ _ _)
   | (with_reducible exact impl_ChanceBefore.mono _ _ _ _)
   | (with_reducible exact impl_FewestMoves.mono _ _ _)
   | (with_reducible exact impl_LikeliestAfter.mono _ _ _)
   | (with_reducible exact impl_MeanFrom.mono _ _ _)
   | (with_reducible exact impl_MeanToClear.mono _ _)
   | (with_reducible exact impl_MovesOf.mono _ _)
   | (with_reducible exact impl_WalksTo.mono _ _ _ _)
   | (with_reducible exact laws_yTexts.mono _ _ _)
   | (with_reducible exact spec_ChanceAfter.mono _ _ _ _)
   | (with_reducible exact spec_ChanceBefore.mono _ _ _ _)
   | (with_reducible exact spec_LikeliestAfter.mono _ _ _)
   | (with_reducible exact spec_MeanFrom.mono _ _ _)
   | (with_reducible exact spec_MeanToClear.mono _ _)
   | (with_reducible exact spec_WalksTo.mono _ _ _ _)
   | (with_reducible exact LeO.refl _)
   | (with_reducible exact LeO.none _)
   | (with_reducible refine LeO.ite ?_ ?_)
   | (with_reducible refine LeO.bind ?_ (fun _ => ?_))
   | exact ih0 _ _ _ _ _ _ _ _ _
   | exact ih1 _ _ _ _ _ _ _ _ _ _ _
   | exact ih2 _ _ _ _ _ _
   | exact ih3 _ _ _ _ _ _ _ _ _ _ _ _ _ _ _
   | exact ih4 _ _ _ _ _ _ _ _
   | exact ih5 _ _ _ _ _ _ _ _
   | exact ih6 _ _ _ _ _ _ _ _
   | exact ih7 _ _ _ _ _
   | exact ih8 _ _ _ _ _ _ _ _ _
   | exact ih9 _ _ _ _ _ _ _ _ _ _
   | exact ih10 _ _ _ _ _ _ _ _ _ _ _ _ _ _ _
   | exact impl_ChanceAfter.mono _ _ _ _
   | exact impl_ChanceBefore.mono _ _ _ _
   | exact impl_FewestMoves.mono _ _ _
   | exact impl_LikeliestAfter.mono _ _ _
   | exact impl_MeanFrom.mono _ _ _
   | exact impl_MeanToClear.mono _ _
   | exact impl_MovesOf.mono _ _
   | exact impl_WalksTo.mono _ _ _ _
   | exact laws_yTexts.mono _ _ _
   | exact spec_ChanceAfter.mono _ _ _ _
   | exact spec_ChanceBefore.mono _ _ _ _
   | exact spec_LikeliestAfter.mono _ _ _
   | exact spec_MeanFrom.mono _ _ _
   | exact spec_MeanToClear.mono _ _
   | exact spec_WalksTo.mono _ _ _ _
   | exact LeO.none _
   | refine LeO.ite ?_ ?_
   | refine LeO.bind ?_ (fun _ => ?_)
  ·intro y0 y1 y2 y3 y4 y5 y6 y7 y8 y9 y10 y11 y12 y13 y14
   unfold laws_FnWalksMeanOfAll.l0
   repeat' first
   | (with_reducible exact ih0 _ _ _ _ _ _ _ _ _)
   | (with_reducible exact ih1 _ _ _ _ _ _ _ _ _ _ _)
   | (with_reducible exact ih2 _ _ _ _ _ _)
   | (with_reducible exact ih3 _ _ _ _ _ _ _ _ _ _ _ _ _ _ _)
   | (with_reducible exact ih4 _ _ _ _ _ _ _ _)
   | (with_reducible exact ih5 _ _ _ _ _ _ _ _)
   | (with_reducible exact ih6 _ _ _ _ _ _ _ _)
   | (with_reducible exact ih7 _ _ _ _ _)
   | (with_reducible exact ih8 _ _ _ _ _ _ _ _ _)
   | (with_reducible exact ih9 _ _ _ _ _ _ _ _ _ _)
   | (with_reducible exact ih10 _ _ _ _ _ _ _ _ _ _ _ _ _ _ _)
   | (with_reducible exact impl_ChanceAfter.mono _ _ _ _)
   | (with_reducible exact impl_ChanceBefore.mono _ _ _ _)
   | (with_reducible exact impl_FewestMoves.mono _ _ _)
   | (with_reducible exact impl_LikeliestAfter.mono _ _ _)
   | (with_reducible exact impl_MeanFrom.mono _ _ _)
   | (with_reducible exact impl_MeanToClear.mono _ _)
   | (with_reducible exact impl_MovesOf.mono _ _)
   | (with_reducible exact impl_WalksTo.mono _ _ _ _)
   | (with_reducible exact laws_yTexts.mono _ _ _)
   | (with_reducible exact spec_ChanceAfter.mono _ _ _ _)
   | (with_reducible exact spec_ChanceBefore.mono _ _ _ _)
   | (with_reducible exact spec_LikeliestAfter.mono _ _ _)
   | (with_reducible exact spec_MeanFrom.mono _ _ _)
   | (with_reducible exact spec_MeanToClear.mono _ _)
   | (with_reducible exact spec_WalksTo.mono _ _ _ _)
   | (with_reducible exact LeO.refl _)
   | (with_reducible exact LeO.none _)
   | (with_reducible refine LeO.ite ?_ ?_)
   | (with_reducible refine LeO.bind ?_ (fun _ => ?_))
   | exact ih0 _ _ _ _ _ _ _ _ _
   | exact ih1 _ _ _ _ _ _ _ _ _ _ _
   | exact ih2 _ _ _ _ _ _
   | exact ih3 _ _ _ _ _ _ _ _ _ _ _ _ _ _ _
   | exact ih4 _ _ _ _ _ _ _ _
   | exact ih5 _ _ _ _ _ _ _ _
   | exact ih6 _ _ _ _ _ _ _ _
   | exact ih7 _ _ _ _ _
   | exact ih8 _ _ _ _ _ _ _ _ _
   | exact ih9 _ _ _ _ _ _ _ _ _ _
   | exact ih10 _ _ _ _ _ _ _ _ _ _ _ _ _ _ _
   | exact impl_ChanceAfter.mono _ _ _ _
   | exact impl_ChanceBefore.mono _ _ _ _
   | exact impl_FewestMoves.mono _ _ _
   | exact impl_LikeliestAfter.mono _ _ _
   | exact impl_MeanFrom.mono _ _ _
   | exact impl_MeanToClear.mono _ _
   | exact impl_MovesOf.mono _ _
   | exact impl_WalksTo.mono _ _ _ _
   | exact laws_yTexts.mono _ _ _
   | exact spec_ChanceAfter.mono _ _ _ _
   | exact spec_ChanceBefore.mono _ _ _ _
   | exact spec_LikeliestAfter.mono _ _ _
   | exact spec_MeanFrom.mono _ _ _
   | exact spec_MeanToClear.mono _ _
   | exact spec_WalksTo.mono _ _ _ _
   | exact LeO.none _
   | refine LeO.ite ?_ ?_
   | refine LeO.bind ?_ (fun _ => ?_)
theorem laws_FnWalksMeanOfAll.mono : ∀ a0 a1 a2 a3 a4 a5 a6 a7 k, LeO (laws_FnWalksMeanOfAll.f k a0 a1 a2 a3 a4 a5 a6 a7) (laws_FnWalksMeanOfAll.f (k + 1) a0 a1 a2 a3 a4 a5 a6 a7) := by
 intro a0 a1 a2 a3 a4 a5 a6 a7 k
 obtain ⟨ih0, ih1, ih2, ih3, ih4, ih5, ih6, ih7, ih8, ih9, ih10⟩ := laws_FnWalksMeanOfAll.mono_l k
 unfold laws_FnWalksMeanOfAll.f
 repeat' first
   | (with_reducible exact ih0 _ _ _ _ _ _ _ _ _)
   | (with_reducible exact ih1 _ _ _ _ _ _ _ _ _ _ _)
   | (with_reducible exact ih2 _ _ _ _ _ _)
   | (with_reducible exact ih3 _ _ _ _ _ _ _ _ _ _ _ _ _ _ _)
   | (with_reducible exact ih4 _ _ _ _ _ _ _ _)
   | (with_reducible exact ih5 _ _ _ _ _ _ _ _)
   | (with_reducible exact ih6 _ _ _ _ _ _ _ _)
   | (with_reducible exact ih7 _ _ _ _ _)
   | (with_reducible exact ih8 _ _ _ _ _ _ _ _ _)
   | (with_reducible exact ih9 _ _ _ _ _ _ _ _ _ _)
   | (with_reducible exact ih10 _ _ _ _ _ _ _ _ _ _ _ _ _ _ _)
   | (with_reducible exact impl_ChanceAfter.mono _ _ _ _)
   | (with_reducible exact impl_ChanceBefore.mono _ _ _ _)
   | (with_reducible exact impl_FewestMoves.mono _ _ _)
   | (with_reducible exact impl_LikeliestAfter.mono _ _ _)
   | (with_reducible exact impl_MeanFrom.mono _ _ _)
   | (with_reducible exact impl_MeanToClear.mono _ _)
   | (with_reducible exact impl_MovesOf.mono _ _)
   | (with_reducible exact impl_WalksTo.mono _ _ _ _)
   | (with_reducible exact laws_yTexts.mono _ _ _)
   | (with_reducible exact spec_ChanceAfter.mono _ _ _ _)
   | (with_reducible exact spec_ChanceBefore.mono _ _ _ _)
   | (with_reducible exact spec_LikeliestAfter.mono _ _ _)
   | (with_reducible exact spec_MeanFrom.mono _ _ _)
   | (with_reducible exact spec_MeanToClear.mono _ _)
   | (with_reducible exact spec_WalksTo.mono _ _ _ _)
   | (with_reducible exact LeO.refl _)
   | (with_reducible exact LeO.none _)
   | (with_reducible refine LeO.ite ?_ ?_)
   | (with_reducible refine LeO.bind ?_ (fun _ => ?_))
   | exact ih0 _ _ _ _ _ _ _ _ _
   | exact ih1 _ _ _ _ _ _ _ _ _ _ _
   | exact ih2 _ _ _ _ _ _
   | exact ih3 _ _ _ _ _ _ _ _ _ _ _ _ _ _ _
   | exact ih4 _ _ _ _ _ _ _ _
   | exact ih5 _ _ _ _ _ _ _ _
   | exact ih6 _ _ _ _ _ _ _ _
   | exact ih7 _ _ _ _ _
   | exact ih8 _ _ _ _ _ _ _ _ _
   | exact ih9 _ _ _ _ _ _ _ _ _ _
   | exact ih10 _ _ _ _ _ _ _ _ _ _ _ _ _ _ _
   | exact impl_ChanceAfter.mono _ _ _ _
   | exact impl_ChanceBefore.mono _ _ _ _
   | exact impl_FewestMoves.mono _ _ _
   | exact impl_LikeliestAfter.mono _ _ _
   | exact impl_MeanFrom.mono _ _ _
   | exact impl_MeanToClear.mono _ _
   | exact impl_MovesOf.mono _ _
   | exact impl_WalksTo.mono _ _ _ _
   | exact laws_yTexts.mono _ _ _
   | exact spec_ChanceAfter.mono _ _ _ _
   | exact spec_ChanceBefore.mono _ _ _ _
   | exact spec_LikeliestAfter.mono _ _ _
   | exact spec_MeanFrom.mono _ _ _
   | exact spec_MeanToClear.mono _ _
   | exact spec_WalksTo.mono _ _ _ _
   | exact LeO.none _
   | refine LeO.ite ?_ ?_
   | refine LeO.bind ?_ (fun _ => ?_)
set_option maxHeartbeats 8000000 in
set_option maxRecDepth 100000 in
theorem laws_FnWalksMeanOfAll.calls (k : Nat) (a0 : ByteArray) (a1 : ByteArray) (a2 : ByteArray) (a3 : ByteArray) (a4 : ByteArray) (a5 : ByteArray) (a6 : ByteArray) (a7 : Int) (r : Bool) (w : World) (h : laws_FnWalksMeanOfAll.f k a0 a1 a2 a3 a4 a5 a6 a7 = some r) :
  Calls Tryd.prog 4 #[.string a0, .string a1, .string a2, .string a3, .string a4, .string a5, .string a6, .int .i64 a7] w fun e w' => e = .returned (.bool r) ∧ Below w.heap.size w w' := by
 have HB := Aside0.mk (Below.refl w.heap.size w)
 have H : (if (a0.size : Int) > 1048576 then (laws_FnWalksMeanOfAll.j0 k a0 a1 a2 a3 a4 a5 a6 a7 true) else (if (a1.size : Int) > 1048576 then (laws_FnWalksMeanOfAll.j0 k a0 a1 a2 a3 a4 a5 a6 a7 true) else (if (a2.size : Int) > 1048576 then (laws_FnWalksMeanOfAll.j0 k a0 a1 a2 a3 a4 a5 a6 a7 true) else (if (a3.size : Int) > 1048576 then (laws_FnWalksMeanOfAll.j0 k a0 a1 a2 a3 a4 a5 a6 a7 true) else (if (a4.size : Int) > 1048576 then (laws_FnWalksMeanOfAll.j0 k a0 a1 a2 a3 a4 a5 a6 a7 true) else (if (a5.size : Int) > 1048576 then (laws_FnWalksMeanOfAll.j0 k a0 a1 a2 a3 a4 a5 a6 a7 true) else (laws_FnWalksMeanOfAll.j0 k a0 a1 a2 a3 a4 a5 a6 a7 (decide ((a6.size : Int) > 1048576))))))))) = some r := h
 clear h
 have HC9 := Aside0.mk H
 clear H
 go_enter Tryd.func4, Tryd.ntmps4
 go_upto_region 1 with (fail)
 refine wp_cutv [105] [0, 0, 0, 0, 0, 0, 0, 0, 0, 0, 0, 0, 0, 0, 0, 0, 0, 0, 0, 0, 0, 0, 0, 0, 0, 0, 0, 0, 0, 0, 0, 0, 0, 0, 0, 0, 0, 0, 0, 0, 0, 0, 0, 0, 0, 0, 0, 0, 0, 0, 0, 0, 0, 0, 0, 0, 0, 0, 0, 0, 0, 0, 0, 0, 0, 0, 0, 0, 0, 0, 0, 0, 0, 1, 1, 1, 1, 1, 1, 1, 1, 1, 1, 1, 1, 1, 1, 1, 1, 1, 1, 1, 1, 1, 1, 1, 1, 1, 1, 1, 1, 1, 1, 1, 1, 2, 1, 1, 1, 1, 1, 1, 1, 1, 1, 1, 1, 1, 1, 1, 1, 1, 1, 1, 1, 1, 1, 1, 1, 1, 1, 1, 1, 1, 1, 1, 1, 1, 1, 1, 1, 1, 1, 1, 1, 1, 1, 1, 1, 1, 1, 1, 1, 1, 1, 1, 1, 1, 1, 1, 1, 1, 1, 1, 1, 1, 1, 1, 1, 1, 1, 1, 1, 1, 1, 1, 1, 1, 1, 1, 1, 1, 1, 0, 0, 0, 1, 1, 1, 1, 1, 1, 1, 1, 1, 1, 1, 1, 1, 1, 1, 1, 1, 1, 1, 1, 1, 1, 1, 1, 1, 1, 1, 1, 1, 1, 1, 1, 1, 1, 1, 1, 1, 1, 1, 1, 1, 1, 1, 1, 1, 1, 1, 1, 1, 1, 1, 1, 1, 1, 1, 1, 1, 1, 1, 1, 1, 1, 1, 1, 1, 1, 1, 1, 1, 1, 1, 1, 1, 1, 1, 1, 1, 1, 1, 1, 1, 1, 1, 1, 1, 1, 1, 1, 1, 1, 1, 1, 1, 1, 1, 1, 1, 1, 1, 1, 1, 1, 1, 1, 1, 1, 1, 1, 1, 1, 1, 1, 1, 1, 1, 1, 1, 1, 1, 1, 1, 1, 1, 1, 1, 1, 1, 1, 1, 1, 1, 1, 1, 1, 1, 1, 1, 1, 1, 1, 1, 1, 1, 1, 1, 1, 1, 1, 1, 1, 1, 1, 1, 1, 1, 1, 1, 1, 1, 1, 1, 1, 1, 1, 1, 1, 1, 1, 1, 1, 1, 1, 1, 1, 1, 1, 1, 1, 1, 1, 1, 1, 1, 1, 1, 1, 1, 1, 1, 1, 1, 1, 1, 1, 1, 1, 1, 1, 1, 1, 1, 1, 1, 1, 1, 1, 1, 1, 1, 1, 1, 1, 1, 1, 1, 1, 1, 1, 1, 1, 1, 1, 1, 1, 1, 1, 1, 1, 1, 1, 1, 1, 1, 1, 1, 1, 1, 1, 1, 1, 1, 1, 1, 1, 1, 1, 1, 1, 1, 1, 1, 1, 1, 1, 1, 1, 1, 1, 1, 1, 1, 1, 1, 1, 1, 1, 1, 1, 1, 1, 1, 1, 1, 1, 0, 0, 0, 1, 1, 1, 1, 1, 1, 1, 1, 1, 1, 1, 1, 1, 1, 1, 1, 1, 1, 1, 1, 1, 1, 1, 1, 1, 1, 1, 1, 1, 1, 1, 1, 1, 1] (fun vs_ wc => ∃ v105, vs_ = [v105] ∧ ∃ (kq : Nat) (x105_8 : Bool), v105 = .bool x105_8 ∧ Aside0 (laws_FnWalksMeanOfAll.j0 kq a0 a1 a2 a3 a4 a5 a6 a7 x105_8 = some r) ∧ Aside0 (kq ≤ k) ∧ Aside0 (Below w.heap.size w wc)) ?first1 ?rest1
 case first1 =>
  as_aux_lemma =>
  intro _ _ _ _
  have H := HC9.out
  clear HC9
  by_cases c10 : (a0.size : Int) > 1048576
  ·rw [if_pos c10] at H
   have c10b0 : decide (1048576 < (a0.size : Int)) = true := decide_eq_true c10
   have c10b1 : decide (1048576 < a0.size) = true := decide_eq_true (by omega)
   clear c10
   (first | rw [c10b0] | (simp only [i64_w, i32_w]; rw [c10b0]) | skip)
   have H' := Aside0.mk H
   clear H
   go_wp2
   refine Met.intro ?_
   go_step
   refine ⟨[_], ⟨rfl, trivial⟩, ⟨_, rfl, ?rel⟩, by kernel_rfl⟩
   case rel => exact ⟨_, (true), (by first | rfl | (simp; done) | (simp [*]; done)), H', ⟨by first | omega | exact Nat.le_refl _⟩, ⟨by repeat (first | (with_reducible first | exact HB.out | apply below_alloc | apply pw_below_drewN | apply below_drew1) | exact HB.out)⟩⟩
  ·rw [if_neg c10] at H
   have c10b0 : decide (1048576 < (a0.size : Int)) = false := decide_eq_false c10
   have c10b1 : decide (1048576 < a0.size) = false := decide_eq_false (by omega)
   clear c10
   (first | rw [c10b0] | (simp only [i64_w, i32_w]; rw [c10b0]) | skip)
   by_cases c11 : (a1.size : Int) > 1048576
   ·rw [if_pos c11] at H
    have c11b0 : decide (1048576 < (a1.size : Int)) = true := decide_eq_true c11
    have c11b1 : decide (1048576 < a1.size) = true := decide_eq_true (by omega)
    clear c11
    have H' := Aside0.mk H
    clear H
    go_wp2
    refine Met.intro ?_
    go_step
    refine ⟨[_], ⟨rfl, trivial⟩, ⟨_, rfl, ?rel⟩, by kernel_rfl⟩
    case rel => exact ⟨_, (true), (by first | rfl | (simp; done) | (simp [*]; done)), H', ⟨by first | omega | exact Nat.le_refl _⟩, ⟨by repeat (first | (with_reducible first | exact HB.out | apply below_alloc | apply pw_below_drewN | apply below_drew1) | exact HB.out)⟩⟩
   ·rw [if_neg c11] at H
    have c11b0 : decide (1048576 < (a1.size : Int)) = false := decide_eq_false c11
    have c11b1 : decide (1048576 < a1.size) = false := decide_eq_false (by omega)
    clear c11
    by_cases c12 : (a2.size : Int) > 1048576
    ·rw [if_pos c12] at H
     have c12b0 : decide (1048576 < (a2.size : Int)) = true := decide_eq_true c12
     have c12b1 : decide (1048576 < a2.size) = true := decide_eq_true (by omega)
     clear c12
     have H' := Aside0.mk H
     clear H
     go_wp2
     refine Met.intro ?_
     go_step
     refine ⟨[_], ⟨rfl, trivial⟩, ⟨_, rfl, ?rel⟩, by kernel_rfl⟩
     case rel => exact ⟨_, (true), (by first | rfl | (simp; done) | (simp [*]; done)), H', ⟨by first | omega | exact Nat.le_refl _⟩, ⟨by repeat (first | (with_reducible first | exact HB.out | apply below_alloc | apply pw_below_drewN | apply below_drew1) | exact HB.out)⟩⟩
    ·rw [if_neg c12] at H
     have c12b0 : decide (1048576 < (a2.size : Int)) = false := decide_eq_false c12
     have c12b1 : decide (1048576 < a2.size) = false := decide_eq_false (by omega)
     clear c12
     by_cases c13 : (a3.size : Int) > 1048576
     ·rw [if_pos c13] at H
      have c13b0 : decide (1048576 < (a3.size : Int)) = true := decide_eq_true c13
      have c13b1 : decide (1048576 < a3.size) = true := decide_eq_true (by omega)
      clear c13
      have H' := Aside0.mk H
      clear H
      go_wp2
      refine Met.intro ?_
      go_step
      refine ⟨[_], ⟨rfl, trivial⟩, ⟨_, rfl, ?rel⟩, by kernel_rfl⟩
      case rel => exact ⟨_, (true), (by first | rfl | (simp; done) | (simp [*]; done)), H', ⟨by first | omega | exact Nat.le_refl _⟩, ⟨by repeat (first | (with_reducible first | exact HB.out | apply below_alloc | apply pw_below_drewN | apply below_drew1) | exact HB.out)⟩⟩
     ·rw [if_neg c13] at H
      have c13b0 : decide (1048576 < (a3.size : Int)) = false := decide_eq_false c13
      have c13b1 : decide (1048576 < a3.size) = false := decide_eq_false (by omega)
      clear c13
      by_cases c14 : (a4.size : Int) > 1048576
      ·rw [if_pos c14] at H
       have c14b0 : decide (1048576 < (a4.size : Int)) = true := decide_eq_true c14
       have c14b1 : decide (1048576 < a4.size) = true := decide_eq_true (by omega)
       clear c14
       have H' := Aside0.mk H
       clear H
       go_wp2
       refine Met.intro ?_
       go_step
       refine ⟨[_], ⟨rfl, trivial⟩, ⟨_, rfl, ?rel⟩, by kernel_rfl⟩
       case rel => exact ⟨_, (true), (by first | rfl | (simp; done) | (simp [*]; done)), H', ⟨by first | omega | exact Nat.le_refl _⟩, ⟨by repeat (first | (with_reducible first | exact HB.out | apply below_alloc | apply pw_below_drewN | apply below_drew1) | exact HB.out)⟩⟩
      ·rw [if_neg c14] at H
       have c14b0 : decide (1048576 < (a4.size : Int)) = false := decide_eq_false c14
       have c14b1 : decide (1048576 < a4.size) = false := decide_eq_false (by omega)
       clear c14
       by_cases c15 : (a5.size : Int) > 1048576
       ·rw [if_pos c15] at H
        have c15b0 : decide (1048576 < (a5.size : Int)) = true := decide_eq_true c15
        have c15b1 : decide (1048576 < a5.size) = true := decide_eq_true (by omega)
        clear c15
        have H' := Aside0.mk H
        clear H
        go_wp2
        refine Met.intro ?_
        go_step
        refine ⟨[_], ⟨rfl, trivial⟩, ⟨_, rfl, ?rel⟩, by kernel_rfl⟩
        case rel => exact ⟨_, (true), (by first | rfl | (simp; done) | (simp [*]; done)), H', ⟨by first | omega | exact Nat.le_refl _⟩, ⟨by repeat (first | (with_reducible first | exact HB.out | apply below_alloc | apply pw_below_drewN | apply below_drew1) | exact HB.out)⟩⟩
       ·rw [if_neg c15] at H
        have c15b0 : decide (1048576 < (a5.size : Int)) = false := decide_eq_false c15
        have c15b1 : decide (1048576 < a5.size) = false := decide_eq_false (by omega)
        clear c15
        have H' := Aside0.mk H
        clear H
        go_wp2
        refine Met.intro ?_
        go_step
        refine ⟨[_], ⟨rfl, trivial⟩, ⟨_, rfl, ?rel⟩, by kernel_rfl⟩
        case rel => exact ⟨_, (decide ((a6.size : Int) > 1048576)), (by first | rfl | (simp; done) | (simp [*]; done)), H', ⟨by first | omega | exact Nat.le_refl _⟩, ⟨by repeat (first | (with_reducible first | exact HB.out | apply below_alloc | apply pw_below_drewN | apply below_drew1) | exact HB.out)⟩⟩
 case rest1 =>
  as_aux_lemma =>
  intro vs_ f_ wc hcut
  obtain ⟨v105, rfl, hcut⟩ := hcut
  dsimp only [mixF, List.getD_cons_zero, List.getD_cons_succ, Nat.reduceAdd]
  clear HC9
  try clear c1
  try clear p2
  try clear c4
  try clear c10
  try clear c10b0
  try clear c10b1
  try clear c11
  try clear c11b0
  try clear c11b1
  try clear c12
  try clear c12b0
  try clear c12b1
  try clear c13
  try clear c13b0
  try clear c13b1
  try clear c14
  try clear c14b0
  try clear c14b1
  try clear c15
  try clear c15b0
  try clear c15b1
  obtain ⟨kq, x105_8, rfl, HA, HJ8, HB⟩ := hcut
  cases kq with
  | zero => exact absurd HA.out (by simp [laws_FnWalksMeanOfAll.j0])
  | succ kj8 =>
   have H := HA.out
   clear HA
   simp only [laws_FnWalksMeanOfAll.j0] at H
   by_cases c16 : x105_8 = true
   ·subst c16
    have H1 : (some true) = some r := by rw [if_pos rfl] at H; exact H
    clear H
    have H := H1
    clear H1
    obtain rfl := Option.some.inj H
    go_wp2
    go_ret
    exact ⟨by first | rfl | (simp [errW_none, errW_some] <;> rfl) | (simp [*, errW_none, errW_some] <;> rfl), by repeat (first | (with_reducible first | exact HB.out | apply below_alloc | apply pw_below_drewN | apply below_drew1) | exact HB.out)⟩
   ·replace c16 := Bool.eq_false_iff.mpr c16
    subst c16
    have H1 : ((impl_MeanFrom.f kj8 a0 a1).bind fun bt249 => ((spec_MeanFrom.f kj8 a0 a1).bind fun bt251 => ((impl_MeanToClear.f kj8 a0).bind fun bt253 => ((spec_MeanToClear.f kj8 a0).bind fun bt255 => (if (bt249.2 != bt251.2) = true then (laws_FnWalksMeanOfAll.j1 kj8 a0 a1 a2 a3 a4 a5 a6 a7 bt249.1 bt249.2 true) else (if bt249.1 = bt251.1 then (if (bt253.2 != bt255.2) = true then (laws_FnWalksMeanOfAll.j1 kj8 a0 a1 a2 a3 a4 a5 a6 a7 bt249.1 bt249.2 true) else (if bt253.1 = bt255.1 then (if bt249.2 = true then (laws_FnWalksMeanOfAll.j1 kj8 a0 a1 a2 a3 a4 a5 a6 a7 bt249.1 bt249.2 (!bt253.2)) else (laws_FnWalksMeanOfAll.j1 kj8 a0 a1 a2 a3 a4 a5 a6 a7 bt249.1 bt249.2 false)) else (laws_FnWalksMeanOfAll.j1 kj8 a0 a1 a2 a3 a4 a5 a6 a7 bt249.1 bt249.2 true))) else (laws_FnWalksMeanOfAll.j1 kj8 a0 a1 a2 a3 a4 a5 a6 a7 bt249.1 bt249.2 true))))))) = some r := by rw [if_neg (show ¬ (false = true) by decide)] at H; exact H
    clear H
    have H := H1
    clear H1
    replace H := Option.bind_eq_some_iff.mp H
    obtain ⟨⟨t249, t250⟩, A170, H⟩ := H
    replace H : ((spec_MeanFrom.f kj8 a0 a1).bind fun bt251 => ((impl_MeanToClear.f kj8 a0).bind fun bt253 => ((spec_MeanToClear.f kj8 a0).bind fun bt255 => (if (t250 != bt251.2) = true then (laws_FnWalksMeanOfAll.j1 kj8 a0 a1 a2 a3 a4 a5 a6 a7 t249 t250 true) else (if t249 = bt251.1 then (if (bt253.2 != bt255.2) = true then (laws_FnWalksMeanOfAll.j1 kj8 a0 a1 a2 a3 a4 a5 a6 a7 t249 t250 true) else (if bt253.1 = bt255.1 then (if t250 = true then (laws_FnWalksMeanOfAll.j1 kj8 a0 a1 a2 a3 a4 a5 a6 a7 t249 t250 (!bt253.2)) else (laws_FnWalksMeanOfAll.j1 kj8 a0 a1 a2 a3 a4 a5 a6 a7 t249 t250 false)) else (laws_FnWalksMeanOfAll.j1 kj8 a0 a1 a2 a3 a4 a5 a6 a7 t249 t250 true))) else (laws_FnWalksMeanOfAll.j1 kj8 a0 a1 a2 a3 a4 a5 a6 a7 t249 t250 true)))))) = some r := H
    have A17 := Aside0.mk A170
    clear A170
    replace H := Option.bind_eq_some_iff.mp H
    obtain ⟨⟨t251, t252⟩, A180, H⟩ := H
    replace H : ((impl_MeanToClear.f kj8 a0).bind fun bt253 => ((spec_MeanToClear.f kj8 a0).bind fun bt255 => (if (t250 != t252) = true then (laws_FnWalksMeanOfAll.j1 kj8 a0 a1 a2 a3 a4 a5 a6 a7 t249 t250 true) else (if t249 = t251 then (if (bt253.2 != bt255.2) = true then (laws_FnWalksMeanOfAll.j1 kj8 a0 a1 a2 a3 a4 a5 a6 a7 t249 t250 true) else (if bt253.1 = bt255.1 then (if t250 = true then (laws_FnWalksMeanOfAll.j1 kj8 a0 a1 a2 a3 a4 a5 a6 a7 t249 t250 (!bt253.2)) else (laws_FnWalksMeanOfAll.j1 kj8 a0 a1 a2 a3 a4 a5 a6 a7 t249 t250 false)) else (laws_FnWalksMeanOfAll.j1 kj8 a0 a1 a2 a3 a4 a5 a6 a7 t249 t250 true))) else (laws_FnWalksMeanOfAll.j1 kj8 a0 a1 a2 a3 a4 a5 a6 a7 t249 t250 true))))) = some r := H
    have A18 := Aside0.mk A180
    clear A180
    replace H := Option.bind_eq_some_iff.mp H
    obtain ⟨⟨t253, t254⟩, A190, H⟩ := H
    replace H : ((spec_MeanToClear.f kj8 a0).bind fun bt255 => (if (t250 != t252) = true then (laws_FnWalksMeanOfAll.j1 kj8 a0 a1 a2 a3 a4 a5 a6 a7 t249 t250 true) else (if t249 = t251 then (if (t254 != bt255.2) = true then (laws_FnWalksMeanOfAll.j1 kj8 a0 a1 a2 a3 a4 a5 a6 a7 t249 t250 true) else (if t253 = bt255.1 then (if t250 = true then (laws_FnWalksMeanOfAll.j1 kj8 a0 a1 a2 a3 a4 a5 a6 a7 t249 t250 (!t254)) else (laws_FnWalksMeanOfAll.j1 kj8 a0 a1 a2 a3 a4 a5 a6 a7 t249 t250 false)) else (laws_FnWalksMeanOfAll.j1 kj8 a0 a1 a2 a3 a4 a5 a6 a7 t249 t250 true))) else (laws_FnWalksMeanOfAll.j1 kj8 a0 a1 a2 a3 a4 a5 a6 a7 t249 t250 true)))) = some r := H
    have A19 := Aside0.mk A190
    clear A190
    replace H := Option.bind_eq_some_iff.mp H
    obtain ⟨⟨t255, t256⟩, A200, H⟩ := H
    replace H : (if (t250 != t252) = true then (laws_FnWalksMeanOfAll.j1 kj8 a0 a1 a2 a3 a4 a5 a6 a7 t249 t250 true) else (if t249 = t251 then (if (t254 != t256) = true then (laws_FnWalksMeanOfAll.j1 kj8 a0 a1 a2 a3 a4 a5 a6 a7 t249 t250 true) else (if t253 = t255 then (if t250 = true then (laws_FnWalksMeanOfAll.j1 kj8 a0 a1 a2 a3 a4 a5 a6 a7 t249 t250 (!t254)) else (laws_FnWalksMeanOfAll.j1 kj8 a0 a1 a2 a3 a4 a5 a6 a7 t249 t250 false)) else (laws_FnWalksMeanOfAll.j1 kj8 a0 a1 a2 a3 a4 a5 a6 a7 t249 t250 true))) else (laws_FnWalksMeanOfAll.j1 kj8 a0 a1 a2 a3 a4 a5 a6 a7 t249 t250 true))) = some r := H
    have A20 := Aside0.mk A200
    clear A200
    have HC21 := Aside0.mk H
    clear H
    go_upto_region 7 with (first | ((with_reducible refine gate_callee (f := 20) rfl ?_); refine goesL_ (some 109) rfl rfl Tryd.func20 (by kernel_rfl) rfl #[.string a0, .string a1] rfl (by (try simp only [List.map_toArray, List.map_cons, List.map_nil]); first | done | rfl | (simp only [List.length_drop, List.length_take]; rfl)) ?_; (with_reducible refine (impl_MeanFrom.calls kj8 a0 a1 t249 t250 _ A17.out).mono ?_); rintro e w22 ⟨rfl, hb⟩; refine ⟨_, rfl, ?_⟩; have n0_ := Aside0.mk (below_step (by repeat (first | (with_reducible first | exact HB.out | apply below_alloc | apply pw_below_drewN | apply below_drew1) | exact HB.out)) hb); clear HB; have HB := n0_; clear n0_; (try clear hb); (try clear hb2); (try clear hk); (try clear hi)) | ((with_reducible refine gate_callee (f := 21) rfl ?_); refine goesL_ (some 115) rfl rfl Tryd.func21 (by kernel_rfl) rfl #[.string a0, .string a1] rfl (by (try simp only [List.map_toArray, List.map_cons, List.map_nil]); first | done | rfl | (simp only [List.length_drop, List.length_take]; rfl)) ?_; (with_reducible refine (spec_MeanFrom.calls kj8 a0 a1 t251 t252 _ A18.out).mono ?_); rintro e w' ⟨rfl, ⟨nd, rfl⟩⟩; refine ⟨_, rfl, ?_⟩) | ((with_reducible refine gate_callee (f := 22) rfl ?_); refine goesL_ (some 120) rfl rfl Tryd.func22 (by kernel_rfl) rfl #[.string a0] rfl (by (try simp only [List.map_toArray, List.map_cons, List.map_nil]); first | done | rfl | (simp only [List.length_drop, List.length_take]; rfl)) ?_; (with_reducible refine (impl_MeanToClear.calls kj8 a0 t253 t254 _ A19.out).mono ?_); rintro e w23 ⟨rfl, hb⟩; refine ⟨_, rfl, ?_⟩; have n0_ := Aside0.mk (below_step (by repeat (first | (with_reducible first | exact HB.out | apply below_alloc | apply pw_below_drewN | apply below_drew1) | exact HB.out)) hb); clear HB; have HB := n0_; clear n0_; (try clear hb); (try clear hb2); (try clear hk); (try clear hi)) | ((with_reducible refine gate_callee (f := 23) rfl ?_); refine goesL_ (some 125) rfl rfl Tryd.func23 (by kernel_rfl) rfl #[.string a0] rfl (by (try simp only [List.map_toArray, List.map_cons, List.map_nil]); first | done | rfl | (simp only [List.length_drop, List.length_take]; rfl)) ?_; (with_reducible refine (spec_MeanToClear.calls kj8 a0 t255 t256 _ A20.out).mono ?_); rintro e w' ⟨rfl, ⟨nd, rfl⟩⟩; refine ⟨_, rfl, ?_⟩))
    (try simp only [Act.put, List.setIfInBounds_toArray, List.set_cons_zero, List.set_cons_succ])
    refine wp_cutv [152] [0, 0, 0, 0, 0, 0, 0, 0, 0, 0, 0, 0, 0, 0, 0, 0, 0, 0, 0, 0, 0, 0, 0, 0, 0, 0, 0, 0, 0, 0, 0, 0, 0, 0, 0, 0, 0, 0, 0, 0, 0, 0, 0, 0, 0, 0, 0, 0, 0, 0, 0, 0, 0, 0, 0, 0, 0, 0, 0, 0, 0, 0, 0, 0, 0, 0, 0, 0, 0, 0, 0, 0, 0, 1, 1, 1, 1, 1, 1, 1, 1, 1, 1, 1, 1, 1, 1, 1, 1, 1, 1, 1, 1, 1, 1, 1, 1, 1, 1, 1, 1, 1, 1, 1, 1, 1, 1, 1, 1, 1, 1, 1, 1, 1, 1, 1, 1, 1, 1, 1, 1, 1, 1, 1, 1, 1, 1, 1, 1, 1, 1, 1, 1, 1, 1, 1, 1, 1, 1, 1, 1, 1, 1, 1, 1, 1, 1, 1, 1, 1, 1, 1, 2, 1, 1, 1, 1, 1, 1, 1, 1, 1, 1, 1, 1, 1, 1, 1, 1, 1, 1, 1, 1, 1, 1, 1, 1, 1, 1, 1, 1, 1, 1, 0, 0, 0, 1, 1, 1, 1, 1, 1, 1, 1, 1, 1, 1, 1, 1, 1, 1, 1, 1, 1, 1, 1, 1, 1, 1, 1, 1, 1, 1, 1, 1, 1, 1, 1, 1, 1, 1, 1, 1, 1, 1, 1, 1, 1, 1, 1, 1, 1, 1, 1, 1, 1, 1, 1, 1, 1, 1, 1, 1, 1, 1, 1, 1, 1, 1, 1, 1, 1, 1, 1, 1, 1, 1, 1, 1, 1, 1, 1, 1, 1, 1, 1, 1, 1, 1, 1, 1, 1, 1, 1, 1, 1, 1, 1, 1, 1, 1, 1, 1, 1, 1, 1, 1, 1, 1, 1, 1, 1, 1, 1, 1, 1, 1, 1, 1, 1, 1, 1, 1, 1, 1, 1, 1, 1, 1, 1, 1, 1, 1, 1, 1, 1, 1, 1, 1, 1, 1, 1, 1, 1, 1, 1, 1, 1, 1, 1, 1, 1, 1, 1, 1, 1, 1, 1, 1, 1, 1, 1, 1, 1, 1, 1, 1, 1, 1, 1, 1, 1, 1, 1, 1, 1, 1, 1, 1, 1, 1, 1, 1, 1, 1, 1, 1, 1, 1, 1, 1, 1, 1, 1, 1, 1, 1, 1, 1, 1, 1, 1, 1, 1, 1, 1, 1, 1, 1, 1, 1, 1, 1, 1, 1, 1, 1, 1, 1, 1, 1, 1, 1, 1, 1, 1, 1, 1, 1, 1, 1, 1, 1, 1, 1, 1, 1, 1, 1, 1, 1, 1, 1, 1, 1, 1, 1, 1, 1, 1, 1, 1, 1, 1, 1, 1, 1, 1, 1, 1, 1, 1, 1, 1, 1, 1, 1, 1, 1, 1, 1, 1, 1, 1, 1, 1, 1, 1, 1, 1, 0, 0, 0, 1, 1, 1, 1, 1, 1, 1, 1, 1, 1, 1, 1, 1, 1, 1, 1, 1, 1, 1, 1, 1, 1, 1, 1, 1, 1, 1, 1, 1, 1, 1, 1, 1, 1] (fun vs_ wc => ∃ v152, vs_ = [v152] ∧ ∃ (kq : Nat) (x152_20 : Bool), v152 = .bool x152_20 ∧ Aside0 (laws_FnWalksMeanOfAll.j1 kq a0 a1 a2 a3 a4 a5 a6 a7 t249 t250 x152_20 = some r) ∧ Aside0 (kq ≤ kj8) ∧ Aside0 (Below w.heap.size w wc)) ?first2 ?rest2
    case first2 =>
     as_aux_lemma =>
     intro _ _ _ _
     have H := HC21.out
     clear HC21
     by_cases c24 : (t250 != t252) = true
     ·rw [if_pos c24] at H
      have c24b0 : (t250 != t252) = true := c24
      (try (have c24b1 : decide (t250 = t252) = false := by simpa using c24))
      (try (have c24b2 : (t250 == t252) = false := by simpa using c24))
      (try (have c24b3 : ¬ (t250 = t252) := by simpa using c24))
      clear c24
      (first | rw [c24b0] | (simp only [i64_w, i32_w]; rw [c24b0]) | skip)
      have H' := Aside0.mk H
      clear H
      go_wp2
      refine Met.intro ?_
      go_step
      refine ⟨[_], ⟨rfl, trivial⟩, ⟨_, rfl, ?rel⟩, by kernel_rfl⟩
      case rel => exact ⟨_, (true), (by first | rfl | (simp; done) | (simp [*]; done)), H', ⟨by have := HJ8.out; first | omega | exact Nat.le_refl _⟩, ⟨by repeat (first | (with_reducible first | exact HB.out | apply below_alloc | apply pw_below_drewN | apply below_drew1) | exact HB.out)⟩⟩
     ·rw [if_neg c24] at H
      have c24b0 : (t250 != t252) = false := by simpa using c24
      (try (have c24b1 : decide (t250 = t252) = true := by simpa using c24))
      (try (have c24b2 : (t250 == t252) = true := by simpa using c24))
      clear c24
      (first | rw [c24b0] | (simp only [i64_w, i32_w]; rw [c24b0]) | skip)
      by_cases c25 : t249 = t251
      ·rw [if_pos c25] at H
       have c25b0 : (t249 == t251) = true := beq_iff_eq.mpr c25
       have c25b1 : (t249 != t251) = false := bne_eq_false_iff_eq.mpr c25
       clear c25
       by_cases c26 : (t254 != t256) = true
       ·rw [if_pos c26] at H
        have c26b0 : (t254 != t256) = true := c26
        (try (have c26b1 : decide (t254 = t256) = false := by simpa using c26))
        (try (have c26b2 : (t254 == t256) = false := by simpa using c26))
        (try (have c26b3 : ¬ (t254 = t256) := by simpa using c26))
        clear c26
        have H' := Aside0.mk H
        clear H
        go_wp2
        refine Met.intro ?_
        go_step
        refine ⟨[_], ⟨rfl, trivial⟩, ⟨_, rfl, ?rel⟩, by kernel_rfl⟩
        case rel => exact ⟨_, (true), (by first | rfl | (simp; done) | (simp [*]; done)), H', ⟨by have := HJ8.out; first | omega | exact Nat.le_refl _⟩, ⟨by repeat (first | (with_reducible first | exact HB.out | apply below_alloc | apply pw_below_drewN | apply below_drew1) | exact HB.out)⟩⟩
       ·rw [if_neg c26] at H
        have c26b0 : (t254 != t256) = false := by simpa using c26
        (try (have c26b1 : decide (t254 = t256) = true := by simpa using c26))
        (try (have c26b2 : (t254 == t256) = true := by simpa using c26))
        clear c26
        by_cases c27 : t253 = t255
        ·rw [if_pos c27] at H
         have c27b0 : (t253 == t255) = true := beq_iff_eq.mpr c27
         have c27b1 : (t253 != t255) = false := bne_eq_false_iff_eq.mpr c27
         clear c27
         by_cases c28 : t250 = true
         ·subst c28
          have H1 : (laws_FnWalksMeanOfAll.j1 kj8 a0 a1 a2 a3 a4 a5 a6 a7 t249 true (!t254)) = some r := by rw [if_pos rfl] at H; exact H
          clear H
          have H := H1
          clear H1
          have H' := Aside0.mk H
          clear H
          go_wp2
          refine Met.intro ?_
          go_step
          refine ⟨[_], ⟨rfl, trivial⟩, ⟨_, rfl, ?rel⟩, by kernel_rfl⟩
          case rel => exact ⟨_, (!t254), (by first | rfl | (simp; done) | (simp [*]; done)), H', ⟨by have := HJ8.out; first | omega | exact Nat.le_refl _⟩, ⟨by repeat (first | (with_reducible first | exact HB.out | apply below_alloc | apply pw_below_drewN | apply below_drew1) | exact HB.out)⟩⟩
         ·replace c28 := Bool.eq_false_iff.mpr c28
          subst c28
          have H1 : (laws_FnWalksMeanOfAll.j1 kj8 a0 a1 a2 a3 a4 a5 a6 a7 t249 false false) = some r := by rw [if_neg (show ¬ (false = true) by decide)] at H; exact H
          clear H
          have H := H1
          clear H1
          have H' := Aside0.mk H
          clear H
          go_wp2
          refine Met.intro ?_
          go_step
          refine ⟨[_], ⟨rfl, trivial⟩, ⟨_, rfl, ?rel⟩, by kernel_rfl⟩
          case rel => exact ⟨_, (false), (by first | rfl | (simp; done) | (simp [*]; done)), H', ⟨by have := HJ8.out; first | omega | exact Nat.le_refl _⟩, ⟨by repeat (first | (with_reducible first | exact HB.out | apply below_alloc | apply pw_below_drewN | apply below_drew1) | exact HB.out)⟩⟩
        ·rw [if_neg c27] at H
         have c27b0 : (t253 == t255) = false := beq_eq_false_iff_ne.mpr c27
         have c27b1 : (t253 != t255) = true := bne_iff_ne.mpr c27
         have H' := Aside0.mk H
         clear H
         go_wp2
         refine Met.intro ?_
         go_step
         refine ⟨[_], ⟨rfl, trivial⟩, ⟨_, rfl, ?rel⟩, by kernel_rfl⟩
         case rel => exact ⟨_, (true), (by first | rfl | (simp; done) | (simp [*]; done)), H', ⟨by have := HJ8.out; first | omega | exact Nat.le_refl _⟩, ⟨by repeat (first | (with_reducible first | exact HB.out | apply below_alloc | apply pw_below_drewN | apply below_drew1) | exact HB.out)⟩⟩
      ·rw [if_neg c25] at H
       have c25b0 : (t249 == t251) = false := beq_eq_false_iff_ne.mpr c25
       have c25b1 : (t249 != t251) = true := bne_iff_ne.mpr c25
       have H' := Aside0.mk H
       clear H
       go_wp2
       refine Met.intro ?_
       go_step
       refine ⟨[_], ⟨rfl, trivial⟩, ⟨_, rfl, ?rel⟩, by kernel_rfl⟩
       case rel => exact ⟨_, (true), (by first | rfl | (simp; done) | (simp [*]; done)), H', ⟨by have := HJ8.out; first | omega | exact Nat.le_refl _⟩, ⟨by repeat (first | (with_reducible first | exact HB.out | apply below_alloc | apply pw_below_drewN | apply below_drew1) | exact HB.out)⟩⟩
    case rest2 =>
     as_aux_lemma =>
     intro vs_ f_ wc hcut
     obtain ⟨v152, rfl, hcut⟩ := hcut
     dsimp only [mixF, List.getD_cons_zero, List.getD_cons_succ, Nat.reduceAdd]
     clear HC21
     try clear c1
     try clear c2
     try clear p2
     try clear c4
     try clear c10
     try clear c10b0
     try clear c10b1
     try clear c11
     try clear c11b0
     try clear c11b1
     try clear c12
     try clear c12b0
     try clear c12b1
     try clear c13
     try clear c13b0
     try clear c13b1
     try clear c14
     try clear c14b0
     try clear c14b1
     try clear c15
     try clear c15b0
     try clear c15b1
     try clear c16
     try clear c20
     try clear c21
     try clear c22
     try clear c23
     try clear c24
     try clear c24b0
     try clear c24b1
     try clear c24b2
     try clear c25
     try clear c25b0
     try clear c25b1
     try clear c26
     try clear c26b0
     try clear c26b1
     try clear c26b2
     try clear c27
     try clear c27b0
     try clear c27b1
     try clear c28
     try clear p2
     obtain ⟨kq, x152_20, rfl, HA, HJ20, HB⟩ := hcut
     cases kq with
     | zero => exact absurd HA.out (by simp [laws_FnWalksMeanOfAll.j1])
     | succ kj20 =>
      have H := HA.out
      clear HA
      simp only [laws_FnWalksMeanOfAll.j1] at H
      by_cases c29 : x152_20 = true
      ·subst c29
       have H1 : (some false) = some r := by rw [if_pos rfl] at H; exact H
       clear H
       have H := H1
       clear H1
       obtain rfl := Option.some.inj H
       go_wp2
       go_ret
       exact ⟨by first | rfl | (simp [errW_none, errW_some] <;> rfl) | (simp [*, errW_none, errW_some] <;> rfl), by repeat (first | (with_reducible first | exact HB.out | apply below_alloc | apply pw_below_drewN | apply below_drew1) | exact HB.out)⟩
      ·replace c29 := Bool.eq_false_iff.mpr c29
       subst c29
       have H1 : (if t250 = true then ((impl_FewestMoves.f kj20 a0 a1).bind fun bt257 => (if bt257.2 = true then (if t249 < bt257.1 then (laws_FnWalksMeanOfAll.j2 kj20 a0 a1 a2 a3 a4 a5 a6 a7 t249 true) else (laws_FnWalksMeanOfAll.j2 kj20 a0 a1 a2 a3 a4 a5 a6 a7 t249 ((t249 == 0) != (a0.toList == a1.toList)))) else (laws_FnWalksMeanOfAll.j2 kj20 a0 a1 a2 a3 a4 a5 a6 a7 t249 true))) else (laws_FnWalksMeanOfAll.j4 kj20 a2 a3 a4 a5 a6 a7)) = some r := by rw [if_neg (show ¬ (false = true) by decide)] at H; exact H
       clear H
       have H := H1
       clear H1
       have HC30 := Aside0.mk H
       clear H
       go_upto_if 153 with (fail)
       refine wp_cutv [] [0, 0, 0, 0, 0, 0, 0, 0, 0, 0, 0, 0, 0, 0, 0, 0, 1, 0, 0, 0, 0, 0, 0, 0, 0, 1, 1, 1, 1, 1, 0, 1, 1, 1, 1, 1, 0, 0, 0, 0, 0, 0, 0, 0, 0, 0, 0, 0, 0, 0, 0, 0, 0, 0, 0, 0, 0, 0, 0, 0, 0, 0, 0, 0, 0, 0, 0, 0, 0, 0, 0, 0, 0, 1, 1, 1, 1, 1, 1, 1, 1, 1, 1, 1, 1, 1, 1, 1, 1, 1, 1, 1, 1, 1, 1, 1, 1, 1, 1, 1, 1, 1, 1, 1, 1, 1, 1, 1, 1, 1, 1, 1, 1, 1, 1, 1, 1, 1, 1, 1, 1, 1, 1, 1, 1, 1, 1, 1, 1, 1, 1, 1, 1, 1, 1, 1, 1, 1, 1, 1, 1, 1, 1, 1, 1, 1, 1, 1, 1, 1, 1, 1, 1, 1, 1, 1, 1, 1, 1, 1, 1, 1, 1, 1, 1, 1, 1, 1, 1, 1, 1, 1, 1, 1, 1, 1, 1, 1, 1, 1, 1, 1, 1, 1, 1, 1, 1, 1, 1, 1, 1, 1, 1, 1, 1, 1, 1, 1, 1, 1, 1, 1, 1, 1, 1, 1, 1, 1, 1, 1, 1, 1, 1, 1, 1, 1, 1, 1, 1, 1, 1, 1, 1, 1, 1, 1, 1, 1, 1, 1, 1, 1, 1, 1, 1, 1, 1, 1, 1, 1, 1, 1, 1, 1, 1, 1, 1, 1, 1, 1, 1, 1, 1, 1, 1, 1, 1, 1, 1, 1, 1, 1, 1, 1, 1, 1, 1, 1, 1, 1, 1, 1, 1, 1, 1, 1, 1, 1, 1, 1, 1, 1, 1, 1, 1, 1, 1, 1, 1, 1, 1, 1, 1, 1, 1, 1, 1, 1, 1, 1, 1, 1, 1, 1, 1, 1, 1, 1, 1, 1, 1, 1, 1, 1, 1, 1, 1, 1, 1, 1, 1, 1, 1, 1, 1, 1, 1, 1, 1, 1, 1, 1, 1, 1, 1, 1, 1, 1, 1, 1, 1, 1, 1, 1, 1, 1, 1, 1, 1, 1, 1, 1, 1, 1, 1, 1, 1, 1, 1, 1, 1, 1, 1, 1, 1, 1, 1, 1, 1, 1, 1, 1, 1, 1, 1, 1, 1, 1, 1, 1, 1, 1, 1, 1, 1, 1, 1, 1, 1, 1, 1, 1, 1, 1, 1, 1, 1, 1, 1, 1, 1, 1, 1, 1, 1, 1, 1, 1, 1, 1, 1, 1, 1, 1, 1, 1, 1, 1, 1, 1, 1, 1, 1, 1, 1, 1, 1, 1, 1, 1, 1, 1, 1, 1, 1, 1, 1, 1, 1, 1, 1, 1, 1, 1, 1, 1, 1, 1, 1, 1, 1, 1, 1, 1, 1, 1, 1, 1, 1, 1, 0, 0, 0, 1, 1, 1, 1, 1, 1, 1, 1, 1, 1, 1, 1, 1, 1, 1, 1, 1, 1, 1, 1, 1, 1, 1, 1, 1, 1, 1, 1, 1, 1, 1, 1, 1, 1] (fun vs_ wc => vs_ = [] ∧ ∃ (kq : Nat), Aside0 (laws_FnWalksMeanOfAll.j4 kq a2 a3 a4 a5 a6 a7 = some r) ∧ Aside0 (kq ≤ kj20) ∧ Aside0 (Below w.heap.size w wc)) ?first3 ?rest3
       case first3 =>
        as_aux_lemma =>
        intro _ _ _ _
        have H := HC30.out
        clear HC30
        by_cases c31 : t250 = true
        ·subst c31
         have H1 : ((impl_FewestMoves.f kj20 a0 a1).bind fun bt257 => (if bt257.2 = true then (if t249 < bt257.1 then (laws_FnWalksMeanOfAll.j2 kj20 a0 a1 a2 a3 a4 a5 a6 a7 t249 true) else (laws_FnWalksMeanOfAll.j2 kj20 a0 a1 a2 a3 a4 a5 a6 a7 t249 ((t249 == 0) != (a0.toList == a1.toList)))) else (laws_FnWalksMeanOfAll.j2 kj20 a0 a1 a2 a3 a4 a5 a6 a7 t249 true))) = some r := by rw [if_pos rfl] at H; exact H
         clear H
         have H := H1
         clear H1
         replace H := Option.bind_eq_some_iff.mp H
         obtain ⟨⟨t257, t258⟩, A320, H⟩ := H
         replace H : (if t258 = true then (if t249 < t257 then (laws_FnWalksMeanOfAll.j2 kj20 a0 a1 a2 a3 a4 a5 a6 a7 t249 true) else (laws_FnWalksMeanOfAll.j2 kj20 a0 a1 a2 a3 a4 a5 a6 a7 t249 ((t249 == 0) != (a0.toList == a1.toList)))) else (laws_FnWalksMeanOfAll.j2 kj20 a0 a1 a2 a3 a4 a5 a6 a7 t249 true)) = some r := H
         have A32 := Aside0.mk A320
         clear A320
         have HC33 := Aside0.mk H
         clear H
         go_upto_region 11 with (first | ((with_reducible refine gate_callee (f := 24) rfl ?_); refine goesL_ (some 157) rfl rfl Tryd.func24 (by kernel_rfl) rfl #[.string a0, .string a1] rfl (by (try simp only [List.map_toArray, List.map_cons, List.map_nil]); first | done | rfl | (simp only [List.length_drop, List.length_take]; rfl)) ?_; (with_reducible refine (impl_FewestMoves.calls kj20 a0 a1 t257 t258 _ A32.out).mono ?_); rintro e w34 ⟨rfl, hb⟩; refine ⟨_, rfl, ?_⟩; have n0_ := Aside0.mk (below_step (by repeat (first | (with_reducible first | exact HB.out | apply below_alloc | apply pw_below_drewN | apply below_drew1) | exact HB.out)) hb); clear HB; have HB := n0_; clear n0_; (try clear hb); (try clear hb2); (try clear hk); (try clear hi)))
         (try simp only [Act.put, List.setIfInBounds_toArray, List.set_cons_zero, List.set_cons_succ])
         refine wp_cutv [174] [0, 0, 0, 0, 0, 0, 0, 0, 0, 0, 0, 0, 0, 0, 0, 0, 0, 0, 0, 0, 0, 0, 0, 0, 0, 0, 0, 0, 0, 0, 0, 0, 0, 0, 0, 0, 0, 0, 0, 0, 0, 0, 0, 0, 0, 0, 0, 0, 0, 0, 0, 0, 0, 0, 0, 0, 0, 0, 0, 0, 0, 0, 0, 0, 0, 0, 0, 0, 0, 0, 0, 0, 0, 1, 1, 1, 1, 1, 1, 1, 1, 1, 1, 1, 1, 1, 1, 1, 1, 1, 1, 1, 1, 1, 1, 1, 1, 1, 1, 1, 1, 1, 1, 1, 1, 1, 1, 1, 1, 1, 1, 1, 1, 1, 1, 1, 1, 1, 1, 1, 1, 1, 1, 1, 1, 1, 1, 1, 1, 1, 1, 1, 1, 1, 1, 1, 1, 1, 1, 1, 1, 1, 1, 1, 1, 1, 1, 1, 1, 1, 1, 1, 1, 1, 1, 1, 1, 1, 1, 1, 1, 1, 1, 1, 1, 1, 1, 1, 1, 1, 1, 1, 1, 1, 2, 1, 1, 1, 1, 1, 1, 1, 1, 0, 0, 0, 1, 1, 1, 1, 1, 1, 1, 1, 1, 1, 1, 1, 1, 1, 1, 1, 1, 1, 1, 1, 1, 1, 1, 1, 1, 1, 1, 1, 1, 1, 1, 1, 1, 1, 1, 1, 1, 1, 1, 1, 1, 1, 1, 1, 1, 1, 1, 1, 1, 1, 1, 1, 1, 1, 1, 1, 1, 1, 1, 1, 1, 1, 1, 1, 1, 1, 1, 1, 1, 1, 1, 1, 1, 1, 1, 1, 1, 1, 1, 1, 1, 1, 1, 1, 1, 1, 1, 1, 1, 1, 1, 1, 1, 1, 1, 1, 1, 1, 1, 1, 1, 1, 1, 1, 1, 1, 1, 1, 1, 1, 1, 1, 1, 1, 1, 1, 1, 1, 1, 1, 1, 1, 1, 1, 1, 1, 1, 1, 1, 1, 1, 1, 1, 1, 1, 1, 1, 1, 1, 1, 1, 1, 1, 1, 1, 1, 1, 1, 1, 1, 1, 1, 1, 1, 1, 1, 1, 1, 1, 1, 1, 1, 1, 1, 1, 1, 1, 1, 1, 1, 1, 1, 1, 1, 1, 1, 1, 1, 1, 1, 1, 1, 1, 1, 1, 1, 1, 1, 1, 1, 1, 1, 1, 1, 1, 1, 1, 1, 1, 1, 1, 1, 1, 1, 1, 1, 1, 1, 1, 1, 1, 1, 1, 1, 1, 1, 1, 1, 1, 1, 1, 1, 1, 1, 1, 1, 1, 1, 1, 1, 1, 1, 1, 1, 1, 1, 1, 1, 1, 1, 1, 1, 1, 1, 1, 1, 1, 1, 1, 1, 1, 1, 1, 1, 1, 1, 1, 1, 1, 1, 1, 1, 1, 1, 1, 1, 1, 1, 1, 1, 1, 1, 1, 1, 0, 0, 0, 1, 1, 1, 1, 1, 1, 1, 1, 1, 1, 1, 1, 1, 1, 1, 1, 1, 1, 1, 1, 1, 1, 1, 1, 1, 1, 1, 1, 1, 1, 1, 1, 1, 1] (fun vs_ wc => ∃ v174, vs_ = [v174] ∧ ∃ (kq : Nat) (x174_32 : Bool), v174 = .bool x174_32 ∧ Aside0 (laws_FnWalksMeanOfAll.j2 kq a0 a1 a2 a3 a4 a5 a6 a7 t249 x174_32 = some r) ∧ Aside0 (kq ≤ kj20) ∧ Aside0 (Below w.heap.size w wc)) ?first4 ?rest4
         case first4 =>
          as_aux_lemma =>
          intro _ _ _ _
          have H := HC33.out
          clear HC33
          by_cases c35 : t258 = true
          ·subst c35
           have H1 : (if t249 < t257 then (laws_FnWalksMeanOfAll.j2 kj20 a0 a1 a2 a3 a4 a5 a6 a7 t249 true) else (laws_FnWalksMeanOfAll.j2 kj20 a0 a1 a2 a3 a4 a5 a6 a7 t249 ((t249 == 0) != (a0.toList == a1.toList)))) = some r := by rw [if_pos rfl] at H; exact H
           clear H
           have H := H1
           clear H1
           by_cases c36 : t249 < t257
           ·rw [if_pos c36] at H
            have c36b0 : decide (t249 < t257) = true := decide_eq_true c36
            clear c36
            (first | rw [c36b0] | (simp only [i64_w, i32_w]; rw [c36b0]) | skip)
            have H' := Aside0.mk H
            clear H
            go_wp2
            refine Met.intro ?_
            go_step
            refine ⟨[_], ⟨rfl, trivial⟩, ⟨_, rfl, ?rel⟩, by kernel_rfl⟩
            case rel => exact ⟨_, (true), (by first | rfl | (simp; done) | (simp [*]; done)), H', ⟨by have := HJ8.out; have := HJ20.out; first | omega | exact Nat.le_refl _⟩, ⟨by repeat (first | (with_reducible first | exact HB.out | apply below_alloc | apply pw_below_drewN | apply below_drew1) | exact HB.out)⟩⟩
           ·rw [if_neg c36] at H
            have c36b0 : decide (t249 < t257) = false := decide_eq_false c36
            clear c36
            (first | rw [c36b0] | (simp only [i64_w, i32_w]; rw [c36b0]) | skip)
            have H' := Aside0.mk H
            clear H
            go_wp2
            refine Met.intro ?_
            go_step
            refine ⟨[_], ⟨rfl, trivial⟩, ⟨_, rfl, ?rel⟩, by kernel_rfl⟩
            case rel => exact ⟨_, (((t249 == 0) != (a0.toList == a1.toList))), (by first | rfl | (simp; done) | (simp [*]; done)), H', ⟨by have := HJ8.out; have := HJ20.out; first | omega | exact Nat.le_refl _⟩, ⟨by repeat (first | (with_reducible first | exact HB.out | apply below_alloc | apply pw_below_drewN | apply below_drew1) | exact HB.out)⟩⟩
          ·replace c35 := Bool.eq_false_iff.mpr c35
           subst c35
           have H1 : (laws_FnWalksMeanOfAll.j2 kj20 a0 a1 a2 a3 a4 a5 a6 a7 t249 true) = some r := by rw [if_neg (show ¬ (false = true) by decide)] at H; exact H
           clear H
           have H := H1
           clear H1
           have H' := Aside0.mk H
           clear H
           go_wp2
           refine Met.intro ?_
           go_step
           refine ⟨[_], ⟨rfl, trivial⟩, ⟨_, rfl, ?rel⟩, by kernel_rfl⟩
           case rel => exact ⟨_, (true), (by first | rfl | (simp; done) | (simp [*]; done)), H', ⟨by have := HJ8.out; have := HJ20.out; first | omega | exact Nat.le_refl _⟩, ⟨by repeat (first | (with_reducible first | exact HB.out | apply below_alloc | apply pw_below_drewN | apply below_drew1) | exact HB.out)⟩⟩
         case rest4 =>
          as_aux_lemma =>
          intro vs_ f_ wc hcut
          obtain ⟨v174, rfl, hcut⟩ := hcut
          dsimp only [mixF, List.getD_cons_zero, List.getD_cons_succ, Nat.reduceAdd]
          clear HC33
          try clear c1
          try clear c2
          try clear p2
          try clear c3
          try clear c4
          try clear c10
          try clear c10b0
          try clear c10b1
          try clear c11
          try clear c11b0
          try clear c11b1
          try clear c12
          try clear c12b0
          try clear c12b1
          try clear c13
          try clear c13b0
          try clear c13b1
          try clear c14
          try clear c14b0
          try clear c14b1
          try clear c15
          try clear c15b0
          try clear c15b1
          try clear c16
          try clear c20
          try clear c21
          try clear c22
          try clear c23
          try clear c24
          try clear c24b0
          try clear c24b1
          try clear c24b2
          try clear c25
          try clear c25b0
          try clear c25b1
          try clear c26
          try clear c26b0
          try clear c26b1
          try clear c26b2
          try clear c27
          try clear c27b0
          try clear c27b1
          try clear c28
          try clear c29
          try clear c31
          try clear c35
          try clear c36
          try clear c36b0
          try clear p2
          obtain ⟨kq, x174_32, rfl, HA, HJ32, HB⟩ := hcut
          cases kq with
          | zero => exact absurd HA.out (by simp [laws_FnWalksMeanOfAll.j2])
          | succ kj32 =>
           have H := HA.out
           clear HA
           simp only [laws_FnWalksMeanOfAll.j2] at H
           by_cases c37 : x174_32 = true
           ·subst c37
            have H1 : (some false) = some r := by rw [if_pos rfl] at H; exact H
            clear H
            have H := H1
            clear H1
            obtain rfl := Option.some.inj H
            go_wp2
            go_ret
            exact ⟨by first | rfl | (simp [errW_none, errW_some] <;> rfl) | (simp [*, errW_none, errW_some] <;> rfl), by repeat (first | (with_reducible first | exact HB.out | apply below_alloc | apply pw_below_drewN | apply below_drew1) | exact HB.out)⟩
           ·replace c37 := Bool.eq_false_iff.mpr c37
            subst c37
            have H1 : (if a0.toList = a1.toList then (laws_FnWalksMeanOfAll.j4 kj32 a2 a3 a4 a5 a6 a7) else ((impl_MovesOf.f kj32 a0).bind fun bt259 => (laws_FnWalksMeanOfAll.l0 kj32 a0 a1 a2 a3 a4 a5 a6 a7 t249 bt259.1 bt259.2 0 bt259.1 (bt259.1.length : Int) 0))) = some r := by rw [if_neg (show ¬ (false = true) by decide)] at H; exact H
            clear H
            have H := H1
            clear H1
            by_cases c38 : a0.toList = a1.toList
            ·rw [if_pos c38] at H
             have c38b0 : (a0.toList == a1.toList) = true := beq_iff_eq.mpr c38
             have c38b1 : (a0.toList != a1.toList) = false := bne_eq_false_iff_eq.mpr c38
             clear c38
             have H' := Aside0.mk H
             clear H
             go_wp2
             refine Met.intro ?_
             go_step
             refine ⟨[], trivial, ⟨rfl, ?rel⟩, by kernel_rfl⟩
             case rel => exact ⟨_, H', ⟨by have := HJ8.out; have := HJ20.out; have := HJ32.out; first | omega | exact Nat.le_refl _⟩, ⟨by repeat (first | (with_reducible first | exact HB.out | apply below_alloc | apply pw_below_drewN | apply below_drew1) | exact HB.out)⟩⟩
            ·rw [if_neg c38] at H
             have c38b0 : (a0.toList == a1.toList) = false := beq_eq_false_iff_ne.mpr c38
             have c38b1 : (a0.toList != a1.toList) = true := bne_iff_ne.mpr c38
             replace H := Option.bind_eq_some_iff.mp H
             obtain ⟨⟨t259, t260⟩, A390, H⟩ := H
             replace H : (laws_FnWalksMeanOfAll.l0 kj32 a0 a1 a2 a3 a4 a5 a6 a7 t249 t259 t260 0 t259 (t259.length : Int) 0) = some r := H
             have A39 := Aside0.mk A390
             clear A390
             have H' := Aside0.mk H
             clear H
             go_wp2_with (first | ((with_reducible refine gate_callee (f := 25) rfl ?_); refine goesL_ (some 180) rfl rfl Tryd.func25 (by kernel_rfl) rfl #[.string a0] rfl (by (try simp only [List.map_toArray, List.map_cons, List.map_nil]); first | done | rfl | (simp only [List.length_drop, List.length_take]; rfl)) ?_; (with_reducible refine (impl_MovesOf.calls kj32 a0 t259 t260 _ A39.out).mono ?_); rintro e w40 ⟨v261, rfl, ho0, hb⟩; refine ⟨_, rfl, ?_⟩; have n0_ := Aside0.mk (Kd.R_lower ho0 (below_size (by repeat (first | (with_reducible first | exact HB.out | apply below_alloc | apply pw_below_drewN | apply below_drew1) | exact HB.out)))); have n1_ := Aside0.mk (below_step (by repeat (first | (with_reducible first | exact HB.out | apply below_alloc | apply pw_below_drewN | apply below_drew1) | exact HB.out)) hb); clear HB; have HO262 := n0_; have HB := n1_; clear n0_ n1_; (try clear hb); (try clear hb2); (try clear hk); (try clear hi); (try clear ho0); obtain ⟨Ao41, co41, eo41⟩ := Kd.R_slice HO262.out; subst eo41))
             go_loopg [29, 185] kj32 (fun kq v29 v185 w' => ∃ (x29_4 : Int) (x185_4 : Int), v29 = .int .i64 x29_4 ∧ v185 = .int .i64 x185_4 ∧ Aside0 (laws_FnWalksMeanOfAll.l0 kq a0 a1 a2 a3 a4 a5 a6 a7 t249 t259 t260 x29_4 t259 (t259.length : Int) x185_4 = some r) ∧ Aside0 (kq ≤ kj32) ∧ Aside0 (Kd.R (Kd.int .i64) 3 w' w.heap.size (fun _ => True) (.slice Ao41 t259.length co41) t259) ∧ Aside0 (Kd.R (Kd.int .i64) 3 w' w.heap.size (fun _ => True) (.slice Ao41 t259.length co41) t259) ∧ Aside0 (Below w.heap.size w w'))
             case atStart => exact ⟨(0), (0), (by first | rfl | (simp; done) | (simp [*]; done)), (by first | rfl | (simp; done) | (simp [*]; done)), H', ⟨Nat.le_refl _⟩, ⟨by (with_reducible repeat (first | apply Kd.R_alloc | apply Kd.R_drewN | apply Kd.R_drew)); exact HO262.out⟩, ⟨by (with_reducible repeat (first | apply Kd.R_alloc | apply Kd.R_drewN | apply Kd.R_drew)); exact HO262.out⟩, ⟨by repeat (first | (with_reducible first | exact HB.out | apply below_alloc | apply pw_below_drewN | apply below_drew1) | exact HB.out)⟩⟩
             case round =>
              clear H'
              try clear c1
              try clear c2
              try clear p2
              try clear c3
              try clear c4
              try clear c10
              try clear c10b0
              try clear c10b1
              try clear c11
              try clear c11b0
              try clear c11b1
              try clear c12
              try clear c12b0
              try clear c12b1
              try clear c13
              try clear c13b0
              try clear c13b1
              try clear c14
              try clear c14b0
              try clear c14b1
              try clear c15
              try clear c15b0
              try clear c15b1
              try clear c16
              try clear c20
              try clear c21
              try clear c22
              try clear c23
              try clear c24
              try clear c24b0
              try clear c24b1
              try clear c24b2
              try clear c25
              try clear c25b0
              try clear c25b1
              try clear c26
              try clear c26b0
              try clear c26b1
              try clear c26b2
              try clear c27
              try clear c27b0
              try clear c27b1
              try clear c28
              try clear c29
              try clear c31
              try clear c35
              try clear c36
              try clear c36b0
              try clear c37
              try clear c38
              try clear c38b0
              try clear c38b1
              try clear p2
              obtain ⟨x29_4, x185_4, rfl, rfl, HA, HK4, HO_27, HO_183, HB⟩ := hrel
              cases gk with
              | zero => exact absurd HA.out (by simp [laws_FnWalksMeanOfAll.l0])
              | succ k4 =>
               have H := HA.out
               clear HA
               simp only [laws_FnWalksMeanOfAll.l0] at H
               by_cases c42 : x185_4 < (t259.length : Int)
               ·rw [if_pos c42] at H
                have c42b0 : decide (x185_4 < (t259.length : Int)) = true := decide_eq_true c42
                clear c42
                by_cases c43 : 0 ≤ x185_4
                ·rw [if_pos c43] at H
                 have c43b0 : decide (0 ≤ x185_4) = true := decide_eq_true c43
                 clear c43
                 by_cases c44 : x185_4 < (t259.length : Int)
                 ·rw [if_pos c44] at H
                  have c44b0 : decide (x185_4 < (t259.length : Int)) = true := decide_eq_true c44
                  clear c44
                  replace H := Option.bind_eq_some_iff.mp H
                  obtain ⟨⟨t264, t265⟩, A450, H⟩ := H
                  replace H : ((impl_MeanFrom.f k4 t264 a1).bind fun bt266 => (if t265 = true then (if bt266.2 = true then (laws_FnWalksMeanOfAll.l0 k4 a0 a1 a2 a3 a4 a5 a6 a7 t249 t259 t260 (wrap64 (x29_4 + bt266.1)) t259 (t259.length : Int) (wrap64 (x185_4 + 1))) else (some false)) else (some false))) = some r := H
                  have A45 := Aside0.mk A450
                  clear A450
                  replace H := Option.bind_eq_some_iff.mp H
                  obtain ⟨⟨t266, t267⟩, A460, H⟩ := H
                  replace H : (if t265 = true then (if t267 = true then (laws_FnWalksMeanOfAll.l0 k4 a0 a1 a2 a3 a4 a5 a6 a7 t249 t259 t260 (wrap64 (x29_4 + t266)) t259 (t259.length : Int) (wrap64 (x185_4 + 1))) else (some false)) else (some false)) = some r := H
                  have A46 := Aside0.mk A460
                  clear A460
                  by_cases c47 : t265 = true
                  ·subst c47
                   have H1 : (if t267 = true then (laws_FnWalksMeanOfAll.l0 k4 a0 a1 a2 a3 a4 a5 a6 a7 t249 t259 t260 (wrap64 (x29_4 + t266)) t259 (t259.length : Int) (wrap64 (x185_4 + 1))) else (some false)) = some r := by rw [if_pos rfl] at H; exact H
                   clear H
                   have H := H1
                   clear H1
                   by_cases c48 : t267 = true
                   ·subst c48
                    have H1 : (laws_FnWalksMeanOfAll.l0 k4 a0 a1 a2 a3 a4 a5 a6 a7 t249 t259 t260 (wrap64 (x29_4 + t266)) t259 (t259.length : Int) (wrap64 (x185_4 + 1))) = some r := by rw [if_pos rfl] at H; exact H
                    clear H
                    have H := H1
                    clear H1
                    have H' := Aside0.mk H
                    clear H
                    have p263 : 0 ≤ (x185_4 : Int) := of_decide_eq_true (by first | (with_reducible assumption) | assumption)
                    have q263 : x185_4 < (t259.length : Int) := of_decide_eq_true (by first | (with_reducible assumption) | assumption)
                    obtain ⟨ad263, e263, hx263_0⟩ := Kd.at_int (Kd.R_reads' HO_183.out).2.2 x185_4 p263 q263
                    cases e263
                    replace p263 := eq_true p263
                    replace q263 := eq_true q263
                    go_wp2_with (first | ((with_reducible refine gate_callee (f := 26) rfl ?_); refine goesL_ (some 192) rfl rfl Tryd.func26 (by kernel_rfl) rfl #[.string a0, .int .i64 (rd t259 x185_4)] rfl (by (try simp only [List.map_toArray, List.map_cons, List.map_nil]); first | done | rfl | (simp only [List.length_drop, List.length_take]; rfl)) ?_; (with_reducible refine (impl_MoveRing.calls a0 (rd t259 x185_4) t264 true _ A45.out).mono ?_); rintro e w49 ⟨rfl, hb⟩; refine ⟨_, rfl, ?_⟩; have n0_ := Aside0.mk (Kd.R_below (by (with_reducible repeat (first | apply Kd.R_alloc | apply Kd.R_drewN | apply Kd.R_drew)); exact HO_27.out) hb); have n1_ := Aside0.mk (Kd.R_below (by (with_reducible repeat (first | apply Kd.R_alloc | apply Kd.R_drewN | apply Kd.R_drew)); exact HO_183.out) hb); have n2_ := Aside0.mk (below_step (by repeat (first | (with_reducible first | exact HB.out | apply below_alloc | apply pw_below_drewN | apply below_drew1) | exact HB.out)) hb); clear HO_27; clear HO_183; clear HB; have HO_27 := n0_; have HO_183 := n1_; have HB := n2_; clear n0_ n1_ n2_; (try clear hb); (try clear hb2); (try clear hk); (try clear hi)) | ((with_reducible refine gate_callee (f := 20) rfl ?_); refine goesL_ (some 198) rfl rfl Tryd.func20 (by kernel_rfl) rfl #[.string t264, .string a1] rfl (by (try simp only [List.map_toArray, List.map_cons, List.map_nil]); first | done | rfl | (simp only [List.length_drop, List.length_take]; rfl)) ?_; (with_reducible refine (impl_MeanFrom.calls k4 t264 a1 t266 true _ A46.out).mono ?_); rintro e w50 ⟨rfl, hb⟩; refine ⟨_, rfl, ?_⟩; have n0_ := Aside0.mk (Kd.R_below (by (with_reducible repeat (first | apply Kd.R_alloc | apply Kd.R_drewN | apply Kd.R_drew)); exact HO_27.out) hb); have n1_ := Aside0.mk (Kd.R_below (by (with_reducible repeat (first | apply Kd.R_alloc | apply Kd.R_drewN | apply Kd.R_drew)); exact HO_183.out) hb); have n2_ := Aside0.mk (below_step (by repeat (first | (with_reducible first | exact HB.out | apply below_alloc | apply pw_below_drewN | apply below_drew1) | exact HB.out)) hb); clear HO_27; clear HO_183; clear HB; have HO_27 := n0_; have HO_183 := n1_; have HB := n2_; clear n0_ n1_ n2_; (try clear hb); (try clear hb2); (try clear hk); (try clear hi)))
                    go_roundg k4
                    case measure => have := HJ8.out; have := HJ20.out; have := HJ32.out; have := HK4.out; omega
                    case rel => exact ⟨(wrap64 (x29_4 + t266)), (wrap64 (x185_4 + 1)), (by first | rfl | (simp; done) | (simp [*]; done)), (by first | rfl | (simp; done) | (simp [*]; done)), H', ⟨by have := HJ8.out; have := HJ20.out; have := HJ32.out; have := HK4.out; omega⟩, ⟨by (with_reducible repeat (first | apply Kd.R_alloc | apply Kd.R_drewN | apply Kd.R_drew)); exact HO_27.out⟩, ⟨by (with_reducible repeat (first | apply Kd.R_alloc | apply Kd.R_drewN | apply Kd.R_drew)); exact HO_183.out⟩, ⟨by repeat (first | (with_reducible first | exact HB.out | apply below_alloc | apply pw_below_drewN | apply below_drew1) | exact HB.out)⟩⟩
                   ·replace c48 := Bool.eq_false_iff.mpr c48
                    subst c48
                    have H1 : (some false) = some r := by rw [if_neg (show ¬ (false = true) by decide)] at H; exact H
                    clear H
                    have H := H1
                    clear H1
                    obtain rfl := Option.some.inj H
                    have p263 : 0 ≤ (x185_4 : Int) := of_decide_eq_true (by first | (with_reducible assumption) | assumption)
                    have q263 : x185_4 < (t259.length : Int) := of_decide_eq_true (by first | (with_reducible assumption) | assumption)
                    obtain ⟨ad263, e263, hx263_0⟩ := Kd.at_int (Kd.R_reads' HO_183.out).2.2 x185_4 p263 q263
                    cases e263
                    replace p263 := eq_true p263
                    replace q263 := eq_true q263
                    go_wp2_with (first | ((with_reducible refine gate_callee (f := 26) rfl ?_); refine goesL_ (some 192) rfl rfl Tryd.func26 (by kernel_rfl) rfl #[.string a0, .int .i64 (rd t259 x185_4)] rfl (by (try simp only [List.map_toArray, List.map_cons, List.map_nil]); first | done | rfl | (simp only [List.length_drop, List.length_take]; rfl)) ?_; (with_reducible refine (impl_MoveRing.calls a0 (rd t259 x185_4) t264 true _ A45.out).mono ?_); rintro e w51 ⟨rfl, hb⟩; refine ⟨_, rfl, ?_⟩; have n0_ := Aside0.mk (Kd.R_below (by (with_reducible repeat (first | apply Kd.R_alloc | apply Kd.R_drewN | apply Kd.R_drew)); exact HO_27.out) hb); have n1_ := Aside0.mk (Kd.R_below (by (with_reducible repeat (first | apply Kd.R_alloc | apply Kd.R_drewN | apply Kd.R_drew)); exact HO_183.out) hb); have n2_ := Aside0.mk (below_step (by repeat (first | (with_reducible first | exact HB.out | apply below_alloc | apply pw_below_drewN | apply below_drew1) | exact HB.out)) hb); clear HO_27; clear HO_183; clear HB; have HO_27 := n0_; have HO_183 := n1_; have HB := n2_; clear n0_ n1_ n2_; (try clear hb); (try clear hb2); (try clear hk); (try clear hi)) | ((with_reducible refine gate_callee (f := 20) rfl ?_); refine goesL_ (some 198) rfl rfl Tryd.func20 (by kernel_rfl) rfl #[.string t264, .string a1] rfl (by (try simp only [List.map_toArray, List.map_cons, List.map_nil]); first | done | rfl | (simp only [List.length_drop, List.length_take]; rfl)) ?_; (with_reducible refine (impl_MeanFrom.calls k4 t264 a1 t266 false _ A46.out).mono ?_); rintro e w52 ⟨rfl, hb⟩; refine ⟨_, rfl, ?_⟩; have n0_ := Aside0.mk (Kd.R_below (by (with_reducible repeat (first | apply Kd.R_alloc | apply Kd.R_drewN | apply Kd.R_drew)); exact HO_27.out) hb); have n1_ := Aside0.mk (Kd.R_below (by (with_reducible repeat (first | apply Kd.R_alloc | apply Kd.R_drewN | apply Kd.R_drew)); exact HO_183.out) hb); have n2_ := Aside0.mk (below_step (by repeat (first | (with_reducible first | exact HB.out | apply below_alloc | apply pw_below_drewN | apply below_drew1) | exact HB.out)) hb); clear HO_27; clear HO_183; clear HB; have HO_27 := n0_; have HO_183 := n1_; have HB := n2_; clear n0_ n1_ n2_; (try clear hb); (try clear hb2); (try clear hk); (try clear hi)))
                    go_ret
                    exact ⟨by first | rfl | (simp [errW_none, errW_some] <;> rfl) | (simp [*, errW_none, errW_some] <;> rfl), by repeat (first | (with_reducible first | exact HB.out | apply below_alloc | apply pw_below_drewN | apply below_drew1) | exact HB.out)⟩
                  ·replace c47 := Bool.eq_false_iff.mpr c47
                   subst c47
                   have H1 : (some false) = some r := by rw [if_neg (show ¬ (false = true) by decide)] at H; exact H
                   clear H
                   have H := H1
                   clear H1
                   obtain rfl := Option.some.inj H
                   have p263 : 0 ≤ (x185_4 : Int) := of_decide_eq_true (by first | (with_reducible assumption) | assumption)
                   have q263 : x185_4 < (t259.length : Int) := of_decide_eq_true (by first | (with_reducible assumption) | assumption)
                   obtain ⟨ad263, e263, hx263_0⟩ := Kd.at_int (Kd.R_reads' HO_183.out).2.2 x185_4 p263 q263
                   cases e263
                   replace p263 := eq_true p263
                   replace q263 := eq_true q263
                   go_wp2_with (first | ((with_reducible refine gate_callee (f := 26) rfl ?_); refine goesL_ (some 192) rfl rfl Tryd.func26 (by kernel_rfl) rfl #[.string a0, .int .i64 (rd t259 x185_4)] rfl (by (try simp only [List.map_toArray, List.map_cons, List.map_nil]); first | done | rfl | (simp only [List.length_drop, List.length_take]; rfl)) ?_; (with_reducible refine (impl_MoveRing.calls a0 (rd t259 x185_4) t264 false _ A45.out).mono ?_); rintro e w53 ⟨rfl, hb⟩; refine ⟨_, rfl, ?_⟩; have n0_ := Aside0.mk (Kd.R_below (by (with_reducible repeat (first | apply Kd.R_alloc | apply Kd.R_drewN | apply Kd.R_drew)); exact HO_27.out) hb); have n1_ := Aside0.mk (Kd.R_below (by (with_reducible repeat (first | apply Kd.R_alloc | apply Kd.R_drewN | apply Kd.R_drew)); exact HO_183.out) hb); have n2_ := Aside0.mk (below_step (by repeat (first | (with_reducible first | exact HB.out | apply below_alloc | apply pw_below_drewN | apply below_drew1) | exact HB.out)) hb); clear HO_27; clear HO_183; clear HB; have HO_27 := n0_; have HO_183 := n1_; have HB := n2_; clear n0_ n1_ n2_; (try clear hb); (try clear hb2); (try clear hk); (try clear hi)) | ((with_reducible refine gate_callee (f := 20) rfl ?_); refine goesL_ (some 198) rfl rfl Tryd.func20 (by kernel_rfl) rfl #[.string t264, .string a1] rfl (by (try simp only [List.map_toArray, List.map_cons, List.map_nil]); first | done | rfl | (simp only [List.length_drop, List.length_take]; rfl)) ?_; (with_reducible refine (impl_MeanFrom.calls k4 t264 a1 t266 t267 _ A46.out).mono ?_); rintro e w54 ⟨rfl, hb⟩; refine ⟨_, rfl, ?_⟩; have n0_ := Aside0.mk (Kd.R_below (by (with_reducible repeat (first | apply Kd.R_alloc | apply Kd.R_drewN | apply Kd.R_drew)); exact HO_27.out) hb); have n1_ := Aside0.mk (Kd.R_below (by (with_reducible repeat (first | apply Kd.R_alloc | apply Kd.R_drewN | apply Kd.R_drew)); exact HO_183.out) hb); have n2_ := Aside0.mk (below_step (by repeat (first | (with_reducible first | exact HB.out | apply below_alloc | apply pw_below_drewN | apply below_drew1) | exact HB.out)) hb); clear HO_27; clear HO_183; clear HB; have HO_27 := n0_; have HO_183 := n1_; have HB := n2_; clear n0_ n1_ n2_; (try clear hb); (try clear hb2); (try clear hk); (try clear hi)))
                   go_ret
                   exact ⟨by first | rfl | (simp [errW_none, errW_some] <;> rfl) | (simp [*, errW_none, errW_some] <;> rfl), by repeat (first | (with_reducible first | exact HB.out | apply below_alloc | apply pw_below_drewN | apply below_drew1) | exact HB.out)⟩
                 ·rw [if_neg c44] at H
                  exact absurd H (by simp)
                ·rw [if_neg c43] at H
                 exact absurd H (by simp)
               ·rw [if_neg c42] at H
                have c42b0 : decide (x185_4 < (t259.length : Int)) = false := decide_eq_false c42
                clear c42
                by_cases c55 : t260 = true
                ·subst c55
                 have H1 : (if (wrap64 ((wrap64 (t249 - 1)) * (t259.length : Int))) = x29_4 then (laws_FnWalksMeanOfAll.j4 k4 a2 a3 a4 a5 a6 a7) else (some false)) = some r := by rw [if_pos rfl] at H; exact H
                 clear H
                 have H := H1
                 clear H1
                 by_cases c56 : (wrap64 ((wrap64 (t249 - 1)) * (t259.length : Int))) = x29_4
                 ·rw [if_pos c56] at H
                  have c56b0 : ((wrap64 ((wrap64 (t249 - 1)) * (t259.length : Int))) == x29_4) = true := beq_iff_eq.mpr c56
                  have c56b1 : ((wrap64 ((wrap64 (t249 - 1)) * (t259.length : Int))) != x29_4) = false := bne_eq_false_iff_eq.mpr c56
                  clear c56
                  have H' := Aside0.mk H
                  clear H
                  go_wp2
                  refine Met.intro ?_
                  go_step
                  refine ⟨[], trivial, ⟨rfl, ?rel⟩, by kernel_rfl⟩
                  case rel => exact ⟨_, H', ⟨by have := HJ8.out; have := HJ20.out; have := HJ32.out; have := HK4.out; first | omega | exact Nat.le_refl _⟩, ⟨by repeat (first | (with_reducible first | exact HB.out | apply below_alloc | apply pw_below_drewN | apply below_drew1) | exact HB.out)⟩⟩
                 ·rw [if_neg c56] at H
                  have c56b0 : ((wrap64 ((wrap64 (t249 - 1)) * (t259.length : Int))) == x29_4) = false := beq_eq_false_iff_ne.mpr c56
                  have c56b1 : ((wrap64 ((wrap64 (t249 - 1)) * (t259.length : Int))) != x29_4) = true := bne_iff_ne.mpr c56
                  obtain rfl := Option.some.inj H
                  go_wp2
                  go_ret
                  exact ⟨by first | rfl | (simp [errW_none, errW_some] <;> rfl) | (simp [*, errW_none, errW_some] <;> rfl), by repeat (first | (with_reducible first | exact HB.out | apply below_alloc | apply pw_below_drewN | apply below_drew1) | exact HB.out)⟩
                ·replace c55 := Bool.eq_false_iff.mpr c55
                 subst c55
                 have H1 : (some false) = some r := by rw [if_neg (show ¬ (false = true) by decide)] at H; exact H
                 clear H
                 have H := H1
                 clear H1
                 obtain rfl := Option.some.inj H
                 go_wp2
                 go_ret
                 exact ⟨by first | rfl | (simp [errW_none, errW_some] <;> rfl) | (simp [*, errW_none, errW_some] <;> rfl), by repeat (first | (with_reducible first | exact HB.out | apply below_alloc | apply pw_below_drewN | apply below_drew1) | exact HB.out)⟩
        ·replace c31 := Bool.eq_false_iff.mpr c31
         subst c31
         have H1 : (laws_FnWalksMeanOfAll.j4 kj20 a2 a3 a4 a5 a6 a7) = some r := by rw [if_neg (show ¬ (false = true) by decide)] at H; exact H
         clear H
         have H := H1
         clear H1
         have H' := Aside0.mk H
         clear H
         go_wp2
         refine Met.intro ?_
         go_step
         refine ⟨[], trivial, ⟨rfl, ?rel⟩, by kernel_rfl⟩
         case rel => exact ⟨_, H', ⟨by have := HJ8.out; have := HJ20.out; first | omega | exact Nat.le_refl _⟩, ⟨by repeat (first | (with_reducible first | exact HB.out | apply below_alloc | apply pw_below_drewN | apply below_drew1) | exact HB.out)⟩⟩
       case rest3 =>
        as_aux_lemma =>
        intro vs_ f_ wc hcut
        obtain ⟨rfl, hcut⟩ := hcut
        dsimp only [mixF, List.getD_cons_zero, List.getD_cons_succ, Nat.reduceAdd]
        clear HC30
        try clear c1
        try clear c2
        try clear p2
        try clear q2
        try clear hx2
        try clear c3
        try clear c4
        try clear c5
        try clear p6
        try clear c10
        try clear c10b0
        try clear c10b1
        try clear c11
        try clear c11b0
        try clear c11b1
        try clear c12
        try clear c12b0
        try clear c12b1
        try clear c13
        try clear c13b0
        try clear c13b1
        try clear c14
        try clear c14b0
        try clear c14b1
        try clear c15
        try clear c15b0
        try clear c15b1
        try clear c16
        try clear c20
        try clear c21
        try clear c22
        try clear c23
        try clear c24
        try clear c24b0
        try clear c24b1
        try clear c24b2
        try clear c25
        try clear c25b0
        try clear c25b1
        try clear c26
        try clear c26b0
        try clear c26b1
        try clear c26b2
        try clear p26
        try clear q26
        try clear hx26
        try clear c27
        try clear c27b0
        try clear c27b1
        try clear c28
        try clear c29
        try clear c31
        try clear c35
        try clear c36
        try clear c36b0
        try clear c37
        try clear c38
        try clear c38b0
        try clear c38b1
        try clear c42
        try clear c42b0
        try clear c43
        try clear c43b0
        try clear c44
        try clear c44b0
        try clear c47
        try clear c48
        try clear c55
        try clear c56
        try clear c56b0
        try clear c56b1
        try clear hx263_0
        try clear p2
        try clear p263
        try clear q263
        obtain ⟨kq, HA, HJ29, HB⟩ := hcut
        cases kq with
        | zero => exact absurd HA.out (by simp [laws_FnWalksMeanOfAll.j4])
        | succ kj29 =>
         have H := HA.out
         clear HA
         simp only [laws_FnWalksMeanOfAll.j4] at H
         replace H := Option.bind_eq_some_iff.mp H
         obtain ⟨⟨t268, t269, t270⟩, A570, H⟩ := H
         replace H : ((spec_ChanceBefore.f kj29 a2 a3 a4).bind fun bt271 => ((impl_WalksTo.f kj29 a5 a6 a7).bind fun bt274 => ((spec_WalksTo.f kj29 a5 a6 a7).bind fun bt276 => ((impl_ChanceAfter.f kj29 a5 a6 a7).bind fun bt278 => ((spec_ChanceAfter.f kj29 a5 a6 a7).bind fun bt281 => ((impl_LikeliestAfter.f kj29 a5 a7).bind fun bt284 => ((spec_LikeliestAfter.f kj29 a5 a7).bind fun bt288 => (if (t270 != bt271.2.2) = true then (laws_FnWalksMeanOfAll.j5 kj29 a2 a3 a4 a5 a6 a7 t268 t269 t270 bt274.1 bt278.1 bt278.2.1 bt278.2.2 bt284.1 true) else (if t268 = bt271.1 then (if t269 = bt271.2.1 then (if (bt274.2 != bt276.2) = true then (laws_FnWalksMeanOfAll.j5 kj29 a2 a3 a4 a5 a6 a7 t268 t269 t270 bt274.1 bt278.1 bt278.2.1 bt278.2.2 bt284.1 true) else (if bt274.1 = bt276.1 then (if (bt278.2.2 != bt281.2.2) = true then (laws_FnWalksMeanOfAll.j5 kj29 a2 a3 a4 a5 a6 a7 t268 t269 t270 bt274.1 bt278.1 bt278.2.1 bt278.2.2 bt284.1 true) else (if bt278.1 = bt281.1 then (if bt278.2.1 = bt281.2.1 then (if (bt278.2.2 != bt274.2) = true then (laws_FnWalksMeanOfAll.j5 kj29 a2 a3 a4 a5 a6 a7 t268 t269 t270 bt274.1 bt278.1 bt278.2.1 bt278.2.2 bt284.1 true) else (if (bt284.2 != bt288.2) = true then (laws_FnWalksMeanOfAll.j5 kj29 a2 a3 a4 a5 a6 a7 t268 t269 t270 bt274.1 bt278.1 bt278.2.1 bt278.2.2 bt284.1 true) else ((laws_yTexts.f kj29 bt284.1 bt288.1).bind fun t292 => (if t292 = true then (if bt278.2.2 = true then (laws_FnWalksMeanOfAll.j5 kj29 a2 a3 a4 a5 a6 a7 t268 t269 t270 bt274.1 bt278.1 bt278.2.1 bt278.2.2 bt284.1 (!bt284.2)) else (laws_FnWalksMeanOfAll.j5 kj29 a2 a3 a4 a5 a6 a7 t268 t269 t270 bt274.1 bt278.1 bt278.2.1 bt278.2.2 bt284.1 false)) else (laws_FnWalksMeanOfAll.j5 kj29 a2 a3 a4 a5 a6 a7 t268 t269 t270 bt274.1 bt278.1 bt278.2.1 bt278.2.2 bt284.1 true))))) else (laws_FnWalksMeanOfAll.j5 kj29 a2 a3 a4 a5 a6 a7 t268 t269 t270 bt274.1 bt278.1 bt278.2.1 bt278.2.2 bt284.1 true)) else (laws_FnWalksMeanOfAll.j5 kj29 a2 a3 a4 a5 a6 a7 t268 t269 t270 bt274.1 bt278.1 bt278.2.1 bt278.2.2 bt284.1 true))) else (laws_FnWalksMeanOfAll.j5 kj29 a2 a3 a4 a5 a6 a7 t268 t269 t270 bt274.1 bt278.1 bt278.2.1 bt278.2.2 bt284.1 true))) else (laws_FnWalksMeanOfAll.j5 kj29 a2 a3 a4 a5 a6 a7 t268 t269 t270 bt274.1 bt278.1 bt278.2.1 bt278.2.2 bt284.1 true)) else (laws_FnWalksMeanOfAll.j5 kj29 a2 a3 a4 a5 a6 a7 t268 t269 t270 bt274.1 bt278.1 bt278.2.1 bt278.2.2 bt284.1 true)))))))))) = some r := H
         have A57 := Aside0.mk A570
         clear A570
         replace H := Option.bind_eq_some_iff.mp H
         obtain ⟨⟨t271, t272, t273⟩, A580, H⟩ := H
         replace H : ((impl_WalksTo.f kj29 a5 a6 a7).bind fun bt274 => ((spec_WalksTo.f kj29 a5 a6 a7).bind fun bt276 => ((impl_ChanceAfter.f kj29 a5 a6 a7).bind fun bt278 => ((spec_ChanceAfter.f kj29 a5 a6 a7).bind fun bt281 => ((impl_LikeliestAfter.f kj29 a5 a7).bind fun bt284 => ((spec_LikeliestAfter.f kj29 a5 a7).bind fun bt288 => (if (t270 != t273) = true then (laws_FnWalksMeanOfAll.j5 kj29 a2 a3 a4 a5 a6 a7 t268 t269 t270 bt274.1 bt278.1 bt278.2.1 bt278.2.2 bt284.1 true) else (if t268 = t271 then (if t269 = t272 then (if (bt274.2 != bt276.2) = true then (laws_FnWalksMeanOfAll.j5 kj29 a2 a3 a4 a5 a6 a7 t268 t269 t270 bt274.1 bt278.1 bt278.2.1 bt278.2.2 bt284.1 true) else (if bt274.1 = bt276.1 then (if (bt278.2.2 != bt281.2.2) = true then (laws_FnWalksMeanOfAll.j5 kj29 a2 a3 a4 a5 a6 a7 t268 t269 t270 bt274.1 bt278.1 bt278.2.1 bt278.2.2 bt284.1 true) else (if bt278.1 = bt281.1 then (if bt278.2.1 = bt281.2.1 then (if (bt278.2.2 != bt274.2) = true then (laws_FnWalksMeanOfAll.j5 kj29 a2 a3 a4 a5 a6 a7 t268 t269 t270 bt274.1 bt278.1 bt278.2.1 bt278.2.2 bt284.1 true) else (if (bt284.2 != bt288.2) = true then (laws_FnWalksMeanOfAll.j5 kj29 a2 a3 a4 a5 a6 a7 t268 t269 t270 bt274.1 bt278.1 bt278.2.1 bt278.2.2 bt284.1 true) else ((laws_yTexts.f kj29 bt284.1 bt288.1).bind fun t292 => (if t292 = true then (if bt278.2.2 = true then (laws_FnWalksMeanOfAll.j5 kj29 a2 a3 a4 a5 a6 a7 t268 t269 t270 bt274.1 bt278.1 bt278.2.1 bt278.2.2 bt284.1 (!bt284.2)) else (laws_FnWalksMeanOfAll.j5 kj29 a2 a3 a4 a5 a6 a7 t268 t269 t270 bt274.1 bt278.1 bt278.2.1 bt278.2.2 bt284.1 false)) else (laws_FnWalksMeanOfAll.j5 kj29 a2 a3 a4 a5 a6 a7 t268 t269 t270 bt274.1 bt278.1 bt278.2.1 bt278.2.2 bt284.1 true))))) else (laws_FnWalksMeanOfAll.j5 kj29 a2 a3 a4 a5 a6 a7 t268 t269 t270 bt274.1 bt278.1 bt278.2.1 bt278.2.2 bt284.1 true)) else (laws_FnWalksMeanOfAll.j5 kj29 a2 a3 a4 a5 a6 a7 t268 t269 t270 bt274.1 bt278.1 bt278.2.1 bt278.2.2 bt284.1 true))) else (laws_FnWalksMeanOfAll.j5 kj29 a2 a3 a4 a5 a6 a7 t268 t269 t270 bt274.1 bt278.1 bt278.2.1 bt278.2.2 bt284.1 true))) else (laws_FnWalksMeanOfAll.j5 kj29 a2 a3 a4 a5 a6 a7 t268 t269 t270 bt274.1 bt278.1 bt278.2.1 bt278.2.2 bt284.1 true)) else (laws_FnWalksMeanOfAll.j5 kj29 a2 a3 a4 a5 a6 a7 t268 t269 t270 bt274.1 bt278.1 bt278.2.1 bt278.2.2 bt284.1 true))))))))) = some r := H
         have A58 := Aside0.mk A580
         clear A580
         replace H := Option.bind_eq_some_iff.mp H
         obtain ⟨⟨t274, t275⟩, A590, H⟩ := H
         replace H : ((spec_WalksTo.f kj29 a5 a6 a7).bind fun bt276 => ((impl_ChanceAfter.f kj29 a5 a6 a7).bind fun bt278 => ((spec_ChanceAfter.f kj29 a5 a6 a7).bind fun bt281 => ((impl_LikeliestAfter.f kj29 a5 a7).bind fun bt284 => ((spec_LikeliestAfter.f kj29 a5 a7).bind fun bt288 => (if (t270 != t273) = true then (laws_FnWalksMeanOfAll.j5 kj29 a2 a3 a4 a5 a6 a7 t268 t269 t270 t274 bt278.1 bt278.2.1 bt278.2.2 bt284.1 true) else (if t268 = t271 then (if t269 = t272 then (if (t275 != bt276.2) = true then (laws_FnWalksMeanOfAll.j5 kj29 a2 a3 a4 a5 a6 a7 t268 t269 t270 t274 bt278.1 bt278.2.1 bt278.2.2 bt284.1 true) else (if t274 = bt276.1 then (if (bt278.2.2 != bt281.2.2) = true then (laws_FnWalksMeanOfAll.j5 kj29 a2 a3 a4 a5 a6 a7 t268 t269 t270 t274 bt278.1 bt278.2.1 bt278.2.2 bt284.1 true) else (if bt278.1 = bt281.1 then (if bt278.2.1 = bt281.2.1 then (if (bt278.2.2 != t275) = true then (laws_FnWalksMeanOfAll.j5 kj29 a2 a3 a4 a5 a6 a7 t268 t269 t270 t274 bt278.1 bt278.2.1 bt278.2.2 bt284.1 true) else (if (bt284.2 != bt288.2) = true then (laws_FnWalksMeanOfAll.j5 kj29 a2 a3 a4 a5 a6 a7 t268 t269 t270 t274 bt278.1 bt278.2.1 bt278.2.2 bt284.1 true) else ((laws_yTexts.f kj29 bt284.1 bt288.1).bind fun t292 => (if t292 = true then (if bt278.2.2 = true then (laws_FnWalksMeanOfAll.j5 kj29 a2 a3 a4 a5 a6 a7 t268 t269 t270 t274 bt278.1 bt278.2.1 bt278.2.2 bt284.1 (!bt284.2)) else (laws_FnWalksMeanOfAll.j5 kj29 a2 a3 a4 a5 a6 a7 t268 t269 t270 t274 bt278.1 bt278.2.1 bt278.2.2 bt284.1 false)) else (laws_FnWalksMeanOfAll.j5 kj29 a2 a3 a4 a5 a6 a7 t268 t269 t270 t274 bt278.1 bt278.2.1 bt278.2.2 bt284.1 true))))) else (laws_FnWalksMeanOfAll.j5 kj29 a2 a3 a4 a5 a6 a7 t268 t269 t270 t274 bt278.1 bt278.2.1 bt278.2.2 bt284.1 true)) else (laws_FnWalksMeanOfAll.j5 kj29 a2 a3 a4 a5 a6 a7 t268 t269 t270 t274 bt278.1 bt278.2.1 bt278.2.2 bt284.1 true))) else (laws_FnWalksMeanOfAll.j5 kj29 a2 a3 a4 a5 a6 a7 t268 t269 t270 t274 bt278.1 bt278.2.1 bt278.2.2 bt284.1 true))) else (laws_FnWalksMeanOfAll.j5 kj29 a2 a3 a4 a5 a6 a7 t268 t269 t270 t274 bt278.1 bt278.2.1 bt278.2.2 bt284.1 true)) else (laws_FnWalksMeanOfAll.j5 kj29 a2 a3 a4 a5 a6 a7 t268 t269 t270 t274 bt278.1 bt278.2.1 bt278.2.2 bt284.1 true)))))))) = some r := H
         have A59 := Aside0.mk A590
         clear A590
         replace H := Option.bind_eq_some_iff.mp H
         obtain ⟨⟨t276, t277⟩, A600, H⟩ := H
         replace H : ((impl_ChanceAfter.f kj29 a5 a6 a7).bind fun bt278 => ((spec_ChanceAfter.f kj29 a5 a6 a7).bind fun bt281 => ((impl_LikeliestAfter.f kj29 a5 a7).bind fun bt284 => ((spec_LikeliestAfter.f kj29 a5 a7).bind fun bt288 => (if (t270 != t273) = true then (laws_FnWalksMeanOfAll.j5 kj29 a2 a3 a4 a5 a6 a7 t268 t269 t270 t274 bt278.1 bt278.2.1 bt278.2.2 bt284.1 true) else (if t268 = t271 then (if t269 = t272 then (if (t275 != t277) = true then (laws_FnWalksMeanOfAll.j5 kj29 a2 a3 a4 a5 a6 a7 t268 t269 t270 t274 bt278.1 bt278.2.1 bt278.2.2 bt284.1 true) else (if t274 = t276 then (if (bt278.2.2 != bt281.2.2) = true then (laws_FnWalksMeanOfAll.j5 kj29 a2 a3 a4 a5 a6 a7 t268 t269 t270 t274 bt278.1 bt278.2.1 bt278.2.2 bt284.1 true) else (if bt278.1 = bt281.1 then (if bt278.2.1 = bt281.2.1 then (if (bt278.2.2 != t275) = true then (laws_FnWalksMeanOfAll.j5 kj29 a2 a3 a4 a5 a6 a7 t268 t269 t270 t274 bt278.1 bt278.2.1 bt278.2.2 bt284.1 true) else (if (bt284.2 != bt288.2) = true then (laws_FnWalksMeanOfAll.j5 kj29 a2 a3 a4 a5 a6 a7 t268 t269 t270 t274 bt278.1 bt278.2.1 bt278.2.2 bt284.1 true) else ((laws_yTexts.f kj29 bt284.1 bt288.1).bind fun t292 => (if t292 = true then (if bt278.2.2 = true then (laws_FnWalksMeanOfAll.j5 kj29 a2 a3 a4 a5 a6 a7 t268 t269 t270 t274 bt278.1 bt278.2.1 bt278.2.2 bt284.1 (!bt284.2)) else (laws_FnWalksMeanOfAll.j5 kj29 a2 a3 a4 a5 a6 a7 t268 t269 t270 t274 bt278.1 bt278.2.1 bt278.2.2 bt284.1 false)) else (laws_FnWalksMeanOfAll.j5 kj29 a2 a3 a4 a5 a6 a7 t268 t269 t270 t274 bt278.1 bt278.2.1 bt278.2.2 bt284.1 true))))) else (laws_FnWalksMeanOfAll.j5 kj29 a2 a3 a4 a5 a6 a7 t268 t269 t270 t274 bt278.1 bt278.2.1 bt278.2.2 bt284.1 true)) else (laws_FnWalksMeanOfAll.j5 kj29 a2 a3 a4 a5 a6 a7 t268 t269 t270 t274 bt278.1 bt278.2.1 bt278.2.2 bt284.1 true))) else (laws_FnWalksMeanOfAll.j5 kj29 a2 a3 a4 a5 a6 a7 t268 t269 t270 t274 bt278.1 bt278.2.1 bt278.2.2 bt284.1 true))) else (laws_FnWalksMeanOfAll.j5 kj29 a2 a3 a4 a5 a6 a7 t268 t269 t270 t274 bt278.1 bt278.2.1 bt278.2.2 bt284.1 true)) else (laws_FnWalksMeanOfAll.j5 kj29 a2 a3 a4 a5 a6 a7 t268 t269 t270 t274 bt278.1 bt278.2.1 bt278.2.2 bt284.1 true))))))) = some r := H
         have A60 := Aside0.mk A600
         clear A600
         replace H := Option.bind_eq_some_iff.mp H
         obtain ⟨⟨t278, t279, t280⟩, A610, H⟩ := H
         replace H : ((spec_ChanceAfter.f kj29 a5 a6 a7).bind fun bt281 => ((impl_LikeliestAfter.f kj29 a5 a7).bind fun bt284 => ((spec_LikeliestAfter.f kj29 a5 a7).bind fun bt288 => (if (t270 != t273) = true then (laws_FnWalksMeanOfAll.j5 kj29 a2 a3 a4 a5 a6 a7 t268 t269 t270 t274 t278 t279 t280 bt284.1 true) else (if t268 = t271 then (if t269 = t272 then (if (t275 != t277) = true then (laws_FnWalksMeanOfAll.j5 kj29 a2 a3 a4 a5 a6 a7 t268 t269 t270 t274 t278 t279 t280 bt284.1 true) else (if t274 = t276 then (if (t280 != bt281.2.2) = true then (laws_FnWalksMeanOfAll.j5 kj29 a2 a3 a4 a5 a6 a7 t268 t269 t270 t274 t278 t279 t280 bt284.1 true) else (if t278 = bt281.1 then (if t279 = bt281.2.1 then (if (t280 != t275) = true then (laws_FnWalksMeanOfAll.j5 kj29 a2 a3 a4 a5 a6 a7 t268 t269 t270 t274 t278 t279 t280 bt284.1 true) else (if (bt284.2 != bt288.2) = true then (laws_FnWalksMeanOfAll.j5 kj29 a2 a3 a4 a5 a6 a7 t268 t269 t270 t274 t278 t279 t280 bt284.1 true) else ((laws_yTexts.f kj29 bt284.1 bt288.1).bind fun t292 => (if t292 = true then (if t280 = true then (laws_FnWalksMeanOfAll.j5 kj29 a2 a3 a4 a5 a6 a7 t268 t269 t270 t274 t278 t279 t280 bt284.1 (!bt284.2)) else (laws_FnWalksMeanOfAll.j5 kj29 a2 a3 a4 a5 a6 a7 t268 t269 t270 t274 t278 t279 t280 bt284.1 false)) else (laws_FnWalksMeanOfAll.j5 kj29 a2 a3 a4 a5 a6 a7 t268 t269 t270 t274 t278 t279 t280 bt284.1 true))))) else (laws_FnWalksMeanOfAll.j5 kj29 a2 a3 a4 a5 a6 a7 t268 t269 t270 t274 t278 t279 t280 bt284.1 true)) else (laws_FnWalksMeanOfAll.j5 kj29 a2 a3 a4 a5 a6 a7 t268 t269 t270 t274 t278 t279 t280 bt284.1 true))) else (laws_FnWalksMeanOfAll.j5 kj29 a2 a3 a4 a5 a6 a7 t268 t269 t270 t274 t278 t279 t280 bt284.1 true))) else (laws_FnWalksMeanOfAll.j5 kj29 a2 a3 a4 a5 a6 a7 t268 t269 t270 t274 t278 t279 t280 bt284.1 true)) else (laws_FnWalksMeanOfAll.j5 kj29 a2 a3 a4 a5 a6 a7 t268 t269 t270 t274 t278 t279 t280 bt284.1 true)))))) = some r := H
         have A61 := Aside0.mk A610
         clear A610
         replace H := Option.bind_eq_some_iff.mp H
         obtain ⟨⟨t281, t282, t283⟩, A620, H⟩ := H
         replace H : ((impl_LikeliestAfter.f kj29 a5 a7).bind fun bt284 => ((spec_LikeliestAfter.f kj29 a5 a7).bind fun bt288 => (if (t270 != t273) = true then (laws_FnWalksMeanOfAll.j5 kj29 a2 a3 a4 a5 a6 a7 t268 t269 t270 t274 t278 t279 t280 bt284.1 true) else (if t268 = t271 then (if t269 = t272 then (if (t275 != t277) = true then (laws_FnWalksMeanOfAll.j5 kj29 a2 a3 a4 a5 a6 a7 t268 t269 t270 t274 t278 t279 t280 bt284.1 true) else (if t274 = t276 then (if (t280 != t283) = true then (laws_FnWalksMeanOfAll.j5 kj29 a2 a3 a4 a5 a6 a7 t268 t269 t270 t274 t278 t279 t280 bt284.1 true) else (if t278 = t281 then (if t279 = t282 then (if (t280 != t275) = true then (laws_FnWalksMeanOfAll.j5 kj29 a2 a3 a4 a5 a6 a7 t268 t269 t270 t274 t278 t279 t280 bt284.1 true) else (if (bt284.2 != bt288.2) = true then (laws_FnWalksMeanOfAll.j5 kj29 a2 a3 a4 a5 a6 a7 t268 t269 t270 t274 t278 t279 t280 bt284.1 true) else ((laws_yTexts.f kj29 bt284.1 bt288.1).bind fun t292 => (if t292 = true then (if t280 = true then (laws_FnWalksMeanOfAll.j5 kj29 a2 a3 a4 a5 a6 a7 t268 t269 t270 t274 t278 t279 t280 bt284.1 (!bt284.2)) else (laws_FnWalksMeanOfAll.j5 kj29 a2 a3 a4 a5 a6 a7 t268 t269 t270 t274 t278 t279 t280 bt284.1 false)) else (laws_FnWalksMeanOfAll.j5 kj29 a2 a3 a4 a5 a6 a7 t268 t269 t270 t274 t278 t279 t280 bt284.1 true))))) else (laws_FnWalksMeanOfAll.j5 kj29 a2 a3 a4 a5 a6 a7 t268 t269 t270 t274 t278 t279 t280 bt284.1 true)) else (laws_FnWalksMeanOfAll.j5 kj29 a2 a3 a4 a5 a6 a7 t268 t269 t270 t274 t278 t279 t280 bt284.1 true))) else (laws_FnWalksMeanOfAll.j5 kj29 a2 a3 a4 a5 a6 a7 t268 t269 t270 t274 t278 t279 t280 bt284.1 true))) else (laws_FnWalksMeanOfAll.j5 kj29 a2 a3 a4 a5 a6 a7 t268 t269 t270 t274 t278 t279 t280 bt284.1 true)) else (laws_FnWalksMeanOfAll.j5 kj29 a2 a3 a4 a5 a6 a7 t268 t269 t270 t274 t278 t279 t280 bt284.1 true))))) = some r := H
         have A62 := Aside0.mk A620
         clear A620
         replace H := Option.bind_eq_some_iff.mp H
         obtain ⟨⟨t284, t285⟩, A630, H⟩ := H
         replace H : ((spec_LikeliestAfter.f kj29 a5 a7).bind fun bt288 => (if (t270 != t273) = true then (laws_FnWalksMeanOfAll.j5 kj29 a2 a3 a4 a5 a6 a7 t268 t269 t270 t274 t278 t279 t280 t284 true) else (if t268 = t271 then (if t269 = t272 then (if (t275 != t277) = true then (laws_FnWalksMeanOfAll.j5 kj29 a2 a3 a4 a5 a6 a7 t268 t269 t270 t274 t278 t279 t280 t284 true) else (if t274 = t276 then (if (t280 != t283) = true then (laws_FnWalksMeanOfAll.j5 kj29 a2 a3 a4 a5 a6 a7 t268 t269 t270 t274 t278 t279 t280 t284 true) else (if t278 = t281 then (if t279 = t282 then (if (t280 != t275) = true then (laws_FnWalksMeanOfAll.j5 kj29 a2 a3 a4 a5 a6 a7 t268 t269 t270 t274 t278 t279 t280 t284 true) else (if (t285 != bt288.2) = true then (laws_FnWalksMeanOfAll.j5 kj29 a2 a3 a4 a5 a6 a7 t268 t269 t270 t274 t278 t279 t280 t284 true) else ((laws_yTexts.f kj29 t284 bt288.1).bind fun t292 => (if t292 = true then (if t280 = true then (laws_FnWalksMeanOfAll.j5 kj29 a2 a3 a4 a5 a6 a7 t268 t269 t270 t274 t278 t279 t280 t284 (!t285)) else (laws_FnWalksMeanOfAll.j5 kj29 a2 a3 a4 a5 a6 a7 t268 t269 t270 t274 t278 t279 t280 t284 false)) else (laws_FnWalksMeanOfAll.j5 kj29 a2 a3 a4 a5 a6 a7 t268 t269 t270 t274 t278 t279 t280 t284 true))))) else (laws_FnWalksMeanOfAll.j5 kj29 a2 a3 a4 a5 a6 a7 t268 t269 t270 t274 t278 t279 t280 t284 true)) else (laws_FnWalksMeanOfAll.j5 kj29 a2 a3 a4 a5 a6 a7 t268 t269 t270 t274 t278 t279 t280 t284 true))) else (laws_FnWalksMeanOfAll.j5 kj29 a2 a3 a4 a5 a6 a7 t268 t269 t270 t274 t278 t279 t280 t284 true))) else (laws_FnWalksMeanOfAll.j5 kj29 a2 a3 a4 a5 a6 a7 t268 t269 t270 t274 t278 t279 t280 t284 true)) else (laws_FnWalksMeanOfAll.j5 kj29 a2 a3 a4 a5 a6 a7 t268 t269 t270 t274 t278 t279 t280 t284 true)))) = some r := H
         have A63 := Aside0.mk A630
         clear A630
         replace H := Option.bind_eq_some_iff.mp H
         obtain ⟨⟨t288, t289⟩, A640, H⟩ := H
         replace H : (if (t270 != t273) = true then (laws_FnWalksMeanOfAll.j5 kj29 a2 a3 a4 a5 a6 a7 t268 t269 t270 t274 t278 t279 t280 t284 true) else (if t268 = t271 then (if t269 = t272 then (if (t275 != t277) = true then (laws_FnWalksMeanOfAll.j5 kj29 a2 a3 a4 a5 a6 a7 t268 t269 t270 t274 t278 t279 t280 t284 true) else (if t274 = t276 then (if (t280 != t283) = true then (laws_FnWalksMeanOfAll.j5 kj29 a2 a3 a4 a5 a6 a7 t268 t269 t270 t274 t278 t279 t280 t284 true) else (if t278 = t281 then (if t279 = t282 then (if (t280 != t275) = true then (laws_FnWalksMeanOfAll.j5 kj29 a2 a3 a4 a5 a6 a7 t268 t269 t270 t274 t278 t279 t280 t284 true) else (if (t285 != t289) = true then (laws_FnWalksMeanOfAll.j5 kj29 a2 a3 a4 a5 a6 a7 t268 t269 t270 t274 t278 t279 t280 t284 true) else ((laws_yTexts.f kj29 t284 t288).bind fun t292 => (if t292 = true then (if t280 = true then (laws_FnWalksMeanOfAll.j5 kj29 a2 a3 a4 a5 a6 a7 t268 t269 t270 t274 t278 t279 t280 t284 (!t285)) else (laws_FnWalksMeanOfAll.j5 kj29 a2 a3 a4 a5 a6 a7 t268 t269 t270 t274 t278 t279 t280 t284 false)) else (laws_FnWalksMeanOfAll.j5 kj29 a2 a3 a4 a5 a6 a7 t268 t269 t270 t274 t278 t279 t280 t284 true))))) else (laws_FnWalksMeanOfAll.j5 kj29 a2 a3 a4 a5 a6 a7 t268 t269 t270 t274 t278 t279 t280 t284 true)) else (laws_FnWalksMeanOfAll.j5 kj29 a2 a3 a4 a5 a6 a7 t268 t269 t270 t274 t278 t279 t280 t284 true))) else (laws_FnWalksMeanOfAll.j5 kj29 a2 a3 a4 a5 a6 a7 t268 t269 t270 t274 t278 t279 t280 t284 true))) else (laws_FnWalksMeanOfAll.j5 kj29 a2 a3 a4 a5 a6 a7 t268 t269 t270 t274 t278 t279 t280 t284 true)) else (laws_FnWalksMeanOfAll.j5 kj29 a2 a3 a4 a5 a6 a7 t268 t269 t270 t274 t278 t279 t280 t284 true))) = some r := H
         have A64 := Aside0.mk A640
         clear A640
         have HC65 := Aside0.mk H
         clear H
         go_upto_region 35 with (first | ((with_reducible refine gate_callee (f := 27) rfl ?_); refine goesL_ (some 226) rfl rfl Tryd.func27 (by kernel_rfl) rfl #[.string a2, .string a3, .string a4] rfl (by (try simp only [List.map_toArray, List.map_cons, List.map_nil]); first | done | rfl | (simp only [List.length_drop, List.length_take]; rfl)) ?_; (with_reducible refine (impl_ChanceBefore.calls kj29 a2 a3 a4 t268 t269 t270 _ A57.out).mono ?_); rintro e w66 ⟨rfl, hb⟩; refine ⟨_, rfl, ?_⟩; have n0_ := Aside0.mk (below_step (by repeat (first | (with_reducible first | exact HB.out | apply below_alloc | apply pw_below_drewN | apply below_drew1) | exact HB.out)) hb); clear HB; have HB := n0_; clear n0_; (try clear hb); (try clear hb2); (try clear hk); (try clear hi)) | ((with_reducible refine gate_callee (f := 28) rfl ?_); refine goesL_ (some 234) rfl rfl Tryd.func28 (by kernel_rfl) rfl #[.string a2, .string a3, .string a4] rfl (by (try simp only [List.map_toArray, List.map_cons, List.map_nil]); first | done | rfl | (simp only [List.length_drop, List.length_take]; rfl)) ?_; (with_reducible refine (spec_ChanceBefore.calls kj29 a2 a3 a4 t271 t272 t273 _ A58.out).mono ?_); rintro e w' ⟨rfl, ⟨nd, rfl⟩⟩; refine ⟨_, rfl, ?_⟩) | ((with_reducible refine gate_callee (f := 29) rfl ?_); refine goesL_ (some 242) rfl rfl Tryd.func29 (by kernel_rfl) rfl #[.string a5, .string a6, .int .i64 a7] rfl (by (try simp only [List.map_toArray, List.map_cons, List.map_nil]); first | done | rfl | (simp only [List.length_drop, List.length_take]; rfl)) ?_; (with_reducible refine (impl_WalksTo.calls kj29 a5 a6 a7 t274 t275 _ A59.out).mono ?_); rintro e w67 ⟨rfl, hb⟩; refine ⟨_, rfl, ?_⟩; have n0_ := Aside0.mk (below_step (by repeat (first | (with_reducible first | exact HB.out | apply below_alloc | apply pw_below_drewN | apply below_drew1) | exact HB.out)) hb); clear HB; have HB := n0_; clear n0_; (try clear hb); (try clear hb2); (try clear hk); (try clear hi)) | ((with_reducible refine gate_callee (f := 30) rfl ?_); refine goesL_ (some 249) rfl rfl Tryd.func30 (by kernel_rfl) rfl #[.string a5, .string a6, .int .i64 a7] rfl (by (try simp only [List.map_toArray, List.map_cons, List.map_nil]); first | done | rfl | (simp only [List.length_drop, List.length_take]; rfl)) ?_; (with_reducible refine (spec_WalksTo.calls kj29 a5 a6 a7 t276 t277 _ A60.out).mono ?_); rintro e w68 ⟨rfl, hb⟩; refine ⟨_, rfl, ?_⟩; have n0_ := Aside0.mk (below_step (by repeat (first | (with_reducible first | exact HB.out | apply below_alloc | apply pw_below_drewN | apply below_drew1) | exact HB.out)) hb); clear HB; have HB := n0_; clear n0_; (try clear hb); (try clear hb2); (try clear hk); (try clear hi)) | ((with_reducible refine gate_callee (f := 31) rfl ?_); refine goesL_ (some 256) rfl rfl Tryd.func31 (by kernel_rfl) rfl #[.string a5, .string a6, .int .i64 a7] rfl (by (try simp only [List.map_toArray, List.map_cons, List.map_nil]); first | done | rfl | (simp only [List.length_drop, List.length_take]; rfl)) ?_; (with_reducible refine (impl_ChanceAfter.calls kj29 a5 a6 a7 t278 t279 t280 _ A61.out).mono ?_); rintro e w69 ⟨rfl, hb⟩; refine ⟨_, rfl, ?_⟩; have n0_ := Aside0.mk (below_step (by repeat (first | (with_reducible first | exact HB.out | apply below_alloc | apply pw_below_drewN | apply below_drew1) | exact HB.out)) hb); clear HB; have HB := n0_; clear n0_; (try clear hb); (try clear hb2); (try clear hk); (try clear hi)) | ((with_reducible refine gate_callee (f := 32) rfl ?_); refine goesL_ (some 264) rfl rfl Tryd.func32 (by kernel_rfl) rfl #[.string a5, .string a6, .int .i64 a7] rfl (by (try simp only [List.map_toArray, List.map_cons, List.map_nil]); first | done | rfl | (simp only [List.length_drop, List.length_take]; rfl)) ?_; (with_reducible refine (spec_ChanceAfter.calls kj29 a5 a6 a7 t281 t282 t283 _ A62.out).mono ?_); rintro e w70 ⟨rfl, hb⟩; refine ⟨_, rfl, ?_⟩; have n0_ := Aside0.mk (below_step (by repeat (first | (with_reducible first | exact HB.out | apply below_alloc | apply pw_below_drewN | apply below_drew1) | exact HB.out)) hb); clear HB; have HB := n0_; clear n0_; (try clear hb); (try clear hb2); (try clear hk); (try clear hi)) | ((with_reducible refine gate_callee (f := 33) rfl ?_); refine goesL_ (some 271) rfl rfl Tryd.func33 (by kernel_rfl) rfl #[.string a5, .int .i64 a7] rfl (by (try simp only [List.map_toArray, List.map_cons, List.map_nil]); first | done | rfl | (simp only [List.length_drop, List.length_take]; rfl)) ?_; (with_reducible refine (impl_LikeliestAfter.calls kj29 a5 a7 t284 t285 _ A63.out).mono ?_); rintro e w71 ⟨v286, rfl, ho0, hb⟩; refine ⟨_, rfl, ?_⟩; have n0_ := Aside0.mk (Kd.R_lower ho0 (below_size (by repeat (first | (with_reducible first | exact HB.out | apply below_alloc | apply pw_below_drewN | apply below_drew1) | exact HB.out)))); have n1_ := Aside0.mk (below_step (by repeat (first | (with_reducible first | exact HB.out | apply below_alloc | apply pw_below_drewN | apply below_drew1) | exact HB.out)) hb); clear HB; have HO287 := n0_; have HB := n1_; clear n0_ n1_; (try clear hb); (try clear hb2); (try clear hk); (try clear hi); (try clear ho0)) | ((with_reducible refine gate_callee (f := 34) rfl ?_); refine goesL_ (some 277) rfl rfl Tryd.func34 (by kernel_rfl) rfl #[.string a5, .int .i64 a7] rfl (by (try simp only [List.map_toArray, List.map_cons, List.map_nil]); first | done | rfl | (simp only [List.length_drop, List.length_take]; rfl)) ?_; (with_reducible refine (spec_LikeliestAfter.calls kj29 a5 a7 t288 t289 _ A64.out).mono ?_); rintro e w72 ⟨v290, rfl, ho0, hb⟩; refine ⟨_, rfl, ?_⟩; have n0_ := Aside0.mk (Kd.R_elder' (by (with_reducible repeat (first | apply Kd.R_alloc | apply Kd.R_drewN | apply Kd.R_drew)); exact HO287.out) (Kd.R_base ho0) hb); have n1_ := Aside0.mk (Kd.R_lower (Kd.R_new' ho0 (Kd.R_lt (by (with_reducible repeat (first | apply Kd.R_alloc | apply Kd.R_drewN | apply Kd.R_drew)); exact HO287.out))) (below_size (by repeat (first | (with_reducible first | exact HB.out | apply below_alloc | apply pw_below_drewN | apply below_drew1) | exact HB.out)))); have n2_ := Aside0.mk (below_step (by repeat (first | (with_reducible first | exact HB.out | apply below_alloc | apply pw_below_drewN | apply below_drew1) | exact HB.out)) hb); clear HO287; clear HB; have HO287 := n0_; have HO291 := n1_; have HB := n2_; clear n0_ n1_ n2_; (try clear hb); (try clear hb2); (try clear hk); (try clear hi); (try clear ho0)))
         (try simp only [Act.put, List.setIfInBounds_toArray, List.set_cons_zero, List.set_cons_succ])
         refine wp_cutv [340] [0, 0, 0, 0, 0, 0, 0, 0, 0, 0, 0, 0, 0, 0, 0, 0, 0, 0, 0, 0, 0, 0, 0, 0, 0, 0, 0, 0, 0, 0, 0, 0, 0, 0, 0, 0, 0, 0, 0, 0, 0, 0, 0, 0, 0, 0, 0, 0, 0, 0, 0, 0, 0, 0, 0, 0, 0, 0, 0, 0, 0, 0, 0, 0, 0, 0, 0, 0, 0, 0, 0, 0, 0, 1, 1, 1, 1, 1, 1, 1, 1, 1, 1, 1, 1, 1, 1, 1, 1, 1, 1, 1, 1, 1, 1, 1, 1, 1, 1, 1, 1, 1, 1, 1, 1, 1, 1, 1, 1, 1, 1, 1, 1, 1, 1, 1, 1, 1, 1, 1, 1, 1, 1, 1, 1, 1, 1, 1, 1, 1, 1, 1, 1, 1, 1, 1, 1, 1, 1, 1, 1, 1, 1, 1, 1, 1, 1, 1, 1, 1, 1, 1, 1, 1, 1, 1, 1, 1, 1, 1, 1, 1, 1, 1, 1, 1, 1, 1, 1, 1, 1, 1, 1, 1, 1, 1, 1, 1, 1, 1, 1, 1, 1, 0, 0, 0, 1, 1, 1, 1, 1, 1, 1, 1, 1, 1, 1, 1, 1, 1, 1, 1, 1, 1, 1, 1, 1, 1, 1, 1, 1, 1, 1, 1, 1, 1, 1, 1, 1, 1, 1, 1, 1, 1, 1, 1, 1, 1, 1, 1, 1, 1, 1, 1, 1, 1, 1, 1, 1, 1, 1, 1, 1, 1, 1, 1, 1, 1, 1, 1, 1, 1, 1, 1, 1, 1, 1, 1, 1, 1, 1, 1, 1, 1, 1, 1, 1, 1, 1, 1, 1, 1, 1, 1, 1, 1, 1, 1, 1, 1, 1, 1, 1, 1, 1, 1, 1, 1, 1, 1, 1, 1, 1, 1, 1, 1, 1, 1, 1, 1, 1, 1, 1, 1, 1, 1, 1, 1, 1, 1, 1, 1, 1, 1, 1, 1, 1, 1, 1, 1, 1, 1, 1, 1, 1, 1, 1, 1, 1, 1, 1, 1, 1, 1, 1, 1, 1, 1, 1, 1, 2, 1, 1, 1, 1, 1, 1, 1, 1, 1, 1, 1, 1, 1, 1, 1, 1, 1, 1, 1, 1, 1, 1, 1, 1, 1, 1, 1, 1, 1, 1, 1, 1, 1, 1, 1, 1, 1, 1, 1, 1, 1, 1, 1, 1, 1, 1, 1, 1, 1, 1, 1, 1, 1, 1, 1, 1, 1, 1, 1, 1, 1, 1, 1, 1, 1, 1, 1, 1, 1, 1, 1, 1, 1, 1, 1, 1, 1, 1, 1, 1, 1, 1, 1, 1, 1, 1, 1, 1, 1, 1, 1, 1, 1, 1, 1, 1, 1, 1, 1, 1, 1, 1, 1, 1, 1, 1, 1, 1, 1, 1, 1, 1, 1, 1, 1, 1, 1, 1, 1, 0, 0, 0, 1, 1, 1, 1, 1, 1, 1, 1, 1, 1, 1, 1, 1, 1, 1, 1, 1, 1, 1, 1, 1, 1, 1, 1, 1, 1, 1, 1, 1, 1, 1, 1, 1, 1] (fun vs_ wc => ∃ v340, vs_ = [v340] ∧ ∃ (kq : Nat) (x340_64 : Bool), v340 = .bool x340_64 ∧ Aside0 (laws_FnWalksMeanOfAll.j5 kq a2 a3 a4 a5 a6 a7 t268 t269 t270 t274 t278 t279 t280 t284 x340_64 = some r) ∧ Aside0 (kq ≤ kj29) ∧ Aside0 (Kd.R Kd.string 9 wc w.heap.size (fun _ => True) v286 t284) ∧ Aside0 (Below w.heap.size w wc)) ?first5 ?rest5
         case first5 =>
          as_aux_lemma =>
          intro _ _ _ _
          have H := HC65.out
          clear HC65
          by_cases c73 : (t270 != t273) = true
          ·rw [if_pos c73] at H
           have c73b0 : (t270 != t273) = true := c73
           (try (have c73b1 : decide (t270 = t273) = false := by simpa using c73))
           (try (have c73b2 : (t270 == t273) = false := by simpa using c73))
           (try (have c73b3 : ¬ (t270 = t273) := by simpa using c73))
           clear c73
           (first | rw [c73b0] | (simp only [i64_w, i32_w]; rw [c73b0]) | skip)
           have H' := Aside0.mk H
           clear H
           go_wp2
           refine Met.intro ?_
           go_step
           refine ⟨[_], ⟨rfl, trivial⟩, ⟨_, rfl, ?rel⟩, by kernel_rfl⟩
           case rel => exact ⟨_, (true), (by first | rfl | (simp; done) | (simp [*]; done)), H', ⟨by have := HJ8.out; have := HJ20.out; have := HJ29.out; first | omega | exact Nat.le_refl _⟩, ⟨by (with_reducible repeat (first | apply Kd.R_alloc | apply Kd.R_drewN | apply Kd.R_drew)); exact Kd.R_mono HO287.out (fun _ hk => trivial)⟩, ⟨by repeat (first | (with_reducible first | exact HB.out | apply below_alloc | apply pw_below_drewN | apply below_drew1) | exact HB.out)⟩⟩
          ·rw [if_neg c73] at H
           have c73b0 : (t270 != t273) = false := by simpa using c73
           (try (have c73b1 : decide (t270 = t273) = true := by simpa using c73))
           (try (have c73b2 : (t270 == t273) = true := by simpa using c73))
           clear c73
           (first | rw [c73b0] | (simp only [i64_w, i32_w]; rw [c73b0]) | skip)
           by_cases c74 : t268 = t271
           ·rw [if_pos c74] at H
            have c74b0 : (t268 == t271) = true := beq_iff_eq.mpr c74
            have c74b1 : (t268 != t271) = false := bne_eq_false_iff_eq.mpr c74
            clear c74
            by_cases c75 : t269 = t272
            ·rw [if_pos c75] at H
             have c75b0 : (t269 == t272) = true := beq_iff_eq.mpr c75
             have c75b1 : (t269 != t272) = false := bne_eq_false_iff_eq.mpr c75
             clear c75
             by_cases c76 : (t275 != t277) = true
             ·rw [if_pos c76] at H
              have c76b0 : (t275 != t277) = true := c76
              (try (have c76b1 : decide (t275 = t277) = false := by simpa using c76))
              (try (have c76b2 : (t275 == t277) = false := by simpa using c76))
              (try (have c76b3 : ¬ (t275 = t277) := by simpa using c76))
              clear c76
              have H' := Aside0.mk H
              clear H
              go_wp2
              refine Met.intro ?_
              go_step
              refine ⟨[_], ⟨rfl, trivial⟩, ⟨_, rfl, ?rel⟩, by kernel_rfl⟩
              case rel => exact ⟨_, (true), (by first | rfl | (simp; done) | (simp [*]; done)), H', ⟨by have := HJ8.out; have := HJ20.out; have := HJ29.out; first | omega | exact Nat.le_refl _⟩, ⟨by (with_reducible repeat (first | apply Kd.R_alloc | apply Kd.R_drewN | apply Kd.R_drew)); exact Kd.R_mono HO287.out (fun _ hk => trivial)⟩, ⟨by repeat (first | (with_reducible first | exact HB.out | apply below_alloc | apply pw_below_drewN | apply below_drew1) | exact HB.out)⟩⟩
             ·rw [if_neg c76] at H
              have c76b0 : (t275 != t277) = false := by simpa using c76
              (try (have c76b1 : decide (t275 = t277) = true := by simpa using c76))
              (try (have c76b2 : (t275 == t277) = true := by simpa using c76))
              clear c76
              by_cases c77 : t274 = t276
              ·rw [if_pos c77] at H
               have c77b0 : (t274 == t276) = true := beq_iff_eq.mpr c77
               have c77b1 : (t274 != t276) = false := bne_eq_false_iff_eq.mpr c77
               clear c77
               by_cases c78 : (t280 != t283) = true
               ·rw [if_pos c78] at H
                have c78b0 : (t280 != t283) = true := c78
                (try (have c78b1 : decide (t280 = t283) = false := by simpa using c78))
                (try (have c78b2 : (t280 == t283) = false := by simpa using c78))
                (try (have c78b3 : ¬ (t280 = t283) := by simpa using c78))
                clear c78
                have H' := Aside0.mk H
                clear H
                go_wp2
                refine Met.intro ?_
                go_step
                refine ⟨[_], ⟨rfl, trivial⟩, ⟨_, rfl, ?rel⟩, by kernel_rfl⟩
                case rel => exact ⟨_, (true), (by first | rfl | (simp; done) | (simp [*]; done)), H', ⟨by have := HJ8.out; have := HJ20.out; have := HJ29.out; first | omega | exact Nat.le_refl _⟩, ⟨by (with_reducible repeat (first | apply Kd.R_alloc | apply Kd.R_drewN | apply Kd.R_drew)); exact Kd.R_mono HO287.out (fun _ hk => trivial)⟩, ⟨by repeat (first | (with_reducible first | exact HB.out | apply below_alloc | apply pw_below_drewN | apply below_drew1) | exact HB.out)⟩⟩
               ·rw [if_neg c78] at H
                have c78b0 : (t280 != t283) = false := by simpa using c78
                (try (have c78b1 : decide (t280 = t283) = true := by simpa using c78))
                (try (have c78b2 : (t280 == t283) = true := by simpa using c78))
                clear c78
                by_cases c79 : t278 = t281
                ·rw [if_pos c79] at H
                 have c79b0 : (t278 == t281) = true := beq_iff_eq.mpr c79
                 have c79b1 : (t278 != t281) = false := bne_eq_false_iff_eq.mpr c79
                 clear c79
                 by_cases c80 : t279 = t282
                 ·rw [if_pos c80] at H
                  have c80b0 : (t279 == t282) = true := beq_iff_eq.mpr c80
                  have c80b1 : (t279 != t282) = false := bne_eq_false_iff_eq.mpr c80
                  clear c80
                  by_cases c81 : (t280 != t275) = true
                  ·rw [if_pos c81] at H
                   have c81b0 : (t280 != t275) = true := c81
                   (try (have c81b1 : decide (t280 = t275) = false := by simpa using c81))
                   (try (have c81b2 : (t280 == t275) = false := by simpa using c81))
                   (try (have c81b3 : ¬ (t280 = t275) := by simpa using c81))
                   clear c81
                   have H' := Aside0.mk H
                   clear H
                   go_wp2
                   refine Met.intro ?_
                   go_step
                   refine ⟨[_], ⟨rfl, trivial⟩, ⟨_, rfl, ?rel⟩, by kernel_rfl⟩
                   case rel => exact ⟨_, (true), (by first | rfl | (simp; done) | (simp [*]; done)), H', ⟨by have := HJ8.out; have := HJ20.out; have := HJ29.out; first | omega | exact Nat.le_refl _⟩, ⟨by (with_reducible repeat (first | apply Kd.R_alloc | apply Kd.R_drewN | apply Kd.R_drew)); exact Kd.R_mono HO287.out (fun _ hk => trivial)⟩, ⟨by repeat (first | (with_reducible first | exact HB.out | apply below_alloc | apply pw_below_drewN | apply below_drew1) | exact HB.out)⟩⟩
                  ·rw [if_neg c81] at H
                   have c81b0 : (t280 != t275) = false := by simpa using c81
                   (try (have c81b1 : decide (t280 = t275) = true := by simpa using c81))
                   (try (have c81b2 : (t280 == t275) = true := by simpa using c81))
                   clear c81
                   by_cases c82 : (t285 != t289) = true
                   ·rw [if_pos c82] at H
                    have c82b0 : (t285 != t289) = true := c82
                    (try (have c82b1 : decide (t285 = t289) = false := by simpa using c82))
                    (try (have c82b2 : (t285 == t289) = false := by simpa using c82))
                    (try (have c82b3 : ¬ (t285 = t289) := by simpa using c82))
                    clear c82
                    have H' := Aside0.mk H
                    clear H
                    go_wp2
                    refine Met.intro ?_
                    go_step
                    refine ⟨[_], ⟨rfl, trivial⟩, ⟨_, rfl, ?rel⟩, by kernel_rfl⟩
                    case rel => exact ⟨_, (true), (by first | rfl | (simp; done) | (simp [*]; done)), H', ⟨by have := HJ8.out; have := HJ20.out; have := HJ29.out; first | omega | exact Nat.le_refl _⟩, ⟨by (with_reducible repeat (first | apply Kd.R_alloc | apply Kd.R_drewN | apply Kd.R_drew)); exact Kd.R_mono HO287.out (fun _ hk => trivial)⟩, ⟨by repeat (first | (with_reducible first | exact HB.out | apply below_alloc | apply pw_below_drewN | apply below_drew1) | exact HB.out)⟩⟩
                   ·rw [if_neg c82] at H
                    have c82b0 : (t285 != t289) = false := by simpa using c82
                    (try (have c82b1 : decide (t285 = t289) = true := by simpa using c82))
                    (try (have c82b2 : (t285 == t289) = true := by simpa using c82))
                    clear c82
                    replace H := Option.bind_eq_some_iff.mp H
                    obtain ⟨t292, A830, H⟩ := H
                    replace H : (if t292 = true then (if t280 = true then (laws_FnWalksMeanOfAll.j5 kj29 a2 a3 a4 a5 a6 a7 t268 t269 t270 t274 t278 t279 t280 t284 (!t285)) else (laws_FnWalksMeanOfAll.j5 kj29 a2 a3 a4 a5 a6 a7 t268 t269 t270 t274 t278 t279 t280 t284 false)) else (laws_FnWalksMeanOfAll.j5 kj29 a2 a3 a4 a5 a6 a7 t268 t269 t270 t274 t278 t279 t280 t284 true)) = some r := H
                    have A83 := Aside0.mk A830
                    clear A830
                    by_cases c84 : t292 = true
                    ·subst c84
                     have H1 : (if t280 = true then (laws_FnWalksMeanOfAll.j5 kj29 a2 a3 a4 a5 a6 a7 t268 t269 t270 t274 t278 t279 t280 t284 (!t285)) else (laws_FnWalksMeanOfAll.j5 kj29 a2 a3 a4 a5 a6 a7 t268 t269 t270 t274 t278 t279 t280 t284 false)) = some r := by rw [if_pos rfl] at H; exact H
                     clear H
                     have H := H1
                     clear H1
                     by_cases c85 : t280 = true
                     ·subst c85
                      have H1 : (laws_FnWalksMeanOfAll.j5 kj29 a2 a3 a4 a5 a6 a7 t268 t269 t270 t274 t278 t279 true t284 (!t285)) = some r := by rw [if_pos rfl] at H; exact H
                      clear H
                      have H := H1
                      clear H1
                      have H' := Aside0.mk H
                      clear H
                      obtain ⟨Ao86, co86, eo86⟩ := Kd.R_slice HO287.out
                      subst eo86
                      obtain ⟨Ao87, co87, eo87⟩ := Kd.R_slice HO291.out
                      subst eo87
                      go_wp2_with (first | (go_at_call 35; (with_reducible refine (laws_yTexts.calls kj29 _ _ t284 _ _ t288 true _ ?side1 ?side2 ?side3 ?side4 A83.out).mono ?_); (case side1 => repeat (first | exact (Kd.R_reads' HO287.out).2.2 | (with_reducible refine Kd.C_alloc ?_ _) | (with_reducible refine Kd.C_drewN ?_ _) | (with_reducible refine Kd.C_drew ?_))); (case side2 => exact (Kd.R_reads' HO287.out).2.1); (case side3 => repeat (first | exact (Kd.R_reads' HO291.out).2.2 | (with_reducible refine Kd.C_alloc ?_ _) | (with_reducible refine Kd.C_drewN ?_ _) | (with_reducible refine Kd.C_drew ?_))); (case side4 => exact (Kd.R_reads' HO291.out).2.1); rintro e w' ⟨rfl, ⟨nd, rfl⟩⟩))
                      refine Met.intro ?_
                      go_step
                      refine ⟨[_], ⟨rfl, trivial⟩, ⟨_, rfl, ?rel⟩, by kernel_rfl⟩
                      case rel => exact ⟨_, (!t285), (by first | rfl | (simp; done) | (simp [*]; done)), H', ⟨by have := HJ8.out; have := HJ20.out; have := HJ29.out; first | omega | exact Nat.le_refl _⟩, ⟨by (with_reducible repeat (first | apply Kd.R_alloc | apply Kd.R_drewN | apply Kd.R_drew)); exact Kd.R_mono HO287.out (fun _ hk => trivial)⟩, ⟨by repeat (first | (with_reducible first | exact HB.out | apply below_alloc | apply pw_below_drewN | apply below_drew1) | exact HB.out)⟩⟩
                     ·replace c85 := Bool.eq_false_iff.mpr c85
                      subst c85
                      have H1 : (laws_FnWalksMeanOfAll.j5 kj29 a2 a3 a4 a5 a6 a7 t268 t269 t270 t274 t278 t279 false t284 false) = some r := by rw [if_neg (show ¬ (false = true) by decide)] at H; exact H
                      clear H
                      have H := H1
                      clear H1
                      have H' := Aside0.mk H
                      clear H
                      obtain ⟨Ao88, co88, eo88⟩ := Kd.R_slice HO287.out
                      subst eo88
                      obtain ⟨Ao89, co89, eo89⟩ := Kd.R_slice HO291.out
                      subst eo89
                      go_wp2_with (first | (go_at_call 35; (with_reducible refine (laws_yTexts.calls kj29 _ _ t284 _ _ t288 true _ ?side1 ?side2 ?side3 ?side4 A83.out).mono ?_); (case side1 => repeat (first | exact (Kd.R_reads' HO287.out).2.2 | (with_reducible refine Kd.C_alloc ?_ _) | (with_reducible refine Kd.C_drewN ?_ _) | (with_reducible refine Kd.C_drew ?_))); (case side2 => exact (Kd.R_reads' HO287.out).2.1); (case side3 => repeat (first | exact (Kd.R_reads' HO291.out).2.2 | (with_reducible refine Kd.C_alloc ?_ _) | (with_reducible refine Kd.C_drewN ?_ _) | (with_reducible refine Kd.C_drew ?_))); (case side4 => exact (Kd.R_reads' HO291.out).2.1); rintro e w' ⟨rfl, ⟨nd, rfl⟩⟩))
                      refine Met.intro ?_
                      go_step
                      refine ⟨[_], ⟨rfl, trivial⟩, ⟨_, rfl, ?rel⟩, by kernel_rfl⟩
                      case rel => exact ⟨_, (false), (by first | rfl | (simp; done) | (simp [*]; done)), H', ⟨by have := HJ8.out; have := HJ20.out; have := HJ29.out; first | omega | exact Nat.le_refl _⟩, ⟨by (with_reducible repeat (first | apply Kd.R_alloc | apply Kd.R_drewN | apply Kd.R_drew)); exact Kd.R_mono HO287.out (fun _ hk => trivial)⟩, ⟨by repeat (first | (with_reducible first | exact HB.out | apply below_alloc | apply pw_below_drewN | apply below_drew1) | exact HB.out)⟩⟩
                    ·replace c84 := Bool.eq_false_iff.mpr c84
                     subst c84
                     have H1 : (laws_FnWalksMeanOfAll.j5 kj29 a2 a3 a4 a5 a6 a7 t268 t269 t270 t274 t278 t279 t280 t284 true) = some r := by rw [if_neg (show ¬ (false = true) by decide)] at H; exact H
                     clear H
                     have H := H1
                     clear H1
                     have H' := Aside0.mk H
                     clear H
                     obtain ⟨Ao90, co90, eo90⟩ := Kd.R_slice HO287.out
                     subst eo90
                     obtain ⟨Ao91, co91, eo91⟩ := Kd.R_slice HO291.out
                     subst eo91
                     go_wp2_with (first | (go_at_call 35; (with_reducible refine (laws_yTexts.calls kj29 _ _ t284 _ _ t288 false _ ?side1 ?side2 ?side3 ?side4 A83.out).mono ?_); (case side1 => repeat (first | exact (Kd.R_reads' HO287.out).2.2 | (with_reducible refine Kd.C_alloc ?_ _) | (with_reducible refine Kd.C_drewN ?_ _) | (with_reducible refine Kd.C_drew ?_))); (case side2 => exact (Kd.R_reads' HO287.out).2.1); (case side3 => repeat (first | exact (Kd.R_reads' HO291.out).2.2 | (with_reducible refine Kd.C_alloc ?_ _) | (with_reducible refine Kd.C_drewN ?_ _) | (with_reducible refine Kd.C_drew ?_))); (case side4 => exact (Kd.R_reads' HO291.out).2.1); rintro e w' ⟨rfl, ⟨nd, rfl⟩⟩))
                     refine Met.intro ?_
                     go_step
                     refine ⟨[_], ⟨rfl, trivial⟩, ⟨_, rfl, ?rel⟩, by kernel_rfl⟩
                     case rel => exact ⟨_, (true), (by first | rfl | (simp; done) | (simp [*]; done)), H', ⟨by have := HJ8.out; have := HJ20.out; have := HJ29.out; first | omega | exact Nat.le_refl _⟩, ⟨by (with_reducible repeat (first | apply Kd.R_alloc | apply Kd.R_drewN | apply Kd.R_drew)); exact Kd.R_mono HO287.out (fun _ hk => trivial)⟩, ⟨by repeat (first | (with_reducible first | exact HB.out | apply below_alloc | apply pw_below_drewN | apply below_drew1) | exact HB.out)⟩⟩
                 ·rw [if_neg c80] at H
                  have c80b0 : (t279 == t282) = false := beq_eq_false_iff_ne.mpr c80
                  have c80b1 : (t279 != t282) = true := bne_iff_ne.mpr c80
                  have H' := Aside0.mk H
                  clear H
                  go_wp2
                  refine Met.intro ?_
                  go_step
                  refine ⟨[_], ⟨rfl, trivial⟩, ⟨_, rfl, ?rel⟩, by kernel_rfl⟩
                  case rel => exact ⟨_, (true), (by first | rfl | (simp; done) | (simp [*]; done)), H', ⟨by have := HJ8.out; have := HJ20.out; have := HJ29.out; first | omega | exact Nat.le_refl _⟩, ⟨by (with_reducible repeat (first | apply Kd.R_alloc | apply Kd.R_drewN | apply Kd.R_drew)); exact Kd.R_mono HO287.out (fun _ hk => trivial)⟩, ⟨by repeat (first | (with_reducible first | exact HB.out | apply below_alloc | apply pw_below_drewN | apply below_drew1) | exact HB.out)⟩⟩
                ·rw [if_neg c79] at H
                 have c79b0 : (t278 == t281) = false := beq_eq_false_iff_ne.mpr c79
                 have c79b1 : (t278 != t281) = true := bne_iff_ne.mpr c79
                 have H' := Aside0.mk H
                 clear H
                 go_wp2
                 refine Met.intro ?_
                 go_step
                 refine ⟨[_], ⟨rfl, trivial⟩, ⟨_, rfl, ?rel⟩, by kernel_rfl⟩
                 case rel => exact ⟨_, (true), (by first | rfl | (simp; done) | (simp [*]; done)), H', ⟨by have := HJ8.out; have := HJ20.out; have := HJ29.out; first | omega | exact Nat.le_refl _⟩, ⟨by (with_reducible repeat (first | apply Kd.R_alloc | apply Kd.R_drewN | apply Kd.R_drew)); exact Kd.R_mono HO287.out (fun _ hk => trivial)⟩, ⟨by repeat (first | (with_reducible first | exact HB.out | apply below_alloc | apply pw_below_drewN | apply below_drew1) | exact HB.out)⟩⟩
              ·rw [if_neg c77] at H
               have c77b0 : (t274 == t276) = false := beq_eq_false_iff_ne.mpr c77
               have c77b1 : (t274 != t276) = true := bne_iff_ne.mpr c77
               have H' := Aside0.mk H
               clear H
               go_wp2
               refine Met.intro ?_
               go_step
               refine ⟨[_], ⟨rfl, trivial⟩, ⟨_, rfl, ?rel⟩, by kernel_rfl⟩
               case rel => exact ⟨_, (true), (by first | rfl | (simp; done) | (simp [*]; done)), H', ⟨by have := HJ8.out; have := HJ20.out; have := HJ29.out; first | omega | exact Nat.le_refl _⟩, ⟨by (with_reducible repeat (first | apply Kd.R_alloc | apply Kd.R_drewN | apply Kd.R_drew)); exact Kd.R_mono HO287.out (fun _ hk => trivial)⟩, ⟨by repeat (first | (with_reducible first | exact HB.out | apply below_alloc | apply pw_below_drewN | apply below_drew1) | exact HB.out)⟩⟩
            ·rw [if_neg c75] at H
             have c75b0 : (t269 == t272) = false := beq_eq_false_iff_ne.mpr c75
             have c75b1 : (t269 != t272) = true := bne_iff_ne.mpr c75
             have H' := Aside0.mk H
             clear H
             go_wp2
             refine Met.intro ?_
             go_step
             refine ⟨[_], ⟨rfl, trivial⟩, ⟨_, rfl, ?rel⟩, by kernel_rfl⟩
             case rel => exact ⟨_, (true), (by first | rfl | (simp; done) | (simp [*]; done)), H', ⟨by have := HJ8.out; have := HJ20.out; have := HJ29.out; first | omega | exact Nat.le_refl _⟩, ⟨by (with_reducible repeat (first | apply Kd.R_alloc | apply Kd.R_drewN | apply Kd.R_drew)); exact Kd.R_mono HO287.out (fun _ hk => trivial)⟩, ⟨by repeat (first | (with_reducible first | exact HB.out | apply below_alloc | apply pw_below_drewN | apply below_drew1) | exact HB.out)⟩⟩
           ·rw [if_neg c74] at H
            have c74b0 : (t268 == t271) = false := beq_eq_false_iff_ne.mpr c74
            have c74b1 : (t268 != t271) = true := bne_iff_ne.mpr c74
            have H' := Aside0.mk H
            clear H
            go_wp2
            refine Met.intro ?_
            go_step
            refine ⟨[_], ⟨rfl, trivial⟩, ⟨_, rfl, ?rel⟩, by kernel_rfl⟩
            case rel => exact ⟨_, (true), (by first | rfl | (simp; done) | (simp [*]; done)), H', ⟨by have := HJ8.out; have := HJ20.out; have := HJ29.out; first | omega | exact Nat.le_refl _⟩, ⟨by (with_reducible repeat (first | apply Kd.R_alloc | apply Kd.R_drewN | apply Kd.R_drew)); exact Kd.R_mono HO287.out (fun _ hk => trivial)⟩, ⟨by repeat (first | (with_reducible first | exact HB.out | apply below_alloc | apply pw_below_drewN | apply below_drew1) | exact HB.out)⟩⟩
         case rest5 =>
          as_aux_lemma =>
          intro vs_ f_ wc hcut
          obtain ⟨v340, rfl, hcut⟩ := hcut
          dsimp only [mixF, List.getD_cons_zero, List.getD_cons_succ, Nat.reduceAdd]
          clear HC65
          try clear c1
          try clear c2
          try clear p2
          try clear q2
          try clear hx2
          try clear c3
          try clear c4
          try clear c5
          try clear p6
          try clear c7
          try clear c8
          try clear c10
          try clear c10b0
          try clear c10b1
          try clear c11
          try clear c11b0
          try clear c11b1
          try clear c12
          try clear c12b0
          try clear c12b1
          try clear c13
          try clear c13b0
          try clear c13b1
          try clear c14
          try clear c14b0
          try clear c14b1
          try clear c15
          try clear c15b0
          try clear c15b1
          try clear c16
          try clear c20
          try clear c21
          try clear c22
          try clear c23
          try clear c24
          try clear c24b0
          try clear c24b1
          try clear c24b2
          try clear c25
          try clear c25b0
          try clear c25b1
          try clear c26
          try clear c26b0
          try clear c26b1
          try clear c26b2
          try clear p26
          try clear q26
          try clear hx26
          try clear c27
          try clear c27b0
          try clear c27b1
          try clear c28
          try clear c29
          try clear c30
          try clear c31
          try clear c32
          try clear c33
          try clear c34
          try clear c35
          try clear c36
          try clear c36b0
          try clear c37
          try clear c38
          try clear c38b0
          try clear c38b1
          try clear c42
          try clear c42b0
          try clear c43
          try clear c43b0
          try clear c44
          try clear c44b0
          try clear c47
          try clear c48
          try clear c55
          try clear c56
          try clear c56b0
          try clear c56b1
          try clear p64
          try clear c73
          try clear c73b0
          try clear c73b1
          try clear c73b2
          try clear c74
          try clear c74b0
          try clear c74b1
          try clear c75
          try clear c75b0
          try clear c75b1
          try clear c76
          try clear c76b0
          try clear c76b1
          try clear c76b2
          try clear c77
          try clear c77b0
          try clear c77b1
          try clear c78
          try clear c78b0
          try clear c78b1
          try clear c78b2
          try clear c79
          try clear c79b0
          try clear c79b1
          try clear c80
          try clear c80b0
          try clear c80b1
          try clear c81
          try clear c81b0
          try clear c81b1
          try clear c81b2
          try clear c82
          try clear c82b0
          try clear c82b1
          try clear c82b2
          try clear c84
          try clear c85
          try clear hx263_0
          try clear p2
          try clear p26
          try clear p263
          try clear p6
          try clear q2
          try clear q26
          try clear q263
          obtain ⟨kq, x340_64, rfl, HA, HJ64, HO_52, HB⟩ := hcut
          cases kq with
          | zero => exact absurd HA.out (by simp [laws_FnWalksMeanOfAll.j5])
          | succ kj64 =>
           have H := HA.out
           clear HA
           simp only [laws_FnWalksMeanOfAll.j5] at H
           by_cases c92 : x340_64 = true
           ·subst c92
            have H1 : (some false) = some r := by rw [if_pos rfl] at H; exact H
            clear H
            have H := H1
            clear H1
            obtain rfl := Option.some.inj H
            go_wp2
            go_ret
            exact ⟨by first | rfl | (simp [errW_none, errW_some] <;> rfl) | (simp [*, errW_none, errW_some] <;> rfl), by repeat (first | (with_reducible first | exact HB.out | apply below_alloc | apply pw_below_drewN | apply below_drew1) | exact HB.out)⟩
           ·replace c92 := Bool.eq_false_iff.mpr c92
            subst c92
            have H1 : (if t270 = true then ((impl_ChanceBefore.f kj64 a2 a4 a3).bind fun bt293 => (if bt293.2.2 = true then (if (wrap64 ((wrap64 (t268 * bt293.2.1)) + (wrap64 (bt293.1 * t269)))) = (wrap64 (t269 * bt293.2.1)) then (if a2.toList = a3.toList then (if t268 = t269 then (if a2.toList = a4.toList then (if t268 = 0 then (laws_FnWalksMeanOfAll.j6 kj64 a5 a6 a7 t274 t278 t279 t280 t284) else (some false)) else (laws_FnWalksMeanOfAll.j6 kj64 a5 a6 a7 t274 t278 t279 t280 t284)) else (some false)) else (if a2.toList = a4.toList then (if t268 = 0 then (laws_FnWalksMeanOfAll.j6 kj64 a5 a6 a7 t274 t278 t279 t280 t284) else (some false)) else (laws_FnWalksMeanOfAll.j6 kj64 a5 a6 a7 t274 t278 t279 t280 t284))) else (some false)) else (some false))) else (laws_FnWalksMeanOfAll.j6 kj64 a5 a6 a7 t274 t278 t279 t280 t284)) = some r := by rw [if_neg (show ¬ (false = true) by decide)] at H; exact H
            clear H
            have H := H1
            clear H1
            have HC93 := Aside0.mk H
            clear H
            go_upto_if 341 with (fail)
            refine wp_cutv [] [0, 0, 0, 0, 0, 0, 0, 0, 0, 0, 0, 0, 0, 0, 0, 0, 1, 0, 0, 0, 0, 0, 0, 0, 0, 0, 0, 0, 0, 0, 0, 0, 0, 0, 0, 0, 0, 0, 0, 0, 0, 0, 0, 0, 0, 0, 0, 0, 0, 0, 0, 0, 0, 0, 0, 0, 1, 1, 1, 0, 0, 0, 0, 0, 0, 0, 0, 0, 0, 0, 0, 0, 0, 1, 1, 1, 1, 1, 1, 1, 1, 1, 1, 1, 1, 1, 1, 1, 1, 1, 1, 1, 1, 1, 1, 1, 1, 1, 1, 1, 1, 1, 1, 1, 1, 1, 1, 1, 1, 1, 1, 1, 1, 1, 1, 1, 1, 1, 1, 1, 1, 1, 1, 1, 1, 1, 1, 1, 1, 1, 1, 1, 1, 1, 1, 1, 1, 1, 1, 1, 1, 1, 1, 1, 1, 1, 1, 1, 1, 1, 1, 1, 1, 1, 1, 1, 1, 1, 1, 1, 1, 1, 1, 1, 1, 1, 1, 1, 1, 1, 1, 1, 1, 1, 1, 1, 1, 1, 1, 1, 1, 1, 1, 0, 0, 0, 1, 1, 1, 1, 1, 1, 1, 1, 1, 1, 1, 1, 1, 1, 1, 1, 1, 1, 1, 1, 1, 1, 1, 1, 1, 1, 1, 1, 1, 1, 1, 1, 1, 1, 1, 1, 1, 1, 1, 1, 1, 1, 1, 1, 1, 1, 1, 1, 1, 1, 1, 1, 1, 1, 1, 1, 1, 1, 1, 1, 1, 1, 1, 1, 1, 1, 1, 1, 1, 1, 1, 1, 1, 1, 1, 1, 1, 1, 1, 1, 1, 1, 1, 1, 1, 1, 1, 1, 1, 1, 1, 1, 1, 1, 1, 1, 1, 1, 1, 1, 1, 1, 1, 1, 1, 1, 1, 1, 1, 1, 1, 1, 1, 1, 1, 1, 1, 1, 1, 1, 1, 1, 1, 1, 1, 1, 1, 1, 1, 1, 1, 1, 1, 1, 1, 1, 1, 1, 1, 1, 1, 1, 1, 1, 1, 1, 1, 1, 1, 1, 1, 1, 1, 1, 1, 1, 1, 1, 1, 1, 1, 1, 1, 1, 1, 1, 1, 1, 1, 1, 1, 1, 1, 1, 1, 1, 1, 1, 1, 1, 1, 1, 1, 1, 1, 1, 1, 1, 1, 1, 1, 1, 1, 1, 1, 1, 1, 1, 1, 1, 1, 1, 1, 1, 1, 1, 1, 1, 1, 1, 1, 1, 1, 1, 1, 1, 1, 1, 1, 1, 1, 1, 1, 1, 1, 1, 1, 1, 1, 1, 1, 1, 1, 1, 1, 1, 1, 1, 1, 1, 1, 1, 1, 1, 1, 1, 1, 1, 1, 1, 1, 1, 1, 1, 1, 1, 1, 1, 1, 1, 1, 1, 1, 1, 1, 1, 1, 1, 1, 1, 1, 1, 1, 1, 0, 0, 0, 1, 1, 1, 1, 1, 1, 1, 1, 1, 1, 1, 1, 1, 1, 1, 1, 1, 1, 1, 1, 1, 1, 1, 1, 1, 1, 1, 1, 1, 1, 1, 1, 1, 1] (fun vs_ wc => vs_ = [] ∧ ∃ (kq : Nat), Aside0 (laws_FnWalksMeanOfAll.j6 kq a5 a6 a7 t274 t278 t279 t280 t284 = some r) ∧ Aside0 (kq ≤ kj64) ∧ Aside0 (Kd.R Kd.string 9 wc w.heap.size (fun _ => True) v286 t284) ∧ Aside0 (Below w.heap.size w wc)) ?first6 ?rest6
            case first6 =>
             as_aux_lemma =>
             intro _ _ _ _
             have H := HC93.out
             clear HC93
             by_cases c94 : t270 = true
             ·subst c94
              have H1 : ((impl_ChanceBefore.f kj64 a2 a4 a3).bind fun bt293 => (if bt293.2.2 = true then (if (wrap64 ((wrap64 (t268 * bt293.2.1)) + (wrap64 (bt293.1 * t269)))) = (wrap64 (t269 * bt293.2.1)) then (if a2.toList = a3.toList then (if t268 = t269 then (if a2.toList = a4.toList then (if t268 = 0 then (laws_FnWalksMeanOfAll.j6 kj64 a5 a6 a7 t274 t278 t279 t280 t284) else (some false)) else (laws_FnWalksMeanOfAll.j6 kj64 a5 a6 a7 t274 t278 t279 t280 t284)) else (some false)) else (if a2.toList = a4.toList then (if t268 = 0 then (laws_FnWalksMeanOfAll.j6 kj64 a5 a6 a7 t274 t278 t279 t280 t284) else (some false)) else (laws_FnWalksMeanOfAll.j6 kj64 a5 a6 a7 t274 t278 t279 t280 t284))) else (some false)) else (some false))) = some r := by rw [if_pos rfl] at H; exact H
              clear H
              have H := H1
              clear H1
              replace H := Option.bind_eq_some_iff.mp H
              obtain ⟨⟨t293, t294, t295⟩, A950, H⟩ := H
              replace H : (if t295 = true then (if (wrap64 ((wrap64 (t268 * t294)) + (wrap64 (t293 * t269)))) = (wrap64 (t269 * t294)) then (if a2.toList = a3.toList then (if t268 = t269 then (if a2.toList = a4.toList then (if t268 = 0 then (laws_FnWalksMeanOfAll.j6 kj64 a5 a6 a7 t274 t278 t279 t280 t284) else (some false)) else (laws_FnWalksMeanOfAll.j6 kj64 a5 a6 a7 t274 t278 t279 t280 t284)) else (some false)) else (if a2.toList = a4.toList then (if t268 = 0 then (laws_FnWalksMeanOfAll.j6 kj64 a5 a6 a7 t274 t278 t279 t280 t284) else (some false)) else (laws_FnWalksMeanOfAll.j6 kj64 a5 a6 a7 t274 t278 t279 t280 t284))) else (some false)) else (some false)) = some r := H
              have A95 := Aside0.mk A950
              clear A950
              by_cases c96 : t295 = true
              ·subst c96
               have H1 : (if (wrap64 ((wrap64 (t268 * t294)) + (wrap64 (t293 * t269)))) = (wrap64 (t269 * t294)) then (if a2.toList = a3.toList then (if t268 = t269 then (if a2.toList = a4.toList then (if t268 = 0 then (laws_FnWalksMeanOfAll.j6 kj64 a5 a6 a7 t274 t278 t279 t280 t284) else (some false)) else (laws_FnWalksMeanOfAll.j6 kj64 a5 a6 a7 t274 t278 t279 t280 t284)) else (some false)) else (if a2.toList = a4.toList then (if t268 = 0 then (laws_FnWalksMeanOfAll.j6 kj64 a5 a6 a7 t274 t278 t279 t280 t284) else (some false)) else (laws_FnWalksMeanOfAll.j6 kj64 a5 a6 a7 t274 t278 t279 t280 t284))) else (some false)) = some r := by rw [if_pos rfl] at H; exact H
               clear H
               have H := H1
               clear H1
               by_cases c97 : (wrap64 ((wrap64 (t268 * t294)) + (wrap64 (t293 * t269)))) = (wrap64 (t269 * t294))
               ·rw [if_pos c97] at H
                have c97b0 : ((wrap64 ((wrap64 (t268 * t294)) + (wrap64 (t293 * t269)))) == (wrap64 (t269 * t294))) = true := beq_iff_eq.mpr c97
                have c97b1 : ((wrap64 ((wrap64 (t268 * t294)) + (wrap64 (t293 * t269)))) != (wrap64 (t269 * t294))) = false := bne_eq_false_iff_eq.mpr c97
                clear c97
                (first | rw [c97b0] | (simp only [i64_w, i32_w]; rw [c97b0]) | skip)
                by_cases c98 : a2.toList = a3.toList
                ·rw [if_pos c98] at H
                 have c98b0 : (a2.toList == a3.toList) = true := beq_iff_eq.mpr c98
                 have c98b1 : (a2.toList != a3.toList) = false := bne_eq_false_iff_eq.mpr c98
                 clear c98
                 by_cases c99 : t268 = t269
                 ·rw [if_pos c99] at H
                  have c99b0 : (t268 == t269) = true := beq_iff_eq.mpr c99
                  have c99b1 : (t268 != t269) = false := bne_eq_false_iff_eq.mpr c99
                  clear c99
                  by_cases c100 : a2.toList = a4.toList
                  ·rw [if_pos c100] at H
                   have c100b0 : (a2.toList == a4.toList) = true := beq_iff_eq.mpr c100
                   have c100b1 : (a2.toList != a4.toList) = false := bne_eq_false_iff_eq.mpr c100
                   clear c100
                   by_cases c101 : t268 = 0
                   ·rw [if_pos c101] at H
                    have c101b0 : (t268 == 0) = true := beq_iff_eq.mpr c101
                    have c101b1 : (t268 != 0) = false := bne_eq_false_iff_eq.mpr c101
                    clear c101
                    have H' := Aside0.mk H
                    clear H
                    go_wp2_with (first | ((with_reducible refine gate_callee (f := 27) rfl ?_); refine goesL_ (some 346) rfl rfl Tryd.func27 (by kernel_rfl) rfl #[.string a2, .string a4, .string a3] rfl (by (try simp only [List.map_toArray, List.map_cons, List.map_nil]); first | done | rfl | (simp only [List.length_drop, List.length_take]; rfl)) ?_; (with_reducible refine (impl_ChanceBefore.calls kj64 a2 a4 a3 t293 t294 true _ A95.out).mono ?_); rintro e w102 ⟨rfl, hb⟩; refine ⟨_, rfl, ?_⟩; have n0_ := Aside0.mk (Kd.R_below (by (with_reducible repeat (first | apply Kd.R_alloc | apply Kd.R_drewN | apply Kd.R_drew)); exact HO_52.out) hb); have n1_ := Aside0.mk (below_step (by repeat (first | (with_reducible first | exact HB.out | apply below_alloc | apply pw_below_drewN | apply below_drew1) | exact HB.out)) hb); clear HO_52; clear HB; have HO_52 := n0_; have HB := n1_; clear n0_ n1_; (try clear hb); (try clear hb2); (try clear hk); (try clear hi)))
                    refine Met.intro ?_
                    go_step
                    refine ⟨[], trivial, ⟨rfl, ?rel⟩, by kernel_rfl⟩
                    case rel => exact ⟨_, H', ⟨by have := HJ8.out; have := HJ20.out; have := HJ29.out; have := HJ64.out; first | omega | exact Nat.le_refl _⟩, ⟨by (with_reducible repeat (first | apply Kd.R_alloc | apply Kd.R_drewN | apply Kd.R_drew)); exact HO_52.out⟩, ⟨by repeat (first | (with_reducible first | exact HB.out | apply below_alloc | apply pw_below_drewN | apply below_drew1) | exact HB.out)⟩⟩
                   ·rw [if_neg c101] at H
                    have c101b0 : (t268 == 0) = false := beq_eq_false_iff_ne.mpr c101
                    have c101b1 : (t268 != 0) = true := bne_iff_ne.mpr c101
                    obtain rfl := Option.some.inj H
                    go_wp2_with (first | ((with_reducible refine gate_callee (f := 27) rfl ?_); refine goesL_ (some 346) rfl rfl Tryd.func27 (by kernel_rfl) rfl #[.string a2, .string a4, .string a3] rfl (by (try simp only [List.map_toArray, List.map_cons, List.map_nil]); first | done | rfl | (simp only [List.length_drop, List.length_take]; rfl)) ?_; (with_reducible refine (impl_ChanceBefore.calls kj64 a2 a4 a3 t293 t294 true _ A95.out).mono ?_); rintro e w103 ⟨rfl, hb⟩; refine ⟨_, rfl, ?_⟩; have n0_ := Aside0.mk (Kd.R_below (by (with_reducible repeat (first | apply Kd.R_alloc | apply Kd.R_drewN | apply Kd.R_drew)); exact HO_52.out) hb); have n1_ := Aside0.mk (below_step (by repeat (first | (with_reducible first | exact HB.out | apply below_alloc | apply pw_below_drewN | apply below_drew1) | exact HB.out)) hb); clear HO_52; clear HB; have HO_52 := n0_; have HB := n1_; clear n0_ n1_; (try clear hb); (try clear hb2); (try clear hk); (try clear hi)))
                    go_ret
                    exact ⟨by first | rfl | (simp [errW_none, errW_some] <;> rfl) | (simp [*, errW_none, errW_some] <;> rfl), by repeat (first | (with_reducible first | exact HB.out | apply below_alloc | apply pw_below_drewN | apply below_drew1) | exact HB.out)⟩
                  ·rw [if_neg c100] at H
                   have c100b0 : (a2.toList == a4.toList) = false := beq_eq_false_iff_ne.mpr c100
                   have c100b1 : (a2.toList != a4.toList) = true := bne_iff_ne.mpr c100
                   have H' := Aside0.mk H
                   clear H
                   go_wp2_with (first | ((with_reducible refine gate_callee (f := 27) rfl ?_); refine goesL_ (some 346) rfl rfl Tryd.func27 (by kernel_rfl) rfl #[.string a2, .string a4, .string a3] rfl (by (try simp only [List.map_toArray, List.map_cons, List.map_nil]); first | done | rfl | (simp only [List.length_drop, List.length_take]; rfl)) ?_; (with_reducible refine (impl_ChanceBefore.calls kj64 a2 a4 a3 t293 t294 true _ A95.out).mono ?_); rintro e w104 ⟨rfl, hb⟩; refine ⟨_, rfl, ?_⟩; have n0_ := Aside0.mk (Kd.R_below (by (with_reducible repeat (first | apply Kd.R_alloc | apply Kd.R_drewN | apply Kd.R_drew)); exact HO_52.out) hb); have n1_ := Aside0.mk (below_step (by repeat (first | (with_reducible first | exact HB.out | apply below_alloc | apply pw_below_drewN | apply below_drew1) | exact HB.out)) hb); clear HO_52; clear HB; have HO_52 := n0_; have HB := n1_; clear n0_ n1_; (try clear hb); (try clear hb2); (try clear hk); (try clear hi)))
                   refine Met.intro ?_
                   go_step
                   refine ⟨[], trivial, ⟨rfl, ?rel⟩, by kernel_rfl⟩
                   case rel => exact ⟨_, H', ⟨by have := HJ8.out; have := HJ20.out; have := HJ29.out; have := HJ64.out; first | omega | exact Nat.le_refl _⟩, ⟨by (with_reducible repeat (first | apply Kd.R_alloc | apply Kd.R_drewN | apply Kd.R_drew)); exact HO_52.out⟩, ⟨by repeat (first | (with_reducible first | exact HB.out | apply below_alloc | apply pw_below_drewN | apply below_drew1) | exact HB.out)⟩⟩
                 ·rw [if_neg c99] at H
                  have c99b0 : (t268 == t269) = false := beq_eq_false_iff_ne.mpr c99
                  have c99b1 : (t268 != t269) = true := bne_iff_ne.mpr c99
                  obtain rfl := Option.some.inj H
                  go_wp2_with (first | ((with_reducible refine gate_callee (f := 27) rfl ?_); refine goesL_ (some 346) rfl rfl Tryd.func27 (by kernel_rfl) rfl #[.string a2, .string a4, .string a3] rfl (by (try simp only [List.map_toArray, List.map_cons, List.map_nil]); first | done | rfl | (simp only [List.length_drop, List.length_take]; rfl)) ?_; (with_reducible refine (impl_ChanceBefore.calls kj64 a2 a4 a3 t293 t294 true _ A95.out).mono ?_); rintro e w105 ⟨rfl, hb⟩; refine ⟨_, rfl, ?_⟩; have n0_ := Aside0.mk (Kd.R_below (by (with_reducible repeat (first | apply Kd.R_alloc | apply Kd.R_drewN | apply Kd.R_drew)); exact HO_52.out) hb); have n1_ := Aside0.mk (below_step (by repeat (first | (with_reducible first | exact HB.out | apply below_alloc | apply pw_below_drewN | apply below_drew1) | exact HB.out)) hb); clear HO_52; clear HB; have HO_52 := n0_; have HB := n1_; clear n0_ n1_; (try clear hb); (try clear hb2); (try clear hk); (try clear hi)))
                  go_ret
                  exact ⟨by first | rfl | (simp [errW_none, errW_some] <;> rfl) | (simp [*, errW_none, errW_some] <;> rfl), by repeat (first | (with_reducible first | exact HB.out | apply below_alloc | apply pw_below_drewN | apply below_drew1) | exact HB.out)⟩
                ·rw [if_neg c98] at H
                 have c98b0 : (a2.toList == a3.toList) = false := beq_eq_false_iff_ne.mpr c98
                 have c98b1 : (a2.toList != a3.toList) = true := bne_iff_ne.mpr c98
                 by_cases c106 : a2.toList = a4.toList
                 ·rw [if_pos c106] at H
                  have c106b0 : (a2.toList == a4.toList) = true := beq_iff_eq.mpr c106
                  have c106b1 : (a2.toList != a4.toList) = false := bne_eq_false_iff_eq.mpr c106
                  clear c106
                  by_cases c107 : t268 = 0
                  ·rw [if_pos c107] at H
                   have c107b0 : (t268 == 0) = true := beq_iff_eq.mpr c107
                   have c107b1 : (t268 != 0) = false := bne_eq_false_iff_eq.mpr c107
                   clear c107
                   have H' := Aside0.mk H
                   clear H
                   go_wp2_with (first | ((with_reducible refine gate_callee (f := 27) rfl ?_); refine goesL_ (some 346) rfl rfl Tryd.func27 (by kernel_rfl) rfl #[.string a2, .string a4, .string a3] rfl (by (try simp only [List.map_toArray, List.map_cons, List.map_nil]); first | done | rfl | (simp only [List.length_drop, List.length_take]; rfl)) ?_; (with_reducible refine (impl_ChanceBefore.calls kj64 a2 a4 a3 t293 t294 true _ A95.out).mono ?_); rintro e w108 ⟨rfl, hb⟩; refine ⟨_, rfl, ?_⟩; have n0_ := Aside0.mk (Kd.R_below (by (with_reducible repeat (first | apply Kd.R_alloc | apply Kd.R_drewN | apply Kd.R_drew)); exact HO_52.out) hb); have n1_ := Aside0.mk (below_step (by repeat (first | (with_reducible first | exact HB.out | apply below_alloc | apply pw_below_drewN | apply below_drew1) | exact HB.out)) hb); clear HO_52; clear HB; have HO_52 := n0_; have HB := n1_; clear n0_ n1_; (try clear hb); (try clear hb2); (try clear hk); (try clear hi)))
                   refine Met.intro ?_
                   go_step
                   refine ⟨[], trivial, ⟨rfl, ?rel⟩, by kernel_rfl⟩
                   case rel => exact ⟨_, H', ⟨by have := HJ8.out; have := HJ20.out; have := HJ29.out; have := HJ64.out; first | omega | exact Nat.le_refl _⟩, ⟨by (with_reducible repeat (first | apply Kd.R_alloc | apply Kd.R_drewN | apply Kd.R_drew)); exact HO_52.out⟩, ⟨by repeat (first | (with_reducible first | exact HB.out | apply below_alloc | apply pw_below_drewN | apply below_drew1) | exact HB.out)⟩⟩
                  ·rw [if_neg c107] at H
                   have c107b0 : (t268 == 0) = false := beq_eq_false_iff_ne.mpr c107
                   have c107b1 : (t268 != 0) = true := bne_iff_ne.mpr c107
                   obtain rfl := Option.some.inj H
                   go_wp2_with (first | ((with_reducible refine gate_callee (f := 27) rfl ?_); refine goesL_ (some 346) rfl rfl Tryd.func27 (by kernel_rfl) rfl #[.string a2, .string a4, .string a3] rfl (by (try simp only [List.map_toArray, List.map_cons, List.map_nil]); first | done | rfl | (simp only [List.length_drop, List.length_take]; rfl)) ?_; (with_reducible refine (impl_ChanceBefore.calls kj64 a2 a4 a3 t293 t294 true _ A95.out).mono ?_); rintro e w109 ⟨rfl, hb⟩; refine ⟨_, rfl, ?_⟩; have n0_ := Aside0.mk (Kd.R_below (by (with_reducible repeat (first | apply Kd.R_alloc | apply Kd.R_drewN | apply Kd.R_drew)); exact HO_52.out) hb); have n1_ := Aside0.mk (below_step (by repeat (first | (with_reducible first | exact HB.out | apply below_alloc | apply pw_below_drewN | apply below_drew1) | exact HB.out)) hb); clear HO_52; clear HB; have HO_52 := n0_; have HB := n1_; clear n0_ n1_; (try clear hb); (try clear hb2); (try clear hk); (try clear hi)))
                   go_ret
                   exact ⟨by first | rfl | (simp [errW_none, errW_some] <;> rfl) | (simp [*, errW_none, errW_some] <;> rfl), by repeat (first | (with_reducible first | exact HB.out | apply below_alloc | apply pw_below_drewN | apply below_drew1) | exact HB.out)⟩
                 ·rw [if_neg c106] at H
                  have c106b0 : (a2.toList == a4.toList) = false := beq_eq_false_iff_ne.mpr c106
                  have c106b1 : (a2.toList != a4.toList) = true := bne_iff_ne.mpr c106
                  have H' := Aside0.mk H
                  clear H
                  go_wp2_with (first | ((with_reducible refine gate_callee (f := 27) rfl ?_); refine goesL_ (some 346) rfl rfl Tryd.func27 (by kernel_rfl) rfl #[.string a2, .string a4, .string a3] rfl (by (try simp only [List.map_toArray, List.map_cons, List.map_nil]); first | done | rfl | (simp only [List.length_drop, List.length_take]; rfl)) ?_; (with_reducible refine (impl_ChanceBefore.calls kj64 a2 a4 a3 t293 t294 true _ A95.out).mono ?_); rintro e w110 ⟨rfl, hb⟩; refine ⟨_, rfl, ?_⟩; have n0_ := Aside0.mk (Kd.R_below (by (with_reducible repeat (first | apply Kd.R_alloc | apply Kd.R_drewN | apply Kd.R_drew)); exact HO_52.out) hb); have n1_ := Aside0.mk (below_step (by repeat (first | (with_reducible first | exact HB.out | apply below_alloc | apply pw_below_drewN | apply below_drew1) | exact HB.out)) hb); clear HO_52; clear HB; have HO_52 := n0_; have HB := n1_; clear n0_ n1_; (try clear hb); (try clear hb2); (try clear hk); (try clear hi)))
                  refine Met.intro ?_
                  go_step
                  refine ⟨[], trivial, ⟨rfl, ?rel⟩, by kernel_rfl⟩
                  case rel => exact ⟨_, H', ⟨by have := HJ8.out; have := HJ20.out; have := HJ29.out; have := HJ64.out; first | omega | exact Nat.le_refl _⟩, ⟨by (with_reducible repeat (first | apply Kd.R_alloc | apply Kd.R_drewN | apply Kd.R_drew)); exact HO_52.out⟩, ⟨by repeat (first | (with_reducible first | exact HB.out | apply below_alloc | apply pw_below_drewN | apply below_drew1) | exact HB.out)⟩⟩
               ·rw [if_neg c97] at H
                have c97b0 : ((wrap64 ((wrap64 (t268 * t294)) + (wrap64 (t293 * t269)))) == (wrap64 (t269 * t294))) = false := beq_eq_false_iff_ne.mpr c97
                have c97b1 : ((wrap64 ((wrap64 (t268 * t294)) + (wrap64 (t293 * t269)))) != (wrap64 (t269 * t294))) = true := bne_iff_ne.mpr c97
                (first | rw [c97b0] | (simp only [i64_w, i32_w]; rw [c97b0]) | skip)
                obtain rfl := Option.some.inj H
                go_wp2_with (first | ((with_reducible refine gate_callee (f := 27) rfl ?_); refine goesL_ (some 346) rfl rfl Tryd.func27 (by kernel_rfl) rfl #[.string a2, .string a4, .string a3] rfl (by (try simp only [List.map_toArray, List.map_cons, List.map_nil]); first | done | rfl | (simp only [List.length_drop, List.length_take]; rfl)) ?_; (with_reducible refine (impl_ChanceBefore.calls kj64 a2 a4 a3 t293 t294 true _ A95.out).mono ?_); rintro e w111 ⟨rfl, hb⟩; refine ⟨_, rfl, ?_⟩; have n0_ := Aside0.mk (Kd.R_below (by (with_reducible repeat (first | apply Kd.R_alloc | apply Kd.R_drewN | apply Kd.R_drew)); exact HO_52.out) hb); have n1_ := Aside0.mk (below_step (by repeat (first | (with_reducible first | exact HB.out | apply below_alloc | apply pw_below_drewN | apply below_drew1) | exact HB.out)) hb); clear HO_52; clear HB; have HO_52 := n0_; have HB := n1_; clear n0_ n1_; (try clear hb); (try clear hb2); (try clear hk); (try clear hi)))
                go_ret
                exact ⟨by first | rfl | (simp [errW_none, errW_some] <;> rfl) | (simp [*, errW_none, errW_some] <;> rfl), by repeat (first | (with_reducible first | exact HB.out | apply below_alloc | apply pw_below_drewN | apply below_drew1) | exact HB.out)⟩
              ·replace c96 := Bool.eq_false_iff.mpr c96
               subst c96
               have H1 : (some false) = some r := by rw [if_neg (show ¬ (false = true) by decide)] at H; exact H
               clear H
               have H := H1
               clear H1
               obtain rfl := Option.some.inj H
               go_wp2_with (first | ((with_reducible refine gate_callee (f := 27) rfl ?_); refine goesL_ (some 346) rfl rfl Tryd.func27 (by kernel_rfl) rfl #[.string a2, .string a4, .string a3] rfl (by (try simp only [List.map_toArray, List.map_cons, List.map_nil]); first | done | rfl | (simp only [List.length_drop, List.length_take]; rfl)) ?_; (with_reducible refine (impl_ChanceBefore.calls kj64 a2 a4 a3 t293 t294 false _ A95.out).mono ?_); rintro e w112 ⟨rfl, hb⟩; refine ⟨_, rfl, ?_⟩; have n0_ := Aside0.mk (Kd.R_below (by (with_reducible repeat (first | apply Kd.R_alloc | apply Kd.R_drewN | apply Kd.R_drew)); exact HO_52.out) hb); have n1_ := Aside0.mk (below_step (by repeat (first | (with_reducible first | exact HB.out | apply below_alloc | apply pw_below_drewN | apply below_drew1) | exact HB.out)) hb); clear HO_52; clear HB; have HO_52 := n0_; have HB := n1_; clear n0_ n1_; (try clear hb); (try clear hb2); (try clear hk); (try clear hi)))
               go_ret
               exact ⟨by first | rfl | (simp [errW_none, errW_some] <;> rfl) | (simp [*, errW_none, errW_some] <;> rfl), by repeat (first | (with_reducible first | exact HB.out | apply below_alloc | apply pw_below_drewN | apply below_drew1) | exact HB.out)⟩
             ·replace c94 := Bool.eq_false_iff.mpr c94
              subst c94
              have H1 : (laws_FnWalksMeanOfAll.j6 kj64 a5 a6 a7 t274 t278 t279 t280 t284) = some r := by rw [if_neg (show ¬ (false = true) by decide)] at H; exact H
              clear H
              have H := H1
              clear H1
              have H' := Aside0.mk H
              clear H
              go_wp2
              refine Met.intro ?_
              go_step
              refine ⟨[], trivial, ⟨rfl, ?rel⟩, by kernel_rfl⟩
              case rel => exact ⟨_, H', ⟨by have := HJ8.out; have := HJ20.out; have := HJ29.out; have := HJ64.out; first | omega | exact Nat.le_refl _⟩, ⟨by (with_reducible repeat (first | apply Kd.R_alloc | apply Kd.R_drewN | apply Kd.R_drew)); exact HO_52.out⟩, ⟨by repeat (first | (with_reducible first | exact HB.out | apply below_alloc | apply pw_below_drewN | apply below_drew1) | exact HB.out)⟩⟩
            case rest6 =>
             as_aux_lemma =>
             intro vs_ f_ wc hcut
             obtain ⟨rfl, hcut⟩ := hcut
             dsimp only [mixF, List.getD_cons_zero, List.getD_cons_succ, Nat.reduceAdd]
             clear HC93
             try clear c1
             try clear c2
             try clear p2
             try clear q2
             try clear hx2
             try clear c3
             try clear c4
             try clear c5
             try clear p6
             try clear c7
             try clear c8
             try clear c9
             try clear c10
             try clear c10b0
             try clear c10b1
             try clear c11
             try clear c11b0
             try clear c11b1
             try clear c12
             try clear c12b0
             try clear c12b1
             try clear c13
             try clear c13b0
             try clear c13b1
             try clear c14
             try clear c14b0
             try clear c14b1
             try clear c15
             try clear c15b0
             try clear c15b1
             try clear c16
             try clear c20
             try clear c21
             try clear c22
             try clear c23
             try clear c24
             try clear c24b0
             try clear c24b1
             try clear c24b2
             try clear c25
             try clear c25b0
             try clear c25b1
             try clear c26
             try clear c26b0
             try clear c26b1
             try clear c26b2
             try clear p26
             try clear q26
             try clear hx26
             try clear c27
             try clear c27b0
             try clear c27b1
             try clear c28
             try clear c29
             try clear c30
             try clear c31
             try clear c32
             try clear c33
             try clear c34
             try clear c35
             try clear c36
             try clear c36b0
             try clear c37
             try clear c38
             try clear c38b0
             try clear c38b1
             try clear c42
             try clear c42b0
             try clear c43
             try clear c43b0
             try clear c44
             try clear c44b0
             try clear c47
             try clear c48
             try clear c55
             try clear c56
             try clear c56b0
             try clear c56b1
             try clear p64
             try clear c73
             try clear c73b0
             try clear c73b1
             try clear c73b2
             try clear c74
             try clear c74b0
             try clear c74b1
             try clear c75
             try clear c75b0
             try clear c75b1
             try clear c76
             try clear c76b0
             try clear c76b1
             try clear c76b2
             try clear c77
             try clear c77b0
             try clear c77b1
             try clear c78
             try clear c78b0
             try clear c78b1
             try clear c78b2
             try clear c79
             try clear c79b0
             try clear c79b1
             try clear c80
             try clear c80b0
             try clear c80b1
             try clear c81
             try clear c81b0
             try clear c81b1
             try clear c81b2
             try clear c82
             try clear c82b0
             try clear c82b1
             try clear c82b2
             try clear c84
             try clear c85
             try clear c92
             try clear c94
             try clear c96
             try clear c97
             try clear c97b0
             try clear c97b1
             try clear c98
             try clear c98b0
             try clear c98b1
             try clear c99
             try clear c99b0
             try clear c99b1
             try clear c100
             try clear c100b0
             try clear c100b1
             try clear c101
             try clear c101b0
             try clear c101b1
             try clear c106
             try clear c106b0
             try clear c106b1
             try clear c107
             try clear c107b0
             try clear c107b1
             try clear hx263_0
             try clear p2
             try clear p26
             try clear p263
             try clear p6
             try clear p64
             try clear q2
             try clear q26
             try clear q263
             obtain ⟨kq, HA, HJ92, HO_52, HB⟩ := hcut
             cases kq with
             | zero => exact absurd HA.out (by simp [laws_FnWalksMeanOfAll.j6])
             | succ kj92 =>
              have H := HA.out
              clear HA
              simp only [laws_FnWalksMeanOfAll.j6] at H
              by_cases c113 : t280 = true
              ·subst c113
               have H1 : (if ((decide (t274 > 0)) != (decide (t278 > 0))) = true then (laws_FnWalksMeanOfAll.j7 kj92 a5 a6 a7 t274 t278 t279 t284 true) else (if t278 < 0 then (laws_FnWalksMeanOfAll.j7 kj92 a5 a6 a7 t274 t278 t279 t284 true) else (if t278 > t279 then (laws_FnWalksMeanOfAll.j7 kj92 a5 a6 a7 t274 t278 t279 t284 true) else (if a7 = 0 then (laws_FnWalksMeanOfAll.j7 kj92 a5 a6 a7 t274 t278 t279 t284 ((t278 == 1) != (a5.toList == a6.toList))) else (laws_FnWalksMeanOfAll.j7 kj92 a5 a6 a7 t274 t278 t279 t284 false))))) = some r := by rw [if_pos rfl] at H; exact H
               clear H
               have H := H1
               clear H1
               have HC114 := Aside0.mk H
               clear H
               go_upto_region 42 with (fail)
               refine wp_cutv [410] [0, 0, 0, 0, 0, 0, 0, 0, 0, 0, 0, 0, 0, 0, 0, 0, 0, 0, 0, 0, 0, 0, 0, 0, 0, 0, 0, 0, 0, 0, 0, 0, 0, 0, 0, 0, 0, 0, 0, 0, 0, 0, 0, 0, 0, 0, 0, 0, 0, 0, 0, 0, 0, 0, 0, 0, 0, 0, 0, 0, 0, 0, 0, 0, 0, 0, 0, 0, 0, 0, 0, 0, 0, 1, 1, 1, 1, 1, 1, 1, 1, 1, 1, 1, 1, 1, 1, 1, 1, 1, 1, 1, 1, 1, 1, 1, 1, 1, 1, 1, 1, 1, 1, 1, 1, 1, 1, 1, 1, 1, 1, 1, 1, 1, 1, 1, 1, 1, 1, 1, 1, 1, 1, 1, 1, 1, 1, 1, 1, 1, 1, 1, 1, 1, 1, 1, 1, 1, 1, 1, 1, 1, 1, 1, 1, 1, 1, 1, 1, 1, 1, 1, 1, 1, 1, 1, 1, 1, 1, 1, 1, 1, 1, 1, 1, 1, 1, 1, 1, 1, 1, 1, 1, 1, 1, 1, 1, 1, 1, 1, 1, 1, 1, 0, 0, 0, 1, 1, 1, 1, 1, 1, 1, 1, 1, 1, 1, 1, 1, 1, 1, 1, 1, 1, 1, 1, 1, 1, 1, 1, 1, 1, 1, 1, 1, 1, 1, 1, 1, 1, 1, 1, 1, 1, 1, 1, 1, 1, 1, 1, 1, 1, 1, 1, 1, 1, 1, 1, 1, 1, 1, 1, 1, 1, 1, 1, 1, 1, 1, 1, 1, 1, 1, 1, 1, 1, 1, 1, 1, 1, 1, 1, 1, 1, 1, 1, 1, 1, 1, 1, 1, 1, 1, 1, 1, 1, 1, 1, 1, 1, 1, 1, 1, 1, 1, 1, 1, 1, 1, 1, 1, 1, 1, 1, 1, 1, 1, 1, 1, 1, 1, 1, 1, 1, 1, 1, 1, 1, 1, 1, 1, 1, 1, 1, 1, 1, 1, 1, 1, 1, 1, 1, 1, 1, 1, 1, 1, 1, 1, 1, 1, 1, 1, 1, 1, 1, 1, 1, 1, 1, 1, 1, 1, 1, 1, 1, 1, 1, 1, 1, 1, 1, 1, 1, 1, 1, 1, 1, 1, 1, 1, 1, 1, 1, 1, 1, 1, 1, 1, 1, 1, 1, 1, 1, 1, 1, 1, 1, 1, 1, 1, 1, 1, 1, 1, 1, 1, 1, 1, 1, 1, 1, 1, 1, 1, 1, 1, 1, 1, 1, 1, 1, 1, 1, 1, 1, 1, 1, 1, 1, 2, 1, 1, 1, 1, 1, 1, 1, 1, 1, 1, 1, 1, 1, 1, 1, 1, 1, 1, 1, 1, 1, 1, 1, 1, 1, 1, 1, 1, 1, 1, 1, 1, 1, 1, 1, 1, 1, 1, 1, 1, 1, 1, 1, 1, 1, 1, 1, 1, 1, 0, 0, 0, 1, 1, 1, 1, 1, 1, 1, 1, 1, 1, 1, 1, 1, 1, 1, 1, 1, 1, 1, 1, 1, 1, 1, 1, 1, 1, 1, 1, 1, 1, 1, 1, 1, 1] (fun vs_ wc => ∃ v410, vs_ = [v410] ∧ ∃ (kq : Nat) (x410_113 : Bool), v410 = .bool x410_113 ∧ Aside0 (laws_FnWalksMeanOfAll.j7 kq a5 a6 a7 t274 t278 t279 t284 x410_113 = some r) ∧ Aside0 (kq ≤ kj92) ∧ Aside0 (Kd.R Kd.string 9 wc w.heap.size (fun _ => True) v286 t284) ∧ Aside0 (Below w.heap.size w wc)) ?first7 ?rest7
               case first7 =>
                as_aux_lemma =>
                intro _ _ _ _
                have H := HC114.out
                clear HC114
                by_cases c115 : ((decide (t274 > 0)) != (decide (t278 > 0))) = true
                ·rw [if_pos c115] at H
                 have c115b0 : ((decide (t274 > 0)) != (decide (t278 > 0))) = true := c115
                 (try (have c115b1 : decide ((decide (t274 > 0)) = (decide (t278 > 0))) = false := by simpa using c115))
                 (try (have c115b2 : ((decide (t274 > 0)) == (decide (t278 > 0))) = false := by simpa using c115))
                 (try (have c115b3 : ¬ ((decide (t274 > 0)) = (decide (t278 > 0))) := by simpa using c115))
                 clear c115
                 (first | rw [c115b0] | (simp only [i64_w, i32_w]; rw [c115b0]) | skip)
                 have H' := Aside0.mk H
                 clear H
                 go_wp2
                 refine Met.intro ?_
                 go_step
                 refine ⟨[_], ⟨rfl, trivial⟩, ⟨_, rfl, ?rel⟩, by kernel_rfl⟩
                 case rel => exact ⟨_, (true), (by first | rfl | (simp; done) | (simp [*]; done)), H', ⟨by have := HJ8.out; have := HJ20.out; have := HJ29.out; have := HJ64.out; have := HJ92.out; first | omega | exact Nat.le_refl _⟩, ⟨by (with_reducible repeat (first | apply Kd.R_alloc | apply Kd.R_drewN | apply Kd.R_drew)); exact HO_52.out⟩, ⟨by repeat (first | (with_reducible first | exact HB.out | apply below_alloc | apply pw_below_drewN | apply below_drew1) | exact HB.out)⟩⟩
                ·rw [if_neg c115] at H
                 have c115b0 : ((decide (t274 > 0)) != (decide (t278 > 0))) = false := by simpa using c115
                 (try (have c115b1 : decide ((decide (t274 > 0)) = (decide (t278 > 0))) = true := by simpa using c115))
                 (try (have c115b2 : ((decide (t274 > 0)) == (decide (t278 > 0))) = true := by simpa using c115))
                 clear c115
                 (first | rw [c115b0] | (simp only [i64_w, i32_w]; rw [c115b0]) | skip)
                 by_cases c116 : t278 < 0
                 ·rw [if_pos c116] at H
                  have c116b0 : decide (t278 < 0) = true := decide_eq_true c116
                  clear c116
                  have H' := Aside0.mk H
                  clear H
                  go_wp2
                  refine Met.intro ?_
                  go_step
                  refine ⟨[_], ⟨rfl, trivial⟩, ⟨_, rfl, ?rel⟩, by kernel_rfl⟩
                  case rel => exact ⟨_, (true), (by first | rfl | (simp; done) | (simp [*]; done)), H', ⟨by have := HJ8.out; have := HJ20.out; have := HJ29.out; have := HJ64.out; have := HJ92.out; first | omega | exact Nat.le_refl _⟩, ⟨by (with_reducible repeat (first | apply Kd.R_alloc | apply Kd.R_drewN | apply Kd.R_drew)); exact HO_52.out⟩, ⟨by repeat (first | (with_reducible first | exact HB.out | apply below_alloc | apply pw_below_drewN | apply below_drew1) | exact HB.out)⟩⟩
                 ·rw [if_neg c116] at H
                  have c116b0 : decide (t278 < 0) = false := decide_eq_false c116
                  clear c116
                  by_cases c117 : t278 > t279
                  ·rw [if_pos c117] at H
                   have c117b0 : decide (t279 < t278) = true := decide_eq_true c117
                   clear c117
                   have H' := Aside0.mk H
                   clear H
                   go_wp2
                   refine Met.intro ?_
                   go_step
                   refine ⟨[_], ⟨rfl, trivial⟩, ⟨_, rfl, ?rel⟩, by kernel_rfl⟩
                   case rel => exact ⟨_, (true), (by first | rfl | (simp; done) | (simp [*]; done)), H', ⟨by have := HJ8.out; have := HJ20.out; have := HJ29.out; have := HJ64.out; have := HJ92.out; first | omega | exact Nat.le_refl _⟩, ⟨by (with_reducible repeat (first | apply Kd.R_alloc | apply Kd.R_drewN | apply Kd.R_drew)); exact HO_52.out⟩, ⟨by repeat (first | (with_reducible first | exact HB.out | apply below_alloc | apply pw_below_drewN | apply below_drew1) | exact HB.out)⟩⟩
                  ·rw [if_neg c117] at H
                   have c117b0 : decide (t279 < t278) = false := decide_eq_false c117
                   clear c117
                   by_cases c118 : a7 = 0
                   ·rw [if_pos c118] at H
                    have c118b0 : (a7 == 0) = true := beq_iff_eq.mpr c118
                    have c118b1 : (a7 != 0) = false := bne_eq_false_iff_eq.mpr c118
                    clear c118
                    have H' := Aside0.mk H
                    clear H
                    go_wp2
                    refine Met.intro ?_
                    go_step
                    refine ⟨[_], ⟨rfl, trivial⟩, ⟨_, rfl, ?rel⟩, by kernel_rfl⟩
                    case rel => exact ⟨_, (((t278 == 1) != (a5.toList == a6.toList))), (by first | rfl | (simp; done) | (simp [*]; done)), H', ⟨by have := HJ8.out; have := HJ20.out; have := HJ29.out; have := HJ64.out; have := HJ92.out; first | omega | exact Nat.le_refl _⟩, ⟨by (with_reducible repeat (first | apply Kd.R_alloc | apply Kd.R_drewN | apply Kd.R_drew)); exact HO_52.out⟩, ⟨by repeat (first | (with_reducible first | exact HB.out | apply below_alloc | apply pw_below_drewN | apply below_drew1) | exact HB.out)⟩⟩
                   ·rw [if_neg c118] at H
                    have c118b0 : (a7 == 0) = false := beq_eq_false_iff_ne.mpr c118
                    have c118b1 : (a7 != 0) = true := bne_iff_ne.mpr c118
                    have H' := Aside0.mk H
                    clear H
                    go_wp2
                    refine Met.intro ?_
                    go_step
                    refine ⟨[_], ⟨rfl, trivial⟩, ⟨_, rfl, ?rel⟩, by kernel_rfl⟩
                    case rel => exact ⟨_, (false), (by first | rfl | (simp; done) | (simp [*]; done)), H', ⟨by have := HJ8.out; have := HJ20.out; have := HJ29.out; have := HJ64.out; have := HJ92.out; first | omega | exact Nat.le_refl _⟩, ⟨by (with_reducible repeat (first | apply Kd.R_alloc | apply Kd.R_drewN | apply Kd.R_drew)); exact HO_52.out⟩, ⟨by repeat (first | (with_reducible first | exact HB.out | apply below_alloc | apply pw_below_drewN | apply below_drew1) | exact HB.out)⟩⟩
               case rest7 =>
                as_aux_lemma =>
                intro vs_ f_ wc hcut
                obtain ⟨v410, rfl, hcut⟩ := hcut
                dsimp only [mixF, List.getD_cons_zero, List.getD_cons_succ, Nat.reduceAdd]
                clear HC114
                try clear c1
                try clear c2
                try clear p2
                try clear q2
                try clear hx2
                try clear c3
                try clear c4
                try clear c5
                try clear p6
                try clear c7
                try clear c8
                try clear c9
                try clear c10
                try clear c10b0
                try clear c10b1
                try clear c11
                try clear c11b0
                try clear c11b1
                try clear c12
                try clear c12b0
                try clear c12b1
                try clear c13
                try clear c13b0
                try clear c13b1
                try clear c14
                try clear c14b0
                try clear c14b1
                try clear c15
                try clear c15b0
                try clear c15b1
                try clear c16
                try clear c20
                try clear c21
                try clear c22
                try clear c23
                try clear c24
                try clear c24b0
                try clear c24b1
                try clear c24b2
                try clear c25
                try clear c25b0
                try clear c25b1
                try clear c26
                try clear c26b0
                try clear c26b1
                try clear c26b2
                try clear p26
                try clear q26
                try clear hx26
                try clear c27
                try clear c27b0
                try clear c27b1
                try clear c28
                try clear c29
                try clear c30
                try clear c31
                try clear c32
                try clear c33
                try clear c34
                try clear c35
                try clear c36
                try clear c36b0
                try clear c37
                try clear c38
                try clear c38b0
                try clear c38b1
                try clear c42
                try clear c42b0
                try clear c43
                try clear c43b0
                try clear c44
                try clear c44b0
                try clear c47
                try clear c48
                try clear c55
                try clear c56
                try clear c56b0
                try clear c56b1
                try clear p64
                try clear c73
                try clear c73b0
                try clear c73b1
                try clear c73b2
                try clear c74
                try clear c74b0
                try clear c74b1
                try clear c75
                try clear c75b0
                try clear c75b1
                try clear c76
                try clear c76b0
                try clear c76b1
                try clear c76b2
                try clear c77
                try clear c77b0
                try clear c77b1
                try clear c78
                try clear c78b0
                try clear c78b1
                try clear c78b2
                try clear c79
                try clear c79b0
                try clear c79b1
                try clear c80
                try clear c80b0
                try clear c80b1
                try clear c81
                try clear c81b0
                try clear c81b1
                try clear c81b2
                try clear c82
                try clear c82b0
                try clear c82b1
                try clear c82b2
                try clear c84
                try clear c85
                try clear c92
                try clear c94
                try clear c96
                try clear c97
                try clear c97b0
                try clear c97b1
                try clear c98
                try clear c98b0
                try clear c98b1
                try clear c99
                try clear c99b0
                try clear c99b1
                try clear c100
                try clear c100b0
                try clear c100b1
                try clear c101
                try clear c101b0
                try clear c101b1
                try clear c106
                try clear c106b0
                try clear c106b1
                try clear c107
                try clear c107b0
                try clear c107b1
                try clear c113
                try clear c115
                try clear c115b0
                try clear c115b1
                try clear c115b2
                try clear c116
                try clear c116b0
                try clear c117
                try clear c117b0
                try clear c118
                try clear c118b0
                try clear c118b1
                try clear hx263_0
                try clear p2
                try clear p26
                try clear p263
                try clear p6
                try clear p64
                try clear q2
                try clear q26
                try clear q263
                obtain ⟨kq, x410_113, rfl, HA, HJ113, HO_52, HB⟩ := hcut
                cases kq with
                | zero => exact absurd HA.out (by simp [laws_FnWalksMeanOfAll.j7])
                | succ kj113 =>
                 have H := HA.out
                 clear HA
                 simp only [laws_FnWalksMeanOfAll.j7] at H
                 by_cases c119 : x410_113 = true
                 ·subst c119
                  have H1 : (some false) = some r := by rw [if_pos rfl] at H; exact H
                  clear H
                  have H := H1
                  clear H1
                  obtain rfl := Option.some.inj H
                  go_wp2
                  go_ret
                  exact ⟨by first | rfl | (simp [errW_none, errW_some] <;> rfl) | (simp [*, errW_none, errW_some] <;> rfl), by repeat (first | (with_reducible first | exact HB.out | apply below_alloc | apply pw_below_drewN | apply below_drew1) | exact HB.out)⟩
                 ·replace c119 := Bool.eq_false_iff.mpr c119
                  subst c119
                  have H1 : ((impl_WalksTo.f kj113 a6 a5 a7).bind fun bt296 => (if bt296.2 = true then (laws_FnWalksMeanOfAll.j8 kj113 a5 a6 a7 t274 t278 t279 t284 (bt296.1 != t274)) else (laws_FnWalksMeanOfAll.j8 kj113 a5 a6 a7 t274 t278 t279 t284 true))) = some r := by rw [if_neg (show ¬ (false = true) by decide)] at H; exact H
                  clear H
                  have H := H1
                  clear H1
                  replace H := Option.bind_eq_some_iff.mp H
                  obtain ⟨⟨t296, t297⟩, A1200, H⟩ := H
                  replace H : (if t297 = true then (laws_FnWalksMeanOfAll.j8 kj113 a5 a6 a7 t274 t278 t279 t284 (t296 != t274)) else (laws_FnWalksMeanOfAll.j8 kj113 a5 a6 a7 t274 t278 t279 t284 true)) = some r := H
                  have A120 := Aside0.mk A1200
                  clear A1200
                  have HC121 := Aside0.mk H
                  clear H
                  go_upto_region 45 with (first | ((with_reducible refine gate_callee (f := 29) rfl ?_); refine goesL_ (some 415) rfl rfl Tryd.func29 (by kernel_rfl) rfl #[.string a6, .string a5, .int .i64 a7] rfl (by (try simp only [List.map_toArray, List.map_cons, List.map_nil]); first | done | rfl | (simp only [List.length_drop, List.length_take]; rfl)) ?_; (with_reducible refine (impl_WalksTo.calls kj113 a6 a5 a7 t296 t297 _ A120.out).mono ?_); rintro e w122 ⟨rfl, hb⟩; refine ⟨_, rfl, ?_⟩; have n0_ := Aside0.mk (Kd.R_below (by (with_reducible repeat (first | apply Kd.R_alloc | apply Kd.R_drewN | apply Kd.R_drew)); exact HO_52.out) hb); have n1_ := Aside0.mk (below_step (by repeat (first | (with_reducible first | exact HB.out | apply below_alloc | apply pw_below_drewN | apply below_drew1) | exact HB.out)) hb); clear HO_52; clear HB; have HO_52 := n0_; have HB := n1_; clear n0_ n1_; (try clear hb); (try clear hb2); (try clear hk); (try clear hi)))
                  (try simp only [Act.put, List.setIfInBounds_toArray, List.set_cons_zero, List.set_cons_succ])
                  refine wp_cutv [424] [0, 0, 0, 0, 0, 0, 0, 0, 0, 0, 0, 0, 0, 0, 0, 0, 0, 0, 0, 0, 0, 0, 0, 0, 0, 0, 0, 0, 0, 0, 0, 0, 0, 0, 0, 0, 0, 0, 0, 0, 0, 0, 0, 0, 0, 0, 0, 0, 0, 0, 0, 0, 0, 0, 0, 0, 0, 0, 0, 0, 0, 0, 0, 0, 0, 0, 0, 0, 0, 0, 0, 0, 0, 1, 1, 1, 1, 1, 1, 1, 1, 1, 1, 1, 1, 1, 1, 1, 1, 1, 1, 1, 1, 1, 1, 1, 1, 1, 1, 1, 1, 1, 1, 1, 1, 1, 1, 1, 1, 1, 1, 1, 1, 1, 1, 1, 1, 1, 1, 1, 1, 1, 1, 1, 1, 1, 1, 1, 1, 1, 1, 1, 1, 1, 1, 1, 1, 1, 1, 1, 1, 1, 1, 1, 1, 1, 1, 1, 1, 1, 1, 1, 1, 1, 1, 1, 1, 1, 1, 1, 1, 1, 1, 1, 1, 1, 1, 1, 1, 1, 1, 1, 1, 1, 1, 1, 1, 1, 1, 1, 1, 1, 1, 0, 0, 0, 1, 1, 1, 1, 1, 1, 1, 1, 1, 1, 1, 1, 1, 1, 1, 1, 1, 1, 1, 1, 1, 1, 1, 1, 1, 1, 1, 1, 1, 1, 1, 1, 1, 1, 1, 1, 1, 1, 1, 1, 1, 1, 1, 1, 1, 1, 1, 1, 1, 1, 1, 1, 1, 1, 1, 1, 1, 1, 1, 1, 1, 1, 1, 1, 1, 1, 1, 1, 1, 1, 1, 1, 1, 1, 1, 1, 1, 1, 1, 1, 1, 1, 1, 1, 1, 1, 1, 1, 1, 1, 1, 1, 1, 1, 1, 1, 1, 1, 1, 1, 1, 1, 1, 1, 1, 1, 1, 1, 1, 1, 1, 1, 1, 1, 1, 1, 1, 1, 1, 1, 1, 1, 1, 1, 1, 1, 1, 1, 1, 1, 1, 1, 1, 1, 1, 1, 1, 1, 1, 1, 1, 1, 1, 1, 1, 1, 1, 1, 1, 1, 1, 1, 1, 1, 1, 1, 1, 1, 1, 1, 1, 1, 1, 1, 1, 1, 1, 1, 1, 1, 1, 1, 1, 1, 1, 1, 1, 1, 1, 1, 1, 1, 1, 1, 1, 1, 1, 1, 1, 1, 1, 1, 1, 1, 1, 1, 1, 1, 1, 1, 1, 1, 1, 1, 1, 1, 1, 1, 1, 1, 1, 1, 1, 1, 1, 1, 1, 1, 1, 1, 1, 1, 1, 1, 1, 1, 1, 1, 1, 1, 1, 1, 1, 1, 1, 1, 1, 1, 2, 1, 1, 1, 1, 1, 1, 1, 1, 1, 1, 1, 1, 1, 1, 1, 1, 1, 1, 1, 1, 1, 1, 1, 1, 1, 1, 1, 1, 1, 1, 1, 1, 1, 1, 1, 0, 0, 0, 1, 1, 1, 1, 1, 1, 1, 1, 1, 1, 1, 1, 1, 1, 1, 1, 1, 1, 1, 1, 1, 1, 1, 1, 1, 1, 1, 1, 1, 1, 1, 1, 1, 1] (fun vs_ wc => ∃ v424, vs_ = [v424] ∧ ∃ (kq : Nat) (x424_120 : Bool), v424 = .bool x424_120 ∧ Aside0 (laws_FnWalksMeanOfAll.j8 kq a5 a6 a7 t274 t278 t279 t284 x424_120 = some r) ∧ Aside0 (kq ≤ kj113) ∧ Aside0 (Kd.R Kd.string 9 wc w.heap.size (fun _ => True) v286 t284) ∧ Aside0 (Below w.heap.size w wc)) ?first8 ?rest8
                  case first8 =>
                   as_aux_lemma =>
                   intro _ _ _ _
                   have H := HC121.out
                   clear HC121
                   by_cases c123 : t297 = true
                   ·subst c123
                    have H1 : (laws_FnWalksMeanOfAll.j8 kj113 a5 a6 a7 t274 t278 t279 t284 (t296 != t274)) = some r := by rw [if_pos rfl] at H; exact H
                    clear H
                    have H := H1
                    clear H1
                    have H' := Aside0.mk H
                    clear H
                    go_wp2
                    refine Met.intro ?_
                    go_step
                    refine ⟨[_], ⟨rfl, trivial⟩, ⟨_, rfl, ?rel⟩, by kernel_rfl⟩
                    case rel => exact ⟨_, ((t296 != t274)), (by first | rfl | (simp; done) | (simp [*]; done)), H', ⟨by have := HJ8.out; have := HJ20.out; have := HJ29.out; have := HJ64.out; have := HJ92.out; have := HJ113.out; first | omega | exact Nat.le_refl _⟩, ⟨by (with_reducible repeat (first | apply Kd.R_alloc | apply Kd.R_drewN | apply Kd.R_drew)); exact HO_52.out⟩, ⟨by repeat (first | (with_reducible first | exact HB.out | apply below_alloc | apply pw_below_drewN | apply below_drew1) | exact HB.out)⟩⟩
                   ·replace c123 := Bool.eq_false_iff.mpr c123
                    subst c123
                    have H1 : (laws_FnWalksMeanOfAll.j8 kj113 a5 a6 a7 t274 t278 t279 t284 true) = some r := by rw [if_neg (show ¬ (false = true) by decide)] at H; exact H
                    clear H
                    have H := H1
                    clear H1
                    have H' := Aside0.mk H
                    clear H
                    go_wp2
                    refine Met.intro ?_
                    go_step
                    refine ⟨[_], ⟨rfl, trivial⟩, ⟨_, rfl, ?rel⟩, by kernel_rfl⟩
                    case rel => exact ⟨_, (true), (by first | rfl | (simp; done) | (simp [*]; done)), H', ⟨by have := HJ8.out; have := HJ20.out; have := HJ29.out; have := HJ64.out; have := HJ92.out; have := HJ113.out; first | omega | exact Nat.le_refl _⟩, ⟨by (with_reducible repeat (first | apply Kd.R_alloc | apply Kd.R_drewN | apply Kd.R_drew)); exact HO_52.out⟩, ⟨by repeat (first | (with_reducible first | exact HB.out | apply below_alloc | apply pw_below_drewN | apply below_drew1) | exact HB.out)⟩⟩
                  case rest8 =>
                   as_aux_lemma =>
                   intro vs_ f_ wc hcut
                   obtain ⟨v424, rfl, hcut⟩ := hcut
                   dsimp only [mixF, List.getD_cons_zero, List.getD_cons_succ, Nat.reduceAdd]
                   clear HC121
                   try clear c1
                   try clear c2
                   try clear p2
                   try clear q2
                   try clear hx2
                   try clear c3
                   try clear c4
                   try clear c5
                   try clear p6
                   try clear c7
                   try clear c8
                   try clear c9
                   try clear c10
                   try clear c10b0
                   try clear c10b1
                   try clear c11
                   try clear c11b0
                   try clear c11b1
                   try clear c12
                   try clear c12b0
                   try clear c12b1
                   try clear c13
                   try clear c13b0
                   try clear c13b1
                   try clear c14
                   try clear c14b0
                   try clear c14b1
                   try clear c15
                   try clear c15b0
                   try clear c15b1
                   try clear c16
                   try clear c20
                   try clear c21
                   try clear c22
                   try clear c23
                   try clear c24
                   try clear c24b0
                   try clear c24b1
                   try clear c24b2
                   try clear c25
                   try clear c25b0
                   try clear c25b1
                   try clear c26
                   try clear c26b0
                   try clear c26b1
                   try clear c26b2
                   try clear p26
                   try clear q26
                   try clear hx26
                   try clear c27
                   try clear c27b0
                   try clear c27b1
                   try clear c28
                   try clear c29
                   try clear c30
                   try clear c31
                   try clear c32
                   try clear c33
                   try clear c34
                   try clear c35
                   try clear c36
                   try clear c36b0
                   try clear c37
                   try clear c38
                   try clear c38b0
                   try clear c38b1
                   try clear c42
                   try clear c42b0
                   try clear c43
                   try clear c43b0
                   try clear c44
                   try clear c44b0
                   try clear c47
                   try clear c48
                   try clear c55
                   try clear c56
                   try clear c56b0
                   try clear c56b1
                   try clear p64
                   try clear c73
                   try clear c73b0
                   try clear c73b1
                   try clear c73b2
                   try clear c74
                   try clear c74b0
                   try clear c74b1
                   try clear c75
                   try clear c75b0
                   try clear c75b1
                   try clear c76
                   try clear c76b0
                   try clear c76b1
                   try clear c76b2
                   try clear c77
                   try clear c77b0
                   try clear c77b1
                   try clear c78
                   try clear c78b0
                   try clear c78b1
                   try clear c78b2
                   try clear c79
                   try clear c79b0
                   try clear c79b1
                   try clear c80
                   try clear c80b0
                   try clear c80b1
                   try clear c81
                   try clear c81b0
                   try clear c81b1
                   try clear c81b2
                   try clear c82
                   try clear c82b0
                   try clear c82b1
                   try clear c82b2
                   try clear c84
                   try clear c85
                   try clear c92
                   try clear c94
                   try clear c96
                   try clear c97
                   try clear c97b0
                   try clear c97b1
                   try clear c98
                   try clear c98b0
                   try clear c98b1
                   try clear c99
                   try clear c99b0
                   try clear c99b1
                   try clear c100
                   try clear c100b0
                   try clear c100b1
                   try clear c101
                   try clear c101b0
                   try clear c101b1
                   try clear c106
                   try clear c106b0
                   try clear c106b1
                   try clear c107
                   try clear c107b0
                   try clear c107b1
                   try clear c113
                   try clear c115
                   try clear c115b0
                   try clear c115b1
                   try clear c115b2
                   try clear c116
                   try clear c116b0
                   try clear c117
                   try clear c117b0
                   try clear c118
                   try clear c118b0
                   try clear c118b1
                   try clear c119
                   try clear c123
                   try clear hx263_0
                   try clear p2
                   try clear p26
                   try clear p263
                   try clear p6
                   try clear p64
                   try clear q2
                   try clear q26
                   try clear q263
                   obtain ⟨kq, x424_120, rfl, HA, HJ120, HO_52, HB⟩ := hcut
                   cases kq with
                   | zero => exact absurd HA.out (by simp [laws_FnWalksMeanOfAll.j8])
                   | succ kj120 =>
                    have H := HA.out
                    clear HA
                    simp only [laws_FnWalksMeanOfAll.j8] at H
                    by_cases c124 : x424_120 = true
                    ·subst c124
                     have H1 : (some false) = some r := by rw [if_pos rfl] at H; exact H
                     clear H
                     have H := H1
                     clear H1
                     obtain rfl := Option.some.inj H
                     go_wp2
                     go_ret
                     exact ⟨by first | rfl | (simp [errW_none, errW_some] <;> rfl) | (simp [*, errW_none, errW_some] <;> rfl), by repeat (first | (with_reducible first | exact HB.out | apply below_alloc | apply pw_below_drewN | apply below_drew1) | exact HB.out)⟩
                    ·replace c124 := Bool.eq_false_iff.mpr c124
                     subst c124
                     have H1 : (if (t284.length : Int) < 1 then (some false) else (if 0 < (t284.length : Int) then ((impl_ChanceAfter.f kj120 a5 (rdOf ByteArray.empty t284 0) a7).bind fun bt299 => (if bt299.2.2 = true then (if a7 ≤ 20 then (laws_FnWalksMeanOfAll.j9 kj120 a5 a6 a7 t274 (decide ((wrap64 (bt299.1 * t279)) < (wrap64 (t278 * bt299.2.1))))) else (laws_FnWalksMeanOfAll.j9 kj120 a5 a6 a7 t274 false)) else (laws_FnWalksMeanOfAll.j9 kj120 a5 a6 a7 t274 true))) else (none))) = some r := by rw [if_neg (show ¬ (false = true) by decide)] at H; exact H
                     clear H
                     have H := H1
                     clear H1
                     by_cases c125 : (t284.length : Int) < 1
                     ·rw [if_pos c125] at H
                      have c125b0 : decide ((t284.length : Int) < 1) = true := decide_eq_true c125
                      have c125b1 : decide (t284.length < 1) = true := decide_eq_true (by omega)
                      clear c125
                      obtain rfl := Option.some.inj H
                      obtain ⟨Ao126, co126, eo126⟩ := Kd.R_slice HO_52.out
                      subst eo126
                      go_wp2
                      go_ret
                      exact ⟨by first | rfl | (simp [errW_none, errW_some] <;> rfl) | (simp [*, errW_none, errW_some] <;> rfl), by repeat (first | (with_reducible first | exact HB.out | apply below_alloc | apply pw_below_drewN | apply below_drew1) | exact HB.out)⟩
                     ·rw [if_neg c125] at H
                      have c125b0 : decide ((t284.length : Int) < 1) = false := decide_eq_false c125
                      have c125b1 : decide (t284.length < 1) = false := decide_eq_false (by omega)
                      clear c125
                      by_cases c127 : 0 < (t284.length : Int)
                      ·rw [if_pos c127] at H
                       have c127b0 : decide (0 < (t284.length : Int)) = true := decide_eq_true c127
                       have c127b1 : decide (0 < t284.length) = true := decide_eq_true (by omega)
                       clear c127
                       replace H := Option.bind_eq_some_iff.mp H
                       obtain ⟨⟨t299, t300, t301⟩, A1280, H⟩ := H
                       replace H : (if t301 = true then (if a7 ≤ 20 then (laws_FnWalksMeanOfAll.j9 kj120 a5 a6 a7 t274 (decide ((wrap64 (t299 * t279)) < (wrap64 (t278 * t300))))) else (laws_FnWalksMeanOfAll.j9 kj120 a5 a6 a7 t274 false)) else (laws_FnWalksMeanOfAll.j9 kj120 a5 a6 a7 t274 true)) = some r := H
                       have A128 := Aside0.mk A1280
                       clear A1280
                       have HC129 := Aside0.mk H
                       clear H
                       obtain ⟨Ao130, co130, eo130⟩ := Kd.R_slice HO_52.out
                       subst eo130
                       have p298 : 0 ≤ (0 : Int) := (by omega)
                       have q298 : 0 < (t284.length : Int) := of_decide_eq_true (by first | (with_reducible assumption) | assumption)
                       obtain ⟨ad298, e298, hx298_0⟩ := Kd.at_string (Kd.R_reads' HO_52.out).2.2 0 p298 q298
                       cases e298
                       have qi298 : (0 < t284.length) = True := eq_true (by omega)
                       (try rw [show ((0 : Int)).toNat = 0 from rfl] at hx298_0)
                       (try rw [Addr.add_zero'] at hx298_0)
                       replace p298 := eq_true p298
                       replace q298 := eq_true q298
                       go_upto_region 50 with (first | ((with_reducible refine gate_callee (f := 31) rfl ?_); refine goesL_ (some 434) rfl rfl Tryd.func31 (by kernel_rfl) rfl #[.string a5, .string (rdOf ByteArray.empty t284 0), .int .i64 a7] rfl (by (try simp only [List.map_toArray, List.map_cons, List.map_nil]); first | done | rfl | (simp only [List.length_drop, List.length_take]; rfl)) ?_; (with_reducible refine (impl_ChanceAfter.calls kj120 a5 (rdOf ByteArray.empty t284 0) a7 t299 t300 t301 _ A128.out).mono ?_); rintro e w131 ⟨rfl, hb⟩; refine ⟨_, rfl, ?_⟩; have n0_ := Aside0.mk (Kd.R_below (by (with_reducible repeat (first | apply Kd.R_alloc | apply Kd.R_drewN | apply Kd.R_drew)); exact HO_52.out) hb); have n1_ := Aside0.mk (below_step (by repeat (first | (with_reducible first | exact HB.out | apply below_alloc | apply pw_below_drewN | apply below_drew1) | exact HB.out)) hb); clear HO_52; clear HB; have HO_52 := n0_; have HB := n1_; clear n0_ n1_; (try clear hb); (try clear hb2); (try clear hk); (try clear hi)))
                       (try simp only [Act.put, List.setIfInBounds_toArray, List.set_cons_zero, List.set_cons_succ])
                       refine wp_cutv [452] [0, 0, 0, 0, 0, 0, 0, 0, 0, 0, 0, 0, 0, 0, 0, 0, 0, 0, 0, 0, 0, 0, 0, 0, 0, 0, 0, 0, 0, 0, 0, 0, 0, 0, 0, 0, 0, 0, 0, 0, 0, 0, 0, 0, 0, 0, 0, 0, 0, 0, 0, 0, 0, 0, 0, 0, 0, 0, 0, 0, 0, 0, 0, 0, 0, 0, 0, 0, 0, 0, 0, 0, 0, 1, 1, 1, 1, 1, 1, 1, 1, 1, 1, 1, 1, 1, 1, 1, 1, 1, 1, 1, 1, 1, 1, 1, 1, 1, 1, 1, 1, 1, 1, 1, 1, 1, 1, 1, 1, 1, 1, 1, 1, 1, 1, 1, 1, 1, 1, 1, 1, 1, 1, 1, 1, 1, 1, 1, 1, 1, 1, 1, 1, 1, 1, 1, 1, 1, 1, 1, 1, 1, 1, 1, 1, 1, 1, 1, 1, 1, 1, 1, 1, 1, 1, 1, 1, 1, 1, 1, 1, 1, 1, 1, 1, 1, 1, 1, 1, 1, 1, 1, 1, 1, 1, 1, 1, 1, 1, 1, 1, 1, 1, 0, 0, 0, 1, 1, 1, 1, 1, 1, 1, 1, 1, 1, 1, 1, 1, 1, 1, 1, 1, 1, 1, 1, 1, 1, 1, 1, 1, 1, 1, 1, 1, 1, 1, 1, 1, 1, 1, 1, 1, 1, 1, 1, 1, 1, 1, 1, 1, 1, 1, 1, 1, 1, 1, 1, 1, 1, 1, 1, 1, 1, 1, 1, 1, 1, 1, 1, 1, 1, 1, 1, 1, 1, 1, 1, 1, 1, 1, 1, 1, 1, 1, 1, 1, 1, 1, 1, 1, 1, 1, 1, 1, 1, 1, 1, 1, 1, 1, 1, 1, 1, 1, 1, 1, 1, 1, 1, 1, 1, 1, 1, 1, 1, 1, 1, 1, 1, 1, 1, 1, 1, 1, 1, 1, 1, 1, 1, 1, 1, 1, 1, 1, 1, 1, 1, 1, 1, 1, 1, 1, 1, 1, 1, 1, 1, 1, 1, 1, 1, 1, 1, 1, 1, 1, 1, 1, 1, 1, 1, 1, 1, 1, 1, 1, 1, 1, 1, 1, 1, 1, 1, 1, 1, 1, 1, 1, 1, 1, 1, 1, 1, 1, 1, 1, 1, 1, 1, 1, 1, 1, 1, 1, 1, 1, 1, 1, 1, 1, 1, 1, 1, 1, 1, 1, 1, 1, 1, 1, 1, 1, 1, 1, 1, 1, 1, 1, 1, 1, 1, 1, 1, 1, 1, 1, 1, 1, 1, 1, 1, 1, 1, 1, 1, 1, 1, 1, 1, 1, 1, 1, 1, 1, 1, 1, 1, 1, 1, 1, 1, 1, 1, 1, 1, 1, 1, 1, 1, 1, 1, 1, 1, 1, 1, 1, 1, 1, 1, 1, 1, 2, 1, 1, 1, 1, 1, 1, 1, 0, 0, 0, 1, 1, 1, 1, 1, 1, 1, 1, 1, 1, 1, 1, 1, 1, 1, 1, 1, 1, 1, 1, 1, 1, 1, 1, 1, 1, 1, 1, 1, 1, 1, 1, 1, 1] (fun vs_ wc => ∃ v452, vs_ = [v452] ∧ ∃ (kq : Nat) (x452_128 : Bool), v452 = .bool x452_128 ∧ Aside0 (laws_FnWalksMeanOfAll.j9 kq a5 a6 a7 t274 x452_128 = some r) ∧ Aside0 (kq ≤ kj120) ∧ Aside0 (Below w.heap.size w wc)) ?first9 ?rest9
                       case first9 =>
                        as_aux_lemma =>
                        intro _ _ _ _
                        have H := HC129.out
                        clear HC129
                        by_cases c132 : t301 = true
                        ·subst c132
                         have H1 : (if a7 ≤ 20 then (laws_FnWalksMeanOfAll.j9 kj120 a5 a6 a7 t274 (decide ((wrap64 (t299 * t279)) < (wrap64 (t278 * t300))))) else (laws_FnWalksMeanOfAll.j9 kj120 a5 a6 a7 t274 false)) = some r := by rw [if_pos rfl] at H; exact H
                         clear H
                         have H := H1
                         clear H1
                         by_cases c133 : a7 ≤ 20
                         ·rw [if_pos c133] at H
                          have c133b0 : decide (a7 ≤ 20) = true := decide_eq_true c133
                          clear c133
                          (first | rw [c133b0] | (simp only [i64_w, i32_w]; rw [c133b0]) | skip)
                          have H' := Aside0.mk H
                          clear H
                          go_wp2
                          refine Met.intro ?_
                          go_step
                          refine ⟨[_], ⟨rfl, trivial⟩, ⟨_, rfl, ?rel⟩, by kernel_rfl⟩
                          case rel => exact ⟨_, (decide ((wrap64 (t299 * t279)) < (wrap64 (t278 * t300)))), (by first | rfl | (simp; done) | (simp [*]; done)), H', ⟨by have := HJ8.out; have := HJ20.out; have := HJ29.out; have := HJ64.out; have := HJ92.out; have := HJ113.out; have := HJ120.out; first | omega | exact Nat.le_refl _⟩, ⟨by repeat (first | (with_reducible first | exact HB.out | apply below_alloc | apply pw_below_drewN | apply below_drew1) | exact HB.out)⟩⟩
                         ·rw [if_neg c133] at H
                          have c133b0 : decide (a7 ≤ 20) = false := decide_eq_false c133
                          clear c133
                          (first | rw [c133b0] | (simp only [i64_w, i32_w]; rw [c133b0]) | skip)
                          have H' := Aside0.mk H
                          clear H
                          go_wp2
                          refine Met.intro ?_
                          go_step
                          refine ⟨[_], ⟨rfl, trivial⟩, ⟨_, rfl, ?rel⟩, by kernel_rfl⟩
                          case rel => exact ⟨_, (false), (by first | rfl | (simp; done) | (simp [*]; done)), H', ⟨by have := HJ8.out; have := HJ20.out; have := HJ29.out; have := HJ64.out; have := HJ92.out; have := HJ113.out; have := HJ120.out; first | omega | exact Nat.le_refl _⟩, ⟨by repeat (first | (with_reducible first | exact HB.out | apply below_alloc | apply pw_below_drewN | apply below_drew1) | exact HB.out)⟩⟩
                        ·replace c132 := Bool.eq_false_iff.mpr c132
                         subst c132
                         have H1 : (laws_FnWalksMeanOfAll.j9 kj120 a5 a6 a7 t274 true) = some r := by rw [if_neg (show ¬ (false = true) by decide)] at H; exact H
                         clear H
                         have H := H1
                         clear H1
                         have H' := Aside0.mk H
                         clear H
                         go_wp2
                         refine Met.intro ?_
                         go_step
                         refine ⟨[_], ⟨rfl, trivial⟩, ⟨_, rfl, ?rel⟩, by kernel_rfl⟩
                         case rel => exact ⟨_, (true), (by first | rfl | (simp; done) | (simp [*]; done)), H', ⟨by have := HJ8.out; have := HJ20.out; have := HJ29.out; have := HJ64.out; have := HJ92.out; have := HJ113.out; have := HJ120.out; first | omega | exact Nat.le_refl _⟩, ⟨by repeat (first | (with_reducible first | exact HB.out | apply below_alloc | apply pw_below_drewN | apply below_drew1) | exact HB.out)⟩⟩
                       case rest9 =>
                        as_aux_lemma =>
                        intro vs_ f_ wc hcut
                        obtain ⟨v452, rfl, hcut⟩ := hcut
                        dsimp only [mixF, List.getD_cons_zero, List.getD_cons_succ, Nat.reduceAdd]
                        clear HC129
                        try clear c1
                        try clear c2
                        try clear p2
                        try clear q2
                        try clear hx2
                        try clear qi2
                        try clear c3
                        try clear c4
                        try clear c5
                        try clear p6
                        try clear c7
                        try clear c8
                        try clear c9
                        try clear c10
                        try clear c10b0
                        try clear c10b1
                        try clear c11
                        try clear c11b0
                        try clear c11b1
                        try clear c12
                        try clear c12b0
                        try clear c12b1
                        try clear c13
                        try clear c13b0
                        try clear c13b1
                        try clear c14
                        try clear c14b0
                        try clear c14b1
                        try clear c15
                        try clear c15b0
                        try clear c15b1
                        try clear c16
                        try clear c20
                        try clear c21
                        try clear c22
                        try clear c23
                        try clear c24
                        try clear c24b0
                        try clear c24b1
                        try clear c24b2
                        try clear c25
                        try clear c25b0
                        try clear c25b1
                        try clear c26
                        try clear c26b0
                        try clear c26b1
                        try clear c26b2
                        try clear p26
                        try clear q26
                        try clear hx26
                        try clear c27
                        try clear c27b0
                        try clear c27b1
                        try clear c28
                        try clear c29
                        try clear p29
                        try clear q29
                        try clear hx29
                        try clear qi29
                        try clear c30
                        try clear c31
                        try clear c32
                        try clear c33
                        try clear c34
                        try clear c35
                        try clear c36
                        try clear c36b0
                        try clear c37
                        try clear c38
                        try clear c38b0
                        try clear c38b1
                        try clear c42
                        try clear c42b0
                        try clear c43
                        try clear c43b0
                        try clear c44
                        try clear c44b0
                        try clear c47
                        try clear c48
                        try clear c55
                        try clear c56
                        try clear c56b0
                        try clear c56b1
                        try clear p64
                        try clear c73
                        try clear c73b0
                        try clear c73b1
                        try clear c73b2
                        try clear c74
                        try clear c74b0
                        try clear c74b1
                        try clear c75
                        try clear c75b0
                        try clear c75b1
                        try clear c76
                        try clear c76b0
                        try clear c76b1
                        try clear c76b2
                        try clear c77
                        try clear c77b0
                        try clear c77b1
                        try clear c78
                        try clear c78b0
                        try clear c78b1
                        try clear c78b2
                        try clear c79
                        try clear c79b0
                        try clear c79b1
                        try clear c80
                        try clear c80b0
                        try clear c80b1
                        try clear c81
                        try clear c81b0
                        try clear c81b1
                        try clear c81b2
                        try clear c82
                        try clear c82b0
                        try clear c82b1
                        try clear c82b2
                        try clear c84
                        try clear c85
                        try clear c92
                        try clear c94
                        try clear c96
                        try clear c97
                        try clear c97b0
                        try clear c97b1
                        try clear c98
                        try clear c98b0
                        try clear c98b1
                        try clear c99
                        try clear c99b0
                        try clear c99b1
                        try clear c100
                        try clear c100b0
                        try clear c100b1
                        try clear c101
                        try clear c101b0
                        try clear c101b1
                        try clear c106
                        try clear c106b0
                        try clear c106b1
                        try clear c107
                        try clear c107b0
                        try clear c107b1
                        try clear c113
                        try clear c115
                        try clear c115b0
                        try clear c115b1
                        try clear c115b2
                        try clear c116
                        try clear c116b0
                        try clear c117
                        try clear c117b0
                        try clear c118
                        try clear c118b0
                        try clear c118b1
                        try clear c119
                        try clear c123
                        try clear c124
                        try clear c125
                        try clear c125b0
                        try clear c125b1
                        try clear c127
                        try clear c127b0
                        try clear c127b1
                        try clear c132
                        try clear c133
                        try clear c133b0
                        try clear hx263_0
                        try clear hx298_0
                        try clear p2
                        try clear p26
                        try clear p263
                        try clear p298
                        try clear p6
                        try clear p64
                        try clear q2
                        try clear q26
                        try clear q263
                        try clear q298
                        obtain ⟨kq, x452_128, rfl, HA, HJ128, HB⟩ := hcut
                        cases kq with
                        | zero => exact absurd HA.out (by simp [laws_FnWalksMeanOfAll.j9])
                        | succ kj128 =>
                         have H := HA.out
                         clear HA
                         simp only [laws_FnWalksMeanOfAll.j9] at H
                         by_cases c134 : x452_128 = true
                         ·subst c134
                          have H1 : (some false) = some r := by rw [if_pos rfl] at H; exact H
                          clear H
                          have H := H1
                          clear H1
                          obtain rfl := Option.some.inj H
                          go_wp2
                          go_ret
                          exact ⟨by first | rfl | (simp [errW_none, errW_some] <;> rfl) | (simp [*, errW_none, errW_some] <;> rfl), by repeat (first | (with_reducible first | exact HB.out | apply below_alloc | apply pw_below_drewN | apply below_drew1) | exact HB.out)⟩
                         ·replace c134 := Bool.eq_false_iff.mpr c134
                          subst c134
                          have H1 : (if a7 > 0 then ((impl_MovesOf.f kj128 a5).bind fun bt302 => (laws_FnWalksMeanOfAll.l1 kj128 a5 a6 a7 t274 bt302.2 0 bt302.1 (bt302.1.length : Int) 0)) else (some true)) = some r := by rw [if_neg (show ¬ (false = true) by decide)] at H; exact H
                          clear H
                          have H := H1
                          clear H1
                          by_cases c135 : a7 > 0
                          ·rw [if_pos c135] at H
                           have c135b0 : decide (0 < a7) = true := decide_eq_true c135
                           clear c135
                           replace H := Option.bind_eq_some_iff.mp H
                           obtain ⟨⟨t302, t303⟩, A1360, H⟩ := H
                           replace H : (laws_FnWalksMeanOfAll.l1 kj128 a5 a6 a7 t274 t303 0 t302 (t302.length : Int) 0) = some r := H
                           have A136 := Aside0.mk A1360
                           clear A1360
                           have H' := Aside0.mk H
                           clear H
                           go_wp2_with (first | ((with_reducible refine gate_callee (f := 25) rfl ?_); refine goesL_ (some 457) rfl rfl Tryd.func25 (by kernel_rfl) rfl #[.string a5] rfl (by (try simp only [List.map_toArray, List.map_cons, List.map_nil]); first | done | rfl | (simp only [List.length_drop, List.length_take]; rfl)) ?_; (with_reducible refine (impl_MovesOf.calls kj128 a5 t302 t303 _ A136.out).mono ?_); rintro e w137 ⟨v304, rfl, ho0, hb⟩; refine ⟨_, rfl, ?_⟩; have n0_ := Aside0.mk (Kd.R_lower ho0 (below_size (by repeat (first | (with_reducible first | exact HB.out | apply below_alloc | apply pw_below_drewN | apply below_drew1) | exact HB.out)))); have n1_ := Aside0.mk (below_step (by repeat (first | (with_reducible first | exact HB.out | apply below_alloc | apply pw_below_drewN | apply below_drew1) | exact HB.out)) hb); clear HB; have HO305 := n0_; have HB := n1_; clear n0_ n1_; (try clear hb); (try clear hb2); (try clear hk); (try clear hi); (try clear ho0); obtain ⟨Ao138, co138, eo138⟩ := Kd.R_slice HO305.out; subst eo138))
                           go_loopg [66, 462] kj128 (fun kq v66 v462 w' => ∃ (x66_9 : Int) (x462_9 : Int), v66 = .int .i64 x66_9 ∧ v462 = .int .i64 x462_9 ∧ Aside0 (laws_FnWalksMeanOfAll.l1 kq a5 a6 a7 t274 t303 x66_9 t302 (t302.length : Int) x462_9 = some r) ∧ Aside0 (kq ≤ kj128) ∧ Aside0 (Kd.R (Kd.int .i64) 3 w' w.heap.size (fun _ => True) (.slice Ao138 t302.length co138) t302) ∧ Aside0 (Below w.heap.size w w'))
                           case atStart => exact ⟨(0), (0), (by first | rfl | (simp; done) | (simp [*]; done)), (by first | rfl | (simp; done) | (simp [*]; done)), H', ⟨Nat.le_refl _⟩, ⟨by (with_reducible repeat (first | apply Kd.R_alloc | apply Kd.R_drewN | apply Kd.R_drew)); exact HO305.out⟩, ⟨by repeat (first | (with_reducible first | exact HB.out | apply below_alloc | apply pw_below_drewN | apply below_drew1) | exact HB.out)⟩⟩
                           case round =>
                            clear H'
                            try clear c1
                            try clear c2
                            try clear p2
                            try clear q2
                            try clear hx2
                            try clear qi2
                            try clear c3
                            try clear c4
                            try clear c5
                            try clear p6
                            try clear c7
                            try clear c8
                            try clear c9
                            try clear c10
                            try clear c10b0
                            try clear c10b1
                            try clear c11
                            try clear c11b0
                            try clear c11b1
                            try clear c12
                            try clear c12b0
                            try clear c12b1
                            try clear c13
                            try clear c13b0
                            try clear c13b1
                            try clear c14
                            try clear c14b0
                            try clear c14b1
                            try clear c15
                            try clear c15b0
                            try clear c15b1
                            try clear c16
                            try clear c20
                            try clear c21
                            try clear c22
                            try clear c23
                            try clear c24
                            try clear c24b0
                            try clear c24b1
                            try clear c24b2
                            try clear c25
                            try clear c25b0
                            try clear c25b1
                            try clear c26
                            try clear c26b0
                            try clear c26b1
                            try clear c26b2
                            try clear p26
                            try clear q26
                            try clear hx26
                            try clear c27
                            try clear c27b0
                            try clear c27b1
                            try clear c28
                            try clear c29
                            try clear p29
                            try clear q29
                            try clear hx29
                            try clear qi29
                            try clear c30
                            try clear c31
                            try clear c32
                            try clear c33
                            try clear c34
                            try clear c35
                            try clear c36
                            try clear c36b0
                            try clear c37
                            try clear c38
                            try clear c38b0
                            try clear c38b1
                            try clear c42
                            try clear c42b0
                            try clear c43
                            try clear c43b0
                            try clear c44
                            try clear c44b0
                            try clear c47
                            try clear c48
                            try clear c55
                            try clear c56
                            try clear c56b0
                            try clear c56b1
                            try clear p64
                            try clear c73
                            try clear c73b0
                            try clear c73b1
                            try clear c73b2
                            try clear c74
                            try clear c74b0
                            try clear c74b1
                            try clear c75
                            try clear c75b0
                            try clear c75b1
                            try clear c76
                            try clear c76b0
                            try clear c76b1
                            try clear c76b2
                            try clear c77
                            try clear c77b0
                            try clear c77b1
                            try clear c78
                            try clear c78b0
                            try clear c78b1
                            try clear c78b2
                            try clear c79
                            try clear c79b0
                            try clear c79b1
                            try clear c80
                            try clear c80b0
                            try clear c80b1
                            try clear c81
                            try clear c81b0
                            try clear c81b1
                            try clear c81b2
                            try clear c82
                            try clear c82b0
                            try clear c82b1
                            try clear c82b2
                            try clear c84
                            try clear c85
                            try clear c92
                            try clear c94
                            try clear c96
                            try clear c97
                            try clear c97b0
                            try clear c97b1
                            try clear c98
                            try clear c98b0
                            try clear c98b1
                            try clear c99
                            try clear c99b0
                            try clear c99b1
                            try clear c100
                            try clear c100b0
                            try clear c100b1
                            try clear c101
                            try clear c101b0
                            try clear c101b1
                            try clear c106
                            try clear c106b0
                            try clear c106b1
                            try clear c107
                            try clear c107b0
                            try clear c107b1
                            try clear c113
                            try clear c115
                            try clear c115b0
                            try clear c115b1
                            try clear c115b2
                            try clear c116
                            try clear c116b0
                            try clear c117
                            try clear c117b0
                            try clear c118
                            try clear c118b0
                            try clear c118b1
                            try clear c119
                            try clear c123
                            try clear c124
                            try clear c125
                            try clear c125b0
                            try clear c125b1
                            try clear c127
                            try clear c127b0
                            try clear c127b1
                            try clear c132
                            try clear c133
                            try clear c133b0
                            try clear c134
                            try clear c135
                            try clear c135b0
                            try clear hx263_0
                            try clear hx298_0
                            try clear p2
                            try clear p26
                            try clear p263
                            try clear p29
                            try clear p298
                            try clear p6
                            try clear p64
                            try clear q2
                            try clear q26
                            try clear q263
                            try clear q29
                            try clear q298
                            obtain ⟨x66_9, x462_9, rfl, rfl, HA, HK9, HO_460, HB⟩ := hrel
                            cases gk with
                            | zero => exact absurd HA.out (by simp [laws_FnWalksMeanOfAll.l1])
                            | succ k9 =>
                             have H := HA.out
                             clear HA
                             simp only [laws_FnWalksMeanOfAll.l1] at H
                             by_cases c139 : x462_9 < (t302.length : Int)
                             ·rw [if_pos c139] at H
                              have c139b0 : decide (x462_9 < (t302.length : Int)) = true := decide_eq_true c139
                              clear c139
                              by_cases c140 : 0 ≤ x462_9
                              ·rw [if_pos c140] at H
                               have c140b0 : decide (0 ≤ x462_9) = true := decide_eq_true c140
                               clear c140
                               by_cases c141 : x462_9 < (t302.length : Int)
                               ·rw [if_pos c141] at H
                                have c141b0 : decide (x462_9 < (t302.length : Int)) = true := decide_eq_true c141
                                clear c141
                                replace H := Option.bind_eq_some_iff.mp H
                                obtain ⟨⟨t307, t308⟩, A1420, H⟩ := H
                                replace H : ((impl_WalksTo.f k9 t307 a6 (wrap64 (a7 - 1))).bind fun bt309 => (if t308 = true then (if bt309.2 = true then (laws_FnWalksMeanOfAll.l1 k9 a5 a6 a7 t274 t303 (wrap64 (x66_9 + bt309.1)) t302 (t302.length : Int) (wrap64 (x462_9 + 1))) else (some false)) else (some false))) = some r := H
                                have A142 := Aside0.mk A1420
                                clear A1420
                                replace H := Option.bind_eq_some_iff.mp H
                                obtain ⟨⟨t309, t310⟩, A1430, H⟩ := H
                                replace H : (if t308 = true then (if t310 = true then (laws_FnWalksMeanOfAll.l1 k9 a5 a6 a7 t274 t303 (wrap64 (x66_9 + t309)) t302 (t302.length : Int) (wrap64 (x462_9 + 1))) else (some false)) else (some false)) = some r := H
                                have A143 := Aside0.mk A1430
                                clear A1430
                                by_cases c144 : t308 = true
                                ·subst c144
                                 have H1 : (if t310 = true then (laws_FnWalksMeanOfAll.l1 k9 a5 a6 a7 t274 t303 (wrap64 (x66_9 + t309)) t302 (t302.length : Int) (wrap64 (x462_9 + 1))) else (some false)) = some r := by rw [if_pos rfl] at H; exact H
                                 clear H
                                 have H := H1
                                 clear H1
                                 by_cases c145 : t310 = true
                                 ·subst c145
                                  have H1 : (laws_FnWalksMeanOfAll.l1 k9 a5 a6 a7 t274 t303 (wrap64 (x66_9 + t309)) t302 (t302.length : Int) (wrap64 (x462_9 + 1))) = some r := by rw [if_pos rfl] at H; exact H
                                  clear H
                                  have H := H1
                                  clear H1
                                  have H' := Aside0.mk H
                                  clear H
                                  have p306 : 0 ≤ (x462_9 : Int) := of_decide_eq_true (by first | (with_reducible assumption) | assumption)
                                  have q306 : x462_9 < (t302.length : Int) := of_decide_eq_true (by first | (with_reducible assumption) | assumption)
                                  obtain ⟨ad306, e306, hx306_0⟩ := Kd.at_int (Kd.R_reads' HO_460.out).2.2 x462_9 p306 q306
                                  cases e306
                                  replace p306 := eq_true p306
                                  replace q306 := eq_true q306
                                  go_wp2_with (first | ((with_reducible refine gate_callee (f := 26) rfl ?_); refine goesL_ (some 469) rfl rfl Tryd.func26 (by kernel_rfl) rfl #[.string a5, .int .i64 (rd t302 x462_9)] rfl (by (try simp only [List.map_toArray, List.map_cons, List.map_nil]); first | done | rfl | (simp only [List.length_drop, List.length_take]; rfl)) ?_; (with_reducible refine (impl_MoveRing.calls a5 (rd t302 x462_9) t307 true _ A142.out).mono ?_); rintro e w146 ⟨rfl, hb⟩; refine ⟨_, rfl, ?_⟩; have n0_ := Aside0.mk (Kd.R_below (by (with_reducible repeat (first | apply Kd.R_alloc | apply Kd.R_drewN | apply Kd.R_drew)); exact HO_460.out) hb); have n1_ := Aside0.mk (below_step (by repeat (first | (with_reducible first | exact HB.out | apply below_alloc | apply pw_below_drewN | apply below_drew1) | exact HB.out)) hb); clear HO_460; clear HB; have HO_460 := n0_; have HB := n1_; clear n0_ n1_; (try clear hb); (try clear hb2); (try clear hk); (try clear hi)) | ((with_reducible refine gate_callee (f := 29) rfl ?_); refine goesL_ (some 477) rfl rfl Tryd.func29 (by kernel_rfl) rfl #[.string t307, .string a6, .int .i64 (wrap64 (a7 - 1))] rfl (by (try simp only [List.map_toArray, List.map_cons, List.map_nil]); first | done | rfl | (simp only [List.length_drop, List.length_take]; rfl)) ?_; (with_reducible refine (impl_WalksTo.calls k9 t307 a6 (wrap64 (a7 - 1)) t309 true _ A143.out).mono ?_); rintro e w147 ⟨rfl, hb⟩; refine ⟨_, rfl, ?_⟩; have n0_ := Aside0.mk (Kd.R_below (by (with_reducible repeat (first | apply Kd.R_alloc | apply Kd.R_drewN | apply Kd.R_drew)); exact HO_460.out) hb); have n1_ := Aside0.mk (below_step (by repeat (first | (with_reducible first | exact HB.out | apply below_alloc | apply pw_below_drewN | apply below_drew1) | exact HB.out)) hb); clear HO_460; clear HB; have HO_460 := n0_; have HB := n1_; clear n0_ n1_; (try clear hb); (try clear hb2); (try clear hk); (try clear hi)))
                                  go_roundg k9
                                  case measure => have := HJ8.out; have := HJ20.out; have := HJ29.out; have := HJ64.out; have := HJ92.out; have := HJ113.out; have := HJ120.out; have := HJ128.out; have := HK9.out; omega
                                  case rel => exact ⟨(wrap64 (x66_9 + t309)), (wrap64 (x462_9 + 1)), (by first | rfl | (simp; done) | (simp [*]; done)), (by first | rfl | (simp; done) | (simp [*]; done)), H', ⟨by have := HJ8.out; have := HJ20.out; have := HJ29.out; have := HJ64.out; have := HJ92.out; have := HJ113.out; have := HJ120.out; have := HJ128.out; have := HK9.out; omega⟩, ⟨by (with_reducible repeat (first | apply Kd.R_alloc | apply Kd.R_drewN | apply Kd.R_drew)); exact HO_460.out⟩, ⟨by repeat (first | (with_reducible first | exact HB.out | apply below_alloc | apply pw_below_drewN | apply below_drew1) | exact HB.out)⟩⟩
                                 ·replace c145 := Bool.eq_false_iff.mpr c145
                                  subst c145
                                  have H1 : (some false) = some r := by rw [if_neg (show ¬ (false = true) by decide)] at H; exact H
                                  clear H
                                  have H := H1
                                  clear H1
                                  obtain rfl := Option.some.inj H
                                  have p306 : 0 ≤ (x462_9 : Int) := of_decide_eq_true (by first | (with_reducible assumption) | assumption)
                                  have q306 : x462_9 < (t302.length : Int) := of_decide_eq_true (by first | (with_reducible assumption) | assumption)
                                  obtain ⟨ad306, e306, hx306_0⟩ := Kd.at_int (Kd.R_reads' HO_460.out).2.2 x462_9 p306 q306
                                  cases e306
                                  replace p306 := eq_true p306
                                  replace q306 := eq_true q306
                                  go_wp2_with (first | ((with_reducible refine gate_callee (f := 26) rfl ?_); refine goesL_ (some 469) rfl rfl Tryd.func26 (by kernel_rfl) rfl #[.string a5, .int .i64 (rd t302 x462_9)] rfl (by (try simp only [List.map_toArray, List.map_cons, List.map_nil]); first | done | rfl | (simp only [List.length_drop, List.length_take]; rfl)) ?_; (with_reducible refine (impl_MoveRing.calls a5 (rd t302 x462_9) t307 true _ A142.out).mono ?_); rintro e w148 ⟨rfl, hb⟩; refine ⟨_, rfl, ?_⟩; have n0_ := Aside0.mk (Kd.R_below (by (with_reducible repeat (first | apply Kd.R_alloc | apply Kd.R_drewN | apply Kd.R_drew)); exact HO_460.out) hb); have n1_ := Aside0.mk (below_step (by repeat (first | (with_reducible first | exact HB.out | apply below_alloc | apply pw_below_drewN | apply below_drew1) | exact HB.out)) hb); clear HO_460; clear HB; have HO_460 := n0_; have HB := n1_; clear n0_ n1_; (try clear hb); (try clear hb2); (try clear hk); (try clear hi)) | ((with_reducible refine gate_callee (f := 29) rfl ?_); refine goesL_ (some 477) rfl rfl Tryd.func29 (by kernel_rfl) rfl #[.string t307, .string a6, .int .i64 (wrap64 (a7 - 1))] rfl (by (try simp only [List.map_toArray, List.map_cons, List.map_nil]); first | done | rfl | (simp only [List.length_drop, List.length_take]; rfl)) ?_; (with_reducible refine (impl_WalksTo.calls k9 t307 a6 (wrap64 (a7 - 1)) t309 false _ A143.out).mono ?_); rintro e w149 ⟨rfl, hb⟩; refine ⟨_, rfl, ?_⟩; have n0_ := Aside0.mk (Kd.R_below (by (with_reducible repeat (first | apply Kd.R_alloc | apply Kd.R_drewN | apply Kd.R_drew)); exact HO_460.out) hb); have n1_ := Aside0.mk (below_step (by repeat (first | (with_reducible first | exact HB.out | apply below_alloc | apply pw_below_drewN | apply below_drew1) | exact HB.out)) hb); clear HO_460; clear HB; have HO_460 := n0_; have HB := n1_; clear n0_ n1_; (try clear hb); (try clear hb2); (try clear hk); (try clear hi)))
                                  go_ret
                                  exact ⟨by first | rfl | (simp [errW_none, errW_some] <;> rfl) | (simp [*, errW_none, errW_some] <;> rfl), by repeat (first | (with_reducible first | exact HB.out | apply below_alloc | apply pw_below_drewN | apply below_drew1) | exact HB.out)⟩
                                ·replace c144 := Bool.eq_false_iff.mpr c144
                                 subst c144
                                 have H1 : (some false) = some r := by rw [if_neg (show ¬ (false = true) by decide)] at H; exact H
                                 clear H
                                 have H := H1
                                 clear H1
                                 obtain rfl := Option.some.inj H
                                 have p306 : 0 ≤ (x462_9 : Int) := of_decide_eq_true (by first | (with_reducible assumption) | assumption)
                                 have q306 : x462_9 < (t302.length : Int) := of_decide_eq_true (by first | (with_reducible assumption) | assumption)
                                 obtain ⟨ad306, e306, hx306_0⟩ := Kd.at_int (Kd.R_reads' HO_460.out).2.2 x462_9 p306 q306
                                 cases e306
                                 replace p306 := eq_true p306
                                 replace q306 := eq_true q306
                                 go_wp2_with (first | ((with_reducible refine gate_callee (f := 26) rfl ?_); refine goesL_ (some 469) rfl rfl Tryd.func26 (by kernel_rfl) rfl #[.string a5, .int .i64 (rd t302 x462_9)] rfl (by (try simp only [List.map_toArray, List.map_cons, List.map_nil]); first | done | rfl | (simp only [List.length_drop, List.length_take]; rfl)) ?_; (with_reducible refine (impl_MoveRing.calls a5 (rd t302 x462_9) t307 false _ A142.out).mono ?_); rintro e w150 ⟨rfl, hb⟩; refine ⟨_, rfl, ?_⟩; have n0_ := Aside0.mk (Kd.R_below (by (with_reducible repeat (first | apply Kd.R_alloc | apply Kd.R_drewN | apply Kd.R_drew)); exact HO_460.out) hb); have n1_ := Aside0.mk (below_step (by repeat (first | (with_reducible first | exact HB.out | apply below_alloc | apply pw_below_drewN | apply below_drew1) | exact HB.out)) hb); clear HO_460; clear HB; have HO_460 := n0_; have HB := n1_; clear n0_ n1_; (try clear hb); (try clear hb2); (try clear hk); (try clear hi)) | ((with_reducible refine gate_callee (f := 29) rfl ?_); refine goesL_ (some 477) rfl rfl Tryd.func29 (by kernel_rfl) rfl #[.string t307, .string a6, .int .i64 (wrap64 (a7 - 1))] rfl (by (try simp only [List.map_toArray, List.map_cons, List.map_nil]); first | done | rfl | (simp only [List.length_drop, List.length_take]; rfl)) ?_; (with_reducible refine (impl_WalksTo.calls k9 t307 a6 (wrap64 (a7 - 1)) t309 t310 _ A143.out).mono ?_); rintro e w151 ⟨rfl, hb⟩; refine ⟨_, rfl, ?_⟩; have n0_ := Aside0.mk (Kd.R_below (by (with_reducible repeat (first | apply Kd.R_alloc | apply Kd.R_drewN | apply Kd.R_drew)); exact HO_460.out) hb); have n1_ := Aside0.mk (below_step (by repeat (first | (with_reducible first | exact HB.out | apply below_alloc | apply pw_below_drewN | apply below_drew1) | exact HB.out)) hb); clear HO_460; clear HB; have HO_460 := n0_; have HB := n1_; clear n0_ n1_; (try clear hb); (try clear hb2); (try clear hk); (try clear hi)))
                                 go_ret
                                 exact ⟨by first | rfl | (simp [errW_none, errW_some] <;> rfl) | (simp [*, errW_none, errW_some] <;> rfl), by repeat (first | (with_reducible first | exact HB.out | apply below_alloc | apply pw_below_drewN | apply below_drew1) | exact HB.out)⟩
                               ·rw [if_neg c141] at H
                                exact absurd H (by simp)
                              ·rw [if_neg c140] at H
                               exact absurd H (by simp)
                             ·rw [if_neg c139] at H
                              have c139b0 : decide (x462_9 < (t302.length : Int)) = false := decide_eq_false c139
                              clear c139
                              by_cases c152 : t303 = true
                              ·subst c152
                               have H1 : (if x66_9 = t274 then (some true) else (some false)) = some r := by rw [if_pos rfl] at H; exact H
                               clear H
                               have H := H1
                               clear H1
                               by_cases c153 : x66_9 = t274
                               ·rw [if_pos c153] at H
                                have c153b0 : (x66_9 == t274) = true := beq_iff_eq.mpr c153
                                have c153b1 : (x66_9 != t274) = false := bne_eq_false_iff_eq.mpr c153
                                clear c153
                                obtain rfl := Option.some.inj H
                                go_wp2
                                go_ret
                                exact ⟨by first | rfl | (simp [errW_none, errW_some] <;> rfl) | (simp [*, errW_none, errW_some] <;> rfl), by repeat (first | (with_reducible first | exact HB.out | apply below_alloc | apply pw_below_drewN | apply below_drew1) | exact HB.out)⟩
                               ·rw [if_neg c153] at H
                                have c153b0 : (x66_9 == t274) = false := beq_eq_false_iff_ne.mpr c153
                                have c153b1 : (x66_9 != t274) = true := bne_iff_ne.mpr c153
                                obtain rfl := Option.some.inj H
                                go_wp2
                                go_ret
                                exact ⟨by first | rfl | (simp [errW_none, errW_some] <;> rfl) | (simp [*, errW_none, errW_some] <;> rfl), by repeat (first | (with_reducible first | exact HB.out | apply below_alloc | apply pw_below_drewN | apply below_drew1) | exact HB.out)⟩
                              ·replace c152 := Bool.eq_false_iff.mpr c152
                               subst c152
                               have H1 : (some false) = some r := by rw [if_neg (show ¬ (false = true) by decide)] at H; exact H
                               clear H
                               have H := H1
                               clear H1
                               obtain rfl := Option.some.inj H
                               go_wp2
                               go_ret
                               exact ⟨by first | rfl | (simp [errW_none, errW_some] <;> rfl) | (simp [*, errW_none, errW_some] <;> rfl), by repeat (first | (with_reducible first | exact HB.out | apply below_alloc | apply pw_below_drewN | apply below_drew1) | exact HB.out)⟩
                          ·rw [if_neg c135] at H
                           have c135b0 : decide (0 < a7) = false := decide_eq_false c135
                           clear c135
                           obtain rfl := Option.some.inj H
                           go_wp2
                           go_ret
                           exact ⟨by first | rfl | (simp [errW_none, errW_some] <;> rfl) | (simp [*, errW_none, errW_some] <;> rfl), by repeat (first | (with_reducible first | exact HB.out | apply below_alloc | apply pw_below_drewN | apply below_drew1) | exact HB.out)⟩
                      ·rw [if_neg c127] at H
                       exact absurd H (by simp)
              ·replace c113 := Bool.eq_false_iff.mpr c113
               subst c113
               have H1 : (some true) = some r := by rw [if_neg (show ¬ (false = true) by decide)] at H; exact H
               clear H
               have H := H1
               clear H1
               obtain rfl := Option.some.inj H
               go_wp2
               go_ret
               exact ⟨by first | rfl | (simp [errW_none, errW_some] <;> rfl) | (simp [*, errW_none, errW_some] <;> rfl), by repeat (first | (with_reducible first | exact HB.out | apply below_alloc | apply pw_below_drewN | apply below_drew1) | exact HB.out)⟩

/-- THE ONE PURE STATEMENT of laws_FnWalksMeanOfAll: yours. -/
theorem laws_FnWalksMeanOfAll.walk (P : laws_FnWalksMeanOfAll.Pure) (a0 : ByteArray) (a1 : ByteArray) (a2 : ByteArray) (a3 : ByteArray) (a4 : ByteArray) (a5 : ByteArray) (a6 : ByteArray) (a7 : Int) (w : World) (w0 : a0.size ≤ 140737488351232) (w1 : a1.size ≤ 140737488351232) (w2 : a2.size ≤ 140737488351232) (w3 : a3.size ≤ 140737488351232) (w4 : a4.size ≤ 140737488351232) (w5 : a5.size ≤ 140737488351232) (w6 : a6.size ≤ 140737488351232) (w7 : (Lit.int .i64 a7).wf = true) :
  Calls Tryd.prog 4 #[.string a0, .string a1, .string a2, .string a3, .string a4, .string a5, .string a6, .int .i64 a7] w fun e w' => e = .returned (.bool true) ∧ Below w.heap.size w w' := by
 obtain ⟨k, h⟩ := P a0 a1 a2 a3 a4 a5 a6 a7 w0 w1 w2 w3 w4 w5 w6 w7
 refine (laws_FnWalksMeanOfAll.calls k a0 a1 a2 a3 a4 a5 a6 a7 true w h).mono ?_
 rintro e w' ⟨rfl, hd⟩
 exact ⟨rfl, hd⟩

end Go.Proofs.YtkdfhgilpnohpaaDoor.Wk
