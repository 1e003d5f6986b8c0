-- Written by a program of this session's: a turned copy of the kit's printer, over hand-proved contracts of some functions. Not trusted: Lean checks it.
import Derived.Test.YtkdfhgilpnohpaaDoorCutV
import Derived.Test.YtkdfhgilpnohpaaDoorSc9d
import Derived.Test.YtkdfhgilpnohpaaDoorSc0
import Derived.Test.YtkdfhgilpnohpaaDoorSc1
import Derived.Test.YtkdfhgilpnohpaaDoorSc3
import Derived.Test.YtkdfhgilpnohpaaDoorSc4
import Derived.Test.YtkdfhgilpnohpaaDoorSc5
import Derived.Test.YtkdfhgilpnohpaaDoorSc6
import Derived.Test.YtkdfhgilpnohpaaDoorSc7
import Derived.Test.YtkdfhgilpnohpaaDoorSc8
namespace Go.Proofs.YtkdfhgilpnohpaaDoor.Sc
open Go.RowKit Go.Proofs.YtkdfhgilpnohpaaDoorW.PrintWords Go.Proofs.YtkdfhgilpnohpaaDoorW.PrintLast Go.Proofs.YtkdfhgilpnohpaaDoorW.PrintMore
attribute [local go_sem] max2_int min2_int max_two min_two max_three min_three max_four min_four   -- for this text's walks alone
set_option linter.unusedVariables false
set_option linter.unusedSimpArgs false

theorem laws_FnStatesCountedOfAll.mono_l : ∀ k, (∀ y0 y1 y2 y3 y4 y5, LeO (laws_FnStatesCountedOfAll.j0 k y0 y1 y2 y3 y4 y5) (laws_FnStatesCountedOfAll.j0 (k + 1) y0 y1 y2 y3 y4 y5)) ∧ (∀ y0 y1 y2 y3 y4 y5 y6 y7 y8 y9 y10 y11 y12, LeO (laws_FnStatesCountedOfAll.j1 k y0 y1 y2 y3 y4 y5 y6 y7 y8 y9 y10 y11 y12) (laws_FnStatesCountedOfAll.j1 (k + 1) y0 y1 y2 y3 y4 y5 y6 y7 y8 y9 y10 y11 y12)) ∧ (∀ y0 y1 y2 y3 y4 y5 y6 y7 y8 y9 y10, LeO (laws_FnStatesCountedOfAll.j4 k y0 y1 y2 y3 y4 y5 y6 y7 y8 y9 y10) (laws_FnStatesCountedOfAll.j4 (k + 1) y0 y1 y2 y3 y4 y5 y6 y7 y8 y9 y10)) ∧ (∀ y0 y1 y2, LeO (laws_FnStatesCountedOfAll.j6 k y0 y1 y2) (laws_FnStatesCountedOfAll.j6 (k + 1) y0 y1 y2)) ∧ (∀ y0 y1 y2 y3 y4 y5 y6 y7 y8 y9 y10 y11, LeO (laws_FnStatesCountedOfAll.j7 k y0 y1 y2 y3 y4 y5 y6 y7 y8 y9 y10 y11) (laws_FnStatesCountedOfAll.j7 (k + 1) y0 y1 y2 y3 y4 y5 y6 y7 y8 y9 y10 y11)) ∧ (∀ y0 y1 y2 y3 y4, LeO (laws_FnStatesCountedOfAll.j8 k y0 y1 y2 y3 y4) (laws_FnStatesCountedOfAll.j8 (k + 1) y0 y1 y2 y3 y4)) ∧ (∀ y0 y1 y2 y3 y4 y5 y6, LeO (laws_FnStatesCountedOfAll.l2 k y0 y1 y2 y3 y4 y5 y6) (laws_FnStatesCountedOfAll.l2 (k + 1) y0 y1 y2 y3 y4 y5 y6)) ∧ (∀ y0 y1 y2 y3 y4 y5 y6 y7 y8 y9 y10 y11 y12 y13 y14, LeO (laws_FnStatesCountedOfAll.l1 k y0 y1 y2 y3 y4 y5 y6 y7 y8 y9 y10 y11 y12 y13 y14) (laws_FnStatesCountedOfAll.l1 (k + 1) y0 y1 y2 y3 y4 y5 y6 y7 y8 y9 y10 y11 y12 y13 y14)) ∧ (∀ y0 y1 y2 y3 y4 y5 y6 y7 y8 y9 y10 y11, LeO (laws_FnStatesCountedOfAll.j2 k y0 y1 y2 y3 y4 y5 y6 y7 y8 y9 y10 y11) (laws_FnStatesCountedOfAll.j2 (k + 1) y0 y1 y2 y3 y4 y5 y6 y7 y8 y9 y10 y11)) ∧ (∀ y0 y1 y2 y3 y4 y5 y6 y7 y8 y9 y10 y11 y12, LeO (laws_FnStatesCountedOfAll.l0 k y0 y1 y2 y3 y4 y5 y6 y7 y8 y9 y10 y11 y12) (laws_FnStatesCountedOfAll.l0 (k + 1) y0 y1 y2 y3 y4 y5 y6 y7 y8 y9 y10 y11 y12))
 | 0 => ⟨fun _ _ _ _ _ _ r h => by simp [laws_FnStatesCountedOfAll.j0] at h, fun _ _ _ _ _ _ _ _ _ _ _ _ _ r h => by simp [laws_FnStatesCountedOfAll.j1] at h, fun _ _ _ _ _ _ _ _ _ _ _ r h => by simp [laws_FnStatesCountedOfAll.j4] at h, fun _ _ _ r h => by simp [laws_FnStatesCountedOfAll.j6] at h, fun _ _ _ _ _ _ _ _ _ _ _ _ r h => by simp [laws_FnStatesCountedOfAll.j7] at h, fun _ _ _ _ _ r h => by simp [laws_FnStatesCountedOfAll.j8] at h, fun _ _ _ _ _ _ _ r h => by simp [laws_FnStatesCountedOfAll.l2] at h, fun _ _ _ _ _ _ _ _ _ _ _ _ _ _ _ r h => by simp [laws_FnStatesCountedOfAll.l1] at h, fun _ _ _ _ _ _ _ _ _ _ _ _ r h => by simp [laws_FnStatesCountedOfAll.j2] at h, fun _ _ _ _ _ _ _ _ _ _ _ _ _ r h => by simp [laws_FnStatesCountedOfAll.l0] at h⟩
 | k + 1 => by
  obtain ⟨ih0, ih1, ih2, ih3, ih4, ih5, ih6, ih7, ih8, ih9⟩ := laws_FnStatesCountedOfAll.mono_l k
  refine ⟨?_, ?_, ?_, ?_, ?_, ?_, ?_, ?_, ?_, ?_⟩
  ·intro y0 y1 y2 y3 y4 y5
   unfold laws_FnStatesCountedOfAll.j0
   repeat' first
   | (with_reducible exact ih0 _ _ _ _ _ _)
   | (with_reducible exact ih1 _ _ _ _ _ _ _ _ _ _ _ _ _)
   | (with_reducible exact ih2 _ _ _ _ _ _ _ _ _ _ _)
   | (with_reducible exact ih3 _ _ _)
   | (with_reducible exact ih4 _ _ _ _ _ _ _ _ _ _ _ _)
   | (with_reducible exact ih5 _ _ _ _ _)
   | (with_reducible exact ih6 _ _ _ _ _ _ _)
   | (with_reducible exact ih7 _ _ _ _ _ _ _ _ _ _ _ _ _ _ _)
   | (with_reducible exact ih8 _ _ _ _ _ _ _ _ _ _ _ _)
   | (with_reducible exact ih9 _ _ _ _ _ _ _ _ _ _ _ _ _)
   | (with_reducible exact impl_CountWithOn.mono _ _ _)
   | (with_reducible exact impl_GreatestWithOn.mono _ _ _)
   | (with_reducible exact impl_LeastWithOn.mono _ _ _)
   | (with_reducible exact impl_MeanNumber.mono _ _)
   | (with_reducible exact impl_MeanOfPairs.mono _ _)
   | (with_reducible exact impl_MeanOnAlong.mono _ _ _)
   | (with_reducible exact impl_NumberOfState.mono _ _)
   | (with_reducible exact impl_StatesBetween.mono _ _ _)
   | (with_reducible exact impl_StatesWithOn.mono _ _ _)
   | (with_reducible exact impl_SumWithOn.mono _ _ _)
   | (with_reducible exact laws_yTexts.mono _ _ _)
   | (with_reducible exact spec_CountWithOn.mono _ _ _)
   | (with_reducible exact spec_GreatestWithOn.mono _ _ _)
   | (with_reducible exact spec_LeastWithOn.mono _ _ _)
   | (with_reducible exact spec_MeanOfPairs.mono _ _)
   | (with_reducible exact spec_MeanOnAlong.mono _ _ _)
   | (with_reducible exact spec_StatesWithOn.mono _ _ _)
   | (with_reducible exact spec_SumWithOn.mono _ _ _)
   | (with_reducible exact LeO.refl _)
   | (with_reducible exact LeO.none _)
   | (with_reducible refine LeO.ite ?_ ?_)
   | (with_reducible refine LeO.bind ?_ (fun _ => ?_))
   | exact ih0 _ _ _ _ _ _
   | exact ih1 _ _ _ _ _ _ _ _ _ _ _ _ _
   | exact ih2 _ _ _ _ _ _ _ _ _ _ _
   | exact ih3 _ _ _
   | exact ih4 _ _ _ _ _ _ _ _ _ _ _ _
   | exact ih5 _ _ _ _ _
   | exact ih6 _ _ _ _ _ _ _
   | exact ih7 _ _ _ _ _ _ _ _ _ _ _ _ _ _ _
   | exact ih8 _ _ _ _ _ _ _ _ _ _ _ _
   | exact ih9 _ _ _ _ _ _ _ _ _ _ _ _ _
   | exact impl_CountWithOn.mono _ _ _
   | exact impl_GreatestWithOn.mono _ _ _
   | exact impl_LeastWithOn.mono _ _ _
   | exact impl_MeanNumber.mono _ _
   | exact impl_MeanOfPairs.mono _ _
   | exact impl_MeanOnAlong.mono _ _ _
   | exact impl_NumberOfState.mono _ _
   | exact impl_StatesBetween.mono _ _ _
   | exact impl_StatesWithOn.mono _ _ _
   | exact impl_SumWithOn.mono _ _ _
   | exact laws_yTexts.mono _ _ _
   | exact spec_CountWithOn.mono _ _ _
   | exact spec_GreatestWithOn.mono _ _ _
   | exact spec_LeastWithOn.mono _ _ _
   | exact spec_MeanOfPairs.mono _ _
   | exact spec_MeanOnAlong.mono _ _ _
   | exact spec_StatesWithOn.mono _ _ _
   | exact spec_SumWithOn.mono _ _ _
   | exact LeO.none _
   | refine LeO.ite ?_ ?_
   | refine LeO.bind ?_ (fun _ => ?_)
  ·intro y0 y1 y2 y3 y4 y5 y6 y7 y8 y9 y10 y11 y12
   unfold laws_FnStatesCountedOfAll.j1
   repeat' first
   | (with_reducible exact ih0 _ _ _ _ _ _)
   | (with_reducible exact ih1 _ _ _ _ _ _ _ _ _ _ _ _ _)
   | (with_reducible exact ih2 _ _ _ _ _ _ _ _ _ _ _)
   | (with_reducible exact ih3 _ _ _)
   | (with_reducible exact ih4 _ _ _ _ _ _ _ _ _ _ _ _)
   | (with_reducible exact ih5 _ _ _ _ _)
   | (with_reducible exact ih6 _ _ _ _ _ _ _)
   | (with_reducible exact ih7 _ _ _ _ _ _ _ _ _ _ _ _ _ _ _)
   | (with_reducible exact ih8 _ _ _ _ _ _ _ _ _ _ _ _)
   | (with_reducible exact ih9 _ _ _ _ _ _ _ _ _ _ _ _ _)
   | (with_reducible exact impl_CountWithOn.mono _ _ _)
   | (with_reducible exact impl_GreatestWithOn.mono _ _ _)
   | (with_reducible exact impl_LeastWithOn.mono _ _ _)
   | (with_reducible exact impl_MeanNumber.mono _ _)
   | (with_reducible exact impl_MeanOfPairs.mono _ _)
   | (with_reducible exact impl_MeanOnAlong.mono _ _ _)
   | (with_reducible exact impl_NumberOfState.mono _ _)
   | (with_reducible exact impl_StatesBetween.mono _ _ _)
   | (with_reducible exact impl_StatesWithOn.mono _ _ _)
   | (with_reducible exact impl_SumWithOn.mono _ _ _)
   | (with_reducible exact laws_yTexts.mono _ _ _)
   | (with_reducible exact spec_CountWithOn.mono _ _ _)
   | (with_reducible exact spec_GreatestWithOn.mono _ _ _)
   | (with_reducible exact spec_LeastWithOn.mono _ _ _)
   | (with_reducible exact spec_MeanOfPairs.mono _ _)
   | (with_reducible exact spec_MeanOnAlong.mono _ _ _)
   | (with_reducible exact spec_StatesWithOn.mono _ _ _)
   | (with_reducible exact spec_SumWithOn.mono _ _ _)
   | (with_reducible exact LeO.refl _)
   | (with_reducible exact LeO.none _)
   | (with_reducible refine LeO.ite ?_ ?_)
   | (with_reducible refine LeO.bind ?_ (fun _ => ?_))
   | exact ih0 _ _ _ _ _ _
   | exact ih1 _ _ _ _ _ _ _ _ _ _ _ _ _
   | exact ih2 _ _ _ _ _ _ _ _ _ _ _
   | exact ih3 _ _ _
   | exact ih4 _ _ _ _ _ _ _ _ _ _ _ _
   | exact ih5 _ _ _ _ _
   | exact ih6 _ _ _ _ _ _ _
   | exact ih7 _ _ _ _ _ _ _ _ _ _ _ _ _ _ _
   | exact ih8 _ _ _ _ _ _ _ _ _ _ _ _
   | exact ih9 _ _ _ _ _ _ _ _ _ _ _ _ _
   | exact impl_CountWithOn.mono _ _ _
   | exact impl_GreatestWithOn.mono _ _ _
   | exact impl_LeastWithOn.mono _ _ _
   | exact impl_MeanNumber.mono _ _
   | exact impl_MeanOfPairs.mono _ _
   | exact impl_MeanOnAlong.mono _ _ _
   | exact impl_NumberOfState.mono _ _
   | exact impl_StatesBetween.mono _ _ _
   | exact impl_StatesWithOn.mono _ _ _
   | exact impl_SumWithOn.mono _ _ _
   | exact laws_yTexts.mono _ _ _
   | exact spec_CountWithOn.mono _ _ _
   | exact spec_GreatestWithOn.mono _ _ _
   | exact spec_LeastWithOn.mono _ _ _
   | exact spec_MeanOfPairs.mono _ _
   | exact spec_MeanOnAlong.mono _ _ _
   | exact spec_StatesWithOn.mono _ _ _
   | exact spec_SumWithOn.mono _ _ _
   | exact LeO.none _
   | refine LeO.ite ?_ ?_
   | refine LeO.bind ?_ (fun _ => ?_)
  ·intro y0 y1 y2 y3 y4 y5 y6 y7 y8 y9 y10
   unfold laws_FnStatesCountedOfAll.j4
   repeat' first
   | (with_reducible exact ih0 _ _ _ _ _ _)
   | (with_reducible exact ih1 _ _ _ _ _ _ _ _ _ _ _ _ _)
   | (with_reducible exact ih2 _ _ _ _ _ _ _ _ _ _ _)
   | (with_reducible exact ih3 _ _ _)
   | (with_reducible exact ih4 _ _ _ _ _ _ _ _ _ _ _ _)
   | (with_reducible exact ih5 _ _ _ _ _)
   | (with_reducible exact ih6 _ _ _ _ _ _ _)
   | (with_reducible exact ih7 _ _ _ _ _ _ _ _ _ _ _ _ _ _ _)
   | (with_reducible exact ih8 _ _ _ _ _ _ _ _ _ _ _ _)
   | (with_reducible exact ih9 _ _ _ _ _ _ _ _ _ _ _ _ _)
   | (with_reducible exact impl_CountWithOn.mono _ _ _)
   | (with_reducible exact impl_GreatestWithOn.mono _ _ _)
   | (with_reducible exact impl_LeastWithOn.mono _ _ _)
   | (with_reducible exact impl_MeanNumber.mono _ _)
   | (with_reducible exact impl_MeanOfPairs.mono _ _)
   | (with_reducible exact impl_MeanOnAlong.mono _ _ _)
   | (with_reducible exact impl_NumberOfState.mono _ _)
   | (with_reducible exact impl_StatesBetween.mono _ _ _)
   | (with_reducible exact impl_StatesWithOn.mono _ _ _)
   | (with_reducible exact impl_SumWithOn.mono _ _ _)
   | (with_reducible exact laws_yTexts.mono _ _ _)
   | (with_reducible exact spec_CountWithOn.mono _ _ _)
   | (with_reducible exact spec_GreatestWithOn.mono _ _ _)
   | (with_reducible exact spec_LeastWithOn.mono _ _ _)
   | (with_reducible exact spec_MeanOfPairs.mono _ _)
   | (with_reducible exact spec_MeanOnAlong.mono _ _ _)
   | (with_reducible exact spec_StatesWithOn.mono _ _ _)
   | (with_reducible exact spec_SumWithOn.mono _ _ _)
   | (with_reducible exact LeO.refl _)
   | (with_reducible exact LeO.none _)
   | (with_reducible refine LeO.ite ?_ ?_)
   | (with_reducible refine LeO.bind ?_ (fun _ => ?_))
   | exact ih0 _ _ _ _ _ _
   | exact ih1 _ _ _ _ _ _ _ _ _ _ _ _ _
   | exact ih2 _ _ _ _ _ _ _ _ _ _ _
   | exact ih3 _ _ _
   | exact ih4 _ _ _ _ _ _ _ _ _ _ _ _
   | exact ih5 _ _ _ _ _
   | exact ih6 _ _ _ _ _ _ _
   | exact ih7 _ _ _ _ _ _ _ _ _ _ _ _ _ _ _
   | exact ih8 _ _ _ _ _ _ _ _ _ _ _ _
   | exact ih9 _ _ _ _ _ _ _ _ _ _ _ _ _
   | exact impl_CountWithOn.mono _ _ _
   | exact impl_GreatestWithOn.mono _ _ _
   | exact impl_LeastWithOn.mono _ _ _
   | exact impl_MeanNumber.mono _ _
   | exact impl_MeanOfPairs.mono _ _
   | exact impl_MeanOnAlong.mono _ _ _
   | exact impl_NumberOfState.mono _ _
   | exact impl_StatesBetween.mono _ _ _
   | exact impl_StatesWithOn.mono _ _ _
   | exact impl_SumWithOn.mono _ _ _
   | exact laws_yTexts.mono _ _ _
   | exact spec_CountWithOn.mono _ _ _
   | exact spec_GreatestWithOn.mono _ _ _
   | exact spec_LeastWithOn.mono _ _ _
   | exact spec_MeanOfPairs.mono _ _
   | exact spec_MeanOnAlong.mono _ _ _
   | exact spec_StatesWithOn.mono _ _ _
   | exact spec_SumWithOn.mono _ _ _
   | exact LeO.none _
   | refine LeO.ite ?_ ?_
   | refine LeO.bind ?_ (fun _ => ?_)
  ·intro y0 y1 y2
   unfold laws_FnStatesCountedOfAll.j6
   repeat' first
   | (with_reducible exact ih0 _ _ _ _ _ _)
   | (with_reducible exact ih1 _ _ _ _ _ _ _ _ _ _ _ _ _)
   | (with_reducible exact ih2 _ _ _ _ _ _ _ _ _ _ _)
   | (with_reducible exact ih3 _ _ _)
   | (with_reducible exact ih4 _ _ _ _ _ _ _ _ _ _ _ _)
   | (with_reducible exact ih5 _ _ _ _ _)
   | (with_reducible exact ih6 _ _ _ _ _ _ _)
   | (with_reducible exact ih7 _ _ _ _ _ _ _ _ _ _ _ _ _ _ _)
   | (with_reducible exact ih8 _ _ _ _ _ _ _ _ _ _ _ _)
   | (with_reducible exact ih9 _ _ _ _ _ _ _ _ _ _ _ _ _)
   | (with_reducible exact impl_CountWithOn.mono _ _ _)
   | (with_reducible exact impl_GreatestWithOn.mono _ _ _)
   | (with_reducible exact impl_LeastWithOn.mono _ _ _)
   | (with_reducible exact impl_MeanNumber.mono _ _)
   | (with_reducible exact impl_MeanOfPairs.mono _ _)
   | (with_reducible exact impl_MeanOnAlong.mono _ _ _)
   | (with_reducible exact impl_NumberOfState.mono _ _)
   | (with_reducible exact impl_StatesBetween.mono _ _ _)
   | (with_reducible exact impl_StatesWithOn.mono _ _ _)
   | (with_reducible exact impl_SumWithOn.mono _ _ _)
   | (with_reducible exact laws_yTexts.mono _ _ _)
   | (with_reducible exact spec_CountWithOn.mono _ _ _)
   | (with_reducible exact spec_GreatestWithOn.mono _ _ _)
   | (with_reducible exact spec_LeastWithOn.mono _ _ _)
   | (with_reducible exact spec_MeanOfPairs.mono _ _)
   | (with_reducible exact spec_MeanOnAlong.mono _ _ _)
   | (with_reducible exact spec_StatesWithOn.mono _ _ _)
   | (with_reducible exact spec_SumWithOn.mono _ _ _)
   | (with_reducible exact LeO.refl _)
   | (with_reducible exact LeO.none _)
   | (with_reducible refine LeO.ite ?_ ?_)
   | (with_reducible refine LeO.bind ?_ (fun _ => ?_))
   | exact ih0 _ _ _ _ _ _
   | exact ih1 _ _ _ _ _ _ _ _ _ _ _ _ _
   | exact ih2 _ _ _ _ _ _ _ _ _ _ _
   | exact ih3 _ _ _
   | exact ih4 _ _ _ _ _ _ _ _ _ _ _ _
   | exact ih5 _ _ _ _ _
   | exact ih6 _ _ _ _ _ _ _
   | exact ih7 _ _ _ _ _ _ _ _ _ _ _ _ _ _ _
   | exact ih8 _ _ _ _ _ _ _ _ _ _ _ _
   | exact ih9 _ _ _ _ _ _ _ _ _ _ _ _ _
   | exact impl_CountWithOn.mono _ _ _
   | exact impl_GreatestWithOn.mono _ _ _
   | exact impl_LeastWithOn.mono _ _ _
   | exact impl_MeanNumber.mono _ _
   | exact impl_MeanOfPairs.mono _ _
   | exact impl_MeanOnAlong.mono _ _ _
   | exact impl_NumberOfState.mono _ _
   | exact impl_StatesBetween.mono _ _ _
   | exact impl_StatesWithOn.mono _ _ _
   | exact impl_SumWithOn.mono _ _ _
   | exact laws_yTexts.mono _ _ _
   | exact spec_CountWithOn.mono _ _ _
   | exact spec_GreatestWithOn.mono _ _ _
   | exact spec_LeastWithOn.mono _ _ _
   | exact spec_MeanOfPairs.mono _ _
   | exact spec_MeanOnAlong.mono _ _ _
   | exact spec_StatesWithOn.mono _ _ _
   | exact spec_SumWithOn.mono _ _ _
   | exact LeO.none _
   | refine LeO.ite ?_ ?_
   | refine LeO.bind ?_ (fun _ => ?_)
  ·intro y0 y1 y2 y3 y4 y5 y6 y7 y8 y9 y10 y11
   unfold laws_FnStatesCountedOfAll.j7
   repeat' first
   | (with_reducible exact ih0 _ _ _ _ _ _)
   | (with_reducible exact ih1 _ _ _ _ _ _ _ _ _ _ _ _ _)
   | (with_reducible exact ih2 _ _ _ _ _ _ _ _ _ _ _)
   | (with_reducible exact ih3 _ _ _)
   | (with_reducible exact ih4 _ _ _ _ _ _ _ _ _ _ _ _)
   | (with_reducible exact ih5 _ _ _ _ _)
   | (with_reducible exact ih6 _ _ _ _ _ _ _)
   | (with_reducible exact ih7 _ _ _ _ _ _ _ _ _ _ _ _ _ _ _)
   | (with_reducible exact ih8 _ _ _ _ _ _ _ _ _ _ _ _)
   | (with_reducible exact ih9 _ _ _ _ _ _ _ _ _ _ _ _ _)
   | (with_reducible exact impl_CountWithOn.mono _ _ _)
   | (with_reducible exact impl_GreatestWithOn.mono _ _ _)
   | (with_reducible exact impl_LeastWithOn.mono _ _ _)
   | (with_reducible exact impl_MeanNumber.mono _ _)
   | (with_reducible exact impl_MeanOfPairs.mono _ _)
   | (with_reducible exact impl_MeanOnAlong.mono _ _ _)
   | (with_reducible exact impl_NumberOfState.mono _ _)
   | (with_reducible exact impl_StatesBetween.mono _ _ _)
   | (with_reducible exact impl_StatesWithOn.mono _ _ _)
   | (with_reducible exact impl_SumWithOn.mono _ _ _)
   | (with_reducible exact laws_yTexts.mono _ _ _)
   | (with_reducible exact spec_CountWithOn.mono _ _ _)
   | (with_reducible exact spec_GreatestWithOn.mono _ _ _)
   | (with_reducible exact spec_LeastWithOn.mono _ _ _)
   | (with_reducible exact spec_MeanOfPairs.mono _ _)
   | (with_reducible exact spec_MeanOnAlong.mono _ _ _)
   | (with_reducible exact spec_StatesWithOn.mono _ _ _)
   | (with_reducible exact spec_SumWithOn.mono _ _ _)
   | (with_reducible exact LeO.refl _)
   | (with_reducible exact LeO.none _)
   | (with_reducible refine LeO.ite ?_ ?_)
   | (with_reducible refine LeO.bind ?_ (fun _ => ?_))
   | exact ih0 _ _ _ _ _ _
   | exact ih1 _ _ _ _ _ _ _ _ _ _ _ _ _
   | exact ih2 _ _ _ _ _ _ _ _ _ _ _
   | exact ih3 _ _ _
   | exact ih4 _ _ _ _ _ _ _ _ _ _ _ _
   | exact ih5 _ _ _ _ _
   | exact ih6 _ _ _ _ _ _ _
   | exact ih7 _ _ _ _ _ _ _ _ _ _ _ _ _ _ _
   | exact ih8 _ _ _ _ _ _ _ _ _ _ _ _
   | exact ih9 _ _ _ _ _ _ _ _ _ _ _ _ _
   | exact impl_CountWithOn.mono _ _ _
   | exact impl_GreatestWithOn.mono _ _ _
   | exact impl_LeastWithOn.mono _ _ _
   | exact impl_MeanNumber.mono _ _
   | exact impl_MeanOfPairs.mono _ _
   | exact impl_MeanOnAlong.mono _ _ _
   | exact impl_NumberOfState.mono _ _
   | exact impl_StatesBetween.mono _ _ _
   | exact impl_StatesWithOn.mono _ _ _
   | exact impl_SumWithOn.mono _ _ _
   | exact laws_yTexts.mono _ _ _
   | exact spec_CountWithOn.mono _ _ _
   | exact spec_GreatestWithOn.mono _ _ _
   | exact spec_LeastWithOn.mono _ _ _
   | exact spec_MeanOfPairs.mono _ _
   | exact spec_MeanOnAlong.mono _ _ _
   | exact spec_StatesWithOn.mono _ _ _
   | exact spec_SumWithOn.mono _ _ _
   | exact LeO.none _
   | refine LeO.ite ?_ ?_
   | refine LeO.bind ?_ (fun _ => ?_)
  ·intro y0 y1 y2 y3 y4
   unfold laws_FnStatesCountedOfAll.j8
   repeat' first
   | (with_reducible exact ih0 _ _ _ _ _ _)
   | (with_reducible exact ih1 _ _ _ _ _ _ _ _ _ _ _ _ _)
   | (with_reducible exact ih2 _ _ _ _ _ _ _ _ _ _ _)
   | (with_reducible exact ih3 _ _ _)
   | (with_reducible exact ih4 _ _ _ _ _ _ _ _ _ _ _ _)
   | (with_reducible exact ih5 _ _ _ _ _)
   | (with_reducible exact ih6 _ _ _ _ _ _ _)
   | (with_reducible exact ih7 _ _ _ _ _ _ _ _ _ _ _ _ _ _ _)
   | (with_reducible exact ih8 _ _ _ _ _ _ _ _ _ _ _ _)
   | (with_reducible exact ih9 _ _ _ _ _ _ _ _ _ _ _ _ _)
   | (with_reducible exact impl_CountWithOn.mono _ _ _)
   | (with_reducible exact impl_GreatestWithOn.mono _ _ _)
   | (with_reducible exact impl_LeastWithOn.mono _ _ _)
   | (with_reducible exact impl_MeanNumber.mono _ _)
   | (with_reducible exact impl_MeanOfPairs.mono _ _)
   | (with_reducible exact impl_MeanOnAlong.mono _ _ _)
   | (with_reducible exact impl_NumberOfState.mono _ _)
   | (with_reducible exact impl_StatesBetween.mono _ _ _)
   | (with_reducible exact impl_StatesWithOn.mono _ _ _)
   | (with_reducible exact impl_SumWithOn.mono _ _ _)
   | (with_reducible exact laws_yTexts.mono _ _ _)
   | (with_reducible exact spec_CountWithOn.mono _ _ _)
   | (with_reducible exact spec_GreatestWithOn.mono _ _ _)
   | (with_reducible exact spec_LeastWithOn.mono _ _ _)
   | (with_reducible exact spec_MeanOfPairs.mono _ _)
   | (with_reducible exact spec_MeanOnAlong.mono _ _ _)
   | (with_reducible exact spec_StatesWithOn.mono _ _ _)
   | (with_reducible exact spec_SumWithOn.mono _ _ _)
   | (with_reducible exact LeO.refl _)
   | (with_reducible exact LeO.none _)
   | (with_reducible refine LeO.ite ?_ ?_)
   | (with_reducible refine LeO.bind ?_ (fun _ => ?_))
   | exact ih0 _ _ _ _ _ _
   | exact ih1 _ _ _ _ _ _ _ _ _ _ _ _ _
   | exact ih2 _ _ _ _ _ _ _ _ _ _ _
   | exact ih3 _ _ _
   | exact ih4 _ _ _ _ _ _ _ _ _ _ _ _
   | exact ih5 _ _ _ _ _
   | exact ih6 _ _ _ _ _ _ _
   | exact ih7 _ _ _ _ _ _ _ _ _ _ _ _ _ _ _
   | exact ih8 _ _ _ _ _ _ _ _ _ _ _ _
   | exact ih9 _ _ _ _ _ _ _ _ _ _ _ _ _
   | exact impl_CountWithOn.mono _ _ _
   | exact impl_GreatestWithOn.mono _ _ _
   | exact impl_LeastWithOn.mono _ _ _
   | exact impl_MeanNumber.mono _ _
   | exact impl_MeanOfPairs.mono _ _
   | exact impl_MeanOnAlong.mono _ _ _
   | exact impl_NumberOfState.mono _ _
   | exact impl_StatesBetween.mono _ _ _
   | exact impl_StatesWithOn.mono _ _ _
   | exact impl_SumWithOn.mono _ _ _
   | exact laws_yTexts.mono _ _ _
   | exact spec_CountWithOn.mono _ _ _
   | exact spec_GreatestWithOn.mono _ _ _
   | exact spec_LeastWithOn.mono _ _ _
   | exact spec_MeanOfPairs.mono _ _
   | exact spec_MeanOnAlong.mono _ _ _
   | exact spec_StatesWithOn.mono _ _ _
   | exact spec_SumWithOn.mono _ _ _
   | exact LeO.none _
   | refine LeO.ite ?_ ?_
   | refine LeO.bind ?_ (fun _ => ?_)
  ·intro y0 y1 y2 y3 y4 y5 y6
   unfold laws_FnStatesCountedOfAll.l2
   repeat' first
   | (with_reducible exact ih0 _ _ _ _ _ _)
   | (with_reducible exact ih1 _ _ _ _ _ _ _ _ _ _ _ _ _)
   | (with_reducible exact ih2 _ _ _ _ _ _ _ _ _ _ _)
   | (with_reducible exact ih3 _ _ _)
   | (with_reducible exact ih4 _ _ _ _ _ _ _ _ _ _ _ _)
   | (with_reducible exact ih5 _ _ _ _ _)
   | (with_reducible exact ih6 _ _ _ _ _ _ _)
   | (with_reducible exact ih7 _ _ _ _ _ _ _ _ _ _ _ _ _ _ _)
   | (with_reducible exact ih8 _ _ _ _ _ _ _ _ _ _ _ _)
   | (with_reducible exact ih9 _ _ _ _ _ _ _ _ _ _ _ _ _)
   | (with_reducible exact impl_CountWithOn.mono _ _ _)
   | (with_reducible exact impl_GreatestWithOn.mono _ _ _)
   | (with_reducible exact impl_LeastWithOn.mono _ _ _)
   | (with_reducible exact impl_MeanNumber.mono _ _)
   | (with_reducible exact impl_MeanOfPairs.mono _ _)
   | (with_reducible exact impl_MeanOnAlong.mono _ _ _)
   | (with_reducible exact impl_NumberOfState.mono _ _)
   | (with_reducible exact impl_StatesBetween.mono _ _ _)
   | (with_reducible exact impl_StatesWithOn.mono _ _ _)
   | (with_reducible exact impl_SumWithOn.mono _ _ _)
   | (with_reducible exact laws_yTexts.mono _ _ _)
   | (with_reducible exact spec_CountWithOn.mono _ _ _)
   | (with_reducible exact spec_GreatestWithOn.mono _ _ _)
   | (with_reducible exact spec_LeastWithOn.mono _ _ _)
   | (with_reducible exact spec_MeanOfPairs.mono _ _)
   | (with_reducible exact spec_MeanOnAlong.mono _ _ _)
   | (with_reducible exact spec_StatesWithOn.mono _ _ _)
   | (with_reducible exact spec_SumWithOn.mono _ _ _)
   | (with_reducible exact LeO.refl _)
   | (with_reducible exact LeO.none _)
   | (with_reducible refine LeO.ite ?_ ?_)
   | (with_reducible refine LeO.bind ?_ (fun _ => ?_))
   | exact ih0 _ _ _ _ _ _
   | exact ih1 _ _ _ _ _ _ _ _ _ _ _ _ _
   | exact ih2 _ _ _ _ _ _ _ _ _ _ _
   | exact ih3 _ _ _
   | exact ih4 _ _ _ _ _ _ _ _ _ _ _ _
   | exact ih5 _ _ _ _ _
   | exact ih6 _ _ _ _ _ _ _
   | exact ih7 _ _ _ _ _ _ _ _ _ _ _ _ _ _ _
   | exact ih8 _ _ _ _ _ _ _ _ _ _ _ _
   | exact ih9 _ _ _ _ _ _ _ _ _ _ _ _ _
   | exact impl_CountWithOn.mono _ _ _
   | exact impl_GreatestWithOn.mono _ _ _
   | exact impl_LeastWithOn.mono _ _ _
   | exact impl_MeanNumber.mono _ _
   | exact impl_MeanOfPairs.mono _ _
   | exact impl_MeanOnAlong.mono _ _ _
   | exact impl_NumberOfState.mono _ _
   | exact impl_StatesBetween.mono _ _ _
   | exact impl_StatesWithOn.mono _ _ _
   | exact impl_SumWithOn.mono _ _ _
   | exact laws_yTexts.mono _ _ _
   | exact spec_CountWithOn.mono _ _ _
   | exact spec_GreatestWithOn.mono _ _ _
   | exact spec_LeastWithOn.mono _ _ _
   | exact spec_MeanOfPairs.mono _ _
   | exact spec_MeanOnAlong.mono _ _ _
   | exact spec_StatesWithOn.mono _ _ _
   | exact spec_SumWithOn.mono _ _ _
   | exact LeO.none _
   | refine LeO.ite ?_ ?_
   | refine LeO.bind ?_ (fun _ => ?_)
  ·intro y0 y1 y2 y3 y4 y5 y6 y7 y8 y9 y10 y11 y12 y13 y14
   unfold laws_FnStatesCountedOfAll.l1
   repeat' first
   | (with_reducible exact ih0 _ _ _ _ _ _)
   | (with_reducible exact ih1 _ _ _ _ _ _ _ _ _ _ _ _ _)
   | (with_reducible exact ih2 _ _ _ _ _ _ _ _ _ _ _)
   | (with_reducible exact ih3 _ _ _)
   | (with_reducible exact ih4 _ _ _ _ _ _ _ _ _ _ _ _)
   | (with_reducible exact ih5 _ _ _ _ _)
   | (with_reducible exact ih6 _ _ _ _ _ _ _)
   | (with_reducible exact ih7 _ _ _ _ _ _ _ _ _ _ _ _ _ _ _)
   | (with_reducible exact ih8 _ _ _ _ _ _ _ _ _ _ _ _)
   | (with_reducible exact ih9 _ _ _ _ _ _ _ _ _ _ _ _ _)
   | (with_reducible exact impl_CountWithOn.mono _ _ _)
   | (with_reducible exact impl_GreatestWithOn.mono _ _ _)
   | (with_reducible exact impl_LeastWithOn.mono _ _ _)
   | (with_reducible exact impl_MeanNumber.mono _ _)
   | (with_reducible exact impl_MeanOfPairs.mono _ _)
   | (with_reducible exact impl_MeanOnAlong.mono _ _ _)
   | (with_reducible exact impl_NumberOfState.mono _ _)
   | (with_reducible exact impl_StatesBetween.mono _ _ _)
   | (with_reducible exact impl_StatesWithOn.mono _ _ _)
   | (with_reducible exact impl_SumWithOn.mono _ _ _)
   | (with_reducible exact laws_yTexts.mono _ _ _)
   | (with_reducible exact spec_CountWithOn.mono _ _ _)
   | (with_reducible exact spec_GreatestWithOn.mono _ _ _)
   | (with_reducible exact spec_LeastWithOn.mono _ _ _)
   | (with_reducible exact spec_MeanOfPairs.mono _ _)
   | (with_reducible exact spec_MeanOnAlong.mono _ _ _)
   | (with_reducible exact spec_StatesWithOn.mono _ _ _)
   | (with_reducible exact spec_SumWithOn.mono _ _ _)
   | (with_reducible exact LeO.refl _)
   | (with_reducible exact LeO.none _)
   | (with_reducible refine LeO.ite ?_ ?_)
   | (with_reducible refine LeO.bind ?_ (fun _ => ?_))
   | exact ih0 _ _ _ _ _ _
   | exact ih1 _ _ _ _ _ _ _ _ _ _ _ _ _
   | exact ih2 _ _ _ _ _ _ _ _ _ _ _
   | exact ih3 _ _ _
   | exact ih4 _ _ _ _ _ _ _ _ _ _ _ _
   | exact ih5 _ _ _ _ _
   | exact ih6 _ _ _ _ _ _ _
   | exact ih7 _ _ _ _ _ _ _ _ _ _ _ _ _ _ _
   | exact ih8 _ _ _ _ _ _ _ _ _ _ _ _
   | exact ih9 _ _ _ _ _ _ _ _ _ _ _ _ _
   | exact impl_CountWithOn.mono _ _ _
   | exact impl_GreatestWithOn.mono _ _ _
   | exact impl_LeastWithOn.mono _ _ _
   | exact impl_MeanNumber.mono _ _
   | exact impl_MeanOfPairs.mono _ _
   | exact impl_MeanOnAlong.mono _ _ _
   | exact impl_NumberOfState.mono _ _
   | exact impl_StatesBetween.mono _ _ _
   | exact impl_StatesWithOn.mono _ _ _
   | exact impl_SumWithOn.mono _ _ _
   | exact laws_yTexts.mono _ _ _
   | exact spec_CountWithOn.mono _ _ _
   | exact spec_GreatestWithOn.mono _ _ _
   | exact spec_LeastWithOn.mono _ _ _
   | exact spec_MeanOfPairs.mono _ _
   | exact spec_MeanOnAlong.mono _ _ _
   | exact spec_StatesWithOn.mono _ _ _
   | exact spec_SumWithOn.mono _ _ _
   | exact LeO.none _
   | refine LeO.ite ?_ ?_
   | refine LeO.bind ?_ (fun _ => ?_)
  ·intro y0 y1 y2 y3 y4 y5 y6 y7 y8 y9 y10 y11
   unfold laws_FnStatesCountedOfAll.j2
   repeat' first
   | (with_reducible exact ih0 _ _ _ _ _ _)
   | (with_reducible exact ih1 _ _ _ _ _ _ _ _ _ _ _ _ _)
   | (with_reducible exact ih2 _ _ _ _ _ _ _ _ _ _ _)
   | (with_reducible exact ih3 _ _ _)
   | (with_reducible exact ih4 _ _ _ _ _ _ _ _ _ _ _ _)
   | (with_reducible exact ih5 _ _ _ _ _)
   | (with_reducible exact ih6 _ _ _ _ _ _ _)
   | (with_reducible exact ih7 _ _ _ _ _ _ _ _ _ _ _ _ _ _ _)
   | (with_reducible exact ih8 _ _ _ _ _ _ _ _ _ _ _ _)
   | (with_reducible exact ih9 _ _ _ _ _ _ _ _ _ _ _ _ _)
   | (with_reducible exact impl_CountWithOn.mono _ _ _)
   | (with_reducible exact impl_GreatestWithOn.mono _ _ _)
   | (with_reducible exact impl_LeastWithOn.mono _ _ _)
   | (with_reducible exact impl_MeanNumber.mono _ _)
   | (with_reducible exact impl_MeanOfPairs.mono _ _)
   | (with_reducible exact impl_MeanOnAlong.mono _ _ _)
   | (with_reducible exact impl_NumberOfState.mono _ _)
   | (with_reducible exact impl_StatesBetween.mono _ _ _)
   | (with_reducible exact impl_StatesWithOn.mono _ _ _)
   | (with_reducible exact impl_SumWithOn.mono _ _ _)
   | (with_reducible exact laws_yTexts.mono _ _ _)
   | (with_reducible exact spec_CountWithOn.mono _ _ _)
   | (with_reducible exact spec_GreatestWithOn.mono _ _ _)
   | (with_reducible exact spec_LeastWithOn.mono _ _ _)
   | (with_reducible exact spec_MeanOfPairs.mono _ _)
   | (with_reducible exact spec_MeanOnAlong.mono _ _ _)
   | (with_reducible exact spec_StatesWithOn.mono _ _ _)
   | (with_reducible exact spec_SumWithOn.mono _ _ _)
   | (with_reducible exact LeO.refl _)
   | (with_reducible exact LeO.none _)
   | (with_reducible refine LeO.ite ?_ ?_)
   | (with_reducible refine LeO.bind ?_ (fun _ => ?_))
   | exact ih0 _ _ _ _ _ _
   | exact ih1 _ _ _ _ _ _ _ _ _ _ _ _ _
   | exact ih2 _ _ _ _ _ _ _ _ _ _ _
   | exact ih3 _ _ _
   | exact ih4 _ _ _ _ _ _ _ _ _ _ _ _
   | exact ih5 _ _ _ _ _
   | exact ih6 _ _ _ _ _ _ _
   | exact ih7 _ _ _ _ _ _ _ _ _ _ _ _ _ _ _
   | exact ih8 _ _ _ _ _ _ _ _ _ _ _ _
   | exact ih9 _ _ _ _ _ _ _ _ _ _ _ _ _
   | exact impl_CountWithOn.mono _ _ _
   | exact impl_GreatestWithOn.mono _ _ _
   | exact impl_LeastWithOn.mono _ _ _
   | exact impl_MeanNumber.mono _ _
   | exact impl_MeanOfPairs.mono _ _
   | exact impl_MeanOnAlong.mono _ _ _
   | exact impl_NumberOfState.mono _ _
   | exact impl_StatesBetween.mono _ _ _
   | exact impl_StatesWithOn.mono _ _ _
   | exact impl_SumWithOn.mono _ _ _
   | exact laws_yTexts.mono _ _ _
   | exact spec_CountWithOn.mono _ _ _
   | exact spec_GreatestWithOn.mono _ _ _
   | exact spec_LeastWithOn.mono _ _ _
   | exact spec_MeanOfPairs.mono _ _
   | exact spec_MeanOnAlong.mono _ _ _
   | exact spec_StatesWithOn.mono _ _ _
   | exact spec_SumWithOn.mono _ _ _
   | exact LeO.none _
   | refine LeO.ite ?_ ?_
   | refine LeO.bind ?_ (fun _ => ?_)
  ·intro y0 y1 y2 y3 y4 y5 y6 y7 y8 y9 y10 y11 y12
   unfold laws_FnStatesCountedOfAll.l0
   repeat' first
   | (with_reducible exact ih0 _ _ _ _ _ _)
   | (with_reducible exact ih1 _ _ _ _ _ _ _ _ _ _ _ _ _)
   | (with_reducible exact ih2 _ _ _ _ _ _ _ _ _ _ _)
   | (with_reducible exact ih3 _ _ _)
   | (with_reducible exact ih4 _ _ _ _ _ _ _ _ _ _ _ _)
   | (with_reducible exact ih5 _ _ _ _ _)
   | (with_reducible exact ih6 _ _ _ _ _ _ _)
   | (with_reducible exact ih7 _ _ _ _ _ _ _ _ _ _ _ _ _ _ _)
   | (with_reducible exact ih8 _ _ _ _ _ _ _ _ _ _ _ _)
   | (with_reducible exact ih9 _ _ _ _ _ _ _ _ _ _ _ _ _)
   | (with_reducible exact impl_CountWithOn.mono _ _ _)
   | (with_reducible exact impl_GreatestWithOn.mono _ _ _)
   | (with_reducible exact impl_LeastWithOn.mono _ _ _)
   | (with_reducible exact impl_MeanNumber.mono _ _)
   | (with_reducible exact impl_MeanOfPairs.mono _ _)
   | (with_reducible exact impl_MeanOnAlong.mono _ _ _)
   | (with_reducible exact impl_NumberOfState.mono _ _)
   | (with_reducible exact impl_StatesBetween.mono _ _ _)
   | (with_reducible exact impl_StatesWithOn.mono _ _ _)
   | (with_reducible exact impl_SumWithOn.mono _ _ _)
   | (with_reducible exact laws_yTexts.mono _ _ _)
   | (with_reducible exact spec_CountWithOn.mono _ _ _)
   | (with_reducible exact spec_GreatestWithOn.mono _ _ _)
   | (with_reducible exact spec_LeastWithOn.mono _ _ _)
   | (with_reducible exact spec_MeanOfPairs.mono _ _)
   | (with_reducible exact spec_MeanOnAlong.mono _ _ _)
   | (with_reducible exact spec_StatesWithOn.mono _ _ _)
   | (with_reducible exact spec_SumWithOn.mono _ _ _)
   | (with_reducible exact LeO.refl _)
   | (with_reducible exact LeO.none _)
   | (with_reducible refine LeO.ite ?_ ?_)
   | (with_reducible refine LeO.bind ?_ (fun _ => ?_))
   | exact ih0 _ _ _ _ _ _
   | exact ih1 _ _ _ _ _ _ _ _ _ _ _ _ _
   | exact ih2 _ _ _ _ _ _ _ _ _ _ _
   | exact ih3 _ _ _
   | exact ih4 _ _ _ _ _ _ _ _ _ _ _ _
   | exact ih5 _ _ _ _ _
   | exact ih6 _ _ _ _ _ _ _
   | exact ih7 _ _ _ _ _ _ _ _ _ _ _ _ _ _ _
   | exact ih8 _ _ _ _ _ _ _ _ _ _ _ _
   | exact ih9 _ _ _ _ _ _ _ _ _ _ _ _ _
   | exact impl_CountWithOn.mono _ _ _
   | exact impl_GreatestWithOn.mono _ _ _
   | exact impl_LeastWithOn.mono _ _ _
   | exact impl_MeanNumber.mono _ _
   | exact impl_MeanOfPairs.mono _ _
   | exact impl_MeanOnAlong.mono _ _ _
   | exact impl_NumberOfState.mono _ _
   | exact impl_StatesBetween.mono _ _ _
   | exact impl_StatesWithOn.mono _ _ _
   | exact impl_SumWithOn.mono _ _ _
   | exact laws_yTexts.mono _ _ _
   | exact spec_CountWithOn.mono _ _ _
   | exact spec_GreatestWithOn.mono _ _ _
   | exact spec_LeastWithOn.mono _ _ _
   | exact spec_MeanOfPairs.mono _ _
   | exact spec_MeanOnAlong.mono _ _ _
   | exact spec_StatesWithOn.mono _ _ _
   | exact spec_SumWithOn.mono _ _ _
   | exact LeO.none _
   | refine LeO.ite ?_ ?_
   | refine LeO.bind ?_ (fun _ => ?_)
theorem laws_FnStatesCountedOfAll.mono : ∀ a0 a1 a2 a3 a4 k, LeO (laws_FnStatesCountedOfAll.f k a0 a1 a2 a3 a4) (laws_FnStatesCountedOfAll.f (k + 1) a0 a1 a2 a3 a4) := by
 intro a0 a1 a2 a3 a4 k
 obtain ⟨ih0, ih1, ih2, ih3, ih4, ih5, ih6, ih7, ih8, ih9⟩ := laws_FnStatesCountedOfAll.mono_l k
 unfold laws_FnStatesCountedOfAll.f
 repeat' first
   | (with_reducible exact ih0 _ _ _ _ _ _)
   | (with_reducible exact ih1 _ _ _ _ _ _ _ _ _ _ _ _ _)
   | (with_reducible exact ih2 _ _ _ _ _ _ _ _ _ _ _)
   | (with_reducible exact ih3 _ _ _)
   | (with_reducible exact ih4 _ _ _ _ _ _ _ _ _ _ _ _)
   | (with_reducible exact ih5 _ _ _ _ _)
   | (with_reducible exact ih6 _ _ _ _ _ _ _)
   | (with_reducible exact ih7 _ _ _ _ _ _ _ _ _ _ _ _ _ _ _)
   | (with_reducible exact ih8 _ _ _ _ _ _ _ _ _ _ _ _)
   | (with_reducible exact ih9 _ _ _ _ _ _ _ _ _ _ _ _ _)
   | (with_reducible exact impl_CountWithOn.mono _ _ _)
   | (with_reducible exact impl_GreatestWithOn.mono _ _ _)
   | (with_reducible exact impl_LeastWithOn.mono _ _ _)
   | (with_reducible exact impl_MeanNumber.mono _ _)
   | (with_reducible exact impl_MeanOfPairs.mono _ _)
   | (with_reducible exact impl_MeanOnAlong.mono _ _ _)
   | (with_reducible exact impl_NumberOfState.mono _ _)
   | (with_reducible exact impl_StatesBetween.mono _ _ _)
   | (with_reducible exact impl_StatesWithOn.mono _ _ _)
   | (with_reducible exact impl_SumWithOn.mono _ _ _)
   | (with_reducible exact laws_yTexts.mono _ _ _)
   | (with_reducible exact spec_CountWithOn.mono _ _ _)
   | (with_reducible exact spec_GreatestWithOn.mono _ _ _)
   | (with_reducible exact spec_LeastWithOn.mono _ _ _)
   | (with_reducible exact spec_MeanOfPairs.mono _ _)
   | (with_reducible exact spec_MeanOnAlong.mono _ _ _)
   | (with_reducible exact spec_StatesWithOn.mono _ _ _)
   | (with_reducible exact spec_SumWithOn.mono _ _ _)
   | (with_reducible exact LeO.refl _)
   | (with_reducible exact LeO.none _)
   | (with_reducible refine LeO.ite ?_ ?_)
   | (with_reducible refine LeO.bind ?_ (fun _ => ?_))
   | exact ih0 _ _ _ _ _ _
   | exact ih1 _ _ _ _ _ _ _ _ _ _ _ _ _
   | exact ih2 _ _ _ _ _ _ _ _ _ _ _
   | exact ih3 _ _ _
   | exact ih4 _ _ _ _ _ _ _ _ _ _ _ _
   | exact ih5 _ _ _ _ _
   | exact ih6 _ _ _ _ _ _ _
   | exact ih7 _ _ _ _ _ _ _ _ _ _ _ _ _ _ _
   | exact ih8 _ _ _ _ _ _ _ _ _ _ _ _
   | exact ih9 _ _ _ _ _ _ _ _ _ _ _ _ _
   | exact impl_CountWithOn.mono _ _ _
   | exact impl_GreatestWithOn.mono _ _ _
   | exact impl_LeastWithOn.mono _ _ _
   | exact impl_MeanNumber.mono _ _
   | exact impl_MeanOfPairs.mono _ _
   | exact impl_MeanOnAlong.mono _ _ _
   | exact impl_NumberOfState.mono _ _
   | exact impl_StatesBetween.mono _ _ _
   | exact impl_StatesWithOn.mono _ _ _
   | exact impl_SumWithOn.mono _ _ _
   | exact laws_yTexts.mono _ _ _
   | exact spec_CountWithOn.mono _ _ _
   | exact spec_GreatestWithOn.mono _ _ _
   | exact spec_LeastWithOn.mono _ _ _
   | exact spec_MeanOfPairs.mono _ _
   | exact spec_MeanOnAlong.mono _ _ _
   | exact spec_StatesWithOn.mono _ _ _
   | exact spec_SumWithOn.mono _ _ _
   | exact LeO.none _
   | refine LeO.ite ?_ ?_
   | refine LeO.bind ?_ (fun _ => ?_)
set_option maxHeartbeats 8000000 in
set_option maxRecDepth 100000 in
theorem laws_FnStatesCountedOfAll.calls (k : Nat) (a0 : Int) (a1 : Int) (a2 : Int) (a3 : ByteArray) (a4 : ByteArray) (r : Bool) (w : World) (h : laws_FnStatesCountedOfAll.f k a0 a1 a2 a3 a4 = some r) :
  Calls Tryd.prog 7 #[.int .i64 a0, .int .i64 a1, .int .i64 a2, .string a3, .string a4] w fun e w' => e = .returned (.bool r) ∧ Below w.heap.size w w' := by
 have HB := Aside0.mk (Below.refl w.heap.size w)
 have H : (if (a3.size : Int) > 1048576 then (laws_FnStatesCountedOfAll.j0 k a0 a1 a2 a3 a4 true) else (laws_FnStatesCountedOfAll.j0 k a0 a1 a2 a3 a4 (decide ((a4.size : Int) > 1048576)))) = some r := h
 clear h
 have HC6 := Aside0.mk H
 clear H
 go_enter Tryd.func7, Tryd.ntmps7
 go_upto_region 1 with (fail)
 refine wp_cutv [84] [0, 0, 0, 0, 0, 0, 0, 0, 0, 0, 0, 0, 0, 0, 0, 0, 0, 0, 0, 0, 0, 0, 0, 0, 0, 0, 0, 0, 0, 0, 0, 0, 0, 0, 0, 0, 0, 0, 0, 0, 0, 0, 0, 0, 0, 0, 0, 0, 0, 0, 0, 0, 0, 0, 0, 0, 0, 0, 0, 0, 0, 0, 0, 0, 0, 0, 0, 0, 0, 0, 0, 0, 0, 0, 0, 0, 0, 1, 1, 1, 1, 1, 1, 1, 2, 1, 1, 1, 1, 1, 1, 1, 1, 1, 1, 1, 1, 1, 1, 1, 1, 1, 1, 1, 1, 1, 1, 1, 1, 1, 1, 1, 1, 1, 1, 1, 1, 1, 1, 1, 1, 1, 1, 1, 1, 1, 1, 1, 1, 1, 1, 1, 1, 1, 1, 1, 1, 1, 1, 1, 1, 1, 1, 1, 1, 1, 1, 1, 1, 1, 1, 1, 1, 1, 1, 1, 1, 1, 1, 1, 1, 1, 1, 1, 1, 1, 1, 1, 1, 1, 1, 1, 1, 1, 1, 1, 1, 1, 1, 1, 1, 1, 1, 1, 1, 1, 1, 1, 1, 1, 1, 1, 1, 1, 1, 1, 1, 1, 1, 1, 1, 1, 1, 1, 1, 1, 1, 1, 1, 1, 1, 1, 1, 1, 1, 1, 1, 1, 1, 1, 1, 1, 1, 1, 1, 1, 1, 1, 1, 1, 1, 1, 1, 1, 1, 1, 1, 1, 1, 1, 1, 1, 1, 1, 1, 1, 1, 1, 1, 1, 1, 1, 1, 1, 1, 1, 1, 1, 1, 1, 1, 1, 1, 1, 1, 1, 1, 1, 1, 1, 1, 1, 1, 1, 1, 1, 1, 1, 1, 1, 1, 1, 1, 1, 1, 1, 1, 1, 1, 1, 1, 1, 1, 1, 1, 1, 1, 1, 1, 1, 1, 0, 0, 0, 1, 1, 1, 1, 1, 1, 1, 1, 1, 1, 1, 1, 1, 1, 1, 1, 1, 1, 1, 1, 1, 1, 1, 1, 1, 1, 1, 1, 1, 1, 1, 1, 1, 1, 1, 1, 1, 1, 1, 1, 1, 1, 1, 1, 1, 1, 1, 1, 1, 1, 1, 1, 1, 1, 1, 1, 1, 1, 1, 1, 1, 1, 1, 1, 1, 1, 1, 1, 1, 1, 1, 1, 1, 1, 1, 1, 1, 1, 1, 1, 1, 1, 1, 1, 1, 1, 1, 1, 1, 1, 1, 1, 1, 1, 1, 1, 1, 1, 1, 1, 1, 1, 1, 1, 1, 1, 1, 1, 1, 1, 1, 1, 1, 1, 1, 1, 1, 1, 1, 1, 1, 1, 1, 1, 1, 1, 1, 1, 1, 1, 1, 1, 1, 1, 1, 1, 1, 1, 1, 1, 1, 1, 1, 1, 1, 1, 1, 1, 1, 1, 1, 1, 1, 1, 1, 1, 1, 1, 1, 1, 1, 1, 1, 1, 1, 1, 1, 1, 1, 1, 1, 1, 1, 1, 1, 1, 1, 1, 1, 1, 1, 1, 0, 0, 0, 1, 1, 1, 1, 1, 1, 1, 1, 1, 1, 1, 1, 1, 1, 1, 1, 1, 1, 1, 1, 1, 1] (fun vs_ wc => ∃ v84, vs_ = [v84] ∧ ∃ (kq : Nat) (x84_5 : Bool), v84 = .bool x84_5 ∧ Aside0 (laws_FnStatesCountedOfAll.j0 kq a0 a1 a2 a3 a4 x84_5 = some r) ∧ Aside0 (kq ≤ k) ∧ Aside0 (Below w.heap.size w wc)) ?first1 ?rest1
 case first1 =>
  as_aux_lemma =>
  intro _ _ _ _
  (try dsimp only [List.append])
  have H := HC6.out
  clear HC6
  by_cases c7 : (a3.size : Int) > 1048576
  ·rw [if_pos c7] at H
   have c7b0 : decide (1048576 < (a3.size : Int)) = true := decide_eq_true c7
   have c7b1 : decide (1048576 < a3.size) = true := decide_eq_true (by omega)
   clear c7
   (first | rw [c7b0] | (simp only [i64_w, i32_w]; rw [c7b0]) | skip)
   have H' := Aside0.mk H
   clear H
   go_wp2
   refine Met.intro ?_
   go_step
   refine ⟨[_], ⟨rfl, trivial⟩, ⟨_, rfl, ?rel⟩, by kernel_rfl⟩
   case rel => exact ⟨_, (true), (by first | rfl | (simp; done) | (simp [*]; done)), H', ⟨by first | omega | exact Nat.le_refl _⟩, ⟨by repeat (first | (with_reducible first | exact HB.out | apply below_alloc | apply pw_below_drewN | apply below_drew1) | exact HB.out)⟩⟩
  ·rw [if_neg c7] at H
   have c7b0 : decide (1048576 < (a3.size : Int)) = false := decide_eq_false c7
   have c7b1 : decide (1048576 < a3.size) = false := decide_eq_false (by omega)
   clear c7
   (first | rw [c7b0] | (simp only [i64_w, i32_w]; rw [c7b0]) | skip)
   have H' := Aside0.mk H
   clear H
   go_wp2
   refine Met.intro ?_
   go_step
   refine ⟨[_], ⟨rfl, trivial⟩, ⟨_, rfl, ?rel⟩, by kernel_rfl⟩
   case rel => exact ⟨_, (decide ((a4.size : Int) > 1048576)), (by first | rfl | (simp; done) | (simp [*]; done)), H', ⟨by first | omega | exact Nat.le_refl _⟩, ⟨by repeat (first | (with_reducible first | exact HB.out | apply below_alloc | apply pw_below_drewN | apply below_drew1) | exact HB.out)⟩⟩
 case rest1 =>
  as_aux_lemma =>
  intro vs_ f_ wc hcut
  obtain ⟨v84, rfl, hcut⟩ := hcut
  dsimp only [mixF, List.getD_cons_zero, List.getD_cons_succ, Nat.reduceAdd]
  clear HC6
  try clear p2
  try clear c7
  try clear c7b0
  try clear c7b1
  obtain ⟨kq, x84_5, rfl, HA, HJ5, HB⟩ := hcut
  cases kq with
  | zero => exact absurd HA.out (by simp [laws_FnStatesCountedOfAll.j0])
  | succ kj5 =>
   have H := HA.out
   clear HA
   simp only [laws_FnStatesCountedOfAll.j0] at H
   by_cases c8 : x84_5 = true
   ·subst c8
    have H1 : (some true) = some r := by rw [if_pos rfl] at H; exact H
    clear H
    have H := H1
    clear H1
    obtain rfl := Option.some.inj H
    go_wp2
    go_ret
    exact ⟨by first | rfl | (simp [errW_none, errW_some] <;> rfl) | (simp [*, errW_none, errW_some] <;> rfl), by repeat (first | (with_reducible first | exact HB.out | apply below_alloc | apply pw_below_drewN | apply below_drew1) | exact HB.out)⟩
   ·replace c8 := Bool.eq_false_iff.mpr c8
    subst c8
    have H1 : ((impl_StatesWithOn.f kj5 a0 a1).bind fun bt238 => ((spec_StatesWithOn.f kj5 a0 a1).bind fun bt242 => ((impl_CountWithOn.f kj5 a0 a1).bind fun bt246 => ((spec_CountWithOn.f kj5 a0 a1).bind fun bt248 => ((impl_LeastWithOn.f kj5 a0 a1).bind fun bt250 => ((spec_LeastWithOn.f kj5 a0 a1).bind fun bt252 => ((impl_GreatestWithOn.f kj5 a0 a1).bind fun bt254 => ((spec_GreatestWithOn.f kj5 a0 a1).bind fun bt256 => ((impl_SumWithOn.f kj5 a0 a1).bind fun bt258 => ((spec_SumWithOn.f kj5 a0 a1).bind fun bt260 => (if (bt238.2 != bt242.2) = true then (laws_FnStatesCountedOfAll.j1 kj5 a0 a1 a2 a3 a4 bt238.1 bt238.2 bt246.1 bt246.2 bt250.1 bt254.1 bt258.1 true) else ((laws_yTexts.f kj5 bt238.1 bt242.1).bind fun t262 => (if t262 = true then (if (bt246.2 != bt248.2) = true then (laws_FnStatesCountedOfAll.j1 kj5 a0 a1 a2 a3 a4 bt238.1 bt238.2 bt246.1 bt246.2 bt250.1 bt254.1 bt258.1 true) else (if bt246.1 = bt248.1 then (if (bt250.2 != bt252.2) = true then (laws_FnStatesCountedOfAll.j1 kj5 a0 a1 a2 a3 a4 bt238.1 bt238.2 bt246.1 bt246.2 bt250.1 bt254.1 bt258.1 true) else (if bt250.1.toList = bt252.1.toList then (if (bt254.2 != bt256.2) = true then (laws_FnStatesCountedOfAll.j1 kj5 a0 a1 a2 a3 a4 bt238.1 bt238.2 bt246.1 bt246.2 bt250.1 bt254.1 bt258.1 true) else (if bt254.1.toList = bt256.1.toList then (if (bt258.2 != bt260.2) = true then (laws_FnStatesCountedOfAll.j1 kj5 a0 a1 a2 a3 a4 bt238.1 bt238.2 bt246.1 bt246.2 bt250.1 bt254.1 bt258.1 true) else (if bt258.1 = bt260.1 then (if (bt250.2 != bt246.2) = true then (laws_FnStatesCountedOfAll.j1 kj5 a0 a1 a2 a3 a4 bt238.1 bt238.2 bt246.1 bt246.2 bt250.1 bt254.1 bt258.1 true) else (if (bt254.2 != bt246.2) = true then (laws_FnStatesCountedOfAll.j1 kj5 a0 a1 a2 a3 a4 bt238.1 bt238.2 bt246.1 bt246.2 bt250.1 bt254.1 bt258.1 true) else (if (bt258.2 != bt246.2) = true then (laws_FnStatesCountedOfAll.j1 kj5 a0 a1 a2 a3 a4 bt238.1 bt238.2 bt246.1 bt246.2 bt250.1 bt254.1 bt258.1 true) else (if bt246.2 = true then (laws_FnStatesCountedOfAll.j1 kj5 a0 a1 a2 a3 a4 bt238.1 bt238.2 bt246.1 bt246.2 bt250.1 bt254.1 bt258.1 (bt238.2 != (decide (bt246.1 ≤ 100)))) else (laws_FnStatesCountedOfAll.j1 kj5 a0 a1 a2 a3 a4 bt238.1 bt238.2 bt246.1 bt246.2 bt250.1 bt254.1 bt258.1 (bt238.2 != false)))))) else (laws_FnStatesCountedOfAll.j1 kj5 a0 a1 a2 a3 a4 bt238.1 bt238.2 bt246.1 bt246.2 bt250.1 bt254.1 bt258.1 true))) else (laws_FnStatesCountedOfAll.j1 kj5 a0 a1 a2 a3 a4 bt238.1 bt238.2 bt246.1 bt246.2 bt250.1 bt254.1 bt258.1 true))) else (laws_FnStatesCountedOfAll.j1 kj5 a0 a1 a2 a3 a4 bt238.1 bt238.2 bt246.1 bt246.2 bt250.1 bt254.1 bt258.1 true))) else (laws_FnStatesCountedOfAll.j1 kj5 a0 a1 a2 a3 a4 bt238.1 bt238.2 bt246.1 bt246.2 bt250.1 bt254.1 bt258.1 true))) else (laws_FnStatesCountedOfAll.j1 kj5 a0 a1 a2 a3 a4 bt238.1 bt238.2 bt246.1 bt246.2 bt250.1 bt254.1 bt258.1 true)))))))))))))) = some r := by rw [if_neg (show ¬ (false = true) by decide)] at H; exact H
    clear H
    have H := H1
    clear H1
    replace H := Option.bind_eq_some_iff.mp H
    obtain ⟨⟨t238, t239⟩, A90, H⟩ := H
    replace H : ((spec_StatesWithOn.f kj5 a0 a1).bind fun bt242 => ((impl_CountWithOn.f kj5 a0 a1).bind fun bt246 => ((spec_CountWithOn.f kj5 a0 a1).bind fun bt248 => ((impl_LeastWithOn.f kj5 a0 a1).bind fun bt250 => ((spec_LeastWithOn.f kj5 a0 a1).bind fun bt252 => ((impl_GreatestWithOn.f kj5 a0 a1).bind fun bt254 => ((spec_GreatestWithOn.f kj5 a0 a1).bind fun bt256 => ((impl_SumWithOn.f kj5 a0 a1).bind fun bt258 => ((spec_SumWithOn.f kj5 a0 a1).bind fun bt260 => (if (t239 != bt242.2) = true then (laws_FnStatesCountedOfAll.j1 kj5 a0 a1 a2 a3 a4 t238 t239 bt246.1 bt246.2 bt250.1 bt254.1 bt258.1 true) else ((laws_yTexts.f kj5 t238 bt242.1).bind fun t262 => (if t262 = true then (if (bt246.2 != bt248.2) = true then (laws_FnStatesCountedOfAll.j1 kj5 a0 a1 a2 a3 a4 t238 t239 bt246.1 bt246.2 bt250.1 bt254.1 bt258.1 true) else (if bt246.1 = bt248.1 then (if (bt250.2 != bt252.2) = true then (laws_FnStatesCountedOfAll.j1 kj5 a0 a1 a2 a3 a4 t238 t239 bt246.1 bt246.2 bt250.1 bt254.1 bt258.1 true) else (if bt250.1.toList = bt252.1.toList then (if (bt254.2 != bt256.2) = true then (laws_FnStatesCountedOfAll.j1 kj5 a0 a1 a2 a3 a4 t238 t239 bt246.1 bt246.2 bt250.1 bt254.1 bt258.1 true) else (if bt254.1.toList = bt256.1.toList then (if (bt258.2 != bt260.2) = true then (laws_FnStatesCountedOfAll.j1 kj5 a0 a1 a2 a3 a4 t238 t239 bt246.1 bt246.2 bt250.1 bt254.1 bt258.1 true) else (if bt258.1 = bt260.1 then (if (bt250.2 != bt246.2) = true then (laws_FnStatesCountedOfAll.j1 kj5 a0 a1 a2 a3 a4 t238 t239 bt246.1 bt246.2 bt250.1 bt254.1 bt258.1 true) else (if (bt254.2 != bt246.2) = true then (laws_FnStatesCountedOfAll.j1 kj5 a0 a1 a2 a3 a4 t238 t239 bt246.1 bt246.2 bt250.1 bt254.1 bt258.1 true) else (if (bt258.2 != bt246.2) = true then (laws_FnStatesCountedOfAll.j1 kj5 a0 a1 a2 a3 a4 t238 t239 bt246.1 bt246.2 bt250.1 bt254.1 bt258.1 true) else (if bt246.2 = true then (laws_FnStatesCountedOfAll.j1 kj5 a0 a1 a2 a3 a4 t238 t239 bt246.1 bt246.2 bt250.1 bt254.1 bt258.1 (t239 != (decide (bt246.1 ≤ 100)))) else (laws_FnStatesCountedOfAll.j1 kj5 a0 a1 a2 a3 a4 t238 t239 bt246.1 bt246.2 bt250.1 bt254.1 bt258.1 (t239 != false)))))) else (laws_FnStatesCountedOfAll.j1 kj5 a0 a1 a2 a3 a4 t238 t239 bt246.1 bt246.2 bt250.1 bt254.1 bt258.1 true))) else (laws_FnStatesCountedOfAll.j1 kj5 a0 a1 a2 a3 a4 t238 t239 bt246.1 bt246.2 bt250.1 bt254.1 bt258.1 true))) else (laws_FnStatesCountedOfAll.j1 kj5 a0 a1 a2 a3 a4 t238 t239 bt246.1 bt246.2 bt250.1 bt254.1 bt258.1 true))) else (laws_FnStatesCountedOfAll.j1 kj5 a0 a1 a2 a3 a4 t238 t239 bt246.1 bt246.2 bt250.1 bt254.1 bt258.1 true))) else (laws_FnStatesCountedOfAll.j1 kj5 a0 a1 a2 a3 a4 t238 t239 bt246.1 bt246.2 bt250.1 bt254.1 bt258.1 true))))))))))))) = some r := H
    have A9 := Aside0.mk A90
    clear A90
    replace H := Option.bind_eq_some_iff.mp H
    obtain ⟨⟨t242, t243⟩, A100, H⟩ := H
    replace H : ((impl_CountWithOn.f kj5 a0 a1).bind fun bt246 => ((spec_CountWithOn.f kj5 a0 a1).bind fun bt248 => ((impl_LeastWithOn.f kj5 a0 a1).bind fun bt250 => ((spec_LeastWithOn.f kj5 a0 a1).bind fun bt252 => ((impl_GreatestWithOn.f kj5 a0 a1).bind fun bt254 => ((spec_GreatestWithOn.f kj5 a0 a1).bind fun bt256 => ((impl_SumWithOn.f kj5 a0 a1).bind fun bt258 => ((spec_SumWithOn.f kj5 a0 a1).bind fun bt260 => (if (t239 != t243) = true then (laws_FnStatesCountedOfAll.j1 kj5 a0 a1 a2 a3 a4 t238 t239 bt246.1 bt246.2 bt250.1 bt254.1 bt258.1 true) else ((laws_yTexts.f kj5 t238 t242).bind fun t262 => (if t262 = true then (if (bt246.2 != bt248.2) = true then (laws_FnStatesCountedOfAll.j1 kj5 a0 a1 a2 a3 a4 t238 t239 bt246.1 bt246.2 bt250.1 bt254.1 bt258.1 true) else (if bt246.1 = bt248.1 then (if (bt250.2 != bt252.2) = true then (laws_FnStatesCountedOfAll.j1 kj5 a0 a1 a2 a3 a4 t238 t239 bt246.1 bt246.2 bt250.1 bt254.1 bt258.1 true) else (if bt250.1.toList = bt252.1.toList then (if (bt254.2 != bt256.2) = true then (laws_FnStatesCountedOfAll.j1 kj5 a0 a1 a2 a3 a4 t238 t239 bt246.1 bt246.2 bt250.1 bt254.1 bt258.1 true) else (if bt254.1.toList = bt256.1.toList then (if (bt258.2 != bt260.2) = true then (laws_FnStatesCountedOfAll.j1 kj5 a0 a1 a2 a3 a4 t238 t239 bt246.1 bt246.2 bt250.1 bt254.1 bt258.1 true) else (if bt258.1 = bt260.1 then (if (bt250.2 != bt246.2) = true then (laws_FnStatesCountedOfAll.j1 kj5 a0 a1 a2 a3 a4 t238 t239 bt246.1 bt246.2 bt250.1 bt254.1 bt258.1 true) else (if (bt254.2 != bt246.2) = true then (laws_FnStatesCountedOfAll.j1 kj5 a0 a1 a2 a3 a4 t238 t239 bt246.1 bt246.2 bt250.1 bt254.1 bt258.1 true) else (if (bt258.2 != bt246.2) = true then (laws_FnStatesCountedOfAll.j1 kj5 a0 a1 a2 a3 a4 t238 t239 bt246.1 bt246.2 bt250.1 bt254.1 bt258.1 true) else (if bt246.2 = true then (laws_FnStatesCountedOfAll.j1 kj5 a0 a1 a2 a3 a4 t238 t239 bt246.1 bt246.2 bt250.1 bt254.1 bt258.1 (t239 != (decide (bt246.1 ≤ 100)))) else (laws_FnStatesCountedOfAll.j1 kj5 a0 a1 a2 a3 a4 t238 t239 bt246.1 bt246.2 bt250.1 bt254.1 bt258.1 (t239 != false)))))) else (laws_FnStatesCountedOfAll.j1 kj5 a0 a1 a2 a3 a4 t238 t239 bt246.1 bt246.2 bt250.1 bt254.1 bt258.1 true))) else (laws_FnStatesCountedOfAll.j1 kj5 a0 a1 a2 a3 a4 t238 t239 bt246.1 bt246.2 bt250.1 bt254.1 bt258.1 true))) else (laws_FnStatesCountedOfAll.j1 kj5 a0 a1 a2 a3 a4 t238 t239 bt246.1 bt246.2 bt250.1 bt254.1 bt258.1 true))) else (laws_FnStatesCountedOfAll.j1 kj5 a0 a1 a2 a3 a4 t238 t239 bt246.1 bt246.2 bt250.1 bt254.1 bt258.1 true))) else (laws_FnStatesCountedOfAll.j1 kj5 a0 a1 a2 a3 a4 t238 t239 bt246.1 bt246.2 bt250.1 bt254.1 bt258.1 true)))))))))))) = some r := H
    have A10 := Aside0.mk A100
    clear A100
    replace H := Option.bind_eq_some_iff.mp H
    obtain ⟨⟨t246, t247⟩, A110, H⟩ := H
    replace H : ((spec_CountWithOn.f kj5 a0 a1).bind fun bt248 => ((impl_LeastWithOn.f kj5 a0 a1).bind fun bt250 => ((spec_LeastWithOn.f kj5 a0 a1).bind fun bt252 => ((impl_GreatestWithOn.f kj5 a0 a1).bind fun bt254 => ((spec_GreatestWithOn.f kj5 a0 a1).bind fun bt256 => ((impl_SumWithOn.f kj5 a0 a1).bind fun bt258 => ((spec_SumWithOn.f kj5 a0 a1).bind fun bt260 => (if (t239 != t243) = true then (laws_FnStatesCountedOfAll.j1 kj5 a0 a1 a2 a3 a4 t238 t239 t246 t247 bt250.1 bt254.1 bt258.1 true) else ((laws_yTexts.f kj5 t238 t242).bind fun t262 => (if t262 = true then (if (t247 != bt248.2) = true then (laws_FnStatesCountedOfAll.j1 kj5 a0 a1 a2 a3 a4 t238 t239 t246 t247 bt250.1 bt254.1 bt258.1 true) else (if t246 = bt248.1 then (if (bt250.2 != bt252.2) = true then (laws_FnStatesCountedOfAll.j1 kj5 a0 a1 a2 a3 a4 t238 t239 t246 t247 bt250.1 bt254.1 bt258.1 true) else (if bt250.1.toList = bt252.1.toList then (if (bt254.2 != bt256.2) = true then (laws_FnStatesCountedOfAll.j1 kj5 a0 a1 a2 a3 a4 t238 t239 t246 t247 bt250.1 bt254.1 bt258.1 true) else (if bt254.1.toList = bt256.1.toList then (if (bt258.2 != bt260.2) = true then (laws_FnStatesCountedOfAll.j1 kj5 a0 a1 a2 a3 a4 t238 t239 t246 t247 bt250.1 bt254.1 bt258.1 true) else (if bt258.1 = bt260.1 then (if (bt250.2 != t247) = true then (laws_FnStatesCountedOfAll.j1 kj5 a0 a1 a2 a3 a4 t238 t239 t246 t247 bt250.1 bt254.1 bt258.1 true) else (if (bt254.2 != t247) = true then (laws_FnStatesCountedOfAll.j1 kj5 a0 a1 a2 a3 a4 t238 t239 t246 t247 bt250.1 bt254.1 bt258.1 true) else (if (bt258.2 != t247) = true then (laws_FnStatesCountedOfAll.j1 kj5 a0 a1 a2 a3 a4 t238 t239 t246 t247 bt250.1 bt254.1 bt258.1 true) else (if t247 = true then (laws_FnStatesCountedOfAll.j1 kj5 a0 a1 a2 a3 a4 t238 t239 t246 t247 bt250.1 bt254.1 bt258.1 (t239 != (decide (t246 ≤ 100)))) else (laws_FnStatesCountedOfAll.j1 kj5 a0 a1 a2 a3 a4 t238 t239 t246 t247 bt250.1 bt254.1 bt258.1 (t239 != false)))))) else (laws_FnStatesCountedOfAll.j1 kj5 a0 a1 a2 a3 a4 t238 t239 t246 t247 bt250.1 bt254.1 bt258.1 true))) else (laws_FnStatesCountedOfAll.j1 kj5 a0 a1 a2 a3 a4 t238 t239 t246 t247 bt250.1 bt254.1 bt258.1 true))) else (laws_FnStatesCountedOfAll.j1 kj5 a0 a1 a2 a3 a4 t238 t239 t246 t247 bt250.1 bt254.1 bt258.1 true))) else (laws_FnStatesCountedOfAll.j1 kj5 a0 a1 a2 a3 a4 t238 t239 t246 t247 bt250.1 bt254.1 bt258.1 true))) else (laws_FnStatesCountedOfAll.j1 kj5 a0 a1 a2 a3 a4 t238 t239 t246 t247 bt250.1 bt254.1 bt258.1 true))))))))))) = some r := H
    have A11 := Aside0.mk A110
    clear A110
    replace H := Option.bind_eq_some_iff.mp H
    obtain ⟨⟨t248, t249⟩, A120, H⟩ := H
    replace H : ((impl_LeastWithOn.f kj5 a0 a1).bind fun bt250 => ((spec_LeastWithOn.f kj5 a0 a1).bind fun bt252 => ((impl_GreatestWithOn.f kj5 a0 a1).bind fun bt254 => ((spec_GreatestWithOn.f kj5 a0 a1).bind fun bt256 => ((impl_SumWithOn.f kj5 a0 a1).bind fun bt258 => ((spec_SumWithOn.f kj5 a0 a1).bind fun bt260 => (if (t239 != t243) = true then (laws_FnStatesCountedOfAll.j1 kj5 a0 a1 a2 a3 a4 t238 t239 t246 t247 bt250.1 bt254.1 bt258.1 true) else ((laws_yTexts.f kj5 t238 t242).bind fun t262 => (if t262 = true then (if (t247 != t249) = true then (laws_FnStatesCountedOfAll.j1 kj5 a0 a1 a2 a3 a4 t238 t239 t246 t247 bt250.1 bt254.1 bt258.1 true) else (if t246 = t248 then (if (bt250.2 != bt252.2) = true then (laws_FnStatesCountedOfAll.j1 kj5 a0 a1 a2 a3 a4 t238 t239 t246 t247 bt250.1 bt254.1 bt258.1 true) else (if bt250.1.toList = bt252.1.toList then (if (bt254.2 != bt256.2) = true then (laws_FnStatesCountedOfAll.j1 kj5 a0 a1 a2 a3 a4 t238 t239 t246 t247 bt250.1 bt254.1 bt258.1 true) else (if bt254.1.toList = bt256.1.toList then (if (bt258.2 != bt260.2) = true then (laws_FnStatesCountedOfAll.j1 kj5 a0 a1 a2 a3 a4 t238 t239 t246 t247 bt250.1 bt254.1 bt258.1 true) else (if bt258.1 = bt260.1 then (if (bt250.2 != t247) = true then (laws_FnStatesCountedOfAll.j1 kj5 a0 a1 a2 a3 a4 t238 t239 t246 t247 bt250.1 bt254.1 bt258.1 true) else (if (bt254.2 != t247) = true then (laws_FnStatesCountedOfAll.j1 kj5 a0 a1 a2 a3 a4 t238 t239 t246 t247 bt250.1 bt254.1 bt258.1 true) else (if (bt258.2 != t247) = true then (laws_FnStatesCountedOfAll.j1 kj5 a0 a1 a2 a3 a4 t238 t239 t246 t247 bt250.1 bt254.1 bt258.1 true) else (if t247 = true then (laws_FnStatesCountedOfAll.j1 kj5 a0 a1 a2 a3 a4 t238 t239 t246 t247 bt250.1 bt254.1 bt258.1 (t239 != (decide (t246 ≤ 100)))) else (laws_FnStatesCountedOfAll.j1 kj5 a0 a1 a2 a3 a4 t238 t239 t246 t247 bt250.1 bt254.1 bt258.1 (t239 != false)))))) else (laws_FnStatesCountedOfAll.j1 kj5 a0 a1 a2 a3 a4 t238 t239 t246 t247 bt250.1 bt254.1 bt258.1 true))) else (laws_FnStatesCountedOfAll.j1 kj5 a0 a1 a2 a3 a4 t238 t239 t246 t247 bt250.1 bt254.1 bt258.1 true))) else (laws_FnStatesCountedOfAll.j1 kj5 a0 a1 a2 a3 a4 t238 t239 t246 t247 bt250.1 bt254.1 bt258.1 true))) else (laws_FnStatesCountedOfAll.j1 kj5 a0 a1 a2 a3 a4 t238 t239 t246 t247 bt250.1 bt254.1 bt258.1 true))) else (laws_FnStatesCountedOfAll.j1 kj5 a0 a1 a2 a3 a4 t238 t239 t246 t247 bt250.1 bt254.1 bt258.1 true)))))))))) = some r := H
    have A12 := Aside0.mk A120
    clear A120
    replace H := Option.bind_eq_some_iff.mp H
    obtain ⟨⟨t250, t251⟩, A130, H⟩ := H
    replace H : ((spec_LeastWithOn.f kj5 a0 a1).bind fun bt252 => ((impl_GreatestWithOn.f kj5 a0 a1).bind fun bt254 => ((spec_GreatestWithOn.f kj5 a0 a1).bind fun bt256 => ((impl_SumWithOn.f kj5 a0 a1).bind fun bt258 => ((spec_SumWithOn.f kj5 a0 a1).bind fun bt260 => (if (t239 != t243) = true then (laws_FnStatesCountedOfAll.j1 kj5 a0 a1 a2 a3 a4 t238 t239 t246 t247 t250 bt254.1 bt258.1 true) else ((laws_yTexts.f kj5 t238 t242).bind fun t262 => (if t262 = true then (if (t247 != t249) = true then (laws_FnStatesCountedOfAll.j1 kj5 a0 a1 a2 a3 a4 t238 t239 t246 t247 t250 bt254.1 bt258.1 true) else (if t246 = t248 then (if (t251 != bt252.2) = true then (laws_FnStatesCountedOfAll.j1 kj5 a0 a1 a2 a3 a4 t238 t239 t246 t247 t250 bt254.1 bt258.1 true) else (if t250.toList = bt252.1.toList then (if (bt254.2 != bt256.2) = true then (laws_FnStatesCountedOfAll.j1 kj5 a0 a1 a2 a3 a4 t238 t239 t246 t247 t250 bt254.1 bt258.1 true) else (if bt254.1.toList = bt256.1.toList then (if (bt258.2 != bt260.2) = true then (laws_FnStatesCountedOfAll.j1 kj5 a0 a1 a2 a3 a4 t238 t239 t246 t247 t250 bt254.1 bt258.1 true) else (if bt258.1 = bt260.1 then (if (t251 != t247) = true then (laws_FnStatesCountedOfAll.j1 kj5 a0 a1 a2 a3 a4 t238 t239 t246 t247 t250 bt254.1 bt258.1 true) else (if (bt254.2 != t247) = true then (laws_FnStatesCountedOfAll.j1 kj5 a0 a1 a2 a3 a4 t238 t239 t246 t247 t250 bt254.1 bt258.1 true) else (if (bt258.2 != t247) = true then (laws_FnStatesCountedOfAll.j1 kj5 a0 a1 a2 a3 a4 t238 t239 t246 t247 t250 bt254.1 bt258.1 true) else (if t247 = true then (laws_FnStatesCountedOfAll.j1 kj5 a0 a1 a2 a3 a4 t238 t239 t246 t247 t250 bt254.1 bt258.1 (t239 != (decide (t246 ≤ 100)))) else (laws_FnStatesCountedOfAll.j1 kj5 a0 a1 a2 a3 a4 t238 t239 t246 t247 t250 bt254.1 bt258.1 (t239 != false)))))) else (laws_FnStatesCountedOfAll.j1 kj5 a0 a1 a2 a3 a4 t238 t239 t246 t247 t250 bt254.1 bt258.1 true))) else (laws_FnStatesCountedOfAll.j1 kj5 a0 a1 a2 a3 a4 t238 t239 t246 t247 t250 bt254.1 bt258.1 true))) else (laws_FnStatesCountedOfAll.j1 kj5 a0 a1 a2 a3 a4 t238 t239 t246 t247 t250 bt254.1 bt258.1 true))) else (laws_FnStatesCountedOfAll.j1 kj5 a0 a1 a2 a3 a4 t238 t239 t246 t247 t250 bt254.1 bt258.1 true))) else (laws_FnStatesCountedOfAll.j1 kj5 a0 a1 a2 a3 a4 t238 t239 t246 t247 t250 bt254.1 bt258.1 true))))))))) = some r := H
    have A13 := Aside0.mk A130
    clear A130
    replace H := Option.bind_eq_some_iff.mp H
    obtain ⟨⟨t252, t253⟩, A140, H⟩ := H
    replace H : ((impl_GreatestWithOn.f kj5 a0 a1).bind fun bt254 => ((spec_GreatestWithOn.f kj5 a0 a1).bind fun bt256 => ((impl_SumWithOn.f kj5 a0 a1).bind fun bt258 => ((spec_SumWithOn.f kj5 a0 a1).bind fun bt260 => (if (t239 != t243) = true then (laws_FnStatesCountedOfAll.j1 kj5 a0 a1 a2 a3 a4 t238 t239 t246 t247 t250 bt254.1 bt258.1 true) else ((laws_yTexts.f kj5 t238 t242).bind fun t262 => (if t262 = true then (if (t247 != t249) = true then (laws_FnStatesCountedOfAll.j1 kj5 a0 a1 a2 a3 a4 t238 t239 t246 t247 t250 bt254.1 bt258.1 true) else (if t246 = t248 then (if (t251 != t253) = true then (laws_FnStatesCountedOfAll.j1 kj5 a0 a1 a2 a3 a4 t238 t239 t246 t247 t250 bt254.1 bt258.1 true) else (if t250.toList = t252.toList then (if (bt254.2 != bt256.2) = true then (laws_FnStatesCountedOfAll.j1 kj5 a0 a1 a2 a3 a4 t238 t239 t246 t247 t250 bt254.1 bt258.1 true) else (if bt254.1.toList = bt256.1.toList then (if (bt258.2 != bt260.2) = true then (laws_FnStatesCountedOfAll.j1 kj5 a0 a1 a2 a3 a4 t238 t239 t246 t247 t250 bt254.1 bt258.1 true) else (if bt258.1 = bt260.1 then (if (t251 != t247) = true then (laws_FnStatesCountedOfAll.j1 kj5 a0 a1 a2 a3 a4 t238 t239 t246 t247 t250 bt254.1 bt258.1 true) else (if (bt254.2 != t247) = true then (laws_FnStatesCountedOfAll.j1 kj5 a0 a1 a2 a3 a4 t238 t239 t246 t247 t250 bt254.1 bt258.1 true) else (if (bt258.2 != t247) = true then (laws_FnStatesCountedOfAll.j1 kj5 a0 a1 a2 a3 a4 t238 t239 t246 t247 t250 bt254.1 bt258.1 true) else (if t247 = true then (laws_FnStatesCountedOfAll.j1 kj5 a0 a1 a2 a3 a4 t238 t239 t246 t247 t250 bt254.1 bt258.1 (t239 != (decide (t246 ≤ 100)))) else (laws_FnStatesCountedOfAll.j1 kj5 a0 a1 a2 a3 a4 t238 t239 t246 t247 t250 bt254.1 bt258.1 (t239 != false)))))) else (laws_FnStatesCountedOfAll.j1 kj5 a0 a1 a2 a3 a4 t238 t239 t246 t247 t250 bt254.1 bt258.1 true))) else (laws_FnStatesCountedOfAll.j1 kj5 a0 a1 a2 a3 a4 t238 t239 t246 t247 t250 bt254.1 bt258.1 true))) else (laws_FnStatesCountedOfAll.j1 kj5 a0 a1 a2 a3 a4 t238 t239 t246 t247 t250 bt254.1 bt258.1 true))) else (laws_FnStatesCountedOfAll.j1 kj5 a0 a1 a2 a3 a4 t238 t239 t246 t247 t250 bt254.1 bt258.1 true))) else (laws_FnStatesCountedOfAll.j1 kj5 a0 a1 a2 a3 a4 t238 t239 t246 t247 t250 bt254.1 bt258.1 true)))))))) = some r := H
    have A14 := Aside0.mk A140
    clear A140
    replace H := Option.bind_eq_some_iff.mp H
    obtain ⟨⟨t254, t255⟩, A150, H⟩ := H
    replace H : ((spec_GreatestWithOn.f kj5 a0 a1).bind fun bt256 => ((impl_SumWithOn.f kj5 a0 a1).bind fun bt258 => ((spec_SumWithOn.f kj5 a0 a1).bind fun bt260 => (if (t239 != t243) = true then (laws_FnStatesCountedOfAll.j1 kj5 a0 a1 a2 a3 a4 t238 t239 t246 t247 t250 t254 bt258.1 true) else ((laws_yTexts.f kj5 t238 t242).bind fun t262 => (if t262 = true then (if (t247 != t249) = true then (laws_FnStatesCountedOfAll.j1 kj5 a0 a1 a2 a3 a4 t238 t239 t246 t247 t250 t254 bt258.1 true) else (if t246 = t248 then (if (t251 != t253) = true then (laws_FnStatesCountedOfAll.j1 kj5 a0 a1 a2 a3 a4 t238 t239 t246 t247 t250 t254 bt258.1 true) else (if t250.toList = t252.toList then (if (t255 != bt256.2) = true then (laws_FnStatesCountedOfAll.j1 kj5 a0 a1 a2 a3 a4 t238 t239 t246 t247 t250 t254 bt258.1 true) else (if t254.toList = bt256.1.toList then (if (bt258.2 != bt260.2) = true then (laws_FnStatesCountedOfAll.j1 kj5 a0 a1 a2 a3 a4 t238 t239 t246 t247 t250 t254 bt258.1 true) else (if bt258.1 = bt260.1 then (if (t251 != t247) = true then (laws_FnStatesCountedOfAll.j1 kj5 a0 a1 a2 a3 a4 t238 t239 t246 t247 t250 t254 bt258.1 true) else (if (t255 != t247) = true then (laws_FnStatesCountedOfAll.j1 kj5 a0 a1 a2 a3 a4 t238 t239 t246 t247 t250 t254 bt258.1 true) else (if (bt258.2 != t247) = true then (laws_FnStatesCountedOfAll.j1 kj5 a0 a1 a2 a3 a4 t238 t239 t246 t247 t250 t254 bt258.1 true) else (if t247 = true then (laws_FnStatesCountedOfAll.j1 kj5 a0 a1 a2 a3 a4 t238 t239 t246 t247 t250 t254 bt258.1 (t239 != (decide (t246 ≤ 100)))) else (laws_FnStatesCountedOfAll.j1 kj5 a0 a1 a2 a3 a4 t238 t239 t246 t247 t250 t254 bt258.1 (t239 != false)))))) else (laws_FnStatesCountedOfAll.j1 kj5 a0 a1 a2 a3 a4 t238 t239 t246 t247 t250 t254 bt258.1 true))) else (laws_FnStatesCountedOfAll.j1 kj5 a0 a1 a2 a3 a4 t238 t239 t246 t247 t250 t254 bt258.1 true))) else (laws_FnStatesCountedOfAll.j1 kj5 a0 a1 a2 a3 a4 t238 t239 t246 t247 t250 t254 bt258.1 true))) else (laws_FnStatesCountedOfAll.j1 kj5 a0 a1 a2 a3 a4 t238 t239 t246 t247 t250 t254 bt258.1 true))) else (laws_FnStatesCountedOfAll.j1 kj5 a0 a1 a2 a3 a4 t238 t239 t246 t247 t250 t254 bt258.1 true))))))) = some r := H
    have A15 := Aside0.mk A150
    clear A150
    replace H := Option.bind_eq_some_iff.mp H
    obtain ⟨⟨t256, t257⟩, A160, H⟩ := H
    replace H : ((impl_SumWithOn.f kj5 a0 a1).bind fun bt258 => ((spec_SumWithOn.f kj5 a0 a1).bind fun bt260 => (if (t239 != t243) = true then (laws_FnStatesCountedOfAll.j1 kj5 a0 a1 a2 a3 a4 t238 t239 t246 t247 t250 t254 bt258.1 true) else ((laws_yTexts.f kj5 t238 t242).bind fun t262 => (if t262 = true then (if (t247 != t249) = true then (laws_FnStatesCountedOfAll.j1 kj5 a0 a1 a2 a3 a4 t238 t239 t246 t247 t250 t254 bt258.1 true) else (if t246 = t248 then (if (t251 != t253) = true then (laws_FnStatesCountedOfAll.j1 kj5 a0 a1 a2 a3 a4 t238 t239 t246 t247 t250 t254 bt258.1 true) else (if t250.toList = t252.toList then (if (t255 != t257) = true then (laws_FnStatesCountedOfAll.j1 kj5 a0 a1 a2 a3 a4 t238 t239 t246 t247 t250 t254 bt258.1 true) else (if t254.toList = t256.toList then (if (bt258.2 != bt260.2) = true then (laws_FnStatesCountedOfAll.j1 kj5 a0 a1 a2 a3 a4 t238 t239 t246 t247 t250 t254 bt258.1 true) else (if bt258.1 = bt260.1 then (if (t251 != t247) = true then (laws_FnStatesCountedOfAll.j1 kj5 a0 a1 a2 a3 a4 t238 t239 t246 t247 t250 t254 bt258.1 true) else (if (t255 != t247) = true then (laws_FnStatesCountedOfAll.j1 kj5 a0 a1 a2 a3 a4 t238 t239 t246 t247 t250 t254 bt258.1 true) else (if (bt258.2 != t247) = true then (laws_FnStatesCountedOfAll.j1 kj5 a0 a1 a2 a3 a4 t238 t239 t246 t247 t250 t254 bt258.1 true) else (if t247 = true then (laws_FnStatesCountedOfAll.j1 kj5 a0 a1 a2 a3 a4 t238 t239 t246 t247 t250 t254 bt258.1 (t239 != (decide (t246 ≤ 100)))) else (laws_FnStatesCountedOfAll.j1 kj5 a0 a1 a2 a3 a4 t238 t239 t246 t247 t250 t254 bt258.1 (t239 != false)))))) else (laws_FnStatesCountedOfAll.j1 kj5 a0 a1 a2 a3 a4 t238 t239 t246 t247 t250 t254 bt258.1 true))) else (laws_FnStatesCountedOfAll.j1 kj5 a0 a1 a2 a3 a4 t238 t239 t246 t247 t250 t254 bt258.1 true))) else (laws_FnStatesCountedOfAll.j1 kj5 a0 a1 a2 a3 a4 t238 t239 t246 t247 t250 t254 bt258.1 true))) else (laws_FnStatesCountedOfAll.j1 kj5 a0 a1 a2 a3 a4 t238 t239 t246 t247 t250 t254 bt258.1 true))) else (laws_FnStatesCountedOfAll.j1 kj5 a0 a1 a2 a3 a4 t238 t239 t246 t247 t250 t254 bt258.1 true)))))) = some r := H
    have A16 := Aside0.mk A160
    clear A160
    replace H := Option.bind_eq_some_iff.mp H
    obtain ⟨⟨t258, t259⟩, A170, H⟩ := H
    replace H : ((spec_SumWithOn.f kj5 a0 a1).bind fun bt260 => (if (t239 != t243) = true then (laws_FnStatesCountedOfAll.j1 kj5 a0 a1 a2 a3 a4 t238 t239 t246 t247 t250 t254 t258 true) else ((laws_yTexts.f kj5 t238 t242).bind fun t262 => (if t262 = true then (if (t247 != t249) = true then (laws_FnStatesCountedOfAll.j1 kj5 a0 a1 a2 a3 a4 t238 t239 t246 t247 t250 t254 t258 true) else (if t246 = t248 then (if (t251 != t253) = true then (laws_FnStatesCountedOfAll.j1 kj5 a0 a1 a2 a3 a4 t238 t239 t246 t247 t250 t254 t258 true) else (if t250.toList = t252.toList then (if (t255 != t257) = true then (laws_FnStatesCountedOfAll.j1 kj5 a0 a1 a2 a3 a4 t238 t239 t246 t247 t250 t254 t258 true) else (if t254.toList = t256.toList then (if (t259 != bt260.2) = true then (laws_FnStatesCountedOfAll.j1 kj5 a0 a1 a2 a3 a4 t238 t239 t246 t247 t250 t254 t258 true) else (if t258 = bt260.1 then (if (t251 != t247) = true then (laws_FnStatesCountedOfAll.j1 kj5 a0 a1 a2 a3 a4 t238 t239 t246 t247 t250 t254 t258 true) else (if (t255 != t247) = true then (laws_FnStatesCountedOfAll.j1 kj5 a0 a1 a2 a3 a4 t238 t239 t246 t247 t250 t254 t258 true) else (if (t259 != t247) = true then (laws_FnStatesCountedOfAll.j1 kj5 a0 a1 a2 a3 a4 t238 t239 t246 t247 t250 t254 t258 true) else (if t247 = true then (laws_FnStatesCountedOfAll.j1 kj5 a0 a1 a2 a3 a4 t238 t239 t246 t247 t250 t254 t258 (t239 != (decide (t246 ≤ 100)))) else (laws_FnStatesCountedOfAll.j1 kj5 a0 a1 a2 a3 a4 t238 t239 t246 t247 t250 t254 t258 (t239 != false)))))) else (laws_FnStatesCountedOfAll.j1 kj5 a0 a1 a2 a3 a4 t238 t239 t246 t247 t250 t254 t258 true))) else (laws_FnStatesCountedOfAll.j1 kj5 a0 a1 a2 a3 a4 t238 t239 t246 t247 t250 t254 t258 true))) else (laws_FnStatesCountedOfAll.j1 kj5 a0 a1 a2 a3 a4 t238 t239 t246 t247 t250 t254 t258 true))) else (laws_FnStatesCountedOfAll.j1 kj5 a0 a1 a2 a3 a4 t238 t239 t246 t247 t250 t254 t258 true))) else (laws_FnStatesCountedOfAll.j1 kj5 a0 a1 a2 a3 a4 t238 t239 t246 t247 t250 t254 t258 true))))) = some r := H
    have A17 := Aside0.mk A170
    clear A170
    replace H := Option.bind_eq_some_iff.mp H
    obtain ⟨⟨t260, t261⟩, A180, H⟩ := H
    replace H : (if (t239 != t243) = true then (laws_FnStatesCountedOfAll.j1 kj5 a0 a1 a2 a3 a4 t238 t239 t246 t247 t250 t254 t258 true) else ((laws_yTexts.f kj5 t238 t242).bind fun t262 => (if t262 = true then (if (t247 != t249) = true then (laws_FnStatesCountedOfAll.j1 kj5 a0 a1 a2 a3 a4 t238 t239 t246 t247 t250 t254 t258 true) else (if t246 = t248 then (if (t251 != t253) = true then (laws_FnStatesCountedOfAll.j1 kj5 a0 a1 a2 a3 a4 t238 t239 t246 t247 t250 t254 t258 true) else (if t250.toList = t252.toList then (if (t255 != t257) = true then (laws_FnStatesCountedOfAll.j1 kj5 a0 a1 a2 a3 a4 t238 t239 t246 t247 t250 t254 t258 true) else (if t254.toList = t256.toList then (if (t259 != t261) = true then (laws_FnStatesCountedOfAll.j1 kj5 a0 a1 a2 a3 a4 t238 t239 t246 t247 t250 t254 t258 true) else (if t258 = t260 then (if (t251 != t247) = true then (laws_FnStatesCountedOfAll.j1 kj5 a0 a1 a2 a3 a4 t238 t239 t246 t247 t250 t254 t258 true) else (if (t255 != t247) = true then (laws_FnStatesCountedOfAll.j1 kj5 a0 a1 a2 a3 a4 t238 t239 t246 t247 t250 t254 t258 true) else (if (t259 != t247) = true then (laws_FnStatesCountedOfAll.j1 kj5 a0 a1 a2 a3 a4 t238 t239 t246 t247 t250 t254 t258 true) else (if t247 = true then (laws_FnStatesCountedOfAll.j1 kj5 a0 a1 a2 a3 a4 t238 t239 t246 t247 t250 t254 t258 (t239 != (decide (t246 ≤ 100)))) else (laws_FnStatesCountedOfAll.j1 kj5 a0 a1 a2 a3 a4 t238 t239 t246 t247 t250 t254 t258 (t239 != false)))))) else (laws_FnStatesCountedOfAll.j1 kj5 a0 a1 a2 a3 a4 t238 t239 t246 t247 t250 t254 t258 true))) else (laws_FnStatesCountedOfAll.j1 kj5 a0 a1 a2 a3 a4 t238 t239 t246 t247 t250 t254 t258 true))) else (laws_FnStatesCountedOfAll.j1 kj5 a0 a1 a2 a3 a4 t238 t239 t246 t247 t250 t254 t258 true))) else (laws_FnStatesCountedOfAll.j1 kj5 a0 a1 a2 a3 a4 t238 t239 t246 t247 t250 t254 t258 true))) else (laws_FnStatesCountedOfAll.j1 kj5 a0 a1 a2 a3 a4 t238 t239 t246 t247 t250 t254 t258 true)))) = some r := H
    have A18 := Aside0.mk A180
    clear A180
    have HC19 := Aside0.mk H
    clear H
    go_upto_region 13 with (first | ((with_reducible refine gate_callee (f := 57) rfl ?_); refine goesL_ (some 88) rfl rfl Tryd.func57 (by kernel_rfl) rfl #[.int .i64 a0, .int .i64 a1] rfl (by (try simp only [List.map_toArray, List.map_cons, List.map_nil]); first | done | rfl | (simp only [List.length_drop, List.length_take]; rfl)) ?_; (with_reducible refine (impl_StatesWithOn.calls kj5 a0 a1 t238 t239 _ A9.out).mono ?_); rintro e w20 ⟨v240, rfl, ho0, hb⟩; refine ⟨_, rfl, ?_⟩; have n0_ := Aside0.mk (Kd.R_lower ho0 (below_size (by repeat (first | (with_reducible first | exact HB.out | apply below_alloc | apply pw_below_drewN | apply below_drew1) | exact HB.out)))); have n1_ := Aside0.mk (below_step (by repeat (first | (with_reducible first | exact HB.out | apply below_alloc | apply pw_below_drewN | apply below_drew1) | exact HB.out)) hb); clear HB; have HO241 := n0_; have HB := n1_; clear n0_ n1_; (try clear hb); (try clear hb2); (try clear hk); (try clear hi); (try clear ho0)) | ((with_reducible refine gate_callee (f := 58) rfl ?_); refine goesL_ (some 94) rfl rfl Tryd.func58 (by kernel_rfl) rfl #[.int .i64 a0, .int .i64 a1] rfl (by (try simp only [List.map_toArray, List.map_cons, List.map_nil]); first | done | rfl | (simp only [List.length_drop, List.length_take]; rfl)) ?_; (with_reducible refine (spec_StatesWithOn.calls kj5 a0 a1 t242 t243 _ A10.out).mono ?_); rintro e w21 ⟨v244, rfl, ho0, hb⟩; refine ⟨_, rfl, ?_⟩; have n0_ := Aside0.mk (Kd.R_elder' (by (with_reducible repeat (first | apply Kd.R_alloc | apply Kd.R_drewN | apply Kd.R_drew)); exact HO241.out) (Kd.R_base ho0) hb); have n1_ := Aside0.mk (Kd.R_lower (Kd.R_new' ho0 (Kd.R_lt (by (with_reducible repeat (first | apply Kd.R_alloc | apply Kd.R_drewN | apply Kd.R_drew)); exact HO241.out))) (below_size (by repeat (first | (with_reducible first | exact HB.out | apply below_alloc | apply pw_below_drewN | apply below_drew1) | exact HB.out)))); have n2_ := Aside0.mk (below_step (by repeat (first | (with_reducible first | exact HB.out | apply below_alloc | apply pw_below_drewN | apply below_drew1) | exact HB.out)) hb); clear HO241; clear HB; have HO241 := n0_; have HO245 := n1_; have HB := n2_; clear n0_ n1_ n2_; (try clear hb); (try clear hb2); (try clear hk); (try clear hi); (try clear ho0)) | ((with_reducible refine gate_callee (f := 59) rfl ?_); refine goesL_ (some 100) rfl rfl Tryd.func59 (by kernel_rfl) rfl #[.int .i64 a0, .int .i64 a1] rfl (by (try simp only [List.map_toArray, List.map_cons, List.map_nil]); first | done | rfl | (simp only [List.length_drop, List.length_take]; rfl)) ?_; (with_reducible refine (impl_CountWithOn.calls kj5 a0 a1 t246 t247 _ A11.out).mono ?_); rintro e w' ⟨rfl, ⟨nd, rfl⟩⟩; refine ⟨_, rfl, ?_⟩) | ((with_reducible refine gate_callee (f := 60) rfl ?_); refine goesL_ (some 106) rfl rfl Tryd.func60 (by kernel_rfl) rfl #[.int .i64 a0, .int .i64 a1] rfl (by (try simp only [List.map_toArray, List.map_cons, List.map_nil]); first | done | rfl | (simp only [List.length_drop, List.length_take]; rfl)) ?_; (with_reducible refine (spec_CountWithOn.calls kj5 a0 a1 t248 t249 _ A12.out).mono ?_); rintro e w22 ⟨rfl, hb⟩; refine ⟨_, rfl, ?_⟩; have n0_ := Aside0.mk (Kd.R_below (by (with_reducible repeat (first | apply Kd.R_alloc | apply Kd.R_drewN | apply Kd.R_drew)); exact HO241.out) hb); have n1_ := Aside0.mk (Kd.R_below (by (with_reducible repeat (first | apply Kd.R_alloc | apply Kd.R_drewN | apply Kd.R_drew)); exact HO245.out) hb); have n2_ := Aside0.mk (below_step (by repeat (first | (with_reducible first | exact HB.out | apply below_alloc | apply pw_below_drewN | apply below_drew1) | exact HB.out)) hb); clear HO241; clear HO245; clear HB; have HO241 := n0_; have HO245 := n1_; have HB := n2_; clear n0_ n1_ n2_; (try clear hb); (try clear hb2); (try clear hk); (try clear hi)) | ((with_reducible refine gate_callee (f := 61) rfl ?_); refine goesL_ (some 112) rfl rfl Tryd.func61 (by kernel_rfl) rfl #[.int .i64 a0, .int .i64 a1] rfl (by (try simp only [List.map_toArray, List.map_cons, List.map_nil]); first | done | rfl | (simp only [List.length_drop, List.length_take]; rfl)) ?_; (with_reducible refine (impl_LeastWithOn.calls kj5 a0 a1 t250 t251 _ A13.out).mono ?_); rintro e w23 ⟨rfl, hb⟩; refine ⟨_, rfl, ?_⟩; have n0_ := Aside0.mk (Kd.R_below (by (with_reducible repeat (first | apply Kd.R_alloc | apply Kd.R_drewN | apply Kd.R_drew)); exact HO241.out) hb); have n1_ := Aside0.mk (Kd.R_below (by (with_reducible repeat (first | apply Kd.R_alloc | apply Kd.R_drewN | apply Kd.R_drew)); exact HO245.out) hb); have n2_ := Aside0.mk (below_step (by repeat (first | (with_reducible first | exact HB.out | apply below_alloc | apply pw_below_drewN | apply below_drew1) | exact HB.out)) hb); clear HO241; clear HO245; clear HB; have HO241 := n0_; have HO245 := n1_; have HB := n2_; clear n0_ n1_ n2_; (try clear hb); (try clear hb2); (try clear hk); (try clear hi)) | ((with_reducible refine gate_callee (f := 62) rfl ?_); refine goesL_ (some 118) rfl rfl Tryd.func62 (by kernel_rfl) rfl #[.int .i64 a0, .int .i64 a1] rfl (by (try simp only [List.map_toArray, List.map_cons, List.map_nil]); first | done | rfl | (simp only [List.length_drop, List.length_take]; rfl)) ?_; (with_reducible refine (spec_LeastWithOn.calls kj5 a0 a1 t252 t253 _ A14.out).mono ?_); rintro e w24 ⟨rfl, hb⟩; refine ⟨_, rfl, ?_⟩; have n0_ := Aside0.mk (Kd.R_below (by (with_reducible repeat (first | apply Kd.R_alloc | apply Kd.R_drewN | apply Kd.R_drew)); exact HO241.out) hb); have n1_ := Aside0.mk (Kd.R_below (by (with_reducible repeat (first | apply Kd.R_alloc | apply Kd.R_drewN | apply Kd.R_drew)); exact HO245.out) hb); have n2_ := Aside0.mk (below_step (by repeat (first | (with_reducible first | exact HB.out | apply below_alloc | apply pw_below_drewN | apply below_drew1) | exact HB.out)) hb); clear HO241; clear HO245; clear HB; have HO241 := n0_; have HO245 := n1_; have HB := n2_; clear n0_ n1_ n2_; (try clear hb); (try clear hb2); (try clear hk); (try clear hi)) | ((with_reducible refine gate_callee (f := 63) rfl ?_); refine goesL_ (some 124) rfl rfl Tryd.func63 (by kernel_rfl) rfl #[.int .i64 a0, .int .i64 a1] rfl (by (try simp only [List.map_toArray, List.map_cons, List.map_nil]); first | done | rfl | (simp only [List.length_drop, List.length_take]; rfl)) ?_; (with_reducible refine (impl_GreatestWithOn.calls kj5 a0 a1 t254 t255 _ A15.out).mono ?_); rintro e w25 ⟨rfl, hb⟩; refine ⟨_, rfl, ?_⟩; have n0_ := Aside0.mk (Kd.R_below (by (with_reducible repeat (first | apply Kd.R_alloc | apply Kd.R_drewN | apply Kd.R_drew)); exact HO241.out) hb); have n1_ := Aside0.mk (Kd.R_below (by (with_reducible repeat (first | apply Kd.R_alloc | apply Kd.R_drewN | apply Kd.R_drew)); exact HO245.out) hb); have n2_ := Aside0.mk (below_step (by repeat (first | (with_reducible first | exact HB.out | apply below_alloc | apply pw_below_drewN | apply below_drew1) | exact HB.out)) hb); clear HO241; clear HO245; clear HB; have HO241 := n0_; have HO245 := n1_; have HB := n2_; clear n0_ n1_ n2_; (try clear hb); (try clear hb2); (try clear hk); (try clear hi)) | ((with_reducible refine gate_callee (f := 64) rfl ?_); refine goesL_ (some 130) rfl rfl Tryd.func64 (by kernel_rfl) rfl #[.int .i64 a0, .int .i64 a1] rfl (by (try simp only [List.map_toArray, List.map_cons, List.map_nil]); first | done | rfl | (simp only [List.length_drop, List.length_take]; rfl)) ?_; (with_reducible refine (spec_GreatestWithOn.calls kj5 a0 a1 t256 t257 _ A16.out).mono ?_); rintro e w26 ⟨rfl, hb⟩; refine ⟨_, rfl, ?_⟩; have n0_ := Aside0.mk (Kd.R_below (by (with_reducible repeat (first | apply Kd.R_alloc | apply Kd.R_drewN | apply Kd.R_drew)); exact HO241.out) hb); have n1_ := Aside0.mk (Kd.R_below (by (with_reducible repeat (first | apply Kd.R_alloc | apply Kd.R_drewN | apply Kd.R_drew)); exact HO245.out) hb); have n2_ := Aside0.mk (below_step (by repeat (first | (with_reducible first | exact HB.out | apply below_alloc | apply pw_below_drewN | apply below_drew1) | exact HB.out)) hb); clear HO241; clear HO245; clear HB; have HO241 := n0_; have HO245 := n1_; have HB := n2_; clear n0_ n1_ n2_; (try clear hb); (try clear hb2); (try clear hk); (try clear hi)) | ((with_reducible refine gate_callee (f := 65) rfl ?_); refine goesL_ (some 136) rfl rfl Tryd.func65 (by kernel_rfl) rfl #[.int .i64 a0, .int .i64 a1] rfl (by (try simp only [List.map_toArray, List.map_cons, List.map_nil]); first | done | rfl | (simp only [List.length_drop, List.length_take]; rfl)) ?_; (with_reducible refine (impl_SumWithOn.calls kj5 a0 a1 t258 t259 _ A17.out).mono ?_); rintro e w27 ⟨rfl, hb⟩; refine ⟨_, rfl, ?_⟩; have n0_ := Aside0.mk (Kd.R_below (by (with_reducible repeat (first | apply Kd.R_alloc | apply Kd.R_drewN | apply Kd.R_drew)); exact HO241.out) hb); have n1_ := Aside0.mk (Kd.R_below (by (with_reducible repeat (first | apply Kd.R_alloc | apply Kd.R_drewN | apply Kd.R_drew)); exact HO245.out) hb); have n2_ := Aside0.mk (below_step (by repeat (first | (with_reducible first | exact HB.out | apply below_alloc | apply pw_below_drewN | apply below_drew1) | exact HB.out)) hb); clear HO241; clear HO245; clear HB; have HO241 := n0_; have HO245 := n1_; have HB := n2_; clear n0_ n1_ n2_; (try clear hb); (try clear hb2); (try clear hk); (try clear hi)) | ((with_reducible refine gate_callee (f := 66) rfl ?_); refine goesL_ (some 142) rfl rfl Tryd.func66 (by kernel_rfl) rfl #[.int .i64 a0, .int .i64 a1] rfl (by (try simp only [List.map_toArray, List.map_cons, List.map_nil]); first | done | rfl | (simp only [List.length_drop, List.length_take]; rfl)) ?_; (with_reducible refine (spec_SumWithOn.calls kj5 a0 a1 t260 t261 _ A18.out).mono ?_); rintro e w28 ⟨rfl, hb⟩; refine ⟨_, rfl, ?_⟩; have n0_ := Aside0.mk (Kd.R_below (by (with_reducible repeat (first | apply Kd.R_alloc | apply Kd.R_drewN | apply Kd.R_drew)); exact HO241.out) hb); have n1_ := Aside0.mk (Kd.R_below (by (with_reducible repeat (first | apply Kd.R_alloc | apply Kd.R_drewN | apply Kd.R_drew)); exact HO245.out) hb); have n2_ := Aside0.mk (below_step (by repeat (first | (with_reducible first | exact HB.out | apply below_alloc | apply pw_below_drewN | apply below_drew1) | exact HB.out)) hb); clear HO241; clear HO245; clear HB; have HO241 := n0_; have HO245 := n1_; have HB := n2_; clear n0_ n1_ n2_; (try clear hb); (try clear hb2); (try clear hk); (try clear hi)))
    (try simp only [Act.put, List.setIfInBounds_toArray, List.set_cons_zero, List.set_cons_succ])
    refine wp_cutv [217] [0, 0, 0, 0, 0, 0, 0, 0, 0, 0, 0, 0, 0, 0, 0, 0, 0, 0, 0, 0, 0, 0, 0, 0, 0, 0, 0, 0, 0, 0, 0, 0, 0, 0, 0, 0, 0, 0, 0, 0, 0, 0, 0, 0, 0, 0, 0, 0, 0, 0, 0, 0, 0, 0, 0, 0, 0, 0, 0, 0, 0, 0, 0, 0, 0, 0, 0, 0, 0, 0, 0, 0, 0, 0, 0, 0, 0, 1, 1, 1, 1, 1, 1, 1, 1, 1, 1, 1, 1, 1, 1, 1, 1, 1, 1, 1, 1, 1, 1, 1, 1, 1, 1, 1, 1, 1, 1, 1, 1, 1, 1, 1, 1, 1, 1, 1, 1, 1, 1, 1, 1, 1, 1, 1, 1, 1, 1, 1, 1, 1, 1, 1, 1, 1, 1, 1, 1, 1, 1, 1, 1, 1, 1, 1, 1, 1, 1, 1, 1, 1, 1, 1, 1, 1, 1, 1, 1, 1, 1, 1, 1, 1, 1, 1, 1, 1, 1, 1, 1, 1, 1, 1, 1, 1, 1, 1, 1, 1, 1, 1, 1, 1, 1, 1, 1, 1, 1, 1, 1, 1, 1, 1, 1, 1, 1, 1, 1, 1, 1, 1, 1, 1, 1, 1, 1, 1, 1, 1, 1, 1, 1, 1, 1, 1, 1, 1, 1, 2, 1, 1, 1, 1, 1, 1, 1, 1, 1, 1, 1, 1, 1, 1, 1, 1, 1, 1, 1, 1, 1, 1, 1, 1, 1, 1, 1, 1, 1, 1, 1, 1, 1, 1, 1, 1, 1, 1, 1, 1, 1, 1, 1, 1, 1, 1, 1, 1, 1, 1, 1, 1, 1, 1, 1, 1, 1, 1, 1, 1, 1, 1, 1, 1, 1, 1, 1, 1, 1, 1, 1, 1, 1, 1, 1, 1, 1, 1, 1, 1, 1, 1, 1, 0, 0, 0, 1, 1, 1, 1, 1, 1, 1, 1, 1, 1, 1, 1, 1, 1, 1, 1, 1, 1, 1, 1, 1, 1, 1, 1, 1, 1, 1, 1, 1, 1, 1, 1, 1, 1, 1, 1, 1, 1, 1, 1, 1, 1, 1, 1, 1, 1, 1, 1, 1, 1, 1, 1, 1, 1, 1, 1, 1, 1, 1, 1, 1, 1, 1, 1, 1, 1, 1, 1, 1, 1, 1, 1, 1, 1, 1, 1, 1, 1, 1, 1, 1, 1, 1, 1, 1, 1, 1, 1, 1, 1, 1, 1, 1, 1, 1, 1, 1, 1, 1, 1, 1, 1, 1, 1, 1, 1, 1, 1, 1, 1, 1, 1, 1, 1, 1, 1, 1, 1, 1, 1, 1, 1, 1, 1, 1, 1, 1, 1, 1, 1, 1, 1, 1, 1, 1, 1, 1, 1, 1, 1, 1, 1, 1, 1, 1, 1, 1, 1, 1, 1, 1, 1, 1, 1, 1, 1, 1, 1, 1, 1, 1, 1, 1, 1, 1, 1, 1, 1, 1, 1, 1, 1, 1, 1, 1, 1, 1, 1, 1, 1, 1, 1, 0, 0, 0, 1, 1, 1, 1, 1, 1, 1, 1, 1, 1, 1, 1, 1, 1, 1, 1, 1, 1, 1, 1, 1, 1] (fun vs_ wc => ∃ v217, vs_ = [v217] ∧ ∃ (kq : Nat) (x217_18 : Bool), v217 = .bool x217_18 ∧ Aside0 (laws_FnStatesCountedOfAll.j1 kq a0 a1 a2 a3 a4 t238 t239 t246 t247 t250 t254 t258 x217_18 = some r) ∧ Aside0 (kq ≤ kj5) ∧ Aside0 (Kd.R Kd.string 9 wc w.heap.size (fun _ => True) v240 t238) ∧ Aside0 (Below w.heap.size w wc)) ?first2 ?rest2
    case first2 =>
     as_aux_lemma =>
     intro _ _ _ _
     (try dsimp only [List.append])
     have H := HC19.out
     clear HC19
     by_cases c29 : (t239 != t243) = true
     ·rw [if_pos c29] at H
      have c29b0 : (t239 != t243) = true := c29
      (try (have c29b1 : decide (t239 = t243) = false := by simpa using c29))
      (try (have c29b2 : (t239 == t243) = false := by simpa using c29))
      (try (have c29b3 : ¬ (t239 = t243) := by simpa using c29))
      clear c29
      (first | rw [c29b0] | (simp only [i64_w, i32_w]; rw [c29b0]) | skip)
      have H' := Aside0.mk H
      clear H
      go_wp2
      refine Met.intro ?_
      go_step
      refine ⟨[_], ⟨rfl, trivial⟩, ⟨_, rfl, ?rel⟩, by kernel_rfl⟩
      case rel => exact ⟨_, (true), (by first | rfl | (simp; done) | (simp [*]; done)), H', ⟨by have := HJ5.out; first | omega | exact Nat.le_refl _⟩, ⟨by (with_reducible repeat (first | apply Kd.R_alloc | apply Kd.R_drewN | apply Kd.R_drew)); exact Kd.R_mono HO241.out (fun _ hk => trivial)⟩, ⟨by repeat (first | (with_reducible first | exact HB.out | apply below_alloc | apply pw_below_drewN | apply below_drew1) | exact HB.out)⟩⟩
     ·rw [if_neg c29] at H
      have c29b0 : (t239 != t243) = false := by simpa using c29
      (try (have c29b1 : decide (t239 = t243) = true := by simpa using c29))
      (try (have c29b2 : (t239 == t243) = true := by simpa using c29))
      clear c29
      (first | rw [c29b0] | (simp only [i64_w, i32_w]; rw [c29b0]) | skip)
      replace H := Option.bind_eq_some_iff.mp H
      obtain ⟨t262, A300, H⟩ := H
      replace H : (if t262 = true then (if (t247 != t249) = true then (laws_FnStatesCountedOfAll.j1 kj5 a0 a1 a2 a3 a4 t238 t239 t246 t247 t250 t254 t258 true) else (if t246 = t248 then (if (t251 != t253) = true then (laws_FnStatesCountedOfAll.j1 kj5 a0 a1 a2 a3 a4 t238 t239 t246 t247 t250 t254 t258 true) else (if t250.toList = t252.toList then (if (t255 != t257) = true then (laws_FnStatesCountedOfAll.j1 kj5 a0 a1 a2 a3 a4 t238 t239 t246 t247 t250 t254 t258 true) else (if t254.toList = t256.toList then (if (t259 != t261) = true then (laws_FnStatesCountedOfAll.j1 kj5 a0 a1 a2 a3 a4 t238 t239 t246 t247 t250 t254 t258 true) else (if t258 = t260 then (if (t251 != t247) = true then (laws_FnStatesCountedOfAll.j1 kj5 a0 a1 a2 a3 a4 t238 t239 t246 t247 t250 t254 t258 true) else (if (t255 != t247) = true then (laws_FnStatesCountedOfAll.j1 kj5 a0 a1 a2 a3 a4 t238 t239 t246 t247 t250 t254 t258 true) else (if (t259 != t247) = true then (laws_FnStatesCountedOfAll.j1 kj5 a0 a1 a2 a3 a4 t238 t239 t246 t247 t250 t254 t258 true) else (if t247 = true then (laws_FnStatesCountedOfAll.j1 kj5 a0 a1 a2 a3 a4 t238 t239 t246 t247 t250 t254 t258 (t239 != (decide (t246 ≤ 100)))) else (laws_FnStatesCountedOfAll.j1 kj5 a0 a1 a2 a3 a4 t238 t239 t246 t247 t250 t254 t258 (t239 != false)))))) else (laws_FnStatesCountedOfAll.j1 kj5 a0 a1 a2 a3 a4 t238 t239 t246 t247 t250 t254 t258 true))) else (laws_FnStatesCountedOfAll.j1 kj5 a0 a1 a2 a3 a4 t238 t239 t246 t247 t250 t254 t258 true))) else (laws_FnStatesCountedOfAll.j1 kj5 a0 a1 a2 a3 a4 t238 t239 t246 t247 t250 t254 t258 true))) else (laws_FnStatesCountedOfAll.j1 kj5 a0 a1 a2 a3 a4 t238 t239 t246 t247 t250 t254 t258 true))) else (laws_FnStatesCountedOfAll.j1 kj5 a0 a1 a2 a3 a4 t238 t239 t246 t247 t250 t254 t258 true)) = some r := H
      have A30 := Aside0.mk A300
      clear A300
      by_cases c31 : t262 = true
      ·subst c31
       have H1 : (if (t247 != t249) = true then (laws_FnStatesCountedOfAll.j1 kj5 a0 a1 a2 a3 a4 t238 t239 t246 t247 t250 t254 t258 true) else (if t246 = t248 then (if (t251 != t253) = true then (laws_FnStatesCountedOfAll.j1 kj5 a0 a1 a2 a3 a4 t238 t239 t246 t247 t250 t254 t258 true) else (if t250.toList = t252.toList then (if (t255 != t257) = true then (laws_FnStatesCountedOfAll.j1 kj5 a0 a1 a2 a3 a4 t238 t239 t246 t247 t250 t254 t258 true) else (if t254.toList = t256.toList then (if (t259 != t261) = true then (laws_FnStatesCountedOfAll.j1 kj5 a0 a1 a2 a3 a4 t238 t239 t246 t247 t250 t254 t258 true) else (if t258 = t260 then (if (t251 != t247) = true then (laws_FnStatesCountedOfAll.j1 kj5 a0 a1 a2 a3 a4 t238 t239 t246 t247 t250 t254 t258 true) else (if (t255 != t247) = true then (laws_FnStatesCountedOfAll.j1 kj5 a0 a1 a2 a3 a4 t238 t239 t246 t247 t250 t254 t258 true) else (if (t259 != t247) = true then (laws_FnStatesCountedOfAll.j1 kj5 a0 a1 a2 a3 a4 t238 t239 t246 t247 t250 t254 t258 true) else (if t247 = true then (laws_FnStatesCountedOfAll.j1 kj5 a0 a1 a2 a3 a4 t238 t239 t246 t247 t250 t254 t258 (t239 != (decide (t246 ≤ 100)))) else (laws_FnStatesCountedOfAll.j1 kj5 a0 a1 a2 a3 a4 t238 t239 t246 t247 t250 t254 t258 (t239 != false)))))) else (laws_FnStatesCountedOfAll.j1 kj5 a0 a1 a2 a3 a4 t238 t239 t246 t247 t250 t254 t258 true))) else (laws_FnStatesCountedOfAll.j1 kj5 a0 a1 a2 a3 a4 t238 t239 t246 t247 t250 t254 t258 true))) else (laws_FnStatesCountedOfAll.j1 kj5 a0 a1 a2 a3 a4 t238 t239 t246 t247 t250 t254 t258 true))) else (laws_FnStatesCountedOfAll.j1 kj5 a0 a1 a2 a3 a4 t238 t239 t246 t247 t250 t254 t258 true))) = some r := by rw [if_pos rfl] at H; exact H
       clear H
       have H := H1
       clear H1
       by_cases c32 : (t247 != t249) = true
       ·rw [if_pos c32] at H
        have c32b0 : (t247 != t249) = true := c32
        (try (have c32b1 : decide (t247 = t249) = false := by simpa using c32))
        (try (have c32b2 : (t247 == t249) = false := by simpa using c32))
        (try (have c32b3 : ¬ (t247 = t249) := by simpa using c32))
        clear c32
        have H' := Aside0.mk H
        clear H
        obtain ⟨Ao33, co33, eo33⟩ := Kd.R_slice HO241.out
        subst eo33
        obtain ⟨Ao34, co34, eo34⟩ := Kd.R_slice HO245.out
        subst eo34
        go_wp2_with (first | (go_at_call 35; (with_reducible refine (laws_yTexts.calls kj5 _ _ t238 _ _ t242 true _ ?side1 ?side2 ?side3 ?side4 A30.out).mono ?_); (case side1 => repeat (first | exact (Kd.R_reads' HO241.out).2.2 | (with_reducible refine Kd.C_alloc ?_ _) | (with_reducible refine Kd.C_drewN ?_ _) | (with_reducible refine Kd.C_drew ?_))); (case side2 => exact (Kd.R_reads' HO241.out).2.1); (case side3 => repeat (first | exact (Kd.R_reads' HO245.out).2.2 | (with_reducible refine Kd.C_alloc ?_ _) | (with_reducible refine Kd.C_drewN ?_ _) | (with_reducible refine Kd.C_drew ?_))); (case side4 => exact (Kd.R_reads' HO245.out).2.1); rintro e w' ⟨rfl, ⟨nd, rfl⟩⟩))
        refine Met.intro ?_
        go_step
        refine ⟨[_], ⟨rfl, trivial⟩, ⟨_, rfl, ?rel⟩, by kernel_rfl⟩
        case rel => exact ⟨_, (true), (by first | rfl | (simp; done) | (simp [*]; done)), H', ⟨by have := HJ5.out; first | omega | exact Nat.le_refl _⟩, ⟨by (with_reducible repeat (first | apply Kd.R_alloc | apply Kd.R_drewN | apply Kd.R_drew)); exact Kd.R_mono HO241.out (fun _ hk => trivial)⟩, ⟨by repeat (first | (with_reducible first | exact HB.out | apply below_alloc | apply pw_below_drewN | apply below_drew1) | exact HB.out)⟩⟩
       ·rw [if_neg c32] at H
        have c32b0 : (t247 != t249) = false := by simpa using c32
        (try (have c32b1 : decide (t247 = t249) = true := by simpa using c32))
        (try (have c32b2 : (t247 == t249) = true := by simpa using c32))
        clear c32
        by_cases c35 : t246 = t248
        ·rw [if_pos c35] at H
         have c35b0 : (t246 == t248) = true := beq_iff_eq.mpr c35
         have c35b1 : (t246 != t248) = false := bne_eq_false_iff_eq.mpr c35
         clear c35
         by_cases c36 : (t251 != t253) = true
         ·rw [if_pos c36] at H
          have c36b0 : (t251 != t253) = true := c36
          (try (have c36b1 : decide (t251 = t253) = false := by simpa using c36))
          (try (have c36b2 : (t251 == t253) = false := by simpa using c36))
          (try (have c36b3 : ¬ (t251 = t253) := by simpa using c36))
          clear c36
          have H' := Aside0.mk H
          clear H
          obtain ⟨Ao37, co37, eo37⟩ := Kd.R_slice HO241.out
          subst eo37
          obtain ⟨Ao38, co38, eo38⟩ := Kd.R_slice HO245.out
          subst eo38
          go_wp2_with (first | (go_at_call 35; (with_reducible refine (laws_yTexts.calls kj5 _ _ t238 _ _ t242 true _ ?side1 ?side2 ?side3 ?side4 A30.out).mono ?_); (case side1 => repeat (first | exact (Kd.R_reads' HO241.out).2.2 | (with_reducible refine Kd.C_alloc ?_ _) | (with_reducible refine Kd.C_drewN ?_ _) | (with_reducible refine Kd.C_drew ?_))); (case side2 => exact (Kd.R_reads' HO241.out).2.1); (case side3 => repeat (first | exact (Kd.R_reads' HO245.out).2.2 | (with_reducible refine Kd.C_alloc ?_ _) | (with_reducible refine Kd.C_drewN ?_ _) | (with_reducible refine Kd.C_drew ?_))); (case side4 => exact (Kd.R_reads' HO245.out).2.1); rintro e w' ⟨rfl, ⟨nd, rfl⟩⟩))
          refine Met.intro ?_
          go_step
          refine ⟨[_], ⟨rfl, trivial⟩, ⟨_, rfl, ?rel⟩, by kernel_rfl⟩
          case rel => exact ⟨_, (true), (by first | rfl | (simp; done) | (simp [*]; done)), H', ⟨by have := HJ5.out; first | omega | exact Nat.le_refl _⟩, ⟨by (with_reducible repeat (first | apply Kd.R_alloc | apply Kd.R_drewN | apply Kd.R_drew)); exact Kd.R_mono HO241.out (fun _ hk => trivial)⟩, ⟨by repeat (first | (with_reducible first | exact HB.out | apply below_alloc | apply pw_below_drewN | apply below_drew1) | exact HB.out)⟩⟩
         ·rw [if_neg c36] at H
          have c36b0 : (t251 != t253) = false := by simpa using c36
          (try (have c36b1 : decide (t251 = t253) = true := by simpa using c36))
          (try (have c36b2 : (t251 == t253) = true := by simpa using c36))
          clear c36
          by_cases c39 : t250.toList = t252.toList
          ·rw [if_pos c39] at H
           have c39b0 : (t250.toList == t252.toList) = true := beq_iff_eq.mpr c39
           have c39b1 : (t250.toList != t252.toList) = false := bne_eq_false_iff_eq.mpr c39
           clear c39
           by_cases c40 : (t255 != t257) = true
           ·rw [if_pos c40] at H
            have c40b0 : (t255 != t257) = true := c40
            (try (have c40b1 : decide (t255 = t257) = false := by simpa using c40))
            (try (have c40b2 : (t255 == t257) = false := by simpa using c40))
            (try (have c40b3 : ¬ (t255 = t257) := by simpa using c40))
            clear c40
            have H' := Aside0.mk H
            clear H
            obtain ⟨Ao41, co41, eo41⟩ := Kd.R_slice HO241.out
            subst eo41
            obtain ⟨Ao42, co42, eo42⟩ := Kd.R_slice HO245.out
            subst eo42
            go_wp2_with (first | (go_at_call 35; (with_reducible refine (laws_yTexts.calls kj5 _ _ t238 _ _ t242 true _ ?side1 ?side2 ?side3 ?side4 A30.out).mono ?_); (case side1 => repeat (first | exact (Kd.R_reads' HO241.out).2.2 | (with_reducible refine Kd.C_alloc ?_ _) | (with_reducible refine Kd.C_drewN ?_ _) | (with_reducible refine Kd.C_drew ?_))); (case side2 => exact (Kd.R_reads' HO241.out).2.1); (case side3 => repeat (first | exact (Kd.R_reads' HO245.out).2.2 | (with_reducible refine Kd.C_alloc ?_ _) | (with_reducible refine Kd.C_drewN ?_ _) | (with_reducible refine Kd.C_drew ?_))); (case side4 => exact (Kd.R_reads' HO245.out).2.1); rintro e w' ⟨rfl, ⟨nd, rfl⟩⟩))
            refine Met.intro ?_
            go_step
            refine ⟨[_], ⟨rfl, trivial⟩, ⟨_, rfl, ?rel⟩, by kernel_rfl⟩
            case rel => exact ⟨_, (true), (by first | rfl | (simp; done) | (simp [*]; done)), H', ⟨by have := HJ5.out; first | omega | exact Nat.le_refl _⟩, ⟨by (with_reducible repeat (first | apply Kd.R_alloc | apply Kd.R_drewN | apply Kd.R_drew)); exact Kd.R_mono HO241.out (fun _ hk => trivial)⟩, ⟨by repeat (first | (with_reducible first | exact HB.out | apply below_alloc | apply pw_below_drewN | apply below_drew1) | exact HB.out)⟩⟩
           ·rw [if_neg c40] at H
            have c40b0 : (t255 != t257) = false := by simpa using c40
            (try (have c40b1 : decide (t255 = t257) = true := by simpa using c40))
            (try (have c40b2 : (t255 == t257) = true := by simpa using c40))
            clear c40
            by_cases c43 : t254.toList = t256.toList
            ·rw [if_pos c43] at H
             have c43b0 : (t254.toList == t256.toList) = true := beq_iff_eq.mpr c43
             have c43b1 : (t254.toList != t256.toList) = false := bne_eq_false_iff_eq.mpr c43
             clear c43
             by_cases c44 : (t259 != t261) = true
             ·rw [if_pos c44] at H
              have c44b0 : (t259 != t261) = true := c44
              (try (have c44b1 : decide (t259 = t261) = false := by simpa using c44))
              (try (have c44b2 : (t259 == t261) = false := by simpa using c44))
              (try (have c44b3 : ¬ (t259 = t261) := by simpa using c44))
              clear c44
              have H' := Aside0.mk H
              clear H
              obtain ⟨Ao45, co45, eo45⟩ := Kd.R_slice HO241.out
              subst eo45
              obtain ⟨Ao46, co46, eo46⟩ := Kd.R_slice HO245.out
              subst eo46
              go_wp2_with (first | (go_at_call 35; (with_reducible refine (laws_yTexts.calls kj5 _ _ t238 _ _ t242 true _ ?side1 ?side2 ?side3 ?side4 A30.out).mono ?_); (case side1 => repeat (first | exact (Kd.R_reads' HO241.out).2.2 | (with_reducible refine Kd.C_alloc ?_ _) | (with_reducible refine Kd.C_drewN ?_ _) | (with_reducible refine Kd.C_drew ?_))); (case side2 => exact (Kd.R_reads' HO241.out).2.1); (case side3 => repeat (first | exact (Kd.R_reads' HO245.out).2.2 | (with_reducible refine Kd.C_alloc ?_ _) | (with_reducible refine Kd.C_drewN ?_ _) | (with_reducible refine Kd.C_drew ?_))); (case side4 => exact (Kd.R_reads' HO245.out).2.1); rintro e w' ⟨rfl, ⟨nd, rfl⟩⟩))
              refine Met.intro ?_
              go_step
              refine ⟨[_], ⟨rfl, trivial⟩, ⟨_, rfl, ?rel⟩, by kernel_rfl⟩
              case rel => exact ⟨_, (true), (by first | rfl | (simp; done) | (simp [*]; done)), H', ⟨by have := HJ5.out; first | omega | exact Nat.le_refl _⟩, ⟨by (with_reducible repeat (first | apply Kd.R_alloc | apply Kd.R_drewN | apply Kd.R_drew)); exact Kd.R_mono HO241.out (fun _ hk => trivial)⟩, ⟨by repeat (first | (with_reducible first | exact HB.out | apply below_alloc | apply pw_below_drewN | apply below_drew1) | exact HB.out)⟩⟩
             ·rw [if_neg c44] at H
              have c44b0 : (t259 != t261) = false := by simpa using c44
              (try (have c44b1 : decide (t259 = t261) = true := by simpa using c44))
              (try (have c44b2 : (t259 == t261) = true := by simpa using c44))
              clear c44
              by_cases c47 : t258 = t260
              ·rw [if_pos c47] at H
               have c47b0 : (t258 == t260) = true := beq_iff_eq.mpr c47
               have c47b1 : (t258 != t260) = false := bne_eq_false_iff_eq.mpr c47
               clear c47
               by_cases c48 : (t251 != t247) = true
               ·rw [if_pos c48] at H
                have c48b0 : (t251 != t247) = true := c48
                (try (have c48b1 : decide (t251 = t247) = false := by simpa using c48))
                (try (have c48b2 : (t251 == t247) = false := by simpa using c48))
                (try (have c48b3 : ¬ (t251 = t247) := by simpa using c48))
                clear c48
                have H' := Aside0.mk H
                clear H
                obtain ⟨Ao49, co49, eo49⟩ := Kd.R_slice HO241.out
                subst eo49
                obtain ⟨Ao50, co50, eo50⟩ := Kd.R_slice HO245.out
                subst eo50
                go_wp2_with (first | (go_at_call 35; (with_reducible refine (laws_yTexts.calls kj5 _ _ t238 _ _ t242 true _ ?side1 ?side2 ?side3 ?side4 A30.out).mono ?_); (case side1 => repeat (first | exact (Kd.R_reads' HO241.out).2.2 | (with_reducible refine Kd.C_alloc ?_ _) | (with_reducible refine Kd.C_drewN ?_ _) | (with_reducible refine Kd.C_drew ?_))); (case side2 => exact (Kd.R_reads' HO241.out).2.1); (case side3 => repeat (first | exact (Kd.R_reads' HO245.out).2.2 | (with_reducible refine Kd.C_alloc ?_ _) | (with_reducible refine Kd.C_drewN ?_ _) | (with_reducible refine Kd.C_drew ?_))); (case side4 => exact (Kd.R_reads' HO245.out).2.1); rintro e w' ⟨rfl, ⟨nd, rfl⟩⟩))
                refine Met.intro ?_
                go_step
                refine ⟨[_], ⟨rfl, trivial⟩, ⟨_, rfl, ?rel⟩, by kernel_rfl⟩
                case rel => exact ⟨_, (true), (by first | rfl | (simp; done) | (simp [*]; done)), H', ⟨by have := HJ5.out; first | omega | exact Nat.le_refl _⟩, ⟨by (with_reducible repeat (first | apply Kd.R_alloc | apply Kd.R_drewN | apply Kd.R_drew)); exact Kd.R_mono HO241.out (fun _ hk => trivial)⟩, ⟨by repeat (first | (with_reducible first | exact HB.out | apply below_alloc | apply pw_below_drewN | apply below_drew1) | exact HB.out)⟩⟩
               ·rw [if_neg c48] at H
                have c48b0 : (t251 != t247) = false := by simpa using c48
                (try (have c48b1 : decide (t251 = t247) = true := by simpa using c48))
                (try (have c48b2 : (t251 == t247) = true := by simpa using c48))
                clear c48
                by_cases c51 : (t255 != t247) = true
                ·rw [if_pos c51] at H
                 have c51b0 : (t255 != t247) = true := c51
                 (try (have c51b1 : decide (t255 = t247) = false := by simpa using c51))
                 (try (have c51b2 : (t255 == t247) = false := by simpa using c51))
                 (try (have c51b3 : ¬ (t255 = t247) := by simpa using c51))
                 clear c51
                 have H' := Aside0.mk H
                 clear H
                 obtain ⟨Ao52, co52, eo52⟩ := Kd.R_slice HO241.out
                 subst eo52
                 obtain ⟨Ao53, co53, eo53⟩ := Kd.R_slice HO245.out
                 subst eo53
                 go_wp2_with (first | (go_at_call 35; (with_reducible refine (laws_yTexts.calls kj5 _ _ t238 _ _ t242 true _ ?side1 ?side2 ?side3 ?side4 A30.out).mono ?_); (case side1 => repeat (first | exact (Kd.R_reads' HO241.out).2.2 | (with_reducible refine Kd.C_alloc ?_ _) | (with_reducible refine Kd.C_drewN ?_ _) | (with_reducible refine Kd.C_drew ?_))); (case side2 => exact (Kd.R_reads' HO241.out).2.1); (case side3 => repeat (first | exact (Kd.R_reads' HO245.out).2.2 | (with_reducible refine Kd.C_alloc ?_ _) | (with_reducible refine Kd.C_drewN ?_ _) | (with_reducible refine Kd.C_drew ?_))); (case side4 => exact (Kd.R_reads' HO245.out).2.1); rintro e w' ⟨rfl, ⟨nd, rfl⟩⟩))
                 refine Met.intro ?_
                 go_step
                 refine ⟨[_], ⟨rfl, trivial⟩, ⟨_, rfl, ?rel⟩, by kernel_rfl⟩
                 case rel => exact ⟨_, (true), (by first | rfl | (simp; done) | (simp [*]; done)), H', ⟨by have := HJ5.out; first | omega | exact Nat.le_refl _⟩, ⟨by (with_reducible repeat (first | apply Kd.R_alloc | apply Kd.R_drewN | apply Kd.R_drew)); exact Kd.R_mono HO241.out (fun _ hk => trivial)⟩, ⟨by repeat (first | (with_reducible first | exact HB.out | apply below_alloc | apply pw_below_drewN | apply below_drew1) | exact HB.out)⟩⟩
                ·rw [if_neg c51] at H
                 have c51b0 : (t255 != t247) = false := by simpa using c51
                 (try (have c51b1 : decide (t255 = t247) = true := by simpa using c51))
                 (try (have c51b2 : (t255 == t247) = true := by simpa using c51))
                 clear c51
                 by_cases c54 : (t259 != t247) = true
                 ·rw [if_pos c54] at H
                  have c54b0 : (t259 != t247) = true := c54
                  (try (have c54b1 : decide (t259 = t247) = false := by simpa using c54))
                  (try (have c54b2 : (t259 == t247) = false := by simpa using c54))
                  (try (have c54b3 : ¬ (t259 = t247) := by simpa using c54))
                  clear c54
                  have H' := Aside0.mk H
                  clear H
                  obtain ⟨Ao55, co55, eo55⟩ := Kd.R_slice HO241.out
                  subst eo55
                  obtain ⟨Ao56, co56, eo56⟩ := Kd.R_slice HO245.out
                  subst eo56
                  go_wp2_with (first | (go_at_call 35; (with_reducible refine (laws_yTexts.calls kj5 _ _ t238 _ _ t242 true _ ?side1 ?side2 ?side3 ?side4 A30.out).mono ?_); (case side1 => repeat (first | exact (Kd.R_reads' HO241.out).2.2 | (with_reducible refine Kd.C_alloc ?_ _) | (with_reducible refine Kd.C_drewN ?_ _) | (with_reducible refine Kd.C_drew ?_))); (case side2 => exact (Kd.R_reads' HO241.out).2.1); (case side3 => repeat (first | exact (Kd.R_reads' HO245.out).2.2 | (with_reducible refine Kd.C_alloc ?_ _) | (with_reducible refine Kd.C_drewN ?_ _) | (with_reducible refine Kd.C_drew ?_))); (case side4 => exact (Kd.R_reads' HO245.out).2.1); rintro e w' ⟨rfl, ⟨nd, rfl⟩⟩))
                  refine Met.intro ?_
                  go_step
                  refine ⟨[_], ⟨rfl, trivial⟩, ⟨_, rfl, ?rel⟩, by kernel_rfl⟩
                  case rel => exact ⟨_, (true), (by first | rfl | (simp; done) | (simp [*]; done)), H', ⟨by have := HJ5.out; first | omega | exact Nat.le_refl _⟩, ⟨by (with_reducible repeat (first | apply Kd.R_alloc | apply Kd.R_drewN | apply Kd.R_drew)); exact Kd.R_mono HO241.out (fun _ hk => trivial)⟩, ⟨by repeat (first | (with_reducible first | exact HB.out | apply below_alloc | apply pw_below_drewN | apply below_drew1) | exact HB.out)⟩⟩
                 ·rw [if_neg c54] at H
                  have c54b0 : (t259 != t247) = false := by simpa using c54
                  (try (have c54b1 : decide (t259 = t247) = true := by simpa using c54))
                  (try (have c54b2 : (t259 == t247) = true := by simpa using c54))
                  clear c54
                  by_cases c57 : t247 = true
                  ·subst c57
                   have H1 : (laws_FnStatesCountedOfAll.j1 kj5 a0 a1 a2 a3 a4 t238 t239 t246 true t250 t254 t258 (t239 != (decide (t246 ≤ 100)))) = some r := by rw [if_pos rfl] at H; exact H
                   clear H
                   have H := H1
                   clear H1
                   have H' := Aside0.mk H
                   clear H
                   obtain ⟨Ao58, co58, eo58⟩ := Kd.R_slice HO241.out
                   subst eo58
                   obtain ⟨Ao59, co59, eo59⟩ := Kd.R_slice HO245.out
                   subst eo59
                   go_wp2_with (first | (go_at_call 35; (with_reducible refine (laws_yTexts.calls kj5 _ _ t238 _ _ t242 true _ ?side1 ?side2 ?side3 ?side4 A30.out).mono ?_); (case side1 => repeat (first | exact (Kd.R_reads' HO241.out).2.2 | (with_reducible refine Kd.C_alloc ?_ _) | (with_reducible refine Kd.C_drewN ?_ _) | (with_reducible refine Kd.C_drew ?_))); (case side2 => exact (Kd.R_reads' HO241.out).2.1); (case side3 => repeat (first | exact (Kd.R_reads' HO245.out).2.2 | (with_reducible refine Kd.C_alloc ?_ _) | (with_reducible refine Kd.C_drewN ?_ _) | (with_reducible refine Kd.C_drew ?_))); (case side4 => exact (Kd.R_reads' HO245.out).2.1); rintro e w' ⟨rfl, ⟨nd, rfl⟩⟩))
                   refine Met.intro ?_
                   go_step
                   refine ⟨[_], ⟨rfl, trivial⟩, ⟨_, rfl, ?rel⟩, by kernel_rfl⟩
                   case rel => exact ⟨_, ((t239 != (decide (t246 ≤ 100)))), (by first | rfl | (simp; done) | (simp [*]; done)), H', ⟨by have := HJ5.out; first | omega | exact Nat.le_refl _⟩, ⟨by (with_reducible repeat (first | apply Kd.R_alloc | apply Kd.R_drewN | apply Kd.R_drew)); exact Kd.R_mono HO241.out (fun _ hk => trivial)⟩, ⟨by repeat (first | (with_reducible first | exact HB.out | apply below_alloc | apply pw_below_drewN | apply below_drew1) | exact HB.out)⟩⟩
                  ·replace c57 := Bool.eq_false_iff.mpr c57
                   subst c57
                   have H1 : (laws_FnStatesCountedOfAll.j1 kj5 a0 a1 a2 a3 a4 t238 t239 t246 false t250 t254 t258 (t239 != false)) = some r := by rw [if_neg (show ¬ (false = true) by decide)] at H; exact H
                   clear H
                   have H := H1
                   clear H1
                   have H' := Aside0.mk H
                   clear H
                   obtain ⟨Ao60, co60, eo60⟩ := Kd.R_slice HO241.out
                   subst eo60
                   obtain ⟨Ao61, co61, eo61⟩ := Kd.R_slice HO245.out
                   subst eo61
                   go_wp2_with (first | (go_at_call 35; (with_reducible refine (laws_yTexts.calls kj5 _ _ t238 _ _ t242 true _ ?side1 ?side2 ?side3 ?side4 A30.out).mono ?_); (case side1 => repeat (first | exact (Kd.R_reads' HO241.out).2.2 | (with_reducible refine Kd.C_alloc ?_ _) | (with_reducible refine Kd.C_drewN ?_ _) | (with_reducible refine Kd.C_drew ?_))); (case side2 => exact (Kd.R_reads' HO241.out).2.1); (case side3 => repeat (first | exact (Kd.R_reads' HO245.out).2.2 | (with_reducible refine Kd.C_alloc ?_ _) | (with_reducible refine Kd.C_drewN ?_ _) | (with_reducible refine Kd.C_drew ?_))); (case side4 => exact (Kd.R_reads' HO245.out).2.1); rintro e w' ⟨rfl, ⟨nd, rfl⟩⟩))
                   refine Met.intro ?_
                   go_step
                   refine ⟨[_], ⟨rfl, trivial⟩, ⟨_, rfl, ?rel⟩, by kernel_rfl⟩
                   case rel => exact ⟨_, ((t239 != false)), (by first | rfl | (simp; done) | (simp [*]; done)), H', ⟨by have := HJ5.out; first | omega | exact Nat.le_refl _⟩, ⟨by (with_reducible repeat (first | apply Kd.R_alloc | apply Kd.R_drewN | apply Kd.R_drew)); exact Kd.R_mono HO241.out (fun _ hk => trivial)⟩, ⟨by repeat (first | (with_reducible first | exact HB.out | apply below_alloc | apply pw_below_drewN | apply below_drew1) | exact HB.out)⟩⟩
              ·rw [if_neg c47] at H
               have c47b0 : (t258 == t260) = false := beq_eq_false_iff_ne.mpr c47
               have c47b1 : (t258 != t260) = true := bne_iff_ne.mpr c47
               have H' := Aside0.mk H
               clear H
               obtain ⟨Ao62, co62, eo62⟩ := Kd.R_slice HO241.out
               subst eo62
               obtain ⟨Ao63, co63, eo63⟩ := Kd.R_slice HO245.out
               subst eo63
               go_wp2_with (first | (go_at_call 35; (with_reducible refine (laws_yTexts.calls kj5 _ _ t238 _ _ t242 true _ ?side1 ?side2 ?side3 ?side4 A30.out).mono ?_); (case side1 => repeat (first | exact (Kd.R_reads' HO241.out).2.2 | (with_reducible refine Kd.C_alloc ?_ _) | (with_reducible refine Kd.C_drewN ?_ _) | (with_reducible refine Kd.C_drew ?_))); (case side2 => exact (Kd.R_reads' HO241.out).2.1); (case side3 => repeat (first | exact (Kd.R_reads' HO245.out).2.2 | (with_reducible refine Kd.C_alloc ?_ _) | (with_reducible refine Kd.C_drewN ?_ _) | (with_reducible refine Kd.C_drew ?_))); (case side4 => exact (Kd.R_reads' HO245.out).2.1); rintro e w' ⟨rfl, ⟨nd, rfl⟩⟩))
               refine Met.intro ?_
               go_step
               refine ⟨[_], ⟨rfl, trivial⟩, ⟨_, rfl, ?rel⟩, by kernel_rfl⟩
               case rel => exact ⟨_, (true), (by first | rfl | (simp; done) | (simp [*]; done)), H', ⟨by have := HJ5.out; first | omega | exact Nat.le_refl _⟩, ⟨by (with_reducible repeat (first | apply Kd.R_alloc | apply Kd.R_drewN | apply Kd.R_drew)); exact Kd.R_mono HO241.out (fun _ hk => trivial)⟩, ⟨by repeat (first | (with_reducible first | exact HB.out | apply below_alloc | apply pw_below_drewN | apply below_drew1) | exact HB.out)⟩⟩
            ·rw [if_neg c43] at H
             have c43b0 : (t254.toList == t256.toList) = false := beq_eq_false_iff_ne.mpr c43
             have c43b1 : (t254.toList != t256.toList) = true := bne_iff_ne.mpr c43
             have H' := Aside0.mk H
             clear H
             obtain ⟨Ao64, co64, eo64⟩ := Kd.R_slice HO241.out
             subst eo64
             obtain ⟨Ao65, co65, eo65⟩ := Kd.R_slice HO245.out
             subst eo65
             go_wp2_with (first | (go_at_call 35; (with_reducible refine (laws_yTexts.calls kj5 _ _ t238 _ _ t242 true _ ?side1 ?side2 ?side3 ?side4 A30.out).mono ?_); (case side1 => repeat (first | exact (Kd.R_reads' HO241.out).2.2 | (with_reducible refine Kd.C_alloc ?_ _) | (with_reducible refine Kd.C_drewN ?_ _) | (with_reducible refine Kd.C_drew ?_))); (case side2 => exact (Kd.R_reads' HO241.out).2.1); (case side3 => repeat (first | exact (Kd.R_reads' HO245.out).2.2 | (with_reducible refine Kd.C_alloc ?_ _) | (with_reducible refine Kd.C_drewN ?_ _) | (with_reducible refine Kd.C_drew ?_))); (case side4 => exact (Kd.R_reads' HO245.out).2.1); rintro e w' ⟨rfl, ⟨nd, rfl⟩⟩))
             refine Met.intro ?_
             go_step
             refine ⟨[_], ⟨rfl, trivial⟩, ⟨_, rfl, ?rel⟩, by kernel_rfl⟩
             case rel => exact ⟨_, (true), (by first | rfl | (simp; done) | (simp [*]; done)), H', ⟨by have := HJ5.out; first | omega | exact Nat.le_refl _⟩, ⟨by (with_reducible repeat (first | apply Kd.R_alloc | apply Kd.R_drewN | apply Kd.R_drew)); exact Kd.R_mono HO241.out (fun _ hk => trivial)⟩, ⟨by repeat (first | (with_reducible first | exact HB.out | apply below_alloc | apply pw_below_drewN | apply below_drew1) | exact HB.out)⟩⟩
          ·rw [if_neg c39] at H
           have c39b0 : (t250.toList == t252.toList) = false := beq_eq_false_iff_ne.mpr c39
           have c39b1 : (t250.toList != t252.toList) = true := bne_iff_ne.mpr c39
           have H' := Aside0.mk H
           clear H
           obtain ⟨Ao66, co66, eo66⟩ := Kd.R_slice HO241.out
           subst eo66
           obtain ⟨Ao67, co67, eo67⟩ := Kd.R_slice HO245.out
           subst eo67
           go_wp2_with (first | (go_at_call 35; (with_reducible refine (laws_yTexts.calls kj5 _ _ t238 _ _ t242 true _ ?side1 ?side2 ?side3 ?side4 A30.out).mono ?_); (case side1 => repeat (first | exact (Kd.R_reads' HO241.out).2.2 | (with_reducible refine Kd.C_alloc ?_ _) | (with_reducible refine Kd.C_drewN ?_ _) | (with_reducible refine Kd.C_drew ?_))); (case side2 => exact (Kd.R_reads' HO241.out).2.1); (case side3 => repeat (first | exact (Kd.R_reads' HO245.out).2.2 | (with_reducible refine Kd.C_alloc ?_ _) | (with_reducible refine Kd.C_drewN ?_ _) | (with_reducible refine Kd.C_drew ?_))); (case side4 => exact (Kd.R_reads' HO245.out).2.1); rintro e w' ⟨rfl, ⟨nd, rfl⟩⟩))
           refine Met.intro ?_
           go_step
           refine ⟨[_], ⟨rfl, trivial⟩, ⟨_, rfl, ?rel⟩, by kernel_rfl⟩
           case rel => exact ⟨_, (true), (by first | rfl | (simp; done) | (simp [*]; done)), H', ⟨by have := HJ5.out; first | omega | exact Nat.le_refl _⟩, ⟨by (with_reducible repeat (first | apply Kd.R_alloc | apply Kd.R_drewN | apply Kd.R_drew)); exact Kd.R_mono HO241.out (fun _ hk => trivial)⟩, ⟨by repeat (first | (with_reducible first | exact HB.out | apply below_alloc | apply pw_below_drewN | apply below_drew1) | exact HB.out)⟩⟩
        ·rw [if_neg c35] at H
         have c35b0 : (t246 == t248) = false := beq_eq_false_iff_ne.mpr c35
         have c35b1 : (t246 != t248) = true := bne_iff_ne.mpr c35
         have H' := Aside0.mk H
         clear H
         obtain ⟨Ao68, co68, eo68⟩ := Kd.R_slice HO241.out
         subst eo68
         obtain ⟨Ao69, co69, eo69⟩ := Kd.R_slice HO245.out
         subst eo69
         go_wp2_with (first | (go_at_call 35; (with_reducible refine (laws_yTexts.calls kj5 _ _ t238 _ _ t242 true _ ?side1 ?side2 ?side3 ?side4 A30.out).mono ?_); (case side1 => repeat (first | exact (Kd.R_reads' HO241.out).2.2 | (with_reducible refine Kd.C_alloc ?_ _) | (with_reducible refine Kd.C_drewN ?_ _) | (with_reducible refine Kd.C_drew ?_))); (case side2 => exact (Kd.R_reads' HO241.out).2.1); (case side3 => repeat (first | exact (Kd.R_reads' HO245.out).2.2 | (with_reducible refine Kd.C_alloc ?_ _) | (with_reducible refine Kd.C_drewN ?_ _) | (with_reducible refine Kd.C_drew ?_))); (case side4 => exact (Kd.R_reads' HO245.out).2.1); rintro e w' ⟨rfl, ⟨nd, rfl⟩⟩))
         refine Met.intro ?_
         go_step
         refine ⟨[_], ⟨rfl, trivial⟩, ⟨_, rfl, ?rel⟩, by kernel_rfl⟩
         case rel => exact ⟨_, (true), (by first | rfl | (simp; done) | (simp [*]; done)), H', ⟨by have := HJ5.out; first | omega | exact Nat.le_refl _⟩, ⟨by (with_reducible repeat (first | apply Kd.R_alloc | apply Kd.R_drewN | apply Kd.R_drew)); exact Kd.R_mono HO241.out (fun _ hk => trivial)⟩, ⟨by repeat (first | (with_reducible first | exact HB.out | apply below_alloc | apply pw_below_drewN | apply below_drew1) | exact HB.out)⟩⟩
      ·replace c31 := Bool.eq_false_iff.mpr c31
       subst c31
       have H1 : (laws_FnStatesCountedOfAll.j1 kj5 a0 a1 a2 a3 a4 t238 t239 t246 t247 t250 t254 t258 true) = some r := by rw [if_neg (show ¬ (false = true) by decide)] at H; exact H
       clear H
       have H := H1
       clear H1
       have H' := Aside0.mk H
       clear H
       obtain ⟨Ao70, co70, eo70⟩ := Kd.R_slice HO241.out
       subst eo70
       obtain ⟨Ao71, co71, eo71⟩ := Kd.R_slice HO245.out
       subst eo71
       go_wp2_with (first | (go_at_call 35; (with_reducible refine (laws_yTexts.calls kj5 _ _ t238 _ _ t242 false _ ?side1 ?side2 ?side3 ?side4 A30.out).mono ?_); (case side1 => repeat (first | exact (Kd.R_reads' HO241.out).2.2 | (with_reducible refine Kd.C_alloc ?_ _) | (with_reducible refine Kd.C_drewN ?_ _) | (with_reducible refine Kd.C_drew ?_))); (case side2 => exact (Kd.R_reads' HO241.out).2.1); (case side3 => repeat (first | exact (Kd.R_reads' HO245.out).2.2 | (with_reducible refine Kd.C_alloc ?_ _) | (with_reducible refine Kd.C_drewN ?_ _) | (with_reducible refine Kd.C_drew ?_))); (case side4 => exact (Kd.R_reads' HO245.out).2.1); rintro e w' ⟨rfl, ⟨nd, rfl⟩⟩))
       refine Met.intro ?_
       go_step
       refine ⟨[_], ⟨rfl, trivial⟩, ⟨_, rfl, ?rel⟩, by kernel_rfl⟩
       case rel => exact ⟨_, (true), (by first | rfl | (simp; done) | (simp [*]; done)), H', ⟨by have := HJ5.out; first | omega | exact Nat.le_refl _⟩, ⟨by (with_reducible repeat (first | apply Kd.R_alloc | apply Kd.R_drewN | apply Kd.R_drew)); exact Kd.R_mono HO241.out (fun _ hk => trivial)⟩, ⟨by repeat (first | (with_reducible first | exact HB.out | apply below_alloc | apply pw_below_drewN | apply below_drew1) | exact HB.out)⟩⟩
    case rest2 =>
     as_aux_lemma =>
     intro vs_ f_ wc hcut
     obtain ⟨v217, rfl, hcut⟩ := hcut
     dsimp only [mixF, List.getD_cons_zero, List.getD_cons_succ, Nat.reduceAdd]
     clear HC19
     try clear c2
     try clear p2
     try clear c3
     try clear c4
     try clear c5
     try clear c6
     try clear c7
     try clear c7b0
     try clear c7b1
     try clear c8
     try clear c29
     try clear c29b0
     try clear c29b1
     try clear c29b2
     try clear c31
     try clear c32
     try clear c32b0
     try clear c32b1
     try clear c32b2
     try clear c35
     try clear c35b0
     try clear c35b1
     try clear c36
     try clear c36b0
     try clear c36b1
     try clear c36b2
     try clear c39
     try clear c39b0
     try clear c39b1
     try clear c40
     try clear c40b0
     try clear c40b1
     try clear c40b2
     try clear c43
     try clear c43b0
     try clear c43b1
     try clear c44
     try clear c44b0
     try clear c44b1
     try clear c44b2
     try clear c47
     try clear c47b0
     try clear c47b1
     try clear c48
     try clear c48b0
     try clear c48b1
     try clear c48b2
     try clear c51
     try clear c51b0
     try clear c51b1
     try clear c51b2
     try clear c54
     try clear c54b0
     try clear c54b1
     try clear c54b2
     try clear c57
     try clear c58
     try clear c59
     try clear c60
     try clear c61
     try clear c62
     try clear c63
     try clear c64
     try clear c65
     try clear c66
     try clear p2
     obtain ⟨kq, x217_18, rfl, HA, HJ18, HO_11, HB⟩ := hcut
     cases kq with
     | zero => exact absurd HA.out (by simp [laws_FnStatesCountedOfAll.j1])
     | succ kj18 =>
      have H := HA.out
      clear HA
      simp only [laws_FnStatesCountedOfAll.j1] at H
      by_cases c72 : x217_18 = true
      ·subst c72
       have H1 : (some false) = some r := by rw [if_pos rfl] at H; exact H
       clear H
       have H := H1
       clear H1
       obtain rfl := Option.some.inj H
       go_wp2
       go_ret
       exact ⟨by first | rfl | (simp [errW_none, errW_some] <;> rfl) | (simp [*, errW_none, errW_some] <;> rfl), by repeat (first | (with_reducible first | exact HB.out | apply below_alloc | apply pw_below_drewN | apply below_drew1) | exact HB.out)⟩
      ·replace c72 := Bool.eq_false_iff.mpr c72
       subst c72
       have H1 : (if t247 = true then ((impl_NumberOfState.f kj18 t250).bind fun bt263 => ((impl_NumberOfState.f kj18 t254).bind fun bt265 => ((impl_CountOn.f t250).bind fun bt267 => ((impl_CountOn.f t254).bind fun bt269 => (if bt263.2 = true then (if bt265.2 = true then (if bt263.1 > bt265.1 then (laws_FnStatesCountedOfAll.j2 kj18 a0 a1 a2 a3 a4 t238 t239 t246 t250 t254 t258 true) else (if bt267.2 = true then (if bt267.1 = a1 then (if bt269.2 = true then (if bt269.1 = a1 then (if t246 < 1 then (laws_FnStatesCountedOfAll.j2 kj18 a0 a1 a2 a3 a4 t238 t239 t246 t250 t254 t258 true) else (laws_FnStatesCountedOfAll.j2 kj18 a0 a1 a2 a3 a4 t238 t239 t246 t250 t254 t258 ((bt263.1 == bt265.1) != (t246 == 1)))) else (laws_FnStatesCountedOfAll.j2 kj18 a0 a1 a2 a3 a4 t238 t239 t246 t250 t254 t258 true)) else (laws_FnStatesCountedOfAll.j2 kj18 a0 a1 a2 a3 a4 t238 t239 t246 t250 t254 t258 true)) else (laws_FnStatesCountedOfAll.j2 kj18 a0 a1 a2 a3 a4 t238 t239 t246 t250 t254 t258 true)) else (laws_FnStatesCountedOfAll.j2 kj18 a0 a1 a2 a3 a4 t238 t239 t246 t250 t254 t258 true))) else (laws_FnStatesCountedOfAll.j2 kj18 a0 a1 a2 a3 a4 t238 t239 t246 t250 t254 t258 true)) else (laws_FnStatesCountedOfAll.j2 kj18 a0 a1 a2 a3 a4 t238 t239 t246 t250 t254 t258 true)))))) else (laws_FnStatesCountedOfAll.j4 kj18 a0 a1 a2 a3 a4 t238 t239 t246 t250 t254 t258)) = some r := by rw [if_neg (show ¬ (false = true) by decide)] at H; exact H
       clear H
       have H := H1
       clear H1
       have HC73 := Aside0.mk H
       clear H
       go_upto_if 218 with (fail)
       refine wp_cutv [] [0, 0, 0, 0, 0, 0, 0, 0, 0, 0, 1, 0, 0, 0, 0, 0, 0, 0, 0, 0, 0, 0, 0, 0, 0, 0, 0, 0, 0, 0, 0, 1, 1, 1, 1, 1, 1, 1, 1, 1, 1, 1, 1, 0, 0, 0, 0, 0, 0, 0, 0, 0, 0, 0, 0, 0, 0, 0, 0, 0, 0, 0, 0, 0, 0, 0, 0, 0, 0, 0, 0, 0, 0, 0, 0, 0, 0, 1, 1, 1, 1, 1, 1, 1, 1, 1, 1, 1, 1, 1, 1, 1, 1, 1, 1, 1, 1, 1, 1, 1, 1, 1, 1, 1, 1, 1, 1, 1, 1, 1, 1, 1, 1, 1, 1, 1, 1, 1, 1, 1, 1, 1, 1, 1, 1, 1, 1, 1, 1, 1, 1, 1, 1, 1, 1, 1, 1, 1, 1, 1, 1, 1, 1, 1, 1, 1, 1, 1, 1, 1, 1, 1, 1, 1, 1, 1, 1, 1, 1, 1, 1, 1, 1, 1, 1, 1, 1, 1, 1, 1, 1, 1, 1, 1, 1, 1, 1, 1, 1, 1, 1, 1, 1, 1, 1, 1, 1, 1, 1, 1, 1, 1, 1, 1, 1, 1, 1, 1, 1, 1, 1, 1, 1, 1, 1, 1, 1, 1, 1, 1, 1, 1, 1, 1, 1, 1, 1, 1, 1, 1, 1, 1, 1, 1, 1, 1, 1, 1, 1, 1, 1, 1, 1, 1, 1, 1, 1, 1, 1, 1, 1, 1, 1, 1, 1, 1, 1, 1, 1, 1, 1, 1, 1, 1, 1, 1, 1, 1, 1, 1, 1, 1, 1, 1, 1, 1, 1, 1, 1, 1, 1, 1, 1, 1, 1, 1, 1, 1, 1, 1, 1, 1, 1, 1, 1, 1, 1, 1, 1, 1, 1, 1, 1, 1, 1, 1, 1, 1, 1, 1, 1, 0, 0, 0, 1, 1, 1, 1, 1, 1, 1, 1, 1, 1, 1, 1, 1, 1, 1, 1, 1, 1, 1, 1, 1, 1, 1, 1, 1, 1, 1, 1, 1, 1, 1, 1, 1, 1, 1, 1, 1, 1, 1, 1, 1, 1, 1, 1, 1, 1, 1, 1, 1, 1, 1, 1, 1, 1, 1, 1, 1, 1, 1, 1, 1, 1, 1, 1, 1, 1, 1, 1, 1, 1, 1, 1, 1, 1, 1, 1, 1, 1, 1, 1, 1, 1, 1, 1, 1, 1, 1, 1, 1, 1, 1, 1, 1, 1, 1, 1, 1, 1, 1, 1, 1, 1, 1, 1, 1, 1, 1, 1, 1, 1, 1, 1, 1, 1, 1, 1, 1, 1, 1, 1, 1, 1, 1, 1, 1, 1, 1, 1, 1, 1, 1, 1, 1, 1, 1, 1, 1, 1, 1, 1, 1, 1, 1, 1, 1, 1, 1, 1, 1, 1, 1, 1, 1, 1, 1, 1, 1, 1, 1, 1, 1, 1, 1, 1, 1, 1, 1, 1, 1, 1, 1, 1, 1, 1, 1, 1, 1, 1, 1, 1, 1, 1, 0, 0, 0, 1, 1, 1, 1, 1, 1, 1, 1, 1, 1, 1, 1, 1, 1, 1, 1, 1, 1, 1, 1, 1, 1] (fun vs_ wc => vs_ = [] ∧ ∃ (kq : Nat), Aside0 (laws_FnStatesCountedOfAll.j4 kq a0 a1 a2 a3 a4 t238 t239 t246 t250 t254 t258 = some r) ∧ Aside0 (kq ≤ kj18) ∧ Aside0 (Kd.R Kd.string 9 wc w.heap.size (fun _ => True) v240 t238) ∧ Aside0 (Below w.heap.size w wc)) ?first3 ?rest3
       case first3 =>
        as_aux_lemma =>
        intro _ _ _ _
        (try dsimp only [List.append])
        have H := HC73.out
        clear HC73
        by_cases c74 : t247 = true
        ·subst c74
         have H1 : ((impl_NumberOfState.f kj18 t250).bind fun bt263 => ((impl_NumberOfState.f kj18 t254).bind fun bt265 => ((impl_CountOn.f t250).bind fun bt267 => ((impl_CountOn.f t254).bind fun bt269 => (if bt263.2 = true then (if bt265.2 = true then (if bt263.1 > bt265.1 then (laws_FnStatesCountedOfAll.j2 kj18 a0 a1 a2 a3 a4 t238 t239 t246 t250 t254 t258 true) else (if bt267.2 = true then (if bt267.1 = a1 then (if bt269.2 = true then (if bt269.1 = a1 then (if t246 < 1 then (laws_FnStatesCountedOfAll.j2 kj18 a0 a1 a2 a3 a4 t238 t239 t246 t250 t254 t258 true) else (laws_FnStatesCountedOfAll.j2 kj18 a0 a1 a2 a3 a4 t238 t239 t246 t250 t254 t258 ((bt263.1 == bt265.1) != (t246 == 1)))) else (laws_FnStatesCountedOfAll.j2 kj18 a0 a1 a2 a3 a4 t238 t239 t246 t250 t254 t258 true)) else (laws_FnStatesCountedOfAll.j2 kj18 a0 a1 a2 a3 a4 t238 t239 t246 t250 t254 t258 true)) else (laws_FnStatesCountedOfAll.j2 kj18 a0 a1 a2 a3 a4 t238 t239 t246 t250 t254 t258 true)) else (laws_FnStatesCountedOfAll.j2 kj18 a0 a1 a2 a3 a4 t238 t239 t246 t250 t254 t258 true))) else (laws_FnStatesCountedOfAll.j2 kj18 a0 a1 a2 a3 a4 t238 t239 t246 t250 t254 t258 true)) else (laws_FnStatesCountedOfAll.j2 kj18 a0 a1 a2 a3 a4 t238 t239 t246 t250 t254 t258 true)))))) = some r := by rw [if_pos rfl] at H; exact H
         clear H
         have H := H1
         clear H1
         replace H := Option.bind_eq_some_iff.mp H
         obtain ⟨⟨t263, t264⟩, A750, H⟩ := H
         replace H : ((impl_NumberOfState.f kj18 t254).bind fun bt265 => ((impl_CountOn.f t250).bind fun bt267 => ((impl_CountOn.f t254).bind fun bt269 => (if t264 = true then (if bt265.2 = true then (if t263 > bt265.1 then (laws_FnStatesCountedOfAll.j2 kj18 a0 a1 a2 a3 a4 t238 t239 t246 t250 t254 t258 true) else (if bt267.2 = true then (if bt267.1 = a1 then (if bt269.2 = true then (if bt269.1 = a1 then (if t246 < 1 then (laws_FnStatesCountedOfAll.j2 kj18 a0 a1 a2 a3 a4 t238 t239 t246 t250 t254 t258 true) else (laws_FnStatesCountedOfAll.j2 kj18 a0 a1 a2 a3 a4 t238 t239 t246 t250 t254 t258 ((t263 == bt265.1) != (t246 == 1)))) else (laws_FnStatesCountedOfAll.j2 kj18 a0 a1 a2 a3 a4 t238 t239 t246 t250 t254 t258 true)) else (laws_FnStatesCountedOfAll.j2 kj18 a0 a1 a2 a3 a4 t238 t239 t246 t250 t254 t258 true)) else (laws_FnStatesCountedOfAll.j2 kj18 a0 a1 a2 a3 a4 t238 t239 t246 t250 t254 t258 true)) else (laws_FnStatesCountedOfAll.j2 kj18 a0 a1 a2 a3 a4 t238 t239 t246 t250 t254 t258 true))) else (laws_FnStatesCountedOfAll.j2 kj18 a0 a1 a2 a3 a4 t238 t239 t246 t250 t254 t258 true)) else (laws_FnStatesCountedOfAll.j2 kj18 a0 a1 a2 a3 a4 t238 t239 t246 t250 t254 t258 true))))) = some r := H
         have A75 := Aside0.mk A750
         clear A750
         replace H := Option.bind_eq_some_iff.mp H
         obtain ⟨⟨t265, t266⟩, A760, H⟩ := H
         replace H : ((impl_CountOn.f t250).bind fun bt267 => ((impl_CountOn.f t254).bind fun bt269 => (if t264 = true then (if t266 = true then (if t263 > t265 then (laws_FnStatesCountedOfAll.j2 kj18 a0 a1 a2 a3 a4 t238 t239 t246 t250 t254 t258 true) else (if bt267.2 = true then (if bt267.1 = a1 then (if bt269.2 = true then (if bt269.1 = a1 then (if t246 < 1 then (laws_FnStatesCountedOfAll.j2 kj18 a0 a1 a2 a3 a4 t238 t239 t246 t250 t254 t258 true) else (laws_FnStatesCountedOfAll.j2 kj18 a0 a1 a2 a3 a4 t238 t239 t246 t250 t254 t258 ((t263 == t265) != (t246 == 1)))) else (laws_FnStatesCountedOfAll.j2 kj18 a0 a1 a2 a3 a4 t238 t239 t246 t250 t254 t258 true)) else (laws_FnStatesCountedOfAll.j2 kj18 a0 a1 a2 a3 a4 t238 t239 t246 t250 t254 t258 true)) else (laws_FnStatesCountedOfAll.j2 kj18 a0 a1 a2 a3 a4 t238 t239 t246 t250 t254 t258 true)) else (laws_FnStatesCountedOfAll.j2 kj18 a0 a1 a2 a3 a4 t238 t239 t246 t250 t254 t258 true))) else (laws_FnStatesCountedOfAll.j2 kj18 a0 a1 a2 a3 a4 t238 t239 t246 t250 t254 t258 true)) else (laws_FnStatesCountedOfAll.j2 kj18 a0 a1 a2 a3 a4 t238 t239 t246 t250 t254 t258 true)))) = some r := H
         have A76 := Aside0.mk A760
         clear A760
         replace H := Option.bind_eq_some_iff.mp H
         obtain ⟨⟨t267, t268⟩, A770, H⟩ := H
         replace H : ((impl_CountOn.f t254).bind fun bt269 => (if t264 = true then (if t266 = true then (if t263 > t265 then (laws_FnStatesCountedOfAll.j2 kj18 a0 a1 a2 a3 a4 t238 t239 t246 t250 t254 t258 true) else (if t268 = true then (if t267 = a1 then (if bt269.2 = true then (if bt269.1 = a1 then (if t246 < 1 then (laws_FnStatesCountedOfAll.j2 kj18 a0 a1 a2 a3 a4 t238 t239 t246 t250 t254 t258 true) else (laws_FnStatesCountedOfAll.j2 kj18 a0 a1 a2 a3 a4 t238 t239 t246 t250 t254 t258 ((t263 == t265) != (t246 == 1)))) else (laws_FnStatesCountedOfAll.j2 kj18 a0 a1 a2 a3 a4 t238 t239 t246 t250 t254 t258 true)) else (laws_FnStatesCountedOfAll.j2 kj18 a0 a1 a2 a3 a4 t238 t239 t246 t250 t254 t258 true)) else (laws_FnStatesCountedOfAll.j2 kj18 a0 a1 a2 a3 a4 t238 t239 t246 t250 t254 t258 true)) else (laws_FnStatesCountedOfAll.j2 kj18 a0 a1 a2 a3 a4 t238 t239 t246 t250 t254 t258 true))) else (laws_FnStatesCountedOfAll.j2 kj18 a0 a1 a2 a3 a4 t238 t239 t246 t250 t254 t258 true)) else (laws_FnStatesCountedOfAll.j2 kj18 a0 a1 a2 a3 a4 t238 t239 t246 t250 t254 t258 true))) = some r := H
         have A77 := Aside0.mk A770
         clear A770
         replace H := Option.bind_eq_some_iff.mp H
         obtain ⟨⟨t269, t270⟩, A780, H⟩ := H
         replace H : (if t264 = true then (if t266 = true then (if t263 > t265 then (laws_FnStatesCountedOfAll.j2 kj18 a0 a1 a2 a3 a4 t238 t239 t246 t250 t254 t258 true) else (if t268 = true then (if t267 = a1 then (if t270 = true then (if t269 = a1 then (if t246 < 1 then (laws_FnStatesCountedOfAll.j2 kj18 a0 a1 a2 a3 a4 t238 t239 t246 t250 t254 t258 true) else (laws_FnStatesCountedOfAll.j2 kj18 a0 a1 a2 a3 a4 t238 t239 t246 t250 t254 t258 ((t263 == t265) != (t246 == 1)))) else (laws_FnStatesCountedOfAll.j2 kj18 a0 a1 a2 a3 a4 t238 t239 t246 t250 t254 t258 true)) else (laws_FnStatesCountedOfAll.j2 kj18 a0 a1 a2 a3 a4 t238 t239 t246 t250 t254 t258 true)) else (laws_FnStatesCountedOfAll.j2 kj18 a0 a1 a2 a3 a4 t238 t239 t246 t250 t254 t258 true)) else (laws_FnStatesCountedOfAll.j2 kj18 a0 a1 a2 a3 a4 t238 t239 t246 t250 t254 t258 true))) else (laws_FnStatesCountedOfAll.j2 kj18 a0 a1 a2 a3 a4 t238 t239 t246 t250 t254 t258 true)) else (laws_FnStatesCountedOfAll.j2 kj18 a0 a1 a2 a3 a4 t238 t239 t246 t250 t254 t258 true)) = some r := H
         have A78 := Aside0.mk A780
         clear A780
         have HC79 := Aside0.mk H
         clear H
         go_upto_region 20 with (first | ((with_reducible refine gate_callee (f := 67) rfl ?_); refine goesL_ (some 221) rfl rfl Tryd.func67 (by kernel_rfl) rfl #[.string t250] rfl (by (try simp only [List.map_toArray, List.map_cons, List.map_nil]); first | done | rfl | (simp only [List.length_drop, List.length_take]; rfl)) ?_; (with_reducible refine (impl_NumberOfState.calls kj18 t250 t263 t264 _ A75.out).mono ?_); rintro e w80 ⟨rfl, hb⟩; refine ⟨_, rfl, ?_⟩; have n0_ := Aside0.mk (Kd.R_below (by (with_reducible repeat (first | apply Kd.R_alloc | apply Kd.R_drewN | apply Kd.R_drew)); exact HO_11.out) hb); have n1_ := Aside0.mk (below_step (by repeat (first | (with_reducible first | exact HB.out | apply below_alloc | apply pw_below_drewN | apply below_drew1) | exact HB.out)) hb); clear HO_11; clear HB; have HO_11 := n0_; have HB := n1_; clear n0_ n1_; (try clear hb); (try clear hb2); (try clear hk); (try clear hi)) | ((with_reducible refine gate_callee (f := 67) rfl ?_); refine goesL_ (some 226) rfl rfl Tryd.func67 (by kernel_rfl) rfl #[.string t254] rfl (by (try simp only [List.map_toArray, List.map_cons, List.map_nil]); first | done | rfl | (simp only [List.length_drop, List.length_take]; rfl)) ?_; (with_reducible refine (impl_NumberOfState.calls kj18 t254 t265 t266 _ A76.out).mono ?_); rintro e w81 ⟨rfl, hb⟩; refine ⟨_, rfl, ?_⟩; have n0_ := Aside0.mk (Kd.R_below (by (with_reducible repeat (first | apply Kd.R_alloc | apply Kd.R_drewN | apply Kd.R_drew)); exact HO_11.out) hb); have n1_ := Aside0.mk (below_step (by repeat (first | (with_reducible first | exact HB.out | apply below_alloc | apply pw_below_drewN | apply below_drew1) | exact HB.out)) hb); clear HO_11; clear HB; have HO_11 := n0_; have HB := n1_; clear n0_ n1_; (try clear hb); (try clear hb2); (try clear hk); (try clear hi)) | ((with_reducible refine gate_callee (f := 68) rfl ?_); refine goesL_ (some 231) rfl rfl Tryd.func68 (by kernel_rfl) rfl #[.string t250] rfl (by (try simp only [List.map_toArray, List.map_cons, List.map_nil]); first | done | rfl | (simp only [List.length_drop, List.length_take]; rfl)) ?_; (with_reducible refine (impl_CountOn.calls t250 t267 t268 _ A77.out).mono ?_); rintro e w82 ⟨rfl, hb⟩; refine ⟨_, rfl, ?_⟩; have n0_ := Aside0.mk (Kd.R_below (by (with_reducible repeat (first | apply Kd.R_alloc | apply Kd.R_drewN | apply Kd.R_drew)); exact HO_11.out) hb); have n1_ := Aside0.mk (below_step (by repeat (first | (with_reducible first | exact HB.out | apply below_alloc | apply pw_below_drewN | apply below_drew1) | exact HB.out)) hb); clear HO_11; clear HB; have HO_11 := n0_; have HB := n1_; clear n0_ n1_; (try clear hb); (try clear hb2); (try clear hk); (try clear hi)) | ((with_reducible refine gate_callee (f := 68) rfl ?_); refine goesL_ (some 236) rfl rfl Tryd.func68 (by kernel_rfl) rfl #[.string t254] rfl (by (try simp only [List.map_toArray, List.map_cons, List.map_nil]); first | done | rfl | (simp only [List.length_drop, List.length_take]; rfl)) ?_; (with_reducible refine (impl_CountOn.calls t254 t269 t270 _ A78.out).mono ?_); rintro e w83 ⟨rfl, hb⟩; refine ⟨_, rfl, ?_⟩; have n0_ := Aside0.mk (Kd.R_below (by (with_reducible repeat (first | apply Kd.R_alloc | apply Kd.R_drewN | apply Kd.R_drew)); exact HO_11.out) hb); have n1_ := Aside0.mk (below_step (by repeat (first | (with_reducible first | exact HB.out | apply below_alloc | apply pw_below_drewN | apply below_drew1) | exact HB.out)) hb); clear HO_11; clear HB; have HO_11 := n0_; have HB := n1_; clear n0_ n1_; (try clear hb); (try clear hb2); (try clear hk); (try clear hi)))
         (try simp only [Act.put, List.setIfInBounds_toArray, List.set_cons_zero, List.set_cons_succ])
         refine wp_cutv [279] [0, 0, 0, 0, 0, 0, 0, 0, 0, 0, 0, 0, 0, 0, 0, 0, 0, 0, 0, 0, 0, 0, 0, 0, 0, 0, 0, 0, 0, 0, 0, 0, 0, 0, 0, 0, 0, 0, 0, 0, 0, 0, 0, 0, 0, 0, 0, 0, 0, 0, 0, 0, 0, 0, 0, 0, 0, 0, 0, 0, 0, 0, 0, 0, 0, 0, 0, 0, 0, 0, 0, 0, 0, 0, 0, 0, 0, 1, 1, 1, 1, 1, 1, 1, 1, 1, 1, 1, 1, 1, 1, 1, 1, 1, 1, 1, 1, 1, 1, 1, 1, 1, 1, 1, 1, 1, 1, 1, 1, 1, 1, 1, 1, 1, 1, 1, 1, 1, 1, 1, 1, 1, 1, 1, 1, 1, 1, 1, 1, 1, 1, 1, 1, 1, 1, 1, 1, 1, 1, 1, 1, 1, 1, 1, 1, 1, 1, 1, 1, 1, 1, 1, 1, 1, 1, 1, 1, 1, 1, 1, 1, 1, 1, 1, 1, 1, 1, 1, 1, 1, 1, 1, 1, 1, 1, 1, 1, 1, 1, 1, 1, 1, 1, 1, 1, 1, 1, 1, 1, 1, 1, 1, 1, 1, 1, 1, 1, 1, 1, 1, 1, 1, 1, 1, 1, 1, 1, 1, 1, 1, 1, 1, 1, 1, 1, 1, 1, 1, 1, 1, 1, 1, 1, 1, 1, 1, 1, 1, 1, 1, 1, 1, 1, 1, 1, 1, 1, 1, 1, 1, 1, 1, 1, 1, 1, 1, 1, 1, 1, 1, 1, 1, 1, 1, 1, 1, 1, 1, 1, 1, 1, 1, 1, 1, 1, 1, 1, 1, 1, 1, 1, 1, 1, 1, 1, 1, 1, 1, 1, 2, 1, 1, 1, 1, 1, 1, 1, 1, 1, 1, 1, 1, 1, 1, 1, 1, 1, 1, 1, 1, 1, 0, 0, 0, 1, 1, 1, 1, 1, 1, 1, 1, 1, 1, 1, 1, 1, 1, 1, 1, 1, 1, 1, 1, 1, 1, 1, 1, 1, 1, 1, 1, 1, 1, 1, 1, 1, 1, 1, 1, 1, 1, 1, 1, 1, 1, 1, 1, 1, 1, 1, 1, 1, 1, 1, 1, 1, 1, 1, 1, 1, 1, 1, 1, 1, 1, 1, 1, 1, 1, 1, 1, 1, 1, 1, 1, 1, 1, 1, 1, 1, 1, 1, 1, 1, 1, 1, 1, 1, 1, 1, 1, 1, 1, 1, 1, 1, 1, 1, 1, 1, 1, 1, 1, 1, 1, 1, 1, 1, 1, 1, 1, 1, 1, 1, 1, 1, 1, 1, 1, 1, 1, 1, 1, 1, 1, 1, 1, 1, 1, 1, 1, 1, 1, 1, 1, 1, 1, 1, 1, 1, 1, 1, 1, 1, 1, 1, 1, 1, 1, 1, 1, 1, 1, 1, 1, 1, 1, 1, 1, 1, 1, 1, 1, 1, 1, 1, 1, 1, 1, 1, 1, 1, 1, 1, 1, 1, 1, 1, 1, 1, 1, 1, 1, 1, 1, 0, 0, 0, 1, 1, 1, 1, 1, 1, 1, 1, 1, 1, 1, 1, 1, 1, 1, 1, 1, 1, 1, 1, 1, 1] (fun vs_ wc => ∃ v279, vs_ = [v279] ∧ ∃ (kq : Nat) (x279_78 : Bool), v279 = .bool x279_78 ∧ Aside0 (laws_FnStatesCountedOfAll.j2 kq a0 a1 a2 a3 a4 t238 t239 t246 t250 t254 t258 x279_78 = some r) ∧ Aside0 (kq ≤ kj18) ∧ Aside0 (Kd.R Kd.string 9 wc w.heap.size (fun _ => True) v240 t238) ∧ Aside0 (Below w.heap.size w wc)) ?first4 ?rest4
         case first4 =>
          as_aux_lemma =>
          intro _ _ _ _
          (try dsimp only [List.append])
          have H := HC79.out
          clear HC79
          by_cases c84 : t264 = true
          ·subst c84
           have H1 : (if t266 = true then (if t263 > t265 then (laws_FnStatesCountedOfAll.j2 kj18 a0 a1 a2 a3 a4 t238 t239 t246 t250 t254 t258 true) else (if t268 = true then (if t267 = a1 then (if t270 = true then (if t269 = a1 then (if t246 < 1 then (laws_FnStatesCountedOfAll.j2 kj18 a0 a1 a2 a3 a4 t238 t239 t246 t250 t254 t258 true) else (laws_FnStatesCountedOfAll.j2 kj18 a0 a1 a2 a3 a4 t238 t239 t246 t250 t254 t258 ((t263 == t265) != (t246 == 1)))) else (laws_FnStatesCountedOfAll.j2 kj18 a0 a1 a2 a3 a4 t238 t239 t246 t250 t254 t258 true)) else (laws_FnStatesCountedOfAll.j2 kj18 a0 a1 a2 a3 a4 t238 t239 t246 t250 t254 t258 true)) else (laws_FnStatesCountedOfAll.j2 kj18 a0 a1 a2 a3 a4 t238 t239 t246 t250 t254 t258 true)) else (laws_FnStatesCountedOfAll.j2 kj18 a0 a1 a2 a3 a4 t238 t239 t246 t250 t254 t258 true))) else (laws_FnStatesCountedOfAll.j2 kj18 a0 a1 a2 a3 a4 t238 t239 t246 t250 t254 t258 true)) = some r := by rw [if_pos rfl] at H; exact H
           clear H
           have H := H1
           clear H1
           by_cases c85 : t266 = true
           ·subst c85
            have H1 : (if t263 > t265 then (laws_FnStatesCountedOfAll.j2 kj18 a0 a1 a2 a3 a4 t238 t239 t246 t250 t254 t258 true) else (if t268 = true then (if t267 = a1 then (if t270 = true then (if t269 = a1 then (if t246 < 1 then (laws_FnStatesCountedOfAll.j2 kj18 a0 a1 a2 a3 a4 t238 t239 t246 t250 t254 t258 true) else (laws_FnStatesCountedOfAll.j2 kj18 a0 a1 a2 a3 a4 t238 t239 t246 t250 t254 t258 ((t263 == t265) != (t246 == 1)))) else (laws_FnStatesCountedOfAll.j2 kj18 a0 a1 a2 a3 a4 t238 t239 t246 t250 t254 t258 true)) else (laws_FnStatesCountedOfAll.j2 kj18 a0 a1 a2 a3 a4 t238 t239 t246 t250 t254 t258 true)) else (laws_FnStatesCountedOfAll.j2 kj18 a0 a1 a2 a3 a4 t238 t239 t246 t250 t254 t258 true)) else (laws_FnStatesCountedOfAll.j2 kj18 a0 a1 a2 a3 a4 t238 t239 t246 t250 t254 t258 true))) = some r := by rw [if_pos rfl] at H; exact H
            clear H
            have H := H1
            clear H1
            by_cases c86 : t263 > t265
            ·rw [if_pos c86] at H
             have c86b0 : decide (t265 < t263) = true := decide_eq_true c86
             clear c86
             (first | rw [c86b0] | (simp only [i64_w, i32_w]; rw [c86b0]) | skip)
             have H' := Aside0.mk H
             clear H
             go_wp2
             refine Met.intro ?_
             go_step
             refine ⟨[_], ⟨rfl, trivial⟩, ⟨_, rfl, ?rel⟩, by kernel_rfl⟩
             case rel => exact ⟨_, (true), (by first | rfl | (simp; done) | (simp [*]; done)), H', ⟨by have := HJ5.out; have := HJ18.out; first | omega | exact Nat.le_refl _⟩, ⟨by (with_reducible repeat (first | apply Kd.R_alloc | apply Kd.R_drewN | apply Kd.R_drew)); exact HO_11.out⟩, ⟨by repeat (first | (with_reducible first | exact HB.out | apply below_alloc | apply pw_below_drewN | apply below_drew1) | exact HB.out)⟩⟩
            ·rw [if_neg c86] at H
             have c86b0 : decide (t265 < t263) = false := decide_eq_false c86
             clear c86
             (first | rw [c86b0] | (simp only [i64_w, i32_w]; rw [c86b0]) | skip)
             by_cases c87 : t268 = true
             ·subst c87
              have H1 : (if t267 = a1 then (if t270 = true then (if t269 = a1 then (if t246 < 1 then (laws_FnStatesCountedOfAll.j2 kj18 a0 a1 a2 a3 a4 t238 t239 t246 t250 t254 t258 true) else (laws_FnStatesCountedOfAll.j2 kj18 a0 a1 a2 a3 a4 t238 t239 t246 t250 t254 t258 ((t263 == t265) != (t246 == 1)))) else (laws_FnStatesCountedOfAll.j2 kj18 a0 a1 a2 a3 a4 t238 t239 t246 t250 t254 t258 true)) else (laws_FnStatesCountedOfAll.j2 kj18 a0 a1 a2 a3 a4 t238 t239 t246 t250 t254 t258 true)) else (laws_FnStatesCountedOfAll.j2 kj18 a0 a1 a2 a3 a4 t238 t239 t246 t250 t254 t258 true)) = some r := by rw [if_pos rfl] at H; exact H
              clear H
              have H := H1
              clear H1
              by_cases c88 : t267 = a1
              ·rw [if_pos c88] at H
               have c88b0 : (t267 == a1) = true := beq_iff_eq.mpr c88
               have c88b1 : (t267 != a1) = false := bne_eq_false_iff_eq.mpr c88
               clear c88
               by_cases c89 : t270 = true
               ·subst c89
                have H1 : (if t269 = a1 then (if t246 < 1 then (laws_FnStatesCountedOfAll.j2 kj18 a0 a1 a2 a3 a4 t238 t239 t246 t250 t254 t258 true) else (laws_FnStatesCountedOfAll.j2 kj18 a0 a1 a2 a3 a4 t238 t239 t246 t250 t254 t258 ((t263 == t265) != (t246 == 1)))) else (laws_FnStatesCountedOfAll.j2 kj18 a0 a1 a2 a3 a4 t238 t239 t246 t250 t254 t258 true)) = some r := by rw [if_pos rfl] at H; exact H
                clear H
                have H := H1
                clear H1
                by_cases c90 : t269 = a1
                ·rw [if_pos c90] at H
                 have c90b0 : (t269 == a1) = true := beq_iff_eq.mpr c90
                 have c90b1 : (t269 != a1) = false := bne_eq_false_iff_eq.mpr c90
                 clear c90
                 by_cases c91 : t246 < 1
                 ·rw [if_pos c91] at H
                  have c91b0 : decide (t246 < 1) = true := decide_eq_true c91
                  clear c91
                  have H' := Aside0.mk H
                  clear H
                  go_wp2
                  refine Met.intro ?_
                  go_step
                  refine ⟨[_], ⟨rfl, trivial⟩, ⟨_, rfl, ?rel⟩, by kernel_rfl⟩
                  case rel => exact ⟨_, (true), (by first | rfl | (simp; done) | (simp [*]; done)), H', ⟨by have := HJ5.out; have := HJ18.out; first | omega | exact Nat.le_refl _⟩, ⟨by (with_reducible repeat (first | apply Kd.R_alloc | apply Kd.R_drewN | apply Kd.R_drew)); exact HO_11.out⟩, ⟨by repeat (first | (with_reducible first | exact HB.out | apply below_alloc | apply pw_below_drewN | apply below_drew1) | exact HB.out)⟩⟩
                 ·rw [if_neg c91] at H
                  have c91b0 : decide (t246 < 1) = false := decide_eq_false c91
                  clear c91
                  have H' := Aside0.mk H
                  clear H
                  go_wp2
                  refine Met.intro ?_
                  go_step
                  refine ⟨[_], ⟨rfl, trivial⟩, ⟨_, rfl, ?rel⟩, by kernel_rfl⟩
                  case rel => exact ⟨_, (((t263 == t265) != (t246 == 1))), (by first | rfl | (simp; done) | (simp [*]; done)), H', ⟨by have := HJ5.out; have := HJ18.out; first | omega | exact Nat.le_refl _⟩, ⟨by (with_reducible repeat (first | apply Kd.R_alloc | apply Kd.R_drewN | apply Kd.R_drew)); exact HO_11.out⟩, ⟨by repeat (first | (with_reducible first | exact HB.out | apply below_alloc | apply pw_below_drewN | apply below_drew1) | exact HB.out)⟩⟩
                ·rw [if_neg c90] at H
                 have c90b0 : (t269 == a1) = false := beq_eq_false_iff_ne.mpr c90
                 have c90b1 : (t269 != a1) = true := bne_iff_ne.mpr c90
                 have H' := Aside0.mk H
                 clear H
                 go_wp2
                 refine Met.intro ?_
                 go_step
                 refine ⟨[_], ⟨rfl, trivial⟩, ⟨_, rfl, ?rel⟩, by kernel_rfl⟩
                 case rel => exact ⟨_, (true), (by first | rfl | (simp; done) | (simp [*]; done)), H', ⟨by have := HJ5.out; have := HJ18.out; first | omega | exact Nat.le_refl _⟩, ⟨by (with_reducible repeat (first | apply Kd.R_alloc | apply Kd.R_drewN | apply Kd.R_drew)); exact HO_11.out⟩, ⟨by repeat (first | (with_reducible first | exact HB.out | apply below_alloc | apply pw_below_drewN | apply below_drew1) | exact HB.out)⟩⟩
               ·replace c89 := Bool.eq_false_iff.mpr c89
                subst c89
                have H1 : (laws_FnStatesCountedOfAll.j2 kj18 a0 a1 a2 a3 a4 t238 t239 t246 t250 t254 t258 true) = some r := by rw [if_neg (show ¬ (false = true) by decide)] at H; exact H
                clear H
                have H := H1
                clear H1
                have H' := Aside0.mk H
                clear H
                go_wp2
                refine Met.intro ?_
                go_step
                refine ⟨[_], ⟨rfl, trivial⟩, ⟨_, rfl, ?rel⟩, by kernel_rfl⟩
                case rel => exact ⟨_, (true), (by first | rfl | (simp; done) | (simp [*]; done)), H', ⟨by have := HJ5.out; have := HJ18.out; first | omega | exact Nat.le_refl _⟩, ⟨by (with_reducible repeat (first | apply Kd.R_alloc | apply Kd.R_drewN | apply Kd.R_drew)); exact HO_11.out⟩, ⟨by repeat (first | (with_reducible first | exact HB.out | apply below_alloc | apply pw_below_drewN | apply below_drew1) | exact HB.out)⟩⟩
              ·rw [if_neg c88] at H
               have c88b0 : (t267 == a1) = false := beq_eq_false_iff_ne.mpr c88
               have c88b1 : (t267 != a1) = true := bne_iff_ne.mpr c88
               have H' := Aside0.mk H
               clear H
               go_wp2
               refine Met.intro ?_
               go_step
               refine ⟨[_], ⟨rfl, trivial⟩, ⟨_, rfl, ?rel⟩, by kernel_rfl⟩
               case rel => exact ⟨_, (true), (by first | rfl | (simp; done) | (simp [*]; done)), H', ⟨by have := HJ5.out; have := HJ18.out; first | omega | exact Nat.le_refl _⟩, ⟨by (with_reducible repeat (first | apply Kd.R_alloc | apply Kd.R_drewN | apply Kd.R_drew)); exact HO_11.out⟩, ⟨by repeat (first | (with_reducible first | exact HB.out | apply below_alloc | apply pw_below_drewN | apply below_drew1) | exact HB.out)⟩⟩
             ·replace c87 := Bool.eq_false_iff.mpr c87
              subst c87
              have H1 : (laws_FnStatesCountedOfAll.j2 kj18 a0 a1 a2 a3 a4 t238 t239 t246 t250 t254 t258 true) = some r := by rw [if_neg (show ¬ (false = true) by decide)] at H; exact H
              clear H
              have H := H1
              clear H1
              have H' := Aside0.mk H
              clear H
              go_wp2
              refine Met.intro ?_
              go_step
              refine ⟨[_], ⟨rfl, trivial⟩, ⟨_, rfl, ?rel⟩, by kernel_rfl⟩
              case rel => exact ⟨_, (true), (by first | rfl | (simp; done) | (simp [*]; done)), H', ⟨by have := HJ5.out; have := HJ18.out; first | omega | exact Nat.le_refl _⟩, ⟨by (with_reducible repeat (first | apply Kd.R_alloc | apply Kd.R_drewN | apply Kd.R_drew)); exact HO_11.out⟩, ⟨by repeat (first | (with_reducible first | exact HB.out | apply below_alloc | apply pw_below_drewN | apply below_drew1) | exact HB.out)⟩⟩
           ·replace c85 := Bool.eq_false_iff.mpr c85
            subst c85
            have H1 : (laws_FnStatesCountedOfAll.j2 kj18 a0 a1 a2 a3 a4 t238 t239 t246 t250 t254 t258 true) = some r := by rw [if_neg (show ¬ (false = true) by decide)] at H; exact H
            clear H
            have H := H1
            clear H1
            have H' := Aside0.mk H
            clear H
            go_wp2
            refine Met.intro ?_
            go_step
            refine ⟨[_], ⟨rfl, trivial⟩, ⟨_, rfl, ?rel⟩, by kernel_rfl⟩
            case rel => exact ⟨_, (true), (by first | rfl | (simp; done) | (simp [*]; done)), H', ⟨by have := HJ5.out; have := HJ18.out; first | omega | exact Nat.le_refl _⟩, ⟨by (with_reducible repeat (first | apply Kd.R_alloc | apply Kd.R_drewN | apply Kd.R_drew)); exact HO_11.out⟩, ⟨by repeat (first | (with_reducible first | exact HB.out | apply below_alloc | apply pw_below_drewN | apply below_drew1) | exact HB.out)⟩⟩
          ·replace c84 := Bool.eq_false_iff.mpr c84
           subst c84
           have H1 : (laws_FnStatesCountedOfAll.j2 kj18 a0 a1 a2 a3 a4 t238 t239 t246 t250 t254 t258 true) = some r := by rw [if_neg (show ¬ (false = true) by decide)] at H; exact H
           clear H
           have H := H1
           clear H1
           have H' := Aside0.mk H
           clear H
           go_wp2
           refine Met.intro ?_
           go_step
           refine ⟨[_], ⟨rfl, trivial⟩, ⟨_, rfl, ?rel⟩, by kernel_rfl⟩
           case rel => exact ⟨_, (true), (by first | rfl | (simp; done) | (simp [*]; done)), H', ⟨by have := HJ5.out; have := HJ18.out; first | omega | exact Nat.le_refl _⟩, ⟨by (with_reducible repeat (first | apply Kd.R_alloc | apply Kd.R_drewN | apply Kd.R_drew)); exact HO_11.out⟩, ⟨by repeat (first | (with_reducible first | exact HB.out | apply below_alloc | apply pw_below_drewN | apply below_drew1) | exact HB.out)⟩⟩
         case rest4 =>
          as_aux_lemma =>
          intro vs_ f_ wc hcut
          obtain ⟨v279, rfl, hcut⟩ := hcut
          dsimp only [mixF, List.getD_cons_zero, List.getD_cons_succ, Nat.reduceAdd]
          clear HC79
          try clear c2
          try clear p2
          try clear c3
          try clear c4
          try clear c5
          try clear c6
          try clear c7
          try clear c7b0
          try clear c7b1
          try clear c8
          try clear c9
          try clear c29
          try clear c29b0
          try clear c29b1
          try clear c29b2
          try clear c31
          try clear c32
          try clear c32b0
          try clear c32b1
          try clear c32b2
          try clear c35
          try clear c35b0
          try clear c35b1
          try clear c36
          try clear c36b0
          try clear c36b1
          try clear c36b2
          try clear c39
          try clear c39b0
          try clear c39b1
          try clear c40
          try clear c40b0
          try clear c40b1
          try clear c40b2
          try clear c43
          try clear c43b0
          try clear c43b1
          try clear c44
          try clear c44b0
          try clear c44b1
          try clear c44b2
          try clear c47
          try clear c47b0
          try clear c47b1
          try clear c48
          try clear c48b0
          try clear c48b1
          try clear c48b2
          try clear c51
          try clear c51b0
          try clear c51b1
          try clear c51b2
          try clear c54
          try clear c54b0
          try clear c54b1
          try clear c54b2
          try clear c57
          try clear c58
          try clear c59
          try clear c60
          try clear c61
          try clear c62
          try clear c63
          try clear c64
          try clear c65
          try clear c66
          try clear c67
          try clear c68
          try clear c72
          try clear c74
          try clear c84
          try clear c85
          try clear c86
          try clear c86b0
          try clear c87
          try clear c88
          try clear c88b0
          try clear c88b1
          try clear c89
          try clear c90
          try clear c90b0
          try clear c90b1
          try clear c91
          try clear c91b0
          try clear p2
          obtain ⟨kq, x279_78, rfl, HA, HJ78, HO_11, HB⟩ := hcut
          cases kq with
          | zero => exact absurd HA.out (by simp [laws_FnStatesCountedOfAll.j2])
          | succ kj78 =>
           have H := HA.out
           clear HA
           simp only [laws_FnStatesCountedOfAll.j2] at H
           by_cases c92 : x279_78 = true
           ·subst c92
            have H1 : (some false) = some r := by rw [if_pos rfl] at H; exact H
            clear H
            have H := H1
            clear H1
            obtain rfl := Option.some.inj H
            go_wp2
            go_ret
            exact ⟨by first | rfl | (simp [errW_none, errW_some] <;> rfl) | (simp [*, errW_none, errW_some] <;> rfl), by repeat (first | (with_reducible first | exact HB.out | apply below_alloc | apply pw_below_drewN | apply below_drew1) | exact HB.out)⟩
           ·replace c92 := Bool.eq_false_iff.mpr c92
            subst c92
            have H1 : (laws_FnStatesCountedOfAll.l0 kj78 a0 a1 a2 a3 a4 t238 t239 t246 t250 t254 t258 0 0) = some r := by rw [if_neg (show ¬ (false = true) by decide)] at H; exact H
            clear H
            have H := H1
            clear H1
            have H' := Aside0.mk H
            clear H
            go_wp2
            go_loopg [39, 40] kj78 (fun kq v39 v40 w' => ∃ (x39_4 : Int) (x40_4 : Int), v39 = .int .i64 x39_4 ∧ v40 = .int .i64 x40_4 ∧ Aside0 (laws_FnStatesCountedOfAll.l0 kq a0 a1 a2 a3 a4 t238 t239 t246 t250 t254 t258 x39_4 x40_4 = some r) ∧ Aside0 (kq ≤ kj78) ∧ Aside0 (Kd.R Kd.string 9 w' w.heap.size (fun _ => True) v240 t238) ∧ Aside0 (Below w.heap.size w w'))
            case atStart => exact ⟨(0), (0), (by first | rfl | (simp; done) | (simp [*]; done)), (by first | rfl | (simp; done) | (simp [*]; done)), H', ⟨Nat.le_refl _⟩, ⟨by (with_reducible repeat (first | apply Kd.R_alloc | apply Kd.R_drewN | apply Kd.R_drew)); exact HO_11.out⟩, ⟨by repeat (first | (with_reducible first | exact HB.out | apply below_alloc | apply pw_below_drewN | apply below_drew1) | exact HB.out)⟩⟩
            case round =>
             clear H'
             try clear c2
             try clear p2
             try clear c3
             try clear c4
             try clear c5
             try clear c6
             try clear c7
             try clear c7b0
             try clear c7b1
             try clear c8
             try clear c9
             try clear c29
             try clear c29b0
             try clear c29b1
             try clear c29b2
             try clear c31
             try clear c32
             try clear c32b0
             try clear c32b1
             try clear c32b2
             try clear c35
             try clear c35b0
             try clear c35b1
             try clear c36
             try clear c36b0
             try clear c36b1
             try clear c36b2
             try clear c39
             try clear c39b0
             try clear c39b1
             try clear c40
             try clear c40b0
             try clear c40b1
             try clear c40b2
             try clear c43
             try clear c43b0
             try clear c43b1
             try clear c44
             try clear c44b0
             try clear c44b1
             try clear c44b2
             try clear c47
             try clear c47b0
             try clear c47b1
             try clear c48
             try clear c48b0
             try clear c48b1
             try clear c48b2
             try clear c51
             try clear c51b0
             try clear c51b1
             try clear c51b2
             try clear c54
             try clear c54b0
             try clear c54b1
             try clear c54b2
             try clear c57
             try clear c58
             try clear c59
             try clear c60
             try clear c61
             try clear c62
             try clear c63
             try clear c64
             try clear c65
             try clear c66
             try clear c67
             try clear c68
             try clear c72
             try clear c74
             try clear c84
             try clear c85
             try clear c86
             try clear c86b0
             try clear c87
             try clear c88
             try clear c88b0
             try clear c88b1
             try clear c89
             try clear c90
             try clear c90b0
             try clear c90b1
             try clear c91
             try clear c91b0
             try clear c92
             try clear p2
             obtain ⟨x39_4, x40_4, rfl, rfl, HA, HK4, HO_11, HB⟩ := hrel
             cases gk with
             | zero => exact absurd HA.out (by simp [laws_FnStatesCountedOfAll.l0])
             | succ k4 =>
              have H := HA.out
              clear HA
              simp only [laws_FnStatesCountedOfAll.l0] at H
              by_cases c93 : x40_4 ≤ a0
              ·rw [if_pos c93] at H
               have c93b0 : decide (x40_4 ≤ a0) = true := decide_eq_true c93
               clear c93
               replace H := Option.bind_eq_some_iff.mp H
               obtain ⟨⟨t271, t272⟩, A940, H⟩ := H
               replace H : (if t272 = true then (laws_FnStatesCountedOfAll.l0 k4 a0 a1 a2 a3 a4 t238 t239 t246 t250 t254 t258 (wrap64 (x39_4 + t271)) (wrap64 (x40_4 + 1))) else (some false)) = some r := H
               have A94 := Aside0.mk A940
               clear A940
               by_cases c95 : t272 = true
               ·subst c95
                have H1 : (laws_FnStatesCountedOfAll.l0 k4 a0 a1 a2 a3 a4 t238 t239 t246 t250 t254 t258 (wrap64 (x39_4 + t271)) (wrap64 (x40_4 + 1))) = some r := by rw [if_pos rfl] at H; exact H
                clear H
                have H := H1
                clear H1
                have H' := Aside0.mk H
                clear H
                go_wp2_with (first | ((with_reducible refine gate_callee (f := 59) rfl ?_); refine goesL_ (some 288) rfl rfl Tryd.func59 (by kernel_rfl) rfl #[.int .i64 a0, .int .i64 x40_4] rfl (by (try simp only [List.map_toArray, List.map_cons, List.map_nil]); first | done | rfl | (simp only [List.length_drop, List.length_take]; rfl)) ?_; (with_reducible refine (impl_CountWithOn.calls k4 a0 x40_4 t271 true _ A94.out).mono ?_); rintro e w' ⟨rfl, ⟨nd, rfl⟩⟩; refine ⟨_, rfl, ?_⟩))
                go_roundg k4
                case measure => have := HJ5.out; have := HJ18.out; have := HJ78.out; have := HK4.out; omega
                case rel => exact ⟨(wrap64 (x39_4 + t271)), (wrap64 (x40_4 + 1)), (by first | rfl | (simp; done) | (simp [*]; done)), (by first | rfl | (simp; done) | (simp [*]; done)), H', ⟨by have := HJ5.out; have := HJ18.out; have := HJ78.out; have := HK4.out; omega⟩, ⟨by (with_reducible repeat (first | apply Kd.R_alloc | apply Kd.R_drewN | apply Kd.R_drew)); exact HO_11.out⟩, ⟨by repeat (first | (with_reducible first | exact HB.out | apply below_alloc | apply pw_below_drewN | apply below_drew1) | exact HB.out)⟩⟩
               ·replace c95 := Bool.eq_false_iff.mpr c95
                subst c95
                have H1 : (some false) = some r := by rw [if_neg (show ¬ (false = true) by decide)] at H; exact H
                clear H
                have H := H1
                clear H1
                obtain rfl := Option.some.inj H
                go_wp2_with (first | ((with_reducible refine gate_callee (f := 59) rfl ?_); refine goesL_ (some 288) rfl rfl Tryd.func59 (by kernel_rfl) rfl #[.int .i64 a0, .int .i64 x40_4] rfl (by (try simp only [List.map_toArray, List.map_cons, List.map_nil]); first | done | rfl | (simp only [List.length_drop, List.length_take]; rfl)) ?_; (with_reducible refine (impl_CountWithOn.calls k4 a0 x40_4 t271 false _ A94.out).mono ?_); rintro e w' ⟨rfl, ⟨nd, rfl⟩⟩; refine ⟨_, rfl, ?_⟩))
                go_ret
                exact ⟨by first | rfl | (simp [errW_none, errW_some] <;> rfl) | (simp [*, errW_none, errW_some] <;> rfl), by repeat (first | (with_reducible first | exact HB.out | apply below_alloc | apply pw_below_drewN | apply below_drew1) | exact HB.out)⟩
              ·rw [if_neg c93] at H
               have c93b0 : decide (x40_4 ≤ a0) = false := decide_eq_false c93
               clear c93
               by_cases c96 : 0 ≤ a0
               ·rw [if_pos c96] at H
                have c96b0 := eq_true c96
                have c96b1 : decide (0 ≤ a0) = true := decide_eq_true c96
                clear c96
                obtain ⟨ji97, hji97⟩ : ∃ j_ : Int, (shl .i64 1 a0) = j_ := ⟨_, rfl⟩
                replace H : (if x39_4 = (ji97) then (laws_FnStatesCountedOfAll.j4 k4 a0 a1 a2 a3 a4 t238 t239 t246 t250 t254 t258) else (some false)) = some r := by first | (rw [hji97] at H; exact H) | (simp only [hji97] at H ⊢; exact H)
                have hji97_ : (IntKind.i64.wrap (1 * 2 ^ min a0.toNat 64)) = ji97 := hji97
                have hji97z : a0 ≤ 64 → (IntKind.i64.wrap (1 * 2 ^ a0.toNat)) = ji97 := shl_small hji97
                have hji97u : (IntKind.i64.wrap (2 ^ min a0.toNat 64)) = ji97 := by have h_ := hji97_; rw [Int.one_mul] at h_; exact h_
                have hji97v : a0 ≤ 64 → (IntKind.i64.wrap (2 ^ a0.toNat)) = ji97 := fun hle_ => by have h_ := hji97z hle_; rw [Int.one_mul] at h_; exact h_
                have hji97y : (wrap64 (1 * 2 ^ min a0.toNat 64)) = ji97 := (i64_w _).symm.trans hji97_
                have hji97x : a0 ≤ 64 → (wrap64 (1 * 2 ^ a0.toNat)) = ji97 := fun h_ => (i64_w _).symm.trans (hji97z h_)
                have hji97k : (wrap64 (2 ^ min a0.toNat 64)) = ji97 := (i64_w _).symm.trans hji97u
                have hji97l : a0 ≤ 64 → (wrap64 (2 ^ a0.toNat)) = ji97 := fun h_ => (i64_w _).symm.trans (hji97v h_)
                by_cases c98 : x39_4 = (ji97)
                ·rw [if_pos c98] at H
                 have c98b0 : (x39_4 == (ji97)) = true := beq_iff_eq.mpr c98
                 have c98b1 : (x39_4 != (ji97)) = false := bne_eq_false_iff_eq.mpr c98
                 clear c98
                 have H' := Aside0.mk H
                 clear H
                 go_wp2
                 refine Met.intro ?_
                 go_step
                 refine ⟨[], trivial, ⟨rfl, ?rel⟩, by kernel_rfl⟩
                 case rel => exact ⟨_, H', ⟨by have := HJ5.out; have := HJ18.out; have := HJ78.out; have := HK4.out; first | omega | exact Nat.le_refl _⟩, ⟨by (with_reducible repeat (first | apply Kd.R_alloc | apply Kd.R_drewN | apply Kd.R_drew)); exact HO_11.out⟩, ⟨by repeat (first | (with_reducible first | exact HB.out | apply below_alloc | apply pw_below_drewN | apply below_drew1) | exact HB.out)⟩⟩
                ·rw [if_neg c98] at H
                 have c98b0 : (x39_4 == (ji97)) = false := beq_eq_false_iff_ne.mpr c98
                 have c98b1 : (x39_4 != (ji97)) = true := bne_iff_ne.mpr c98
                 obtain rfl := Option.some.inj H
                 go_wp2
                 go_ret
                 exact ⟨by first | rfl | (simp [errW_none, errW_some] <;> rfl) | (simp only [← hji97]; first | rfl | (simp [errW_none, errW_some] <;> rfl)) | (simp [*, errW_none, errW_some] <;> rfl), by repeat (first | (with_reducible first | exact HB.out | apply below_alloc | apply pw_below_drewN | apply below_drew1) | exact HB.out)⟩
               ·rw [if_neg c96] at H
                exact absurd H (by simp)
        ·replace c74 := Bool.eq_false_iff.mpr c74
         subst c74
         have H1 : (laws_FnStatesCountedOfAll.j4 kj18 a0 a1 a2 a3 a4 t238 t239 t246 t250 t254 t258) = some r := by rw [if_neg (show ¬ (false = true) by decide)] at H; exact H
         clear H
         have H := H1
         clear H1
         have H' := Aside0.mk H
         clear H
         go_wp2
         refine Met.intro ?_
         go_step
         refine ⟨[], trivial, ⟨rfl, ?rel⟩, by kernel_rfl⟩
         case rel => exact ⟨_, H', ⟨by have := HJ5.out; have := HJ18.out; first | omega | exact Nat.le_refl _⟩, ⟨by (with_reducible repeat (first | apply Kd.R_alloc | apply Kd.R_drewN | apply Kd.R_drew)); exact HO_11.out⟩, ⟨by repeat (first | (with_reducible first | exact HB.out | apply below_alloc | apply pw_below_drewN | apply below_drew1) | exact HB.out)⟩⟩
       case rest3 =>
        as_aux_lemma =>
        intro vs_ f_ wc hcut
        obtain ⟨rfl, hcut⟩ := hcut
        dsimp only [mixF, List.getD_cons_zero, List.getD_cons_succ, Nat.reduceAdd]
        clear HC73
        try clear c2
        try clear p2
        try clear c3
        try clear c4
        try clear c5
        try clear c6
        try clear p6
        try clear c7
        try clear c7b0
        try clear c7b1
        try clear c8
        try clear c9
        try clear c29
        try clear c29b0
        try clear c29b1
        try clear c29b2
        try clear c31
        try clear c32
        try clear c32b0
        try clear c32b1
        try clear c32b2
        try clear c35
        try clear c35b0
        try clear c35b1
        try clear c36
        try clear c36b0
        try clear c36b1
        try clear c36b2
        try clear c39
        try clear c39b0
        try clear c39b1
        try clear c40
        try clear c40b0
        try clear c40b1
        try clear c40b2
        try clear c43
        try clear c43b0
        try clear c43b1
        try clear c44
        try clear c44b0
        try clear c44b1
        try clear c44b2
        try clear c47
        try clear c47b0
        try clear c47b1
        try clear c48
        try clear c48b0
        try clear c48b1
        try clear c48b2
        try clear c51
        try clear c51b0
        try clear c51b1
        try clear c51b2
        try clear c54
        try clear c54b0
        try clear c54b1
        try clear c54b2
        try clear c57
        try clear c58
        try clear c59
        try clear c60
        try clear c61
        try clear c62
        try clear c63
        try clear c64
        try clear p64
        try clear c65
        try clear c66
        try clear c67
        try clear c68
        try clear c72
        try clear c74
        try clear c84
        try clear c85
        try clear c86
        try clear c86b0
        try clear c87
        try clear c88
        try clear c88b0
        try clear c88b1
        try clear c89
        try clear c90
        try clear c90b0
        try clear c90b1
        try clear c91
        try clear c91b0
        try clear c92
        try clear c93
        try clear c93b0
        try clear c95
        try clear c96
        try clear c96b0
        try clear c96b1
        try clear c98
        try clear c98b0
        try clear c98b1
        try clear p2
        obtain ⟨kq, HA, HJ72, HO_11, HB⟩ := hcut
        cases kq with
        | zero => exact absurd HA.out (by simp [laws_FnStatesCountedOfAll.j4])
        | succ kj72 =>
         have H := HA.out
         clear HA
         simp only [laws_FnStatesCountedOfAll.j4] at H
         have HC99 := Aside0.mk H
         clear H
         go_upto_if 300 with (fail)
         refine wp_cutv [] [0, 0, 0, 0, 0, 0, 0, 0, 0, 0, 1, 0, 0, 0, 0, 0, 0, 0, 0, 0, 0, 0, 0, 0, 0, 0, 0, 0, 0, 0, 0, 0, 0, 0, 0, 0, 0, 0, 0, 0, 0, 0, 0, 1, 1, 0, 1, 1, 1, 1, 1, 0, 0, 0, 0, 0, 0, 0, 0, 0, 0, 0, 0, 0, 0, 0, 0, 0, 0, 0, 0, 0, 0, 0, 0, 0, 0, 1, 1, 1, 1, 1, 1, 1, 1, 1, 1, 1, 1, 1, 1, 1, 1, 1, 1, 1, 1, 1, 1, 1, 1, 1, 1, 1, 1, 1, 1, 1, 1, 1, 1, 1, 1, 1, 1, 1, 1, 1, 1, 1, 1, 1, 1, 1, 1, 1, 1, 1, 1, 1, 1, 1, 1, 1, 1, 1, 1, 1, 1, 1, 1, 1, 1, 1, 1, 1, 1, 1, 1, 1, 1, 1, 1, 1, 1, 1, 1, 1, 1, 1, 1, 1, 1, 1, 1, 1, 1, 1, 1, 1, 1, 1, 1, 1, 1, 1, 1, 1, 1, 1, 1, 1, 1, 1, 1, 1, 1, 1, 1, 1, 1, 1, 1, 1, 1, 1, 1, 1, 1, 1, 1, 1, 1, 1, 1, 1, 1, 1, 1, 1, 1, 1, 1, 1, 1, 1, 1, 1, 1, 1, 1, 1, 1, 1, 1, 1, 1, 1, 1, 1, 1, 1, 1, 1, 1, 1, 1, 1, 1, 1, 1, 1, 1, 1, 1, 1, 1, 1, 1, 1, 1, 1, 1, 1, 1, 1, 1, 1, 1, 1, 1, 1, 1, 1, 1, 1, 1, 1, 1, 1, 1, 1, 1, 1, 1, 1, 1, 1, 1, 1, 1, 1, 1, 1, 1, 1, 1, 1, 1, 1, 1, 1, 1, 1, 1, 1, 1, 1, 1, 1, 1, 1, 1, 1, 1, 1, 1, 1, 1, 1, 1, 1, 1, 1, 1, 1, 1, 1, 1, 1, 1, 1, 1, 1, 1, 1, 1, 1, 1, 1, 1, 1, 1, 1, 1, 1, 1, 1, 1, 1, 1, 1, 1, 1, 1, 1, 1, 1, 1, 1, 1, 1, 1, 1, 1, 1, 1, 1, 1, 1, 1, 1, 1, 1, 1, 1, 1, 1, 1, 1, 1, 1, 1, 1, 1, 1, 1, 1, 1, 1, 1, 1, 1, 1, 1, 1, 1, 1, 1, 1, 1, 1, 1, 1, 1, 1, 1, 1, 1, 1, 1, 1, 1, 1, 1, 1, 1, 1, 1, 1, 1, 1, 1, 1, 1, 1, 1, 1, 1, 1, 1, 1, 1, 1, 1, 1, 1, 1, 1, 1, 1, 1, 1, 1, 1, 1, 1, 1, 1, 1, 1, 1, 1, 1, 1, 1, 1, 1, 1, 1, 1, 1, 1, 1, 1, 1, 1, 1, 1, 1, 1, 1, 1, 1, 1, 1, 1, 1, 1, 1, 1, 1, 1, 1, 1, 1, 1, 1, 1, 1, 1, 1, 1, 1, 1, 1, 0, 0, 0, 1, 1, 1, 1, 1, 1, 1, 1, 1, 1, 1, 1, 1, 1, 1, 1, 1, 1, 1, 1, 1, 1] (fun vs_ wc => vs_ = [] ∧ ∃ (kq : Nat), Aside0 (laws_FnStatesCountedOfAll.j6 kq a2 a3 a4 = some r) ∧ Aside0 (kq ≤ kj72) ∧ Aside0 (Below w.heap.size w wc)) ?first5 ?rest5
         case first5 =>
          as_aux_lemma =>
          intro _ _ _ _
          (try dsimp only [List.append])
          have H := HC99.out
          clear HC99
          by_cases c100 : t239 = true
          ·subst c100
           have H1 : (laws_FnStatesCountedOfAll.l1 kj72 a0 a1 a2 a3 a4 t238 t246 t250 t254 t258 0 (-1) t238 (t238.length : Int) 0) = some r := by rw [if_pos rfl] at H; exact H
           clear H
           have H := H1
           clear H1
           have H' := Aside0.mk H
           clear H
           obtain ⟨Ao101, co101, eo101⟩ := Kd.R_slice HO_11.out
           subst eo101
           go_wp2
           go_loopg [43, 44, 303] kj72 (fun kq v43 v44 v303 w' => ∃ (x43_4 : Int) (x44_4 : Int) (x303_4 : Int), v43 = .int .i64 x43_4 ∧ v44 = .int .i64 x44_4 ∧ v303 = .int .i64 x303_4 ∧ Aside0 (laws_FnStatesCountedOfAll.l1 kq a0 a1 a2 a3 a4 t238 t246 t250 t254 t258 x43_4 x44_4 t238 (t238.length : Int) x303_4 = some r) ∧ Aside0 (kq ≤ kj72) ∧ Aside0 (Kd.R Kd.string 9 w' w.heap.size (fun _ => True) (.slice Ao101 t238.length co101) t238) ∧ Aside0 (Kd.R Kd.string 9 w' w.heap.size (fun _ => True) (.slice Ao101 t238.length co101) t238) ∧ Aside0 (Below w.heap.size w w'))
           case atStart => exact ⟨(0), ((-1)), (0), (by first | rfl | (simp; done) | (simp [*]; done)), (by first | rfl | (simp; done) | (simp [*]; done)), (by first | rfl | (simp; done) | (simp [*]; done)), H', ⟨Nat.le_refl _⟩, ⟨by (with_reducible repeat (first | apply Kd.R_alloc | apply Kd.R_drewN | apply Kd.R_drew)); exact HO_11.out⟩, ⟨by (with_reducible repeat (first | apply Kd.R_alloc | apply Kd.R_drewN | apply Kd.R_drew)); exact HO_11.out⟩, ⟨by repeat (first | (with_reducible first | exact HB.out | apply below_alloc | apply pw_below_drewN | apply below_drew1) | exact HB.out)⟩⟩
           case round =>
            clear H'
            try clear c1
            try clear c2
            try clear p2
            try clear c3
            try clear c4
            try clear c5
            try clear c6
            try clear p6
            try clear c7
            try clear c7b0
            try clear c7b1
            try clear c8
            try clear c9
            try clear c10
            try clear c29
            try clear c29b0
            try clear c29b1
            try clear c29b2
            try clear c31
            try clear c32
            try clear c32b0
            try clear c32b1
            try clear c32b2
            try clear c35
            try clear c35b0
            try clear c35b1
            try clear c36
            try clear c36b0
            try clear c36b1
            try clear c36b2
            try clear c39
            try clear c39b0
            try clear c39b1
            try clear c40
            try clear c40b0
            try clear c40b1
            try clear c40b2
            try clear c43
            try clear c43b0
            try clear c43b1
            try clear c44
            try clear c44b0
            try clear c44b1
            try clear c44b2
            try clear c47
            try clear c47b0
            try clear c47b1
            try clear c48
            try clear c48b0
            try clear c48b1
            try clear c48b2
            try clear c51
            try clear c51b0
            try clear c51b1
            try clear c51b2
            try clear c54
            try clear c54b0
            try clear c54b1
            try clear c54b2
            try clear c57
            try clear c58
            try clear c59
            try clear c60
            try clear c61
            try clear c62
            try clear c63
            try clear c64
            try clear p64
            try clear c65
            try clear c66
            try clear c67
            try clear c68
            try clear c72
            try clear c74
            try clear c84
            try clear c85
            try clear c86
            try clear c86b0
            try clear c87
            try clear c88
            try clear c88b0
            try clear c88b1
            try clear c89
            try clear c90
            try clear c90b0
            try clear c90b1
            try clear c91
            try clear c91b0
            try clear c92
            try clear c93
            try clear c93b0
            try clear c95
            try clear c96
            try clear c96b0
            try clear c96b1
            try clear c98
            try clear c98b0
            try clear c98b1
            try clear c100
            try clear p2
            try clear p6
            try clear p64
            obtain ⟨x43_4, x44_4, x303_4, rfl, rfl, rfl, HA, HK4, HO_11, HO_301, HB⟩ := hrel
            cases gk with
            | zero => exact absurd HA.out (by simp [laws_FnStatesCountedOfAll.l1])
            | succ k4 =>
             have H := HA.out
             clear HA
             simp only [laws_FnStatesCountedOfAll.l1] at H
             by_cases c102 : x303_4 < (t238.length : Int)
             ·rw [if_pos c102] at H
              have c102b0 : decide (x303_4 < (t238.length : Int)) = true := decide_eq_true c102
              clear c102
              (first | rw [c102b0] | (simp only [i64_w, i32_w]; rw [c102b0]) | skip)
              by_cases c103 : 0 ≤ x303_4
              ·rw [if_pos c103] at H
               have c103b0 : decide (0 ≤ x303_4) = true := decide_eq_true c103
               clear c103
               by_cases c104 : x303_4 < (t238.length : Int)
               ·rw [if_pos c104] at H
                have c104b0 : decide (x303_4 < (t238.length : Int)) = true := decide_eq_true c104
                clear c104
                replace H := Option.bind_eq_some_iff.mp H
                obtain ⟨⟨t276, t277⟩, A1050, H⟩ := H
                replace H : ((impl_CountOn.f (rdOf ByteArray.empty t238 x303_4)).bind fun bt278 => (if t277 = true then (if t276 ≤ x44_4 then (some false) else (if bt278.2 = true then (if bt278.1 = a1 then (if ((rdOf ByteArray.empty t238 x303_4).size : Int) = a0 then (laws_FnStatesCountedOfAll.l1 k4 a0 a1 a2 a3 a4 t238 t246 t250 t254 t258 (wrap64 (x43_4 + t276)) t276 t238 (t238.length : Int) (wrap64 (x303_4 + 1))) else (some false)) else (some false)) else (some false))) else (some false))) = some r := H
                have A105 := Aside0.mk A1050
                clear A1050
                replace H := Option.bind_eq_some_iff.mp H
                obtain ⟨⟨t278, t279⟩, A1060, H⟩ := H
                replace H : (if t277 = true then (if t276 ≤ x44_4 then (some false) else (if t279 = true then (if t278 = a1 then (if ((rdOf ByteArray.empty t238 x303_4).size : Int) = a0 then (laws_FnStatesCountedOfAll.l1 k4 a0 a1 a2 a3 a4 t238 t246 t250 t254 t258 (wrap64 (x43_4 + t276)) t276 t238 (t238.length : Int) (wrap64 (x303_4 + 1))) else (some false)) else (some false)) else (some false))) else (some false)) = some r := H
                have A106 := Aside0.mk A1060
                clear A1060
                by_cases c107 : t277 = true
                ·subst c107
                 have H1 : (if t276 ≤ x44_4 then (some false) else (if t279 = true then (if t278 = a1 then (if ((rdOf ByteArray.empty t238 x303_4).size : Int) = a0 then (laws_FnStatesCountedOfAll.l1 k4 a0 a1 a2 a3 a4 t238 t246 t250 t254 t258 (wrap64 (x43_4 + t276)) t276 t238 (t238.length : Int) (wrap64 (x303_4 + 1))) else (some false)) else (some false)) else (some false))) = some r := by rw [if_pos rfl] at H; exact H
                 clear H
                 have H := H1
                 clear H1
                 by_cases c108 : t276 ≤ x44_4
                 ·rw [if_pos c108] at H
                  have c108b0 : decide (t276 ≤ x44_4) = true := decide_eq_true c108
                  clear c108
                  obtain rfl := Option.some.inj H
                  have p275 : 0 ≤ (x303_4 : Int) := of_decide_eq_true (by first | (with_reducible assumption) | assumption)
                  have q275 : x303_4 < (t238.length : Int) := of_decide_eq_true (by first | (with_reducible assumption) | assumption)
                  obtain ⟨ad275, e275, hx275_0⟩ := Kd.at_string (Kd.R_reads' HO_301.out).2.2 x303_4 p275 q275
                  cases e275
                  replace p275 := eq_true p275
                  replace q275 := eq_true q275
                  go_wp2_with (first | ((with_reducible refine gate_callee (f := 67) rfl ?_); refine goesL_ (some 309) rfl rfl Tryd.func67 (by kernel_rfl) rfl #[.string (rdOf ByteArray.empty t238 x303_4)] rfl (by (try simp only [List.map_toArray, List.map_cons, List.map_nil]); first | done | rfl | (simp only [List.length_drop, List.length_take]; rfl)) ?_; (with_reducible refine (impl_NumberOfState.calls k4 (rdOf ByteArray.empty t238 x303_4) t276 true _ A105.out).mono ?_); rintro e w109 ⟨rfl, hb⟩; refine ⟨_, rfl, ?_⟩; have n0_ := Aside0.mk (Kd.R_below (by (with_reducible repeat (first | apply Kd.R_alloc | apply Kd.R_drewN | apply Kd.R_drew)); exact HO_11.out) hb); have n1_ := Aside0.mk (Kd.R_below (by (with_reducible repeat (first | apply Kd.R_alloc | apply Kd.R_drewN | apply Kd.R_drew)); exact HO_301.out) hb); have n2_ := Aside0.mk (below_step (by repeat (first | (with_reducible first | exact HB.out | apply below_alloc | apply pw_below_drewN | apply below_drew1) | exact HB.out)) hb); clear HO_11; clear HO_301; clear HB; have HO_11 := n0_; have HO_301 := n1_; have HB := n2_; clear n0_ n1_ n2_; (try clear hb); (try clear hb2); (try clear hk); (try clear hi)) | ((with_reducible refine gate_callee (f := 68) rfl ?_); refine goesL_ (some 314) rfl rfl Tryd.func68 (by kernel_rfl) rfl #[.string (rdOf ByteArray.empty t238 x303_4)] rfl (by (try simp only [List.map_toArray, List.map_cons, List.map_nil]); first | done | rfl | (simp only [List.length_drop, List.length_take]; rfl)) ?_; (with_reducible refine (impl_CountOn.calls (rdOf ByteArray.empty t238 x303_4) t278 t279 _ A106.out).mono ?_); rintro e w110 ⟨rfl, hb⟩; refine ⟨_, rfl, ?_⟩; have n0_ := Aside0.mk (Kd.R_below (by (with_reducible repeat (first | apply Kd.R_alloc | apply Kd.R_drewN | apply Kd.R_drew)); exact HO_11.out) hb); have n1_ := Aside0.mk (Kd.R_below (by (with_reducible repeat (first | apply Kd.R_alloc | apply Kd.R_drewN | apply Kd.R_drew)); exact HO_301.out) hb); have n2_ := Aside0.mk (below_step (by repeat (first | (with_reducible first | exact HB.out | apply below_alloc | apply pw_below_drewN | apply below_drew1) | exact HB.out)) hb); clear HO_11; clear HO_301; clear HB; have HO_11 := n0_; have HO_301 := n1_; have HB := n2_; clear n0_ n1_ n2_; (try clear hb); (try clear hb2); (try clear hk); (try clear hi)))
                  go_ret
                  exact ⟨by first | rfl | (simp [errW_none, errW_some] <;> rfl) | (simp [*, errW_none, errW_some] <;> rfl), by repeat (first | (with_reducible first | exact HB.out | apply below_alloc | apply pw_below_drewN | apply below_drew1) | exact HB.out)⟩
                 ·rw [if_neg c108] at H
                  have c108b0 : decide (t276 ≤ x44_4) = false := decide_eq_false c108
                  clear c108
                  by_cases c111 : t279 = true
                  ·subst c111
                   have H1 : (if t278 = a1 then (if ((rdOf ByteArray.empty t238 x303_4).size : Int) = a0 then (laws_FnStatesCountedOfAll.l1 k4 a0 a1 a2 a3 a4 t238 t246 t250 t254 t258 (wrap64 (x43_4 + t276)) t276 t238 (t238.length : Int) (wrap64 (x303_4 + 1))) else (some false)) else (some false)) = some r := by rw [if_pos rfl] at H; exact H
                   clear H
                   have H := H1
                   clear H1
                   by_cases c112 : t278 = a1
                   ·rw [if_pos c112] at H
                    have c112b0 : (t278 == a1) = true := beq_iff_eq.mpr c112
                    have c112b1 : (t278 != a1) = false := bne_eq_false_iff_eq.mpr c112
                    clear c112
                    by_cases c113 : ((rdOf ByteArray.empty t238 x303_4).size : Int) = a0
                    ·rw [if_pos c113] at H
                     have c113b0 : (((rdOf ByteArray.empty t238 x303_4).size : Int) == a0) = true := beq_iff_eq.mpr c113
                     have c113b1 : (((rdOf ByteArray.empty t238 x303_4).size : Int) != a0) = false := bne_eq_false_iff_eq.mpr c113
                     clear c113
                     have H' := Aside0.mk H
                     clear H
                     have p275 : 0 ≤ (x303_4 : Int) := of_decide_eq_true (by first | (with_reducible assumption) | assumption)
                     have q275 : x303_4 < (t238.length : Int) := of_decide_eq_true (by first | (with_reducible assumption) | assumption)
                     obtain ⟨ad275, e275, hx275_0⟩ := Kd.at_string (Kd.R_reads' HO_301.out).2.2 x303_4 p275 q275
                     cases e275
                     replace p275 := eq_true p275
                     replace q275 := eq_true q275
                     go_wp2_with (first | ((with_reducible refine gate_callee (f := 67) rfl ?_); refine goesL_ (some 309) rfl rfl Tryd.func67 (by kernel_rfl) rfl #[.string (rdOf ByteArray.empty t238 x303_4)] rfl (by (try simp only [List.map_toArray, List.map_cons, List.map_nil]); first | done | rfl | (simp only [List.length_drop, List.length_take]; rfl)) ?_; (with_reducible refine (impl_NumberOfState.calls k4 (rdOf ByteArray.empty t238 x303_4) t276 true _ A105.out).mono ?_); rintro e w114 ⟨rfl, hb⟩; refine ⟨_, rfl, ?_⟩; have n0_ := Aside0.mk (Kd.R_below (by (with_reducible repeat (first | apply Kd.R_alloc | apply Kd.R_drewN | apply Kd.R_drew)); exact HO_11.out) hb); have n1_ := Aside0.mk (Kd.R_below (by (with_reducible repeat (first | apply Kd.R_alloc | apply Kd.R_drewN | apply Kd.R_drew)); exact HO_301.out) hb); have n2_ := Aside0.mk (below_step (by repeat (first | (with_reducible first | exact HB.out | apply below_alloc | apply pw_below_drewN | apply below_drew1) | exact HB.out)) hb); clear HO_11; clear HO_301; clear HB; have HO_11 := n0_; have HO_301 := n1_; have HB := n2_; clear n0_ n1_ n2_; (try clear hb); (try clear hb2); (try clear hk); (try clear hi)) | ((with_reducible refine gate_callee (f := 68) rfl ?_); refine goesL_ (some 314) rfl rfl Tryd.func68 (by kernel_rfl) rfl #[.string (rdOf ByteArray.empty t238 x303_4)] rfl (by (try simp only [List.map_toArray, List.map_cons, List.map_nil]); first | done | rfl | (simp only [List.length_drop, List.length_take]; rfl)) ?_; (with_reducible refine (impl_CountOn.calls (rdOf ByteArray.empty t238 x303_4) t278 true _ A106.out).mono ?_); rintro e w115 ⟨rfl, hb⟩; refine ⟨_, rfl, ?_⟩; have n0_ := Aside0.mk (Kd.R_below (by (with_reducible repeat (first | apply Kd.R_alloc | apply Kd.R_drewN | apply Kd.R_drew)); exact HO_11.out) hb); have n1_ := Aside0.mk (Kd.R_below (by (with_reducible repeat (first | apply Kd.R_alloc | apply Kd.R_drewN | apply Kd.R_drew)); exact HO_301.out) hb); have n2_ := Aside0.mk (below_step (by repeat (first | (with_reducible first | exact HB.out | apply below_alloc | apply pw_below_drewN | apply below_drew1) | exact HB.out)) hb); clear HO_11; clear HO_301; clear HB; have HO_11 := n0_; have HO_301 := n1_; have HB := n2_; clear n0_ n1_ n2_; (try clear hb); (try clear hb2); (try clear hk); (try clear hi)))
                     go_roundg k4
                     case measure => have := HJ5.out; have := HJ18.out; have := HJ72.out; have := HK4.out; omega
                     case rel => exact ⟨(wrap64 (x43_4 + t276)), (t276), (wrap64 (x303_4 + 1)), (by first | rfl | (simp; done) | (simp [*]; done)), (by first | rfl | (simp; done) | (simp [*]; done)), (by first | rfl | (simp; done) | (simp [*]; done)), H', ⟨by have := HJ5.out; have := HJ18.out; have := HJ72.out; have := HK4.out; omega⟩, ⟨by (with_reducible repeat (first | apply Kd.R_alloc | apply Kd.R_drewN | apply Kd.R_drew)); exact HO_11.out⟩, ⟨by (with_reducible repeat (first | apply Kd.R_alloc | apply Kd.R_drewN | apply Kd.R_drew)); exact HO_301.out⟩, ⟨by repeat (first | (with_reducible first | exact HB.out | apply below_alloc | apply pw_below_drewN | apply below_drew1) | exact HB.out)⟩⟩
                    ·rw [if_neg c113] at H
                     have c113b0 : (((rdOf ByteArray.empty t238 x303_4).size : Int) == a0) = false := beq_eq_false_iff_ne.mpr c113
                     have c113b1 : (((rdOf ByteArray.empty t238 x303_4).size : Int) != a0) = true := bne_iff_ne.mpr c113
                     obtain rfl := Option.some.inj H
                     have p275 : 0 ≤ (x303_4 : Int) := of_decide_eq_true (by first | (with_reducible assumption) | assumption)
                     have q275 : x303_4 < (t238.length : Int) := of_decide_eq_true (by first | (with_reducible assumption) | assumption)
                     obtain ⟨ad275, e275, hx275_0⟩ := Kd.at_string (Kd.R_reads' HO_301.out).2.2 x303_4 p275 q275
                     cases e275
                     replace p275 := eq_true p275
                     replace q275 := eq_true q275
                     go_wp2_with (first | ((with_reducible refine gate_callee (f := 67) rfl ?_); refine goesL_ (some 309) rfl rfl Tryd.func67 (by kernel_rfl) rfl #[.string (rdOf ByteArray.empty t238 x303_4)] rfl (by (try simp only [List.map_toArray, List.map_cons, List.map_nil]); first | done | rfl | (simp only [List.length_drop, List.length_take]; rfl)) ?_; (with_reducible refine (impl_NumberOfState.calls k4 (rdOf ByteArray.empty t238 x303_4) t276 true _ A105.out).mono ?_); rintro e w116 ⟨rfl, hb⟩; refine ⟨_, rfl, ?_⟩; have n0_ := Aside0.mk (Kd.R_below (by (with_reducible repeat (first | apply Kd.R_alloc | apply Kd.R_drewN | apply Kd.R_drew)); exact HO_11.out) hb); have n1_ := Aside0.mk (Kd.R_below (by (with_reducible repeat (first | apply Kd.R_alloc | apply Kd.R_drewN | apply Kd.R_drew)); exact HO_301.out) hb); have n2_ := Aside0.mk (below_step (by repeat (first | (with_reducible first | exact HB.out | apply below_alloc | apply pw_below_drewN | apply below_drew1) | exact HB.out)) hb); clear HO_11; clear HO_301; clear HB; have HO_11 := n0_; have HO_301 := n1_; have HB := n2_; clear n0_ n1_ n2_; (try clear hb); (try clear hb2); (try clear hk); (try clear hi)) | ((with_reducible refine gate_callee (f := 68) rfl ?_); refine goesL_ (some 314) rfl rfl Tryd.func68 (by kernel_rfl) rfl #[.string (rdOf ByteArray.empty t238 x303_4)] rfl (by (try simp only [List.map_toArray, List.map_cons, List.map_nil]); first | done | rfl | (simp only [List.length_drop, List.length_take]; rfl)) ?_; (with_reducible refine (impl_CountOn.calls (rdOf ByteArray.empty t238 x303_4) t278 true _ A106.out).mono ?_); rintro e w117 ⟨rfl, hb⟩; refine ⟨_, rfl, ?_⟩; have n0_ := Aside0.mk (Kd.R_below (by (with_reducible repeat (first | apply Kd.R_alloc | apply Kd.R_drewN | apply Kd.R_drew)); exact HO_11.out) hb); have n1_ := Aside0.mk (Kd.R_below (by (with_reducible repeat (first | apply Kd.R_alloc | apply Kd.R_drewN | apply Kd.R_drew)); exact HO_301.out) hb); have n2_ := Aside0.mk (below_step (by repeat (first | (with_reducible first | exact HB.out | apply below_alloc | apply pw_below_drewN | apply below_drew1) | exact HB.out)) hb); clear HO_11; clear HO_301; clear HB; have HO_11 := n0_; have HO_301 := n1_; have HB := n2_; clear n0_ n1_ n2_; (try clear hb); (try clear hb2); (try clear hk); (try clear hi)))
                     go_ret
                     exact ⟨by first | rfl | (simp [errW_none, errW_some] <;> rfl) | (simp [*, errW_none, errW_some] <;> rfl), by repeat (first | (with_reducible first | exact HB.out | apply below_alloc | apply pw_below_drewN | apply below_drew1) | exact HB.out)⟩
                   ·rw [if_neg c112] at H
                    have c112b0 : (t278 == a1) = false := beq_eq_false_iff_ne.mpr c112
                    have c112b1 : (t278 != a1) = true := bne_iff_ne.mpr c112
                    obtain rfl := Option.some.inj H
                    have p275 : 0 ≤ (x303_4 : Int) := of_decide_eq_true (by first | (with_reducible assumption) | assumption)
                    have q275 : x303_4 < (t238.length : Int) := of_decide_eq_true (by first | (with_reducible assumption) | assumption)
                    obtain ⟨ad275, e275, hx275_0⟩ := Kd.at_string (Kd.R_reads' HO_301.out).2.2 x303_4 p275 q275
                    cases e275
                    replace p275 := eq_true p275
                    replace q275 := eq_true q275
                    go_wp2_with (first | ((with_reducible refine gate_callee (f := 67) rfl ?_); refine goesL_ (some 309) rfl rfl Tryd.func67 (by kernel_rfl) rfl #[.string (rdOf ByteArray.empty t238 x303_4)] rfl (by (try simp only [List.map_toArray, List.map_cons, List.map_nil]); first | done | rfl | (simp only [List.length_drop, List.length_take]; rfl)) ?_; (with_reducible refine (impl_NumberOfState.calls k4 (rdOf ByteArray.empty t238 x303_4) t276 true _ A105.out).mono ?_); rintro e w118 ⟨rfl, hb⟩; refine ⟨_, rfl, ?_⟩; have n0_ := Aside0.mk (Kd.R_below (by (with_reducible repeat (first | apply Kd.R_alloc | apply Kd.R_drewN | apply Kd.R_drew)); exact HO_11.out) hb); have n1_ := Aside0.mk (Kd.R_below (by (with_reducible repeat (first | apply Kd.R_alloc | apply Kd.R_drewN | apply Kd.R_drew)); exact HO_301.out) hb); have n2_ := Aside0.mk (below_step (by repeat (first | (with_reducible first | exact HB.out | apply below_alloc | apply pw_below_drewN | apply below_drew1) | exact HB.out)) hb); clear HO_11; clear HO_301; clear HB; have HO_11 := n0_; have HO_301 := n1_; have HB := n2_; clear n0_ n1_ n2_; (try clear hb); (try clear hb2); (try clear hk); (try clear hi)) | ((with_reducible refine gate_callee (f := 68) rfl ?_); refine goesL_ (some 314) rfl rfl Tryd.func68 (by kernel_rfl) rfl #[.string (rdOf ByteArray.empty t238 x303_4)] rfl (by (try simp only [List.map_toArray, List.map_cons, List.map_nil]); first | done | rfl | (simp only [List.length_drop, List.length_take]; rfl)) ?_; (with_reducible refine (impl_CountOn.calls (rdOf ByteArray.empty t238 x303_4) t278 true _ A106.out).mono ?_); rintro e w119 ⟨rfl, hb⟩; refine ⟨_, rfl, ?_⟩; have n0_ := Aside0.mk (Kd.R_below (by (with_reducible repeat (first | apply Kd.R_alloc | apply Kd.R_drewN | apply Kd.R_drew)); exact HO_11.out) hb); have n1_ := Aside0.mk (Kd.R_below (by (with_reducible repeat (first | apply Kd.R_alloc | apply Kd.R_drewN | apply Kd.R_drew)); exact HO_301.out) hb); have n2_ := Aside0.mk (below_step (by repeat (first | (with_reducible first | exact HB.out | apply below_alloc | apply pw_below_drewN | apply below_drew1) | exact HB.out)) hb); clear HO_11; clear HO_301; clear HB; have HO_11 := n0_; have HO_301 := n1_; have HB := n2_; clear n0_ n1_ n2_; (try clear hb); (try clear hb2); (try clear hk); (try clear hi)))
                    go_ret
                    exact ⟨by first | rfl | (simp [errW_none, errW_some] <;> rfl) | (simp [*, errW_none, errW_some] <;> rfl), by repeat (first | (with_reducible first | exact HB.out | apply below_alloc | apply pw_below_drewN | apply below_drew1) | exact HB.out)⟩
                  ·replace c111 := Bool.eq_false_iff.mpr c111
                   subst c111
                   have H1 : (some false) = some r := by rw [if_neg (show ¬ (false = true) by decide)] at H; exact H
                   clear H
                   have H := H1
                   clear H1
                   obtain rfl := Option.some.inj H
                   have p275 : 0 ≤ (x303_4 : Int) := of_decide_eq_true (by first | (with_reducible assumption) | assumption)
                   have q275 : x303_4 < (t238.length : Int) := of_decide_eq_true (by first | (with_reducible assumption) | assumption)
                   obtain ⟨ad275, e275, hx275_0⟩ := Kd.at_string (Kd.R_reads' HO_301.out).2.2 x303_4 p275 q275
                   cases e275
                   replace p275 := eq_true p275
                   replace q275 := eq_true q275
                   go_wp2_with (first | ((with_reducible refine gate_callee (f := 67) rfl ?_); refine goesL_ (some 309) rfl rfl Tryd.func67 (by kernel_rfl) rfl #[.string (rdOf ByteArray.empty t238 x303_4)] rfl (by (try simp only [List.map_toArray, List.map_cons, List.map_nil]); first | done | rfl | (simp only [List.length_drop, List.length_take]; rfl)) ?_; (with_reducible refine (impl_NumberOfState.calls k4 (rdOf ByteArray.empty t238 x303_4) t276 true _ A105.out).mono ?_); rintro e w120 ⟨rfl, hb⟩; refine ⟨_, rfl, ?_⟩; have n0_ := Aside0.mk (Kd.R_below (by (with_reducible repeat (first | apply Kd.R_alloc | apply Kd.R_drewN | apply Kd.R_drew)); exact HO_11.out) hb); have n1_ := Aside0.mk (Kd.R_below (by (with_reducible repeat (first | apply Kd.R_alloc | apply Kd.R_drewN | apply Kd.R_drew)); exact HO_301.out) hb); have n2_ := Aside0.mk (below_step (by repeat (first | (with_reducible first | exact HB.out | apply below_alloc | apply pw_below_drewN | apply below_drew1) | exact HB.out)) hb); clear HO_11; clear HO_301; clear HB; have HO_11 := n0_; have HO_301 := n1_; have HB := n2_; clear n0_ n1_ n2_; (try clear hb); (try clear hb2); (try clear hk); (try clear hi)) | ((with_reducible refine gate_callee (f := 68) rfl ?_); refine goesL_ (some 314) rfl rfl Tryd.func68 (by kernel_rfl) rfl #[.string (rdOf ByteArray.empty t238 x303_4)] rfl (by (try simp only [List.map_toArray, List.map_cons, List.map_nil]); first | done | rfl | (simp only [List.length_drop, List.length_take]; rfl)) ?_; (with_reducible refine (impl_CountOn.calls (rdOf ByteArray.empty t238 x303_4) t278 false _ A106.out).mono ?_); rintro e w121 ⟨rfl, hb⟩; refine ⟨_, rfl, ?_⟩; have n0_ := Aside0.mk (Kd.R_below (by (with_reducible repeat (first | apply Kd.R_alloc | apply Kd.R_drewN | apply Kd.R_drew)); exact HO_11.out) hb); have n1_ := Aside0.mk (Kd.R_below (by (with_reducible repeat (first | apply Kd.R_alloc | apply Kd.R_drewN | apply Kd.R_drew)); exact HO_301.out) hb); have n2_ := Aside0.mk (below_step (by repeat (first | (with_reducible first | exact HB.out | apply below_alloc | apply pw_below_drewN | apply below_drew1) | exact HB.out)) hb); clear HO_11; clear HO_301; clear HB; have HO_11 := n0_; have HO_301 := n1_; have HB := n2_; clear n0_ n1_ n2_; (try clear hb); (try clear hb2); (try clear hk); (try clear hi)))
                   go_ret
                   exact ⟨by first | rfl | (simp [errW_none, errW_some] <;> rfl) | (simp [*, errW_none, errW_some] <;> rfl), by repeat (first | (with_reducible first | exact HB.out | apply below_alloc | apply pw_below_drewN | apply below_drew1) | exact HB.out)⟩
                ·replace c107 := Bool.eq_false_iff.mpr c107
                 subst c107
                 have H1 : (some false) = some r := by rw [if_neg (show ¬ (false = true) by decide)] at H; exact H
                 clear H
                 have H := H1
                 clear H1
                 obtain rfl := Option.some.inj H
                 have p275 : 0 ≤ (x303_4 : Int) := of_decide_eq_true (by first | (with_reducible assumption) | assumption)
                 have q275 : x303_4 < (t238.length : Int) := of_decide_eq_true (by first | (with_reducible assumption) | assumption)
                 obtain ⟨ad275, e275, hx275_0⟩ := Kd.at_string (Kd.R_reads' HO_301.out).2.2 x303_4 p275 q275
                 cases e275
                 replace p275 := eq_true p275
                 replace q275 := eq_true q275
                 go_wp2_with (first | ((with_reducible refine gate_callee (f := 67) rfl ?_); refine goesL_ (some 309) rfl rfl Tryd.func67 (by kernel_rfl) rfl #[.string (rdOf ByteArray.empty t238 x303_4)] rfl (by (try simp only [List.map_toArray, List.map_cons, List.map_nil]); first | done | rfl | (simp only [List.length_drop, List.length_take]; rfl)) ?_; (with_reducible refine (impl_NumberOfState.calls k4 (rdOf ByteArray.empty t238 x303_4) t276 false _ A105.out).mono ?_); rintro e w122 ⟨rfl, hb⟩; refine ⟨_, rfl, ?_⟩; have n0_ := Aside0.mk (Kd.R_below (by (with_reducible repeat (first | apply Kd.R_alloc | apply Kd.R_drewN | apply Kd.R_drew)); exact HO_11.out) hb); have n1_ := Aside0.mk (Kd.R_below (by (with_reducible repeat (first | apply Kd.R_alloc | apply Kd.R_drewN | apply Kd.R_drew)); exact HO_301.out) hb); have n2_ := Aside0.mk (below_step (by repeat (first | (with_reducible first | exact HB.out | apply below_alloc | apply pw_below_drewN | apply below_drew1) | exact HB.out)) hb); clear HO_11; clear HO_301; clear HB; have HO_11 := n0_; have HO_301 := n1_; have HB := n2_; clear n0_ n1_ n2_; (try clear hb); (try clear hb2); (try clear hk); (try clear hi)) | ((with_reducible refine gate_callee (f := 68) rfl ?_); refine goesL_ (some 314) rfl rfl Tryd.func68 (by kernel_rfl) rfl #[.string (rdOf ByteArray.empty t238 x303_4)] rfl (by (try simp only [List.map_toArray, List.map_cons, List.map_nil]); first | done | rfl | (simp only [List.length_drop, List.length_take]; rfl)) ?_; (with_reducible refine (impl_CountOn.calls (rdOf ByteArray.empty t238 x303_4) t278 t279 _ A106.out).mono ?_); rintro e w123 ⟨rfl, hb⟩; refine ⟨_, rfl, ?_⟩; have n0_ := Aside0.mk (Kd.R_below (by (with_reducible repeat (first | apply Kd.R_alloc | apply Kd.R_drewN | apply Kd.R_drew)); exact HO_11.out) hb); have n1_ := Aside0.mk (Kd.R_below (by (with_reducible repeat (first | apply Kd.R_alloc | apply Kd.R_drewN | apply Kd.R_drew)); exact HO_301.out) hb); have n2_ := Aside0.mk (below_step (by repeat (first | (with_reducible first | exact HB.out | apply below_alloc | apply pw_below_drewN | apply below_drew1) | exact HB.out)) hb); clear HO_11; clear HO_301; clear HB; have HO_11 := n0_; have HO_301 := n1_; have HB := n2_; clear n0_ n1_ n2_; (try clear hb); (try clear hb2); (try clear hk); (try clear hi)))
                 go_ret
                 exact ⟨by first | rfl | (simp [errW_none, errW_some] <;> rfl) | (simp [*, errW_none, errW_some] <;> rfl), by repeat (first | (with_reducible first | exact HB.out | apply below_alloc | apply pw_below_drewN | apply below_drew1) | exact HB.out)⟩
               ·rw [if_neg c104] at H
                exact absurd H (by simp)
              ·rw [if_neg c103] at H
               exact absurd H (by simp)
             ·rw [if_neg c102] at H
              have c102b0 : decide (x303_4 < (t238.length : Int)) = false := decide_eq_false c102
              clear c102
              (first | rw [c102b0] | (simp only [i64_w, i32_w]; rw [c102b0]) | skip)
              by_cases c124 : (t238.length : Int) = t246
              ·rw [if_pos c124] at H
               have c124b0 : ((t238.length : Int) == t246) = true := beq_iff_eq.mpr c124
               have c124b1 : ((t238.length : Int) != t246) = false := bne_eq_false_iff_eq.mpr c124
               clear c124
               by_cases c125 : x43_4 = t258
               ·rw [if_pos c125] at H
                have c125b0 : (x43_4 == t258) = true := beq_iff_eq.mpr c125
                have c125b1 : (x43_4 != t258) = false := bne_eq_false_iff_eq.mpr c125
                clear c125
                by_cases c126 : 0 < (t238.length : Int)
                ·rw [if_pos c126] at H
                 have c126b0 : decide (0 < (t238.length : Int)) = true := decide_eq_true c126
                 have c126b1 : decide (0 < t238.length) = true := decide_eq_true (by omega)
                 clear c126
                 by_cases c127 : (rdOf ByteArray.empty t238 0).toList = t250.toList
                 ·rw [if_pos c127] at H
                  have c127b0 : ((rdOf ByteArray.empty t238 0).toList == t250.toList) = true := beq_iff_eq.mpr c127
                  have c127b1 : ((rdOf ByteArray.empty t238 0).toList != t250.toList) = false := bne_eq_false_iff_eq.mpr c127
                  clear c127
                  obtain ⟨ji128, hji128⟩ : ∃ j_ : Int, (wrap64 (t246 - 1)) = j_ := ⟨_, rfl⟩
                  replace H : (if 0 ≤ (ji128) then (if (ji128) < (t238.length : Int) then (if (rdOf ByteArray.empty t238 (ji128)).toList = t254.toList then (laws_FnStatesCountedOfAll.j6 k4 a2 a3 a4) else (some false)) else (none)) else (none)) = some r := by first | (rw [hji128] at H; exact H) | (simp only [hji128] at H ⊢; exact H)
                  have hji128w : (IntKind.i64.wrap (t246 - 1)) = ji128 := (i64_w _).trans hji128
                  by_cases c129 : 0 ≤ (ji128)
                  ·rw [if_pos c129] at H
                   have c129b0 : decide (0 ≤ (ji128)) = true := decide_eq_true c129
                   clear c129
                   by_cases c130 : (ji128) < (t238.length : Int)
                   ·rw [if_pos c130] at H
                    have c130b0 : decide ((ji128) < (t238.length : Int)) = true := decide_eq_true c130
                    clear c130
                    by_cases c131 : (rdOf ByteArray.empty t238 (ji128)).toList = t254.toList
                    ·rw [if_pos c131] at H
                     have c131b0 : ((rdOf ByteArray.empty t238 (ji128)).toList == t254.toList) = true := beq_iff_eq.mpr c131
                     have c131b1 : ((rdOf ByteArray.empty t238 (ji128)).toList != t254.toList) = false := bne_eq_false_iff_eq.mpr c131
                     clear c131
                     have H' := Aside0.mk H
                     clear H
                     have p273 : 0 ≤ (0 : Int) := (by omega)
                     have q273 : 0 < (t238.length : Int) := of_decide_eq_true (by first | (with_reducible assumption) | assumption)
                     obtain ⟨ad273, e273, hx273_0⟩ := Kd.at_string (Kd.R_reads' HO_11.out).2.2 0 p273 q273
                     cases e273
                     have qi273 : (0 < t238.length) = True := eq_true (by omega)
                     (try rw [show ((0 : Int)).toNat = 0 from rfl] at hx273_0)
                     (try rw [Addr.add_zero'] at hx273_0)
                     replace p273 := eq_true p273
                     replace q273 := eq_true q273
                     have p274 : 0 ≤ ((ji128) : Int) := of_decide_eq_true (by first | (with_reducible assumption) | assumption)
                     have q274 : (ji128) < (t238.length : Int) := of_decide_eq_true (by first | (with_reducible assumption) | assumption)
                     obtain ⟨ad274, e274, hx274_0⟩ := Kd.at_string (Kd.R_reads' HO_11.out).2.2 (ji128) p274 q274
                     obtain rfl : ad273 = ad274 := (by injection e274)
                     replace p274 := eq_true p274
                     replace q274 := eq_true q274
                     go_wp2
                     refine Met.intro ?_
                     go_step
                     refine ⟨[], trivial, ⟨rfl, ?rel⟩, by kernel_rfl⟩
                     case rel => exact ⟨_, H', ⟨by have := HJ5.out; have := HJ18.out; have := HJ72.out; have := HK4.out; first | omega | exact Nat.le_refl _⟩, ⟨by repeat (first | (with_reducible first | exact HB.out | apply below_alloc | apply pw_below_drewN | apply below_drew1) | exact HB.out)⟩⟩
                    ·rw [if_neg c131] at H
                     have c131b0 : ((rdOf ByteArray.empty t238 (ji128)).toList == t254.toList) = false := beq_eq_false_iff_ne.mpr c131
                     have c131b1 : ((rdOf ByteArray.empty t238 (ji128)).toList != t254.toList) = true := bne_iff_ne.mpr c131
                     obtain rfl := Option.some.inj H
                     have p273 : 0 ≤ (0 : Int) := (by omega)
                     have q273 : 0 < (t238.length : Int) := of_decide_eq_true (by first | (with_reducible assumption) | assumption)
                     obtain ⟨ad273, e273, hx273_0⟩ := Kd.at_string (Kd.R_reads' HO_11.out).2.2 0 p273 q273
                     cases e273
                     have qi273 : (0 < t238.length) = True := eq_true (by omega)
                     (try rw [show ((0 : Int)).toNat = 0 from rfl] at hx273_0)
                     (try rw [Addr.add_zero'] at hx273_0)
                     replace p273 := eq_true p273
                     replace q273 := eq_true q273
                     have p274 : 0 ≤ ((ji128) : Int) := of_decide_eq_true (by first | (with_reducible assumption) | assumption)
                     have q274 : (ji128) < (t238.length : Int) := of_decide_eq_true (by first | (with_reducible assumption) | assumption)
                     obtain ⟨ad274, e274, hx274_0⟩ := Kd.at_string (Kd.R_reads' HO_11.out).2.2 (ji128) p274 q274
                     obtain rfl : ad273 = ad274 := (by injection e274)
                     replace p274 := eq_true p274
                     replace q274 := eq_true q274
                     go_wp2
                     go_ret
                     exact ⟨by first | rfl | (simp [errW_none, errW_some] <;> rfl) | (simp only [← hji128]; first | rfl | (simp [errW_none, errW_some] <;> rfl)) | (simp [*, errW_none, errW_some] <;> rfl), by repeat (first | (with_reducible first | exact HB.out | apply below_alloc | apply pw_below_drewN | apply below_drew1) | exact HB.out)⟩
                   ·rw [if_neg c130] at H
                    exact absurd H (by simp)
                  ·rw [if_neg c129] at H
                   exact absurd H (by simp)
                 ·rw [if_neg c127] at H
                  have c127b0 : ((rdOf ByteArray.empty t238 0).toList == t250.toList) = false := beq_eq_false_iff_ne.mpr c127
                  have c127b1 : ((rdOf ByteArray.empty t238 0).toList != t250.toList) = true := bne_iff_ne.mpr c127
                  obtain rfl := Option.some.inj H
                  have p273 : 0 ≤ (0 : Int) := (by omega)
                  have q273 : 0 < (t238.length : Int) := of_decide_eq_true (by first | (with_reducible assumption) | assumption)
                  obtain ⟨ad273, e273, hx273_0⟩ := Kd.at_string (Kd.R_reads' HO_11.out).2.2 0 p273 q273
                  cases e273
                  have qi273 : (0 < t238.length) = True := eq_true (by omega)
                  (try rw [show ((0 : Int)).toNat = 0 from rfl] at hx273_0)
                  (try rw [Addr.add_zero'] at hx273_0)
                  replace p273 := eq_true p273
                  replace q273 := eq_true q273
                  go_wp2
                  go_ret
                  exact ⟨by first | rfl | (simp [errW_none, errW_some] <;> rfl) | (simp [*, errW_none, errW_some] <;> rfl), by repeat (first | (with_reducible first | exact HB.out | apply below_alloc | apply pw_below_drewN | apply below_drew1) | exact HB.out)⟩
                ·rw [if_neg c126] at H
                 exact absurd H (by simp)
               ·rw [if_neg c125] at H
                have c125b0 : (x43_4 == t258) = false := beq_eq_false_iff_ne.mpr c125
                have c125b1 : (x43_4 != t258) = true := bne_iff_ne.mpr c125
                obtain rfl := Option.some.inj H
                go_wp2
                go_ret
                exact ⟨by first | rfl | (simp [errW_none, errW_some] <;> rfl) | (simp [*, errW_none, errW_some] <;> rfl), by repeat (first | (with_reducible first | exact HB.out | apply below_alloc | apply pw_below_drewN | apply below_drew1) | exact HB.out)⟩
              ·rw [if_neg c124] at H
               have c124b0 : ((t238.length : Int) == t246) = false := beq_eq_false_iff_ne.mpr c124
               have c124b1 : ((t238.length : Int) != t246) = true := bne_iff_ne.mpr c124
               obtain rfl := Option.some.inj H
               go_wp2
               go_ret
               exact ⟨by first | rfl | (simp [errW_none, errW_some] <;> rfl) | (simp [*, errW_none, errW_some] <;> rfl), by repeat (first | (with_reducible first | exact HB.out | apply below_alloc | apply pw_below_drewN | apply below_drew1) | exact HB.out)⟩
          ·replace c100 := Bool.eq_false_iff.mpr c100
           subst c100
           have H1 : (laws_FnStatesCountedOfAll.j6 kj72 a2 a3 a4) = some r := by rw [if_neg (show ¬ (false = true) by decide)] at H; exact H
           clear H
           have H := H1
           clear H1
           have H' := Aside0.mk H
           clear H
           go_wp2
           refine Met.intro ?_
           go_step
           refine ⟨[], trivial, ⟨rfl, ?rel⟩, by kernel_rfl⟩
           case rel => exact ⟨_, H', ⟨by have := HJ5.out; have := HJ18.out; have := HJ72.out; first | omega | exact Nat.le_refl _⟩, ⟨by repeat (first | (with_reducible first | exact HB.out | apply below_alloc | apply pw_below_drewN | apply below_drew1) | exact HB.out)⟩⟩
         case rest5 =>
          as_aux_lemma =>
          intro vs_ f_ wc hcut
          obtain ⟨rfl, hcut⟩ := hcut
          dsimp only [mixF, List.getD_cons_zero, List.getD_cons_succ, Nat.reduceAdd]
          clear HC99
          try clear c1
          try clear c2
          try clear p2
          try clear q2
          try clear hx2
          try clear qi2
          try clear c3
          try clear c4
          try clear c5
          try clear c6
          try clear p6
          try clear c7
          try clear c7b0
          try clear c7b1
          try clear c8
          try clear c9
          try clear c10
          try clear c11
          try clear c12
          try clear c13
          try clear p27
          try clear q27
          try clear hx27
          try clear qi27
          try clear c29
          try clear c29b0
          try clear c29b1
          try clear c29b2
          try clear c31
          try clear c32
          try clear c32b0
          try clear c32b1
          try clear c32b2
          try clear c35
          try clear c35b0
          try clear c35b1
          try clear c36
          try clear c36b0
          try clear c36b1
          try clear c36b2
          try clear c39
          try clear c39b0
          try clear c39b1
          try clear c40
          try clear c40b0
          try clear c40b1
          try clear c40b2
          try clear c43
          try clear c43b0
          try clear c43b1
          try clear c44
          try clear c44b0
          try clear c44b1
          try clear c44b2
          try clear c47
          try clear c47b0
          try clear c47b1
          try clear c48
          try clear c48b0
          try clear c48b1
          try clear c48b2
          try clear c51
          try clear c51b0
          try clear c51b1
          try clear c51b2
          try clear c54
          try clear c54b0
          try clear c54b1
          try clear c54b2
          try clear c57
          try clear c58
          try clear c59
          try clear c60
          try clear c61
          try clear c62
          try clear c63
          try clear c64
          try clear p64
          try clear c65
          try clear c66
          try clear c67
          try clear c68
          try clear c72
          try clear c74
          try clear c84
          try clear c85
          try clear c86
          try clear c86b0
          try clear c87
          try clear c88
          try clear c88b0
          try clear c88b1
          try clear c89
          try clear c90
          try clear c90b0
          try clear c90b1
          try clear c91
          try clear c91b0
          try clear c92
          try clear c93
          try clear c93b0
          try clear c95
          try clear c96
          try clear c96b0
          try clear c96b1
          try clear c98
          try clear c98b0
          try clear c98b1
          try clear c100
          try clear c102
          try clear c102b0
          try clear c103
          try clear c103b0
          try clear c104
          try clear c104b0
          try clear c107
          try clear c108
          try clear c108b0
          try clear c111
          try clear c112
          try clear c112b0
          try clear c112b1
          try clear c113
          try clear c113b0
          try clear c113b1
          try clear c124
          try clear c124b0
          try clear c124b1
          try clear c125
          try clear c125b0
          try clear c125b1
          try clear c126
          try clear c126b0
          try clear c126b1
          try clear c127
          try clear c127b0
          try clear c127b1
          try clear c129
          try clear c129b0
          try clear c130
          try clear c130b0
          try clear c131
          try clear c131b0
          try clear c131b1
          try clear hx273_0
          try clear hx274_0
          try clear hx275_0
          try clear p2
          try clear p273
          try clear p274
          try clear p275
          try clear p6
          try clear p64
          try clear q273
          try clear q274
          try clear q275
          obtain ⟨kq, HA, HJ98, HB⟩ := hcut
          cases kq with
          | zero => exact absurd HA.out (by simp [laws_FnStatesCountedOfAll.j6])
          | succ kj98 =>
           have H := HA.out
           clear HA
           simp only [laws_FnStatesCountedOfAll.j6] at H
           replace H := Option.bind_eq_some_iff.mp H
           obtain ⟨⟨t280, t281, t282⟩, A1320, H⟩ := H
           replace H : ((spec_MeanNumber.f a2).bind fun bt283 => ((impl_MeanOfPairs.f kj98 a2).bind fun bt286 => ((spec_MeanOfPairs.f kj98 a2).bind fun bt289 => ((impl_MeanOnAlong.f kj98 a3 a4).bind fun bt292 => ((spec_MeanOnAlong.f kj98 a3 a4).bind fun bt295 => (if (t282 != bt283.2.2) = true then (laws_FnStatesCountedOfAll.j7 kj98 a2 a3 a4 t280 t281 t282 bt286.1 bt286.2.1 bt292.1 bt292.2.1 bt292.2.2 true) else (if t280 = bt283.1 then (if t281 = bt283.2.1 then (if (bt286.2.2 != bt289.2.2) = true then (laws_FnStatesCountedOfAll.j7 kj98 a2 a3 a4 t280 t281 t282 bt286.1 bt286.2.1 bt292.1 bt292.2.1 bt292.2.2 true) else (if bt286.1 = bt289.1 then (if bt286.2.1 = bt289.2.1 then (if (bt286.2.2 != t282) = true then (laws_FnStatesCountedOfAll.j7 kj98 a2 a3 a4 t280 t281 t282 bt286.1 bt286.2.1 bt292.1 bt292.2.1 bt292.2.2 true) else (if (bt292.2.2 != bt295.2.2) = true then (laws_FnStatesCountedOfAll.j7 kj98 a2 a3 a4 t280 t281 t282 bt286.1 bt286.2.1 bt292.1 bt292.2.1 bt292.2.2 true) else (if bt292.1 = bt295.1 then (laws_FnStatesCountedOfAll.j7 kj98 a2 a3 a4 t280 t281 t282 bt286.1 bt286.2.1 bt292.1 bt292.2.1 bt292.2.2 (bt292.2.1 != bt295.2.1)) else (laws_FnStatesCountedOfAll.j7 kj98 a2 a3 a4 t280 t281 t282 bt286.1 bt286.2.1 bt292.1 bt292.2.1 bt292.2.2 true)))) else (laws_FnStatesCountedOfAll.j7 kj98 a2 a3 a4 t280 t281 t282 bt286.1 bt286.2.1 bt292.1 bt292.2.1 bt292.2.2 true)) else (laws_FnStatesCountedOfAll.j7 kj98 a2 a3 a4 t280 t281 t282 bt286.1 bt286.2.1 bt292.1 bt292.2.1 bt292.2.2 true))) else (laws_FnStatesCountedOfAll.j7 kj98 a2 a3 a4 t280 t281 t282 bt286.1 bt286.2.1 bt292.1 bt292.2.1 bt292.2.2 true)) else (laws_FnStatesCountedOfAll.j7 kj98 a2 a3 a4 t280 t281 t282 bt286.1 bt286.2.1 bt292.1 bt292.2.1 bt292.2.2 true)))))))) = some r := H
           have A132 := Aside0.mk A1320
           clear A1320
           replace H := Option.bind_eq_some_iff.mp H
           obtain ⟨⟨t283, t284, t285⟩, A1330, H⟩ := H
           replace H : ((impl_MeanOfPairs.f kj98 a2).bind fun bt286 => ((spec_MeanOfPairs.f kj98 a2).bind fun bt289 => ((impl_MeanOnAlong.f kj98 a3 a4).bind fun bt292 => ((spec_MeanOnAlong.f kj98 a3 a4).bind fun bt295 => (if (t282 != t285) = true then (laws_FnStatesCountedOfAll.j7 kj98 a2 a3 a4 t280 t281 t282 bt286.1 bt286.2.1 bt292.1 bt292.2.1 bt292.2.2 true) else (if t280 = t283 then (if t281 = t284 then (if (bt286.2.2 != bt289.2.2) = true then (laws_FnStatesCountedOfAll.j7 kj98 a2 a3 a4 t280 t281 t282 bt286.1 bt286.2.1 bt292.1 bt292.2.1 bt292.2.2 true) else (if bt286.1 = bt289.1 then (if bt286.2.1 = bt289.2.1 then (if (bt286.2.2 != t282) = true then (laws_FnStatesCountedOfAll.j7 kj98 a2 a3 a4 t280 t281 t282 bt286.1 bt286.2.1 bt292.1 bt292.2.1 bt292.2.2 true) else (if (bt292.2.2 != bt295.2.2) = true then (laws_FnStatesCountedOfAll.j7 kj98 a2 a3 a4 t280 t281 t282 bt286.1 bt286.2.1 bt292.1 bt292.2.1 bt292.2.2 true) else (if bt292.1 = bt295.1 then (laws_FnStatesCountedOfAll.j7 kj98 a2 a3 a4 t280 t281 t282 bt286.1 bt286.2.1 bt292.1 bt292.2.1 bt292.2.2 (bt292.2.1 != bt295.2.1)) else (laws_FnStatesCountedOfAll.j7 kj98 a2 a3 a4 t280 t281 t282 bt286.1 bt286.2.1 bt292.1 bt292.2.1 bt292.2.2 true)))) else (laws_FnStatesCountedOfAll.j7 kj98 a2 a3 a4 t280 t281 t282 bt286.1 bt286.2.1 bt292.1 bt292.2.1 bt292.2.2 true)) else (laws_FnStatesCountedOfAll.j7 kj98 a2 a3 a4 t280 t281 t282 bt286.1 bt286.2.1 bt292.1 bt292.2.1 bt292.2.2 true))) else (laws_FnStatesCountedOfAll.j7 kj98 a2 a3 a4 t280 t281 t282 bt286.1 bt286.2.1 bt292.1 bt292.2.1 bt292.2.2 true)) else (laws_FnStatesCountedOfAll.j7 kj98 a2 a3 a4 t280 t281 t282 bt286.1 bt286.2.1 bt292.1 bt292.2.1 bt292.2.2 true))))))) = some r := H
           have A133 := Aside0.mk A1330
           clear A1330
           replace H := Option.bind_eq_some_iff.mp H
           obtain ⟨⟨t286, t287, t288⟩, A1340, H⟩ := H
           replace H : ((spec_MeanOfPairs.f kj98 a2).bind fun bt289 => ((impl_MeanOnAlong.f kj98 a3 a4).bind fun bt292 => ((spec_MeanOnAlong.f kj98 a3 a4).bind fun bt295 => (if (t282 != t285) = true then (laws_FnStatesCountedOfAll.j7 kj98 a2 a3 a4 t280 t281 t282 t286 t287 bt292.1 bt292.2.1 bt292.2.2 true) else (if t280 = t283 then (if t281 = t284 then (if (t288 != bt289.2.2) = true then (laws_FnStatesCountedOfAll.j7 kj98 a2 a3 a4 t280 t281 t282 t286 t287 bt292.1 bt292.2.1 bt292.2.2 true) else (if t286 = bt289.1 then (if t287 = bt289.2.1 then (if (t288 != t282) = true then (laws_FnStatesCountedOfAll.j7 kj98 a2 a3 a4 t280 t281 t282 t286 t287 bt292.1 bt292.2.1 bt292.2.2 true) else (if (bt292.2.2 != bt295.2.2) = true then (laws_FnStatesCountedOfAll.j7 kj98 a2 a3 a4 t280 t281 t282 t286 t287 bt292.1 bt292.2.1 bt292.2.2 true) else (if bt292.1 = bt295.1 then (laws_FnStatesCountedOfAll.j7 kj98 a2 a3 a4 t280 t281 t282 t286 t287 bt292.1 bt292.2.1 bt292.2.2 (bt292.2.1 != bt295.2.1)) else (laws_FnStatesCountedOfAll.j7 kj98 a2 a3 a4 t280 t281 t282 t286 t287 bt292.1 bt292.2.1 bt292.2.2 true)))) else (laws_FnStatesCountedOfAll.j7 kj98 a2 a3 a4 t280 t281 t282 t286 t287 bt292.1 bt292.2.1 bt292.2.2 true)) else (laws_FnStatesCountedOfAll.j7 kj98 a2 a3 a4 t280 t281 t282 t286 t287 bt292.1 bt292.2.1 bt292.2.2 true))) else (laws_FnStatesCountedOfAll.j7 kj98 a2 a3 a4 t280 t281 t282 t286 t287 bt292.1 bt292.2.1 bt292.2.2 true)) else (laws_FnStatesCountedOfAll.j7 kj98 a2 a3 a4 t280 t281 t282 t286 t287 bt292.1 bt292.2.1 bt292.2.2 true)))))) = some r := H
           have A134 := Aside0.mk A1340
           clear A1340
           replace H := Option.bind_eq_some_iff.mp H
           obtain ⟨⟨t289, t290, t291⟩, A1350, H⟩ := H
           replace H : ((impl_MeanOnAlong.f kj98 a3 a4).bind fun bt292 => ((spec_MeanOnAlong.f kj98 a3 a4).bind fun bt295 => (if (t282 != t285) = true then (laws_FnStatesCountedOfAll.j7 kj98 a2 a3 a4 t280 t281 t282 t286 t287 bt292.1 bt292.2.1 bt292.2.2 true) else (if t280 = t283 then (if t281 = t284 then (if (t288 != t291) = true then (laws_FnStatesCountedOfAll.j7 kj98 a2 a3 a4 t280 t281 t282 t286 t287 bt292.1 bt292.2.1 bt292.2.2 true) else (if t286 = t289 then (if t287 = t290 then (if (t288 != t282) = true then (laws_FnStatesCountedOfAll.j7 kj98 a2 a3 a4 t280 t281 t282 t286 t287 bt292.1 bt292.2.1 bt292.2.2 true) else (if (bt292.2.2 != bt295.2.2) = true then (laws_FnStatesCountedOfAll.j7 kj98 a2 a3 a4 t280 t281 t282 t286 t287 bt292.1 bt292.2.1 bt292.2.2 true) else (if bt292.1 = bt295.1 then (laws_FnStatesCountedOfAll.j7 kj98 a2 a3 a4 t280 t281 t282 t286 t287 bt292.1 bt292.2.1 bt292.2.2 (bt292.2.1 != bt295.2.1)) else (laws_FnStatesCountedOfAll.j7 kj98 a2 a3 a4 t280 t281 t282 t286 t287 bt292.1 bt292.2.1 bt292.2.2 true)))) else (laws_FnStatesCountedOfAll.j7 kj98 a2 a3 a4 t280 t281 t282 t286 t287 bt292.1 bt292.2.1 bt292.2.2 true)) else (laws_FnStatesCountedOfAll.j7 kj98 a2 a3 a4 t280 t281 t282 t286 t287 bt292.1 bt292.2.1 bt292.2.2 true))) else (laws_FnStatesCountedOfAll.j7 kj98 a2 a3 a4 t280 t281 t282 t286 t287 bt292.1 bt292.2.1 bt292.2.2 true)) else (laws_FnStatesCountedOfAll.j7 kj98 a2 a3 a4 t280 t281 t282 t286 t287 bt292.1 bt292.2.1 bt292.2.2 true))))) = some r := H
           have A135 := Aside0.mk A1350
           clear A1350
           replace H := Option.bind_eq_some_iff.mp H
           obtain ⟨⟨t292, t293, t294⟩, A1360, H⟩ := H
           replace H : ((spec_MeanOnAlong.f kj98 a3 a4).bind fun bt295 => (if (t282 != t285) = true then (laws_FnStatesCountedOfAll.j7 kj98 a2 a3 a4 t280 t281 t282 t286 t287 t292 t293 t294 true) else (if t280 = t283 then (if t281 = t284 then (if (t288 != t291) = true then (laws_FnStatesCountedOfAll.j7 kj98 a2 a3 a4 t280 t281 t282 t286 t287 t292 t293 t294 true) else (if t286 = t289 then (if t287 = t290 then (if (t288 != t282) = true then (laws_FnStatesCountedOfAll.j7 kj98 a2 a3 a4 t280 t281 t282 t286 t287 t292 t293 t294 true) else (if (t294 != bt295.2.2) = true then (laws_FnStatesCountedOfAll.j7 kj98 a2 a3 a4 t280 t281 t282 t286 t287 t292 t293 t294 true) else (if t292 = bt295.1 then (laws_FnStatesCountedOfAll.j7 kj98 a2 a3 a4 t280 t281 t282 t286 t287 t292 t293 t294 (t293 != bt295.2.1)) else (laws_FnStatesCountedOfAll.j7 kj98 a2 a3 a4 t280 t281 t282 t286 t287 t292 t293 t294 true)))) else (laws_FnStatesCountedOfAll.j7 kj98 a2 a3 a4 t280 t281 t282 t286 t287 t292 t293 t294 true)) else (laws_FnStatesCountedOfAll.j7 kj98 a2 a3 a4 t280 t281 t282 t286 t287 t292 t293 t294 true))) else (laws_FnStatesCountedOfAll.j7 kj98 a2 a3 a4 t280 t281 t282 t286 t287 t292 t293 t294 true)) else (laws_FnStatesCountedOfAll.j7 kj98 a2 a3 a4 t280 t281 t282 t286 t287 t292 t293 t294 true)))) = some r := H
           have A136 := Aside0.mk A1360
           clear A1360
           replace H := Option.bind_eq_some_iff.mp H
           obtain ⟨⟨t295, t296, t297⟩, A1370, H⟩ := H
           replace H : (if (t282 != t285) = true then (laws_FnStatesCountedOfAll.j7 kj98 a2 a3 a4 t280 t281 t282 t286 t287 t292 t293 t294 true) else (if t280 = t283 then (if t281 = t284 then (if (t288 != t291) = true then (laws_FnStatesCountedOfAll.j7 kj98 a2 a3 a4 t280 t281 t282 t286 t287 t292 t293 t294 true) else (if t286 = t289 then (if t287 = t290 then (if (t288 != t282) = true then (laws_FnStatesCountedOfAll.j7 kj98 a2 a3 a4 t280 t281 t282 t286 t287 t292 t293 t294 true) else (if (t294 != t297) = true then (laws_FnStatesCountedOfAll.j7 kj98 a2 a3 a4 t280 t281 t282 t286 t287 t292 t293 t294 true) else (if t292 = t295 then (laws_FnStatesCountedOfAll.j7 kj98 a2 a3 a4 t280 t281 t282 t286 t287 t292 t293 t294 (t293 != t296)) else (laws_FnStatesCountedOfAll.j7 kj98 a2 a3 a4 t280 t281 t282 t286 t287 t292 t293 t294 true)))) else (laws_FnStatesCountedOfAll.j7 kj98 a2 a3 a4 t280 t281 t282 t286 t287 t292 t293 t294 true)) else (laws_FnStatesCountedOfAll.j7 kj98 a2 a3 a4 t280 t281 t282 t286 t287 t292 t293 t294 true))) else (laws_FnStatesCountedOfAll.j7 kj98 a2 a3 a4 t280 t281 t282 t286 t287 t292 t293 t294 true)) else (laws_FnStatesCountedOfAll.j7 kj98 a2 a3 a4 t280 t281 t282 t286 t287 t292 t293 t294 true))) = some r := H
           have A137 := Aside0.mk A1370
           clear A1370
           have HC138 := Aside0.mk H
           clear H
           go_upto_region 52 with (first | ((with_reducible refine gate_callee (f := 69) rfl ?_); refine goesL_ (some 371) rfl rfl Tryd.func69 (by kernel_rfl) rfl #[.int .i64 a2] rfl (by (try simp only [List.map_toArray, List.map_cons, List.map_nil]); first | done | rfl | (simp only [List.length_drop, List.length_take]; rfl)) ?_; (with_reducible refine (impl_MeanNumber.calls kj98 a2 t280 t281 t282 _ A132.out).mono ?_); rintro e w' ⟨rfl, ⟨nd, rfl⟩⟩; refine ⟨_, rfl, ?_⟩) | ((with_reducible refine gate_callee (f := 70) rfl ?_); refine goesL_ (some 377) rfl rfl Tryd.func70 (by kernel_rfl) rfl #[.int .i64 a2] rfl (by (try simp only [List.map_toArray, List.map_cons, List.map_nil]); first | done | rfl | (simp only [List.length_drop, List.length_take]; rfl)) ?_; (with_reducible refine (spec_MeanNumber.calls a2 t283 t284 t285 _ A133.out).mono ?_); rintro e w' ⟨rfl, ⟨nd, rfl⟩⟩; refine ⟨_, rfl, ?_⟩) | ((with_reducible refine gate_callee (f := 71) rfl ?_); refine goesL_ (some 383) rfl rfl Tryd.func71 (by kernel_rfl) rfl #[.int .i64 a2] rfl (by (try simp only [List.map_toArray, List.map_cons, List.map_nil]); first | done | rfl | (simp only [List.length_drop, List.length_take]; rfl)) ?_; (with_reducible refine (impl_MeanOfPairs.calls kj98 a2 t286 t287 t288 _ A134.out).mono ?_); rintro e w' ⟨rfl, ⟨nd, rfl⟩⟩; refine ⟨_, rfl, ?_⟩) | ((with_reducible refine gate_callee (f := 72) rfl ?_); refine goesL_ (some 389) rfl rfl Tryd.func72 (by kernel_rfl) rfl #[.int .i64 a2] rfl (by (try simp only [List.map_toArray, List.map_cons, List.map_nil]); first | done | rfl | (simp only [List.length_drop, List.length_take]; rfl)) ?_; (with_reducible refine (spec_MeanOfPairs.calls kj98 a2 t289 t290 t291 _ A135.out).mono ?_); rintro e w' ⟨rfl, ⟨nd, rfl⟩⟩; refine ⟨_, rfl, ?_⟩) | ((with_reducible refine gate_callee (f := 73) rfl ?_); refine goesL_ (some 396) rfl rfl Tryd.func73 (by kernel_rfl) rfl #[.string a3, .string a4] rfl (by (try simp only [List.map_toArray, List.map_cons, List.map_nil]); first | done | rfl | (simp only [List.length_drop, List.length_take]; rfl)) ?_; (with_reducible refine (impl_MeanOnAlong.calls kj98 a3 a4 t292 t293 t294 _ A136.out).mono ?_); rintro e w139 ⟨rfl, hb⟩; refine ⟨_, rfl, ?_⟩; have n0_ := Aside0.mk (below_step (by repeat (first | (with_reducible first | exact HB.out | apply below_alloc | apply pw_below_drewN | apply below_drew1) | exact HB.out)) hb); clear HB; have HB := n0_; clear n0_; (try clear hb); (try clear hb2); (try clear hk); (try clear hi)) | ((with_reducible refine gate_callee (f := 74) rfl ?_); refine goesL_ (some 403) rfl rfl Tryd.func74 (by kernel_rfl) rfl #[.string a3, .string a4] rfl (by (try simp only [List.map_toArray, List.map_cons, List.map_nil]); first | done | rfl | (simp only [List.length_drop, List.length_take]; rfl)) ?_; (with_reducible refine (spec_MeanOnAlong.calls kj98 a3 a4 t295 t296 t297 _ A137.out).mono ?_); rintro e w' ⟨rfl, ⟨nd, rfl⟩⟩; refine ⟨_, rfl, ?_⟩))
           (try simp only [Act.put, List.setIfInBounds_toArray, List.set_cons_zero, List.set_cons_succ])
           refine wp_cutv [454] [0, 0, 0, 0, 0, 0, 0, 0, 0, 0, 0, 0, 0, 0, 0, 0, 0, 0, 0, 0, 0, 0, 0, 0, 0, 0, 0, 0, 0, 0, 0, 0, 0, 0, 0, 0, 0, 0, 0, 0, 0, 0, 0, 0, 0, 0, 0, 0, 0, 0, 0, 0, 0, 0, 0, 0, 0, 0, 0, 0, 0, 0, 0, 0, 0, 0, 0, 0, 0, 0, 0, 0, 0, 0, 0, 0, 0, 1, 1, 1, 1, 1, 1, 1, 1, 1, 1, 1, 1, 1, 1, 1, 1, 1, 1, 1, 1, 1, 1, 1, 1, 1, 1, 1, 1, 1, 1, 1, 1, 1, 1, 1, 1, 1, 1, 1, 1, 1, 1, 1, 1, 1, 1, 1, 1, 1, 1, 1, 1, 1, 1, 1, 1, 1, 1, 1, 1, 1, 1, 1, 1, 1, 1, 1, 1, 1, 1, 1, 1, 1, 1, 1, 1, 1, 1, 1, 1, 1, 1, 1, 1, 1, 1, 1, 1, 1, 1, 1, 1, 1, 1, 1, 1, 1, 1, 1, 1, 1, 1, 1, 1, 1, 1, 1, 1, 1, 1, 1, 1, 1, 1, 1, 1, 1, 1, 1, 1, 1, 1, 1, 1, 1, 1, 1, 1, 1, 1, 1, 1, 1, 1, 1, 1, 1, 1, 1, 1, 1, 1, 1, 1, 1, 1, 1, 1, 1, 1, 1, 1, 1, 1, 1, 1, 1, 1, 1, 1, 1, 1, 1, 1, 1, 1, 1, 1, 1, 1, 1, 1, 1, 1, 1, 1, 1, 1, 1, 1, 1, 1, 1, 1, 1, 1, 1, 1, 1, 1, 1, 1, 1, 1, 1, 1, 1, 1, 1, 1, 1, 1, 1, 1, 1, 1, 1, 1, 1, 1, 1, 1, 1, 1, 1, 1, 1, 1, 1, 1, 1, 1, 1, 1, 0, 0, 0, 1, 1, 1, 1, 1, 1, 1, 1, 1, 1, 1, 1, 1, 1, 1, 1, 1, 1, 1, 1, 1, 1, 1, 1, 1, 1, 1, 1, 1, 1, 1, 1, 1, 1, 1, 1, 1, 1, 1, 1, 1, 1, 1, 1, 1, 1, 1, 1, 1, 1, 1, 1, 1, 1, 1, 1, 1, 1, 1, 1, 1, 1, 1, 1, 1, 1, 1, 1, 1, 1, 1, 1, 1, 1, 1, 1, 1, 1, 1, 1, 1, 1, 1, 1, 1, 1, 1, 1, 1, 1, 1, 1, 1, 1, 1, 1, 1, 1, 1, 1, 1, 1, 1, 1, 1, 1, 1, 1, 1, 1, 1, 1, 1, 1, 1, 1, 1, 1, 1, 1, 1, 1, 1, 1, 1, 1, 1, 1, 1, 1, 1, 1, 1, 1, 1, 1, 1, 1, 1, 1, 1, 1, 1, 1, 1, 1, 1, 1, 1, 1, 2, 1, 1, 1, 1, 1, 1, 1, 1, 1, 1, 1, 1, 1, 1, 1, 1, 1, 1, 1, 1, 1, 1, 1, 1, 1, 1, 1, 1, 1, 1, 1, 0, 0, 0, 1, 1, 1, 1, 1, 1, 1, 1, 1, 1, 1, 1, 1, 1, 1, 1, 1, 1, 1, 1, 1, 1] (fun vs_ wc => ∃ v454, vs_ = [v454] ∧ ∃ (kq : Nat) (x454_137 : Bool), v454 = .bool x454_137 ∧ Aside0 (laws_FnStatesCountedOfAll.j7 kq a2 a3 a4 t280 t281 t282 t286 t287 t292 t293 t294 x454_137 = some r) ∧ Aside0 (kq ≤ kj98) ∧ Aside0 (Below w.heap.size w wc)) ?first6 ?rest6
           case first6 =>
            as_aux_lemma =>
            intro _ _ _ _
            (try dsimp only [List.append])
            have H := HC138.out
            clear HC138
            by_cases c140 : (t282 != t285) = true
            ·rw [if_pos c140] at H
             have c140b0 : (t282 != t285) = true := c140
             (try (have c140b1 : decide (t282 = t285) = false := by simpa using c140))
             (try (have c140b2 : (t282 == t285) = false := by simpa using c140))
             (try (have c140b3 : ¬ (t282 = t285) := by simpa using c140))
             clear c140
             (first | rw [c140b0] | (simp only [i64_w, i32_w]; rw [c140b0]) | skip)
             have H' := Aside0.mk H
             clear H
             go_wp2
             refine Met.intro ?_
             go_step
             refine ⟨[_], ⟨rfl, trivial⟩, ⟨_, rfl, ?rel⟩, by kernel_rfl⟩
             case rel => exact ⟨_, (true), (by first | rfl | (simp; done) | (simp [*]; done)), H', ⟨by have := HJ5.out; have := HJ18.out; have := HJ72.out; have := HJ98.out; first | omega | exact Nat.le_refl _⟩, ⟨by repeat (first | (with_reducible first | exact HB.out | apply below_alloc | apply pw_below_drewN | apply below_drew1) | exact HB.out)⟩⟩
            ·rw [if_neg c140] at H
             have c140b0 : (t282 != t285) = false := by simpa using c140
             (try (have c140b1 : decide (t282 = t285) = true := by simpa using c140))
             (try (have c140b2 : (t282 == t285) = true := by simpa using c140))
             clear c140
             (first | rw [c140b0] | (simp only [i64_w, i32_w]; rw [c140b0]) | skip)
             by_cases c141 : t280 = t283
             ·rw [if_pos c141] at H
              have c141b0 : (t280 == t283) = true := beq_iff_eq.mpr c141
              have c141b1 : (t280 != t283) = false := bne_eq_false_iff_eq.mpr c141
              clear c141
              by_cases c142 : t281 = t284
              ·rw [if_pos c142] at H
               have c142b0 : (t281 == t284) = true := beq_iff_eq.mpr c142
               have c142b1 : (t281 != t284) = false := bne_eq_false_iff_eq.mpr c142
               clear c142
               by_cases c143 : (t288 != t291) = true
               ·rw [if_pos c143] at H
                have c143b0 : (t288 != t291) = true := c143
                (try (have c143b1 : decide (t288 = t291) = false := by simpa using c143))
                (try (have c143b2 : (t288 == t291) = false := by simpa using c143))
                (try (have c143b3 : ¬ (t288 = t291) := by simpa using c143))
                clear c143
                have H' := Aside0.mk H
                clear H
                go_wp2
                refine Met.intro ?_
                go_step
                refine ⟨[_], ⟨rfl, trivial⟩, ⟨_, rfl, ?rel⟩, by kernel_rfl⟩
                case rel => exact ⟨_, (true), (by first | rfl | (simp; done) | (simp [*]; done)), H', ⟨by have := HJ5.out; have := HJ18.out; have := HJ72.out; have := HJ98.out; first | omega | exact Nat.le_refl _⟩, ⟨by repeat (first | (with_reducible first | exact HB.out | apply below_alloc | apply pw_below_drewN | apply below_drew1) | exact HB.out)⟩⟩
               ·rw [if_neg c143] at H
                have c143b0 : (t288 != t291) = false := by simpa using c143
                (try (have c143b1 : decide (t288 = t291) = true := by simpa using c143))
                (try (have c143b2 : (t288 == t291) = true := by simpa using c143))
                clear c143
                by_cases c144 : t286 = t289
                ·rw [if_pos c144] at H
                 have c144b0 : (t286 == t289) = true := beq_iff_eq.mpr c144
                 have c144b1 : (t286 != t289) = false := bne_eq_false_iff_eq.mpr c144
                 clear c144
                 by_cases c145 : t287 = t290
                 ·rw [if_pos c145] at H
                  have c145b0 : (t287 == t290) = true := beq_iff_eq.mpr c145
                  have c145b1 : (t287 != t290) = false := bne_eq_false_iff_eq.mpr c145
                  clear c145
                  by_cases c146 : (t288 != t282) = true
                  ·rw [if_pos c146] at H
                   have c146b0 : (t288 != t282) = true := c146
                   (try (have c146b1 : decide (t288 = t282) = false := by simpa using c146))
                   (try (have c146b2 : (t288 == t282) = false := by simpa using c146))
                   (try (have c146b3 : ¬ (t288 = t282) := by simpa using c146))
                   clear c146
                   have H' := Aside0.mk H
                   clear H
                   go_wp2
                   refine Met.intro ?_
                   go_step
                   refine ⟨[_], ⟨rfl, trivial⟩, ⟨_, rfl, ?rel⟩, by kernel_rfl⟩
                   case rel => exact ⟨_, (true), (by first | rfl | (simp; done) | (simp [*]; done)), H', ⟨by have := HJ5.out; have := HJ18.out; have := HJ72.out; have := HJ98.out; first | omega | exact Nat.le_refl _⟩, ⟨by repeat (first | (with_reducible first | exact HB.out | apply below_alloc | apply pw_below_drewN | apply below_drew1) | exact HB.out)⟩⟩
                  ·rw [if_neg c146] at H
                   have c146b0 : (t288 != t282) = false := by simpa using c146
                   (try (have c146b1 : decide (t288 = t282) = true := by simpa using c146))
                   (try (have c146b2 : (t288 == t282) = true := by simpa using c146))
                   clear c146
                   by_cases c147 : (t294 != t297) = true
                   ·rw [if_pos c147] at H
                    have c147b0 : (t294 != t297) = true := c147
                    (try (have c147b1 : decide (t294 = t297) = false := by simpa using c147))
                    (try (have c147b2 : (t294 == t297) = false := by simpa using c147))
                    (try (have c147b3 : ¬ (t294 = t297) := by simpa using c147))
                    clear c147
                    have H' := Aside0.mk H
                    clear H
                    go_wp2
                    refine Met.intro ?_
                    go_step
                    refine ⟨[_], ⟨rfl, trivial⟩, ⟨_, rfl, ?rel⟩, by kernel_rfl⟩
                    case rel => exact ⟨_, (true), (by first | rfl | (simp; done) | (simp [*]; done)), H', ⟨by have := HJ5.out; have := HJ18.out; have := HJ72.out; have := HJ98.out; first | omega | exact Nat.le_refl _⟩, ⟨by repeat (first | (with_reducible first | exact HB.out | apply below_alloc | apply pw_below_drewN | apply below_drew1) | exact HB.out)⟩⟩
                   ·rw [if_neg c147] at H
                    have c147b0 : (t294 != t297) = false := by simpa using c147
                    (try (have c147b1 : decide (t294 = t297) = true := by simpa using c147))
                    (try (have c147b2 : (t294 == t297) = true := by simpa using c147))
                    clear c147
                    by_cases c148 : t292 = t295
                    ·rw [if_pos c148] at H
                     have c148b0 : (t292 == t295) = true := beq_iff_eq.mpr c148
                     have c148b1 : (t292 != t295) = false := bne_eq_false_iff_eq.mpr c148
                     clear c148
                     have H' := Aside0.mk H
                     clear H
                     go_wp2
                     refine Met.intro ?_
                     go_step
                     refine ⟨[_], ⟨rfl, trivial⟩, ⟨_, rfl, ?rel⟩, by kernel_rfl⟩
                     case rel => exact ⟨_, ((t293 != t296)), (by first | rfl | (simp; done) | (simp [*]; done)), H', ⟨by have := HJ5.out; have := HJ18.out; have := HJ72.out; have := HJ98.out; first | omega | exact Nat.le_refl _⟩, ⟨by repeat (first | (with_reducible first | exact HB.out | apply below_alloc | apply pw_below_drewN | apply below_drew1) | exact HB.out)⟩⟩
                    ·rw [if_neg c148] at H
                     have c148b0 : (t292 == t295) = false := beq_eq_false_iff_ne.mpr c148
                     have c148b1 : (t292 != t295) = true := bne_iff_ne.mpr c148
                     have H' := Aside0.mk H
                     clear H
                     go_wp2
                     refine Met.intro ?_
                     go_step
                     refine ⟨[_], ⟨rfl, trivial⟩, ⟨_, rfl, ?rel⟩, by kernel_rfl⟩
                     case rel => exact ⟨_, (true), (by first | rfl | (simp; done) | (simp [*]; done)), H', ⟨by have := HJ5.out; have := HJ18.out; have := HJ72.out; have := HJ98.out; first | omega | exact Nat.le_refl _⟩, ⟨by repeat (first | (with_reducible first | exact HB.out | apply below_alloc | apply pw_below_drewN | apply below_drew1) | exact HB.out)⟩⟩
                 ·rw [if_neg c145] at H
                  have c145b0 : (t287 == t290) = false := beq_eq_false_iff_ne.mpr c145
                  have c145b1 : (t287 != t290) = true := bne_iff_ne.mpr c145
                  have H' := Aside0.mk H
                  clear H
                  go_wp2
                  refine Met.intro ?_
                  go_step
                  refine ⟨[_], ⟨rfl, trivial⟩, ⟨_, rfl, ?rel⟩, by kernel_rfl⟩
                  case rel => exact ⟨_, (true), (by first | rfl | (simp; done) | (simp [*]; done)), H', ⟨by have := HJ5.out; have := HJ18.out; have := HJ72.out; have := HJ98.out; first | omega | exact Nat.le_refl _⟩, ⟨by repeat (first | (with_reducible first | exact HB.out | apply below_alloc | apply pw_below_drewN | apply below_drew1) | exact HB.out)⟩⟩
                ·rw [if_neg c144] at H
                 have c144b0 : (t286 == t289) = false := beq_eq_false_iff_ne.mpr c144
                 have c144b1 : (t286 != t289) = true := bne_iff_ne.mpr c144
                 have H' := Aside0.mk H
                 clear H
                 go_wp2
                 refine Met.intro ?_
                 go_step
                 refine ⟨[_], ⟨rfl, trivial⟩, ⟨_, rfl, ?rel⟩, by kernel_rfl⟩
                 case rel => exact ⟨_, (true), (by first | rfl | (simp; done) | (simp [*]; done)), H', ⟨by have := HJ5.out; have := HJ18.out; have := HJ72.out; have := HJ98.out; first | omega | exact Nat.le_refl _⟩, ⟨by repeat (first | (with_reducible first | exact HB.out | apply below_alloc | apply pw_below_drewN | apply below_drew1) | exact HB.out)⟩⟩
              ·rw [if_neg c142] at H
               have c142b0 : (t281 == t284) = false := beq_eq_false_iff_ne.mpr c142
               have c142b1 : (t281 != t284) = true := bne_iff_ne.mpr c142
               have H' := Aside0.mk H
               clear H
               go_wp2
               refine Met.intro ?_
               go_step
               refine ⟨[_], ⟨rfl, trivial⟩, ⟨_, rfl, ?rel⟩, by kernel_rfl⟩
               case rel => exact ⟨_, (true), (by first | rfl | (simp; done) | (simp [*]; done)), H', ⟨by have := HJ5.out; have := HJ18.out; have := HJ72.out; have := HJ98.out; first | omega | exact Nat.le_refl _⟩, ⟨by repeat (first | (with_reducible first | exact HB.out | apply below_alloc | apply pw_below_drewN | apply below_drew1) | exact HB.out)⟩⟩
             ·rw [if_neg c141] at H
              have c141b0 : (t280 == t283) = false := beq_eq_false_iff_ne.mpr c141
              have c141b1 : (t280 != t283) = true := bne_iff_ne.mpr c141
              have H' := Aside0.mk H
              clear H
              go_wp2
              refine Met.intro ?_
              go_step
              refine ⟨[_], ⟨rfl, trivial⟩, ⟨_, rfl, ?rel⟩, by kernel_rfl⟩
              case rel => exact ⟨_, (true), (by first | rfl | (simp; done) | (simp [*]; done)), H', ⟨by have := HJ5.out; have := HJ18.out; have := HJ72.out; have := HJ98.out; first | omega | exact Nat.le_refl _⟩, ⟨by repeat (first | (with_reducible first | exact HB.out | apply below_alloc | apply pw_below_drewN | apply below_drew1) | exact HB.out)⟩⟩
           case rest6 =>
            as_aux_lemma =>
            intro vs_ f_ wc hcut
            obtain ⟨v454, rfl, hcut⟩ := hcut
            dsimp only [mixF, List.getD_cons_zero, List.getD_cons_succ, Nat.reduceAdd]
            clear HC138
            try clear c1
            try clear c2
            try clear p2
            try clear q2
            try clear hx2
            try clear qi2
            try clear c3
            try clear c4
            try clear c5
            try clear c6
            try clear p6
            try clear c7
            try clear c7b0
            try clear c7b1
            try clear c8
            try clear c9
            try clear c10
            try clear c11
            try clear c12
            try clear c13
            try clear c14
            try clear p27
            try clear q27
            try clear hx27
            try clear qi27
            try clear c29
            try clear c29b0
            try clear c29b1
            try clear c29b2
            try clear c31
            try clear c32
            try clear c32b0
            try clear c32b1
            try clear c32b2
            try clear c35
            try clear c35b0
            try clear c35b1
            try clear c36
            try clear c36b0
            try clear c36b1
            try clear c36b2
            try clear c39
            try clear c39b0
            try clear c39b1
            try clear c40
            try clear c40b0
            try clear c40b1
            try clear c40b2
            try clear c43
            try clear c43b0
            try clear c43b1
            try clear c44
            try clear c44b0
            try clear c44b1
            try clear c44b2
            try clear c47
            try clear c47b0
            try clear c47b1
            try clear c48
            try clear c48b0
            try clear c48b1
            try clear c48b2
            try clear c51
            try clear c51b0
            try clear c51b1
            try clear c51b2
            try clear c54
            try clear c54b0
            try clear c54b1
            try clear c54b2
            try clear c57
            try clear c58
            try clear c59
            try clear c60
            try clear c61
            try clear c62
            try clear c63
            try clear c64
            try clear p64
            try clear c65
            try clear c66
            try clear c67
            try clear c68
            try clear c69
            try clear c70
            try clear c71
            try clear c72
            try clear c73
            try clear c74
            try clear c84
            try clear c85
            try clear c86
            try clear c86b0
            try clear c87
            try clear c88
            try clear c88b0
            try clear c88b1
            try clear c89
            try clear c90
            try clear c90b0
            try clear c90b1
            try clear c91
            try clear c91b0
            try clear c92
            try clear c93
            try clear c93b0
            try clear c95
            try clear c96
            try clear c96b0
            try clear c96b1
            try clear c98
            try clear c98b0
            try clear c98b1
            try clear c100
            try clear c102
            try clear c102b0
            try clear c103
            try clear c103b0
            try clear c104
            try clear c104b0
            try clear c107
            try clear c108
            try clear c108b0
            try clear c111
            try clear c112
            try clear c112b0
            try clear c112b1
            try clear c113
            try clear c113b0
            try clear c113b1
            try clear c124
            try clear c124b0
            try clear c124b1
            try clear c125
            try clear c125b0
            try clear c125b1
            try clear c126
            try clear c126b0
            try clear c126b1
            try clear c127
            try clear c127b0
            try clear c127b1
            try clear c129
            try clear c129b0
            try clear c130
            try clear c130b0
            try clear c131
            try clear c131b0
            try clear c131b1
            try clear c140
            try clear c140b0
            try clear c140b1
            try clear c140b2
            try clear c141
            try clear c141b0
            try clear c141b1
            try clear c142
            try clear c142b0
            try clear c142b1
            try clear c143
            try clear c143b0
            try clear c143b1
            try clear c143b2
            try clear c144
            try clear c144b0
            try clear c144b1
            try clear c145
            try clear c145b0
            try clear c145b1
            try clear c146
            try clear c146b0
            try clear c146b1
            try clear c146b2
            try clear c147
            try clear c147b0
            try clear c147b1
            try clear c147b2
            try clear c148
            try clear c148b0
            try clear c148b1
            try clear hx273_0
            try clear hx274_0
            try clear hx275_0
            try clear p2
            try clear p27
            try clear p273
            try clear p274
            try clear p275
            try clear p6
            try clear p64
            try clear q2
            try clear q27
            try clear q273
            try clear q274
            try clear q275
            obtain ⟨kq, x454_137, rfl, HA, HJ137, HB⟩ := hcut
            cases kq with
            | zero => exact absurd HA.out (by simp [laws_FnStatesCountedOfAll.j7])
            | succ kj137 =>
             have H := HA.out
             clear HA
             simp only [laws_FnStatesCountedOfAll.j7] at H
             by_cases c149 : x454_137 = true
             ·subst c149
              have H1 : (some false) = some r := by rw [if_pos rfl] at H; exact H
              clear H
              have H := H1
              clear H1
              obtain rfl := Option.some.inj H
              go_wp2
              go_ret
              exact ⟨by first | rfl | (simp [errW_none, errW_some] <;> rfl) | (simp [*, errW_none, errW_some] <;> rfl), by repeat (first | (with_reducible first | exact HB.out | apply below_alloc | apply pw_below_drewN | apply below_drew1) | exact HB.out)⟩
             ·replace c149 := Bool.eq_false_iff.mpr c149
              subst c149
              have H1 : (if t282 = true then (if 0 ≤ a2 then (if (wrap64 (t280 * 2)) = (wrap64 (t281 * (wrap64 ((shl .i64 1 a2) - 1)))) then (if (wrap64 ((wrap64 (t286 * 3)) * (shl .i64 1 a2))) = (wrap64 (t287 * (wrap64 ((wrap64 ((shl .i64 1 a2) * (shl .i64 1 a2))) - 1)))) then (laws_FnStatesCountedOfAll.j8 kj137 a3 a4 t292 t293 t294) else (some false)) else (some false)) else (none)) else (laws_FnStatesCountedOfAll.j8 kj137 a3 a4 t292 t293 t294)) = some r := by rw [if_neg (show ¬ (false = true) by decide)] at H; exact H
              clear H
              have H := H1
              clear H1
              have HC150 := Aside0.mk H
              clear H
              go_upto_if 455 with (fail)
              refine wp_cutv [] [0, 0, 0, 0, 0, 0, 0, 0, 0, 0, 1, 0, 0, 0, 0, 0, 0, 0, 0, 0, 0, 0, 0, 0, 0, 0, 0, 0, 0, 0, 0, 0, 0, 0, 0, 0, 0, 0, 0, 0, 0, 0, 0, 0, 0, 0, 0, 0, 0, 0, 0, 0, 0, 0, 0, 0, 0, 0, 0, 0, 0, 0, 0, 0, 0, 0, 0, 0, 0, 1, 0, 0, 0, 0, 0, 0, 0, 1, 1, 1, 1, 1, 1, 1, 1, 1, 1, 1, 1, 1, 1, 1, 1, 1, 1, 1, 1, 1, 1, 1, 1, 1, 1, 1, 1, 1, 1, 1, 1, 1, 1, 1, 1, 1, 1, 1, 1, 1, 1, 1, 1, 1, 1, 1, 1, 1, 1, 1, 1, 1, 1, 1, 1, 1, 1, 1, 1, 1, 1, 1, 1, 1, 1, 1, 1, 1, 1, 1, 1, 1, 1, 1, 1, 1, 1, 1, 1, 1, 1, 1, 1, 1, 1, 1, 1, 1, 1, 1, 1, 1, 1, 1, 1, 1, 1, 1, 1, 1, 1, 1, 1, 1, 1, 1, 1, 1, 1, 1, 1, 1, 1, 1, 1, 1, 1, 1, 1, 1, 1, 1, 1, 1, 1, 1, 1, 1, 1, 1, 1, 1, 1, 1, 1, 1, 1, 1, 1, 1, 1, 1, 1, 1, 1, 1, 1, 1, 1, 1, 1, 1, 1, 1, 1, 1, 1, 1, 1, 1, 1, 1, 1, 1, 1, 1, 1, 1, 1, 1, 1, 1, 1, 1, 1, 1, 1, 1, 1, 1, 1, 1, 1, 1, 1, 1, 1, 1, 1, 1, 1, 1, 1, 1, 1, 1, 1, 1, 1, 1, 1, 1, 1, 1, 1, 1, 1, 1, 1, 1, 1, 1, 1, 1, 1, 1, 1, 1, 1, 1, 1, 1, 1, 0, 0, 0, 1, 1, 1, 1, 1, 1, 1, 1, 1, 1, 1, 1, 1, 1, 1, 1, 1, 1, 1, 1, 1, 1, 1, 1, 1, 1, 1, 1, 1, 1, 1, 1, 1, 1, 1, 1, 1, 1, 1, 1, 1, 1, 1, 1, 1, 1, 1, 1, 1, 1, 1, 1, 1, 1, 1, 1, 1, 1, 1, 1, 1, 1, 1, 1, 1, 1, 1, 1, 1, 1, 1, 1, 1, 1, 1, 1, 1, 1, 1, 1, 1, 1, 1, 1, 1, 1, 1, 1, 1, 1, 1, 1, 1, 1, 1, 1, 1, 1, 1, 1, 1, 1, 1, 1, 1, 1, 1, 1, 1, 1, 1, 1, 1, 1, 1, 1, 1, 1, 1, 1, 1, 1, 1, 1, 1, 1, 1, 1, 1, 1, 1, 1, 1, 1, 1, 1, 1, 1, 1, 1, 1, 1, 1, 1, 1, 1, 1, 1, 1, 1, 1, 1, 1, 1, 1, 1, 1, 1, 1, 1, 1, 1, 1, 1, 1, 1, 1, 1, 1, 1, 1, 1, 1, 1, 1, 1, 1, 1, 1, 1, 1, 1, 0, 0, 0, 1, 1, 1, 1, 1, 1, 1, 1, 1, 1, 1, 1, 1, 1, 1, 1, 1, 1, 1, 1, 1, 1] (fun vs_ wc => vs_ = [] ∧ ∃ (kq : Nat), Aside0 (laws_FnStatesCountedOfAll.j8 kq a3 a4 t292 t293 t294 = some r) ∧ Aside0 (kq ≤ kj137) ∧ Aside0 (Below w.heap.size w wc)) ?first7 ?rest7
              case first7 =>
               as_aux_lemma =>
               intro _ _ _ _
               (try dsimp only [List.append])
               have H := HC150.out
               clear HC150
               by_cases c151 : t282 = true
               ·subst c151
                have H1 : (if 0 ≤ a2 then (if (wrap64 (t280 * 2)) = (wrap64 (t281 * (wrap64 ((shl .i64 1 a2) - 1)))) then (if (wrap64 ((wrap64 (t286 * 3)) * (shl .i64 1 a2))) = (wrap64 (t287 * (wrap64 ((wrap64 ((shl .i64 1 a2) * (shl .i64 1 a2))) - 1)))) then (laws_FnStatesCountedOfAll.j8 kj137 a3 a4 t292 t293 t294) else (some false)) else (some false)) else (none)) = some r := by rw [if_pos rfl] at H; exact H
                clear H
                have H := H1
                clear H1
                by_cases c152 : 0 ≤ a2
                ·rw [if_pos c152] at H
                 have c152b0 := eq_true c152
                 have c152b1 : decide (0 ≤ a2) = true := decide_eq_true c152
                 clear c152
                 obtain ⟨ji153, hji153⟩ : ∃ j_ : Int, (shl .i64 1 a2) = j_ := ⟨_, rfl⟩
                 replace H : (if (wrap64 (t280 * 2)) = (wrap64 (t281 * (wrap64 ((ji153) - 1)))) then (if (wrap64 ((wrap64 (t286 * 3)) * (ji153))) = (wrap64 (t287 * (wrap64 ((wrap64 ((ji153) * (ji153))) - 1)))) then (laws_FnStatesCountedOfAll.j8 kj137 a3 a4 t292 t293 t294) else (some false)) else (some false)) = some r := by first | (rw [hji153] at H; exact H) | (simp only [hji153] at H ⊢; exact H)
                 have hji153_ : (IntKind.i64.wrap (1 * 2 ^ min a2.toNat 64)) = ji153 := hji153
                 have hji153z : a2 ≤ 64 → (IntKind.i64.wrap (1 * 2 ^ a2.toNat)) = ji153 := shl_small hji153
                 have hji153u : (IntKind.i64.wrap (2 ^ min a2.toNat 64)) = ji153 := by have h_ := hji153_; rw [Int.one_mul] at h_; exact h_
                 have hji153v : a2 ≤ 64 → (IntKind.i64.wrap (2 ^ a2.toNat)) = ji153 := fun hle_ => by have h_ := hji153z hle_; rw [Int.one_mul] at h_; exact h_
                 have hji153y : (wrap64 (1 * 2 ^ min a2.toNat 64)) = ji153 := (i64_w _).symm.trans hji153_
                 have hji153x : a2 ≤ 64 → (wrap64 (1 * 2 ^ a2.toNat)) = ji153 := fun h_ => (i64_w _).symm.trans (hji153z h_)
                 have hji153k : (wrap64 (2 ^ min a2.toNat 64)) = ji153 := (i64_w _).symm.trans hji153u
                 have hji153l : a2 ≤ 64 → (wrap64 (2 ^ a2.toNat)) = ji153 := fun h_ => (i64_w _).symm.trans (hji153v h_)
                 by_cases c154 : (wrap64 (t280 * 2)) = (wrap64 (t281 * (wrap64 ((ji153) - 1))))
                 ·rw [if_pos c154] at H
                  have c154b0 : ((wrap64 (t280 * 2)) == (wrap64 (t281 * (wrap64 ((ji153) - 1))))) = true := beq_iff_eq.mpr c154
                  have c154b1 : ((wrap64 (t280 * 2)) != (wrap64 (t281 * (wrap64 ((ji153) - 1))))) = false := bne_eq_false_iff_eq.mpr c154
                  clear c154
                  (first | rw [c154b0] | (simp only [i64_w, i32_w]; rw [c154b0]) | skip)
                  by_cases c155 : (wrap64 ((wrap64 (t286 * 3)) * (ji153))) = (wrap64 (t287 * (wrap64 ((wrap64 ((ji153) * (ji153))) - 1))))
                  ·rw [if_pos c155] at H
                   have c155b0 : ((wrap64 ((wrap64 (t286 * 3)) * (ji153))) == (wrap64 (t287 * (wrap64 ((wrap64 ((ji153) * (ji153))) - 1))))) = true := beq_iff_eq.mpr c155
                   have c155b1 : ((wrap64 ((wrap64 (t286 * 3)) * (ji153))) != (wrap64 (t287 * (wrap64 ((wrap64 ((ji153) * (ji153))) - 1))))) = false := bne_eq_false_iff_eq.mpr c155
                   clear c155
                   have H' := Aside0.mk H
                   clear H
                   go_wp2
                   refine Met.intro ?_
                   go_step
                   refine ⟨[], trivial, ⟨rfl, ?rel⟩, by kernel_rfl⟩
                   case rel => exact ⟨_, H', ⟨by have := HJ5.out; have := HJ18.out; have := HJ72.out; have := HJ98.out; have := HJ137.out; first | omega | exact Nat.le_refl _⟩, ⟨by repeat (first | (with_reducible first | exact HB.out | apply below_alloc | apply pw_below_drewN | apply below_drew1) | exact HB.out)⟩⟩
                  ·rw [if_neg c155] at H
                   have c155b0 : ((wrap64 ((wrap64 (t286 * 3)) * (ji153))) == (wrap64 (t287 * (wrap64 ((wrap64 ((ji153) * (ji153))) - 1))))) = false := beq_eq_false_iff_ne.mpr c155
                   have c155b1 : ((wrap64 ((wrap64 (t286 * 3)) * (ji153))) != (wrap64 (t287 * (wrap64 ((wrap64 ((ji153) * (ji153))) - 1))))) = true := bne_iff_ne.mpr c155
                   obtain rfl := Option.some.inj H
                   go_wp2
                   go_ret
                   exact ⟨by first | rfl | (simp [errW_none, errW_some] <;> rfl) | (simp only [← hji153]; first | rfl | (simp [errW_none, errW_some] <;> rfl)) | (simp [*, errW_none, errW_some] <;> rfl), by repeat (first | (with_reducible first | exact HB.out | apply below_alloc | apply pw_below_drewN | apply below_drew1) | exact HB.out)⟩
                 ·rw [if_neg c154] at H
                  have c154b0 : ((wrap64 (t280 * 2)) == (wrap64 (t281 * (wrap64 ((ji153) - 1))))) = false := beq_eq_false_iff_ne.mpr c154
                  have c154b1 : ((wrap64 (t280 * 2)) != (wrap64 (t281 * (wrap64 ((ji153) - 1))))) = true := bne_iff_ne.mpr c154
                  (first | rw [c154b0] | (simp only [i64_w, i32_w]; rw [c154b0]) | skip)
                  obtain rfl := Option.some.inj H
                  go_wp2
                  go_ret
                  exact ⟨by first | rfl | (simp [errW_none, errW_some] <;> rfl) | (simp only [← hji153]; first | rfl | (simp [errW_none, errW_some] <;> rfl)) | (simp [*, errW_none, errW_some] <;> rfl), by repeat (first | (with_reducible first | exact HB.out | apply below_alloc | apply pw_below_drewN | apply below_drew1) | exact HB.out)⟩
                ·rw [if_neg c152] at H
                 exact absurd H (by simp)
               ·replace c151 := Bool.eq_false_iff.mpr c151
                subst c151
                have H1 : (laws_FnStatesCountedOfAll.j8 kj137 a3 a4 t292 t293 t294) = some r := by rw [if_neg (show ¬ (false = true) by decide)] at H; exact H
                clear H
                have H := H1
                clear H1
                have H' := Aside0.mk H
                clear H
                go_wp2
                refine Met.intro ?_
                go_step
                refine ⟨[], trivial, ⟨rfl, ?rel⟩, by kernel_rfl⟩
                case rel => exact ⟨_, H', ⟨by have := HJ5.out; have := HJ18.out; have := HJ72.out; have := HJ98.out; have := HJ137.out; first | omega | exact Nat.le_refl _⟩, ⟨by repeat (first | (with_reducible first | exact HB.out | apply below_alloc | apply pw_below_drewN | apply below_drew1) | exact HB.out)⟩⟩
              case rest7 =>
               as_aux_lemma =>
               intro vs_ f_ wc hcut
               obtain ⟨rfl, hcut⟩ := hcut
               dsimp only [mixF, List.getD_cons_zero, List.getD_cons_succ, Nat.reduceAdd]
               clear HC150
               try clear c1
               try clear c2
               try clear p2
               try clear q2
               try clear hx2
               try clear qi2
               try clear c3
               try clear c4
               try clear c5
               try clear c6
               try clear p6
               try clear c7
               try clear c7b0
               try clear c7b1
               try clear c8
               try clear c9
               try clear c10
               try clear c11
               try clear c12
               try clear c13
               try clear c14
               try clear c15
               try clear p27
               try clear q27
               try clear hx27
               try clear qi27
               try clear c29
               try clear c29b0
               try clear c29b1
               try clear c29b2
               try clear c31
               try clear c32
               try clear c32b0
               try clear c32b1
               try clear c32b2
               try clear c35
               try clear c35b0
               try clear c35b1
               try clear c36
               try clear c36b0
               try clear c36b1
               try clear c36b2
               try clear c39
               try clear c39b0
               try clear c39b1
               try clear c40
               try clear c40b0
               try clear c40b1
               try clear c40b2
               try clear c43
               try clear c43b0
               try clear c43b1
               try clear c44
               try clear c44b0
               try clear c44b1
               try clear c44b2
               try clear c47
               try clear c47b0
               try clear c47b1
               try clear c48
               try clear c48b0
               try clear c48b1
               try clear c48b2
               try clear c51
               try clear c51b0
               try clear c51b1
               try clear c51b2
               try clear c54
               try clear c54b0
               try clear c54b1
               try clear c54b2
               try clear c57
               try clear c58
               try clear c59
               try clear c60
               try clear c61
               try clear c62
               try clear c63
               try clear c64
               try clear p64
               try clear c65
               try clear c66
               try clear c67
               try clear c68
               try clear c69
               try clear c70
               try clear c71
               try clear c72
               try clear c73
               try clear c74
               try clear c84
               try clear c85
               try clear c86
               try clear c86b0
               try clear c87
               try clear c88
               try clear c88b0
               try clear c88b1
               try clear c89
               try clear c90
               try clear c90b0
               try clear c90b1
               try clear c91
               try clear c91b0
               try clear c92
               try clear c93
               try clear c93b0
               try clear c95
               try clear c96
               try clear c96b0
               try clear c96b1
               try clear c98
               try clear c98b0
               try clear c98b1
               try clear c100
               try clear c102
               try clear c102b0
               try clear c103
               try clear c103b0
               try clear c104
               try clear c104b0
               try clear c107
               try clear c108
               try clear c108b0
               try clear c111
               try clear c112
               try clear c112b0
               try clear c112b1
               try clear c113
               try clear c113b0
               try clear c113b1
               try clear c124
               try clear c124b0
               try clear c124b1
               try clear c125
               try clear c125b0
               try clear c125b1
               try clear c126
               try clear c126b0
               try clear c126b1
               try clear c127
               try clear c127b0
               try clear c127b1
               try clear c129
               try clear c129b0
               try clear c130
               try clear c130b0
               try clear c131
               try clear c131b0
               try clear c131b1
               try clear c140
               try clear c140b0
               try clear c140b1
               try clear c140b2
               try clear c141
               try clear c141b0
               try clear c141b1
               try clear c142
               try clear c142b0
               try clear c142b1
               try clear c143
               try clear c143b0
               try clear c143b1
               try clear c143b2
               try clear c144
               try clear c144b0
               try clear c144b1
               try clear c145
               try clear c145b0
               try clear c145b1
               try clear c146
               try clear c146b0
               try clear c146b1
               try clear c146b2
               try clear c147
               try clear c147b0
               try clear c147b1
               try clear c147b2
               try clear c148
               try clear c148b0
               try clear c148b1
               try clear c149
               try clear c151
               try clear c152
               try clear c152b0
               try clear c152b1
               try clear c154
               try clear c154b0
               try clear c154b1
               try clear c155
               try clear c155b0
               try clear c155b1
               try clear hx273_0
               try clear hx274_0
               try clear hx275_0
               try clear p2
               try clear p27
               try clear p273
               try clear p274
               try clear p275
               try clear p6
               try clear p64
               try clear q2
               try clear q27
               try clear q273
               try clear q274
               try clear q275
               obtain ⟨kq, HA, HJ149, HB⟩ := hcut
               cases kq with
               | zero => exact absurd HA.out (by simp [laws_FnStatesCountedOfAll.j8])
               | succ kj149 =>
                have H := HA.out
                clear HA
                simp only [laws_FnStatesCountedOfAll.j8] at H
                by_cases c156 : t294 = true
                ·subst c156
                 have H1 : ((impl_StatesBetween.f kj149 a3 a4).bind fun bt298 => (if bt298.2 = true then (laws_FnStatesCountedOfAll.l2 kj149 t292 t293 bt298.1 0 bt298.1 (bt298.1.length : Int) 0) else (some true))) = some r := by rw [if_pos rfl] at H; exact H
                 clear H
                 have H := H1
                 clear H1
                 replace H := Option.bind_eq_some_iff.mp H
                 obtain ⟨⟨t298, t299⟩, A1570, H⟩ := H
                 replace H : (if t299 = true then (laws_FnStatesCountedOfAll.l2 kj149 t292 t293 t298 0 t298 (t298.length : Int) 0) else (some true)) = some r := H
                 have A157 := Aside0.mk A1570
                 clear A1570
                 by_cases c158 : t299 = true
                 ·subst c158
                  have H1 : (laws_FnStatesCountedOfAll.l2 kj149 t292 t293 t298 0 t298 (t298.length : Int) 0) = some r := by rw [if_pos rfl] at H; exact H
                  clear H
                  have H := H1
                  clear H1
                  have H' := Aside0.mk H
                  clear H
                  go_wp2_with (first | ((with_reducible refine gate_callee (f := 75) rfl ?_); refine goesL_ (some 482) rfl rfl Tryd.func75 (by kernel_rfl) rfl #[.string a3, .string a4] rfl (by (try simp only [List.map_toArray, List.map_cons, List.map_nil]); first | done | rfl | (simp only [List.length_drop, List.length_take]; rfl)) ?_; (with_reducible refine (impl_StatesBetween.calls kj149 a3 a4 t298 true _ A157.out).mono ?_); rintro e w159 ⟨v300, rfl, ho0, hb⟩; refine ⟨_, rfl, ?_⟩; have n0_ := Aside0.mk (Kd.R_lower ho0 (below_size (by repeat (first | (with_reducible first | exact HB.out | apply below_alloc | apply pw_below_drewN | apply below_drew1) | exact HB.out)))); have n1_ := Aside0.mk (below_step (by repeat (first | (with_reducible first | exact HB.out | apply below_alloc | apply pw_below_drewN | apply below_drew1) | exact HB.out)) hb); clear HB; have HO301 := n0_; have HB := n1_; clear n0_ n1_; (try clear hb); (try clear hb2); (try clear hk); (try clear hi); (try clear ho0); obtain ⟨Ao160, co160, eo160⟩ := Kd.R_slice HO301.out; subst eo160))
                  go_loopg [72, 488] kj149 (fun kq v72 v488 w' => ∃ (x72_7 : Int) (x488_7 : Int), v72 = .int .i64 x72_7 ∧ v488 = .int .i64 x488_7 ∧ Aside0 (laws_FnStatesCountedOfAll.l2 kq t292 t293 t298 x72_7 t298 (t298.length : Int) x488_7 = some r) ∧ Aside0 (kq ≤ kj149) ∧ Aside0 (Kd.R Kd.string 9 w' w.heap.size (fun _ => True) (.slice Ao160 t298.length co160) t298) ∧ Aside0 (Kd.R Kd.string 9 w' w.heap.size (fun _ => True) (.slice Ao160 t298.length co160) t298) ∧ Aside0 (Below w.heap.size w w'))
                  case atStart => exact ⟨(0), (0), (by first | rfl | (simp; done) | (simp [*]; done)), (by first | rfl | (simp; done) | (simp [*]; done)), H', ⟨Nat.le_refl _⟩, ⟨by (with_reducible repeat (first | apply Kd.R_alloc | apply Kd.R_drewN | apply Kd.R_drew)); exact HO301.out⟩, ⟨by (with_reducible repeat (first | apply Kd.R_alloc | apply Kd.R_drewN | apply Kd.R_drew)); exact HO301.out⟩, ⟨by repeat (first | (with_reducible first | exact HB.out | apply below_alloc | apply pw_below_drewN | apply below_drew1) | exact HB.out)⟩⟩
                  case round =>
                   clear H'
                   try clear c1
                   try clear c2
                   try clear p2
                   try clear q2
                   try clear hx2
                   try clear qi2
                   try clear c3
                   try clear c4
                   try clear c5
                   try clear c6
                   try clear p6
                   try clear c7
                   try clear c7b0
                   try clear c7b1
                   try clear c8
                   try clear c9
                   try clear c10
                   try clear c11
                   try clear c12
                   try clear c13
                   try clear c14
                   try clear c15
                   try clear p27
                   try clear q27
                   try clear hx27
                   try clear qi27
                   try clear c29
                   try clear c29b0
                   try clear c29b1
                   try clear c29b2
                   try clear c31
                   try clear c32
                   try clear c32b0
                   try clear c32b1
                   try clear c32b2
                   try clear c35
                   try clear c35b0
                   try clear c35b1
                   try clear c36
                   try clear c36b0
                   try clear c36b1
                   try clear c36b2
                   try clear c39
                   try clear c39b0
                   try clear c39b1
                   try clear c40
                   try clear c40b0
                   try clear c40b1
                   try clear c40b2
                   try clear c43
                   try clear c43b0
                   try clear c43b1
                   try clear c44
                   try clear c44b0
                   try clear c44b1
                   try clear c44b2
                   try clear c47
                   try clear c47b0
                   try clear c47b1
                   try clear c48
                   try clear c48b0
                   try clear c48b1
                   try clear c48b2
                   try clear c51
                   try clear c51b0
                   try clear c51b1
                   try clear c51b2
                   try clear c54
                   try clear c54b0
                   try clear c54b1
                   try clear c54b2
                   try clear c57
                   try clear c58
                   try clear c59
                   try clear c60
                   try clear c61
                   try clear c62
                   try clear c63
                   try clear c64
                   try clear p64
                   try clear c65
                   try clear c66
                   try clear c67
                   try clear c68
                   try clear c69
                   try clear c70
                   try clear c71
                   try clear c72
                   try clear c73
                   try clear c74
                   try clear c75
                   try clear c84
                   try clear c85
                   try clear c86
                   try clear c86b0
                   try clear c87
                   try clear c88
                   try clear c88b0
                   try clear c88b1
                   try clear c89
                   try clear c90
                   try clear c90b0
                   try clear c90b1
                   try clear c91
                   try clear c91b0
                   try clear c92
                   try clear c93
                   try clear c93b0
                   try clear c95
                   try clear c96
                   try clear c96b0
                   try clear c96b1
                   try clear c98
                   try clear c98b0
                   try clear c98b1
                   try clear c100
                   try clear c102
                   try clear c102b0
                   try clear c103
                   try clear c103b0
                   try clear c104
                   try clear c104b0
                   try clear c107
                   try clear c108
                   try clear c108b0
                   try clear c111
                   try clear c112
                   try clear c112b0
                   try clear c112b1
                   try clear c113
                   try clear c113b0
                   try clear c113b1
                   try clear c124
                   try clear c124b0
                   try clear c124b1
                   try clear c125
                   try clear c125b0
                   try clear c125b1
                   try clear c126
                   try clear c126b0
                   try clear c126b1
                   try clear c127
                   try clear c127b0
                   try clear c127b1
                   try clear c129
                   try clear c129b0
                   try clear c130
                   try clear c130b0
                   try clear c131
                   try clear c131b0
                   try clear c131b1
                   try clear c140
                   try clear c140b0
                   try clear c140b1
                   try clear c140b2
                   try clear c141
                   try clear c141b0
                   try clear c141b1
                   try clear c142
                   try clear c142b0
                   try clear c142b1
                   try clear c143
                   try clear c143b0
                   try clear c143b1
                   try clear c143b2
                   try clear c144
                   try clear c144b0
                   try clear c144b1
                   try clear c145
                   try clear c145b0
                   try clear c145b1
                   try clear c146
                   try clear c146b0
                   try clear c146b1
                   try clear c146b2
                   try clear c147
                   try clear c147b0
                   try clear c147b1
                   try clear c147b2
                   try clear c148
                   try clear c148b0
                   try clear c148b1
                   try clear c149
                   try clear c151
                   try clear c152
                   try clear c152b0
                   try clear c152b1
                   try clear c154
                   try clear c154b0
                   try clear c154b1
                   try clear c155
                   try clear c155b0
                   try clear c155b1
                   try clear c156
                   try clear c158
                   try clear hx273_0
                   try clear hx274_0
                   try clear hx275_0
                   try clear p2
                   try clear p27
                   try clear p273
                   try clear p274
                   try clear p275
                   try clear p6
                   try clear p64
                   try clear q2
                   try clear q27
                   try clear q273
                   try clear q274
                   try clear q275
                   obtain ⟨x72_7, x488_7, rfl, rfl, HA, HK7, HO_70, HO_486, HB⟩ := hrel
                   cases gk with
                   | zero => exact absurd HA.out (by simp [laws_FnStatesCountedOfAll.l2])
                   | succ k7 =>
                    have H := HA.out
                    clear HA
                    simp only [laws_FnStatesCountedOfAll.l2] at H
                    by_cases c161 : x488_7 < (t298.length : Int)
                    ·rw [if_pos c161] at H
                     have c161b0 : decide (x488_7 < (t298.length : Int)) = true := decide_eq_true c161
                     clear c161
                     by_cases c162 : 0 ≤ x488_7
                     ·rw [if_pos c162] at H
                      have c162b0 : decide (0 ≤ x488_7) = true := decide_eq_true c162
                      clear c162
                      by_cases c163 : x488_7 < (t298.length : Int)
                      ·rw [if_pos c163] at H
                       have c163b0 : decide (x488_7 < (t298.length : Int)) = true := decide_eq_true c163
                       clear c163
                       replace H := Option.bind_eq_some_iff.mp H
                       obtain ⟨⟨t303, t304⟩, A1640, H⟩ := H
                       replace H : (if t304 = true then (laws_FnStatesCountedOfAll.l2 k7 t292 t293 t298 (wrap64 (x72_7 + t303)) t298 (t298.length : Int) (wrap64 (x488_7 + 1))) else (some false)) = some r := H
                       have A164 := Aside0.mk A1640
                       clear A1640
                       by_cases c165 : t304 = true
                       ·subst c165
                        have H1 : (laws_FnStatesCountedOfAll.l2 k7 t292 t293 t298 (wrap64 (x72_7 + t303)) t298 (t298.length : Int) (wrap64 (x488_7 + 1))) = some r := by rw [if_pos rfl] at H; exact H
                        clear H
                        have H := H1
                        clear H1
                        have H' := Aside0.mk H
                        clear H
                        have p302 : 0 ≤ (x488_7 : Int) := of_decide_eq_true (by first | (with_reducible assumption) | assumption)
                        have q302 : x488_7 < (t298.length : Int) := of_decide_eq_true (by first | (with_reducible assumption) | assumption)
                        obtain ⟨ad302, e302, hx302_0⟩ := Kd.at_string (Kd.R_reads' HO_486.out).2.2 x488_7 p302 q302
                        cases e302
                        replace p302 := eq_true p302
                        replace q302 := eq_true q302
                        go_wp2_with (first | ((with_reducible refine gate_callee (f := 68) rfl ?_); refine goesL_ (some 494) rfl rfl Tryd.func68 (by kernel_rfl) rfl #[.string (rdOf ByteArray.empty t298 x488_7)] rfl (by (try simp only [List.map_toArray, List.map_cons, List.map_nil]); first | done | rfl | (simp only [List.length_drop, List.length_take]; rfl)) ?_; (with_reducible refine (impl_CountOn.calls (rdOf ByteArray.empty t298 x488_7) t303 true _ A164.out).mono ?_); rintro e w166 ⟨rfl, hb⟩; refine ⟨_, rfl, ?_⟩; have n0_ := Aside0.mk (Kd.R_below (by (with_reducible repeat (first | apply Kd.R_alloc | apply Kd.R_drewN | apply Kd.R_drew)); exact HO_70.out) hb); have n1_ := Aside0.mk (Kd.R_below (by (with_reducible repeat (first | apply Kd.R_alloc | apply Kd.R_drewN | apply Kd.R_drew)); exact HO_486.out) hb); have n2_ := Aside0.mk (below_step (by repeat (first | (with_reducible first | exact HB.out | apply below_alloc | apply pw_below_drewN | apply below_drew1) | exact HB.out)) hb); clear HO_70; clear HO_486; clear HB; have HO_70 := n0_; have HO_486 := n1_; have HB := n2_; clear n0_ n1_ n2_; (try clear hb); (try clear hb2); (try clear hk); (try clear hi)))
                        go_roundg k7
                        case measure => have := HJ5.out; have := HJ18.out; have := HJ72.out; have := HJ98.out; have := HJ137.out; have := HJ149.out; have := HK7.out; omega
                        case rel => exact ⟨(wrap64 (x72_7 + t303)), (wrap64 (x488_7 + 1)), (by first | rfl | (simp; done) | (simp [*]; done)), (by first | rfl | (simp; done) | (simp [*]; done)), H', ⟨by have := HJ5.out; have := HJ18.out; have := HJ72.out; have := HJ98.out; have := HJ137.out; have := HJ149.out; have := HK7.out; omega⟩, ⟨by (with_reducible repeat (first | apply Kd.R_alloc | apply Kd.R_drewN | apply Kd.R_drew)); exact HO_70.out⟩, ⟨by (with_reducible repeat (first | apply Kd.R_alloc | apply Kd.R_drewN | apply Kd.R_drew)); exact HO_486.out⟩, ⟨by repeat (first | (with_reducible first | exact HB.out | apply below_alloc | apply pw_below_drewN | apply below_drew1) | exact HB.out)⟩⟩
                       ·replace c165 := Bool.eq_false_iff.mpr c165
                        subst c165
                        have H1 : (some false) = some r := by rw [if_neg (show ¬ (false = true) by decide)] at H; exact H
                        clear H
                        have H := H1
                        clear H1
                        obtain rfl := Option.some.inj H
                        have p302 : 0 ≤ (x488_7 : Int) := of_decide_eq_true (by first | (with_reducible assumption) | assumption)
                        have q302 : x488_7 < (t298.length : Int) := of_decide_eq_true (by first | (with_reducible assumption) | assumption)
                        obtain ⟨ad302, e302, hx302_0⟩ := Kd.at_string (Kd.R_reads' HO_486.out).2.2 x488_7 p302 q302
                        cases e302
                        replace p302 := eq_true p302
                        replace q302 := eq_true q302
                        go_wp2_with (first | ((with_reducible refine gate_callee (f := 68) rfl ?_); refine goesL_ (some 494) rfl rfl Tryd.func68 (by kernel_rfl) rfl #[.string (rdOf ByteArray.empty t298 x488_7)] rfl (by (try simp only [List.map_toArray, List.map_cons, List.map_nil]); first | done | rfl | (simp only [List.length_drop, List.length_take]; rfl)) ?_; (with_reducible refine (impl_CountOn.calls (rdOf ByteArray.empty t298 x488_7) t303 false _ A164.out).mono ?_); rintro e w167 ⟨rfl, hb⟩; refine ⟨_, rfl, ?_⟩; have n0_ := Aside0.mk (Kd.R_below (by (with_reducible repeat (first | apply Kd.R_alloc | apply Kd.R_drewN | apply Kd.R_drew)); exact HO_70.out) hb); have n1_ := Aside0.mk (Kd.R_below (by (with_reducible repeat (first | apply Kd.R_alloc | apply Kd.R_drewN | apply Kd.R_drew)); exact HO_486.out) hb); have n2_ := Aside0.mk (below_step (by repeat (first | (with_reducible first | exact HB.out | apply below_alloc | apply pw_below_drewN | apply below_drew1) | exact HB.out)) hb); clear HO_70; clear HO_486; clear HB; have HO_70 := n0_; have HO_486 := n1_; have HB := n2_; clear n0_ n1_ n2_; (try clear hb); (try clear hb2); (try clear hk); (try clear hi)))
                        go_ret
                        exact ⟨by first | rfl | (simp [errW_none, errW_some] <;> rfl) | (simp [*, errW_none, errW_some] <;> rfl), by repeat (first | (with_reducible first | exact HB.out | apply below_alloc | apply pw_below_drewN | apply below_drew1) | exact HB.out)⟩
                      ·rw [if_neg c163] at H
                       exact absurd H (by simp)
                     ·rw [if_neg c162] at H
                      exact absurd H (by simp)
                    ·rw [if_neg c161] at H
                     have c161b0 : decide (x488_7 < (t298.length : Int)) = false := decide_eq_false c161
                     clear c161
                     obtain rfl := Option.some.inj H
                     go_wp2
                     go_ret
                     exact ⟨by first | rfl | (simp [errW_none, errW_some] <;> rfl) | (simp [*, errW_none, errW_some] <;> rfl), by repeat (first | (with_reducible first | exact HB.out | apply below_alloc | apply pw_below_drewN | apply below_drew1) | exact HB.out)⟩
                 ·replace c158 := Bool.eq_false_iff.mpr c158
                  subst c158
                  have H1 : (some true) = some r := by rw [if_neg (show ¬ (false = true) by decide)] at H; exact H
                  clear H
                  have H := H1
                  clear H1
                  obtain rfl := Option.some.inj H
                  go_wp2_with (first | ((with_reducible refine gate_callee (f := 75) rfl ?_); refine goesL_ (some 482) rfl rfl Tryd.func75 (by kernel_rfl) rfl #[.string a3, .string a4] rfl (by (try simp only [List.map_toArray, List.map_cons, List.map_nil]); first | done | rfl | (simp only [List.length_drop, List.length_take]; rfl)) ?_; (with_reducible refine (impl_StatesBetween.calls kj149 a3 a4 t298 false _ A157.out).mono ?_); rintro e w168 ⟨v300, rfl, ho0, hb⟩; refine ⟨_, rfl, ?_⟩; have n0_ := Aside0.mk (Kd.R_lower ho0 (below_size (by repeat (first | (with_reducible first | exact HB.out | apply below_alloc | apply pw_below_drewN | apply below_drew1) | exact HB.out)))); have n1_ := Aside0.mk (below_step (by repeat (first | (with_reducible first | exact HB.out | apply below_alloc | apply pw_below_drewN | apply below_drew1) | exact HB.out)) hb); clear HB; have HO301 := n0_; have HB := n1_; clear n0_ n1_; (try clear hb); (try clear hb2); (try clear hk); (try clear hi); (try clear ho0)))
                  go_ret
                  exact ⟨by first | rfl | (simp [errW_none, errW_some] <;> rfl) | (simp [*, errW_none, errW_some] <;> rfl), by repeat (first | (with_reducible first | exact HB.out | apply below_alloc | apply pw_below_drewN | apply below_drew1) | exact HB.out)⟩
                ·replace c156 := Bool.eq_false_iff.mpr c156
                 subst c156
                 have H1 : (some true) = some r := by rw [if_neg (show ¬ (false = true) by decide)] at H; exact H
                 clear H
                 have H := H1
                 clear H1
                 obtain rfl := Option.some.inj H
                 go_wp2
                 go_ret
                 exact ⟨by first | rfl | (simp [errW_none, errW_some] <;> rfl) | (simp [*, errW_none, errW_some] <;> rfl), by repeat (first | (with_reducible first | exact HB.out | apply below_alloc | apply pw_below_drewN | apply below_drew1) | exact HB.out)⟩

/-- THE ONE PURE STATEMENT of laws_FnStatesCountedOfAll: yours. -/
theorem laws_FnStatesCountedOfAll.walk (P : laws_FnStatesCountedOfAll.Pure) (a0 : Int) (a1 : Int) (a2 : Int) (a3 : ByteArray) (a4 : ByteArray) (w : World) (w0 : (Lit.int .i64 a0).wf = true) (w1 : (Lit.int .i64 a1).wf = true) (w2 : (Lit.int .i64 a2).wf = true) (w3 : a3.size ≤ 140737488351232) (w4 : a4.size ≤ 140737488351232) :
  Calls Tryd.prog 7 #[.int .i64 a0, .int .i64 a1, .int .i64 a2, .string a3, .string a4] w fun e w' => e = .returned (.bool true) ∧ Below w.heap.size w w' := by
 obtain ⟨k, h⟩ := P a0 a1 a2 a3 a4 w0 w1 w2 w3 w4
 refine (laws_FnStatesCountedOfAll.calls k a0 a1 a2 a3 a4 true w h).mono ?_
 rintro e w' ⟨rfl, hd⟩
 exact ⟨rfl, hd⟩

end Go.Proofs.YtkdfhgilpnohpaaDoor.Sc
