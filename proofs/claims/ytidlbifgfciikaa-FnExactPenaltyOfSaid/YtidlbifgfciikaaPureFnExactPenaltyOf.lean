/- PenaltyOf: the program and the reference answer alike, for every whole number of int64. -/
import Derived.Test.YtidlbifgfciikaaPFnExactPenaltyOfx1
namespace Go.Proofs.Ytidlbifgfciikaa.Pure
open Go.RowKit Go.Proofs.Ytidlbifgfciikaa.PFnExactPenaltyOf Go.Proofs.YtidlbifgfciikaaW.PrintWords Go.Proofs.YtidlbifgfciikaaW.PrintLast Go.Proofs.YtidlbifgfciikaaW.PrintMore
set_option linter.unusedVariables false

theorem FnExactPenaltyOf : laws_FnExactPenaltyOf.Pure := by
  intro a _
  unfold laws_FnExactPenaltyOf.f spec_PenaltyOf.f impl_PenaltyOf.f
  by_cases h1 : a < 3
  · simp [h1]
  · by_cases h2 : a < 6
    · simp [h1, h2]
    · by_cases h3 : a < 12 <;> simp [h1, h2, h3]

end Go.Proofs.Ytidlbifgfciikaa.Pure
