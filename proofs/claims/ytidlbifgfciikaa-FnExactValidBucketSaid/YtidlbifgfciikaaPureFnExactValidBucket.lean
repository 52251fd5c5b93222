/- ValidBucket: the program's and the reference's test of a bucket agree on all four whole numbers. No conditions beyond int64. -/
import Derived.Test.YtidlbifgfciikaaQFnExactValidBucketx3
namespace Go.Proofs.Ytidlbifgfciikaa.Pure
open Go.RowKit Go.Proofs.Ytidlbifgfciikaa.QFnExactValidBucket Go.Proofs.YtidlbifgfciikaaW.PrintWords Go.Proofs.YtidlbifgfciikaaW.PrintLast

theorem specIn (a b c : Int) : spec_l00In.f a b c = some (decide (b ≤ a ∧ a ≤ c)) := by
  unfold spec_l00In.f
  by_cases h : a ≥ b
  · rw [if_pos h]; simp [h]
  · rw [if_neg h]; simp; intro h2; omega
theorem specIs (a b c d : Int) : spec_l06Is.f a b c d = some (decide (1 ≤ a ∧ a ≤ 1000 ∧ 1 ≤ b ∧ b ≤ 1000000 ∧ 0 ≤ c ∧ c ≤ a ∧ 0 ≤ d ∧ d ≤ 1000000)) := by
  unfold spec_l06Is.f spec_l02Tick.f
  simp only [specIn, Option.bind_some]
  repeat' split
  all_goals simp_all
  all_goals omega
theorem implIs (a b c d : Int) : impl_ValidBucket.f a b c d = spec_l06Is.f a b c d := rfl
theorem FnExactValidBucket : laws_FnExactValidBucket.Pure := by
  intro a b c d _ _ _ _
  unfold laws_FnExactValidBucket.f laws_toBucket.f spec_ValidBucket.f
  simp only [Option.bind_some, implIs, specIs]
  simp

end Go.Proofs.Ytidlbifgfciikaa.Pure
