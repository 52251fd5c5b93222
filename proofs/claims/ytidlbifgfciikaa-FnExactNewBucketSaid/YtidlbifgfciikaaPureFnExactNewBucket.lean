/- NewBucket: the program and the reference answer alike, for all three whole numbers of int64. -/
import Derived.Test.YtidlbifgfciikaaQFnExactNewBucketx3
namespace Go.Proofs.Ytidlbifgfciikaa.Pure
open Go.RowKit Go.Proofs.Ytidlbifgfciikaa.QFnExactNewBucket Go.Proofs.YtidlbifgfciikaaW.PrintWords Go.Proofs.YtidlbifgfciikaaW.PrintLast Go.Proofs.YtidlbifgfciikaaW.PrintMore
set_option linter.unusedVariables false

theorem w64 {n : Int} (h1 : -9223372036854775808 ≤ n) (h2 : n ≤ 9223372036854775807) : wrap64 n = n := by
  unfold wrap64
  omega
theorem wf64 {n : Int} (h : (Lit.int .i64 n).wf = true) : -9223372036854775808 ≤ n ∧ n ≤ 9223372036854775807 := by
  simp [Lit.wf, IntKind.min, IntKind.max, IntKind.signed, IntKind.bits] at h
  omega

theorem implIn (a b c : Int) : impl_in.f a b c = some (decide (b ≤ a ∧ a ≤ c)) := by
  unfold impl_in.f
  by_cases h : a ≥ b
  · rw [if_pos h]; simp [h]
  · rw [if_neg h]; simp; intro h2; omega
theorem implTick (a : Int) : impl_isTick.f a = some (decide (0 ≤ a ∧ a ≤ 1000000)) := by
  unfold impl_isTick.f
  rw [implIn]; rfl

/-- A bucket in order. -/
def BOk (s e l a : Int) : Prop := 1 ≤ s ∧ s ≤ 1000 ∧ 1 ≤ e ∧ e ≤ 1000000 ∧ 0 ≤ l ∧ l ≤ s ∧ 0 ≤ a ∧ a ≤ 1000000
instance (s e l a : Int) : Decidable (BOk s e l a) := by unfold BOk; infer_instance
theorem implIs (a b c d : Int) : impl_ValidBucket.f a b c d = some (decide (BOk a b c d)) := by
  unfold impl_ValidBucket.f
  simp only [implIn, implTick, Option.bind_some]
  by_cases h1 : 1 ≤ a ∧ a ≤ 1000
  · by_cases h2 : 1 ≤ b ∧ b ≤ 1000000
    · by_cases h3 : 0 ≤ c ∧ c ≤ a
      · by_cases h4 : 0 ≤ d ∧ d ≤ 1000000
        · have : BOk a b c d := ⟨h1.1, h1.2, h2.1, h2.2, h3.1, h3.2, h4.1, h4.2⟩
          simp [h1, h2, h3, h4, this]
        · have : ¬ BOk a b c d := fun h => h4 ⟨h.2.2.2.2.2.2.1, h.2.2.2.2.2.2.2⟩
          simp [h1, h2, h3, h4, this]
      · have : ¬ BOk a b c d := fun h => h3 ⟨h.2.2.2.2.1, h.2.2.2.2.2.1⟩
        simp [h1, h2, h3, this]
    · have : ¬ BOk a b c d := fun h => h2 ⟨h.2.2.1, h.2.2.2.1⟩
      simp [h1, h2, this]
  · have : ¬ BOk a b c d := fun h => h1 ⟨h.1, h.2.1⟩
    simp [h1, this]

theorem specIs (a b c d : Int) : spec_l06Is.f a b c d = impl_ValidBucket.f a b c d := rfl

theorem FnExactNewBucket : laws_FnExactNewBucket.Pure := by
  intro a b c _ _ _
  unfold laws_FnExactNewBucket.f spec_NewBucket.f impl_NewBucket.f laws_eqBucket.f
  simp only [specIs, implIs, Option.bind_some]
  by_cases h : BOk a b a c <;> simp [h]

end Go.Proofs.Ytidlbifgfciikaa.Pure
