/- TakeBucket: the program and the reference answer alike, for every bucket, number of drops and tick of int64. -/
import Derived.Test.YtidlbifgfciikaaQFnExactTakeBucketx4
namespace Go.Proofs.Ytidlbifgfciikaa.Pure
open Go.RowKit Go.Proofs.Ytidlbifgfciikaa.QFnExactTakeBucket Go.Proofs.YtidlbifgfciikaaW.PrintWords Go.Proofs.YtidlbifgfciikaaW.PrintLast Go.Proofs.YtidlbifgfciikaaW.PrintMore
set_option linter.unusedVariables false

theorem w64 {n : Int} (h1 : -9223372036854775808 ≤ n) (h2 : n ≤ 9223372036854775807) : wrap64 n = n := by
  unfold wrap64
  omega
theorem wf64 {n : Int} (h : (Lit.int .i64 n).wf = true) : -9223372036854775808 ≤ n ∧ n ≤ 9223372036854775807 := by
  simp [Lit.wf, IntKind.min, IntKind.max, IntKind.signed, IntKind.bits] at h
  omega

theorem implIn (a b c : Int) : impl_in.f a b c = some (decide (b ≤ a ∧ a ≤ c)) := by
  unfold impl_in.f
  by_cases h : a ≥ b
  · rw [if_pos h]; simp [h]
  · rw [if_neg h]; simp; intro h2; omega
theorem implTick (a : Int) : impl_isTick.f a = some (decide (0 ≤ a ∧ a ≤ 1000000)) := by
  unfold impl_isTick.f
  rw [implIn]; rfl

theorem specIn (a b c : Int) : spec_l00In.f a b c = some (decide (b ≤ a ∧ a ≤ c)) := by
  unfold spec_l00In.f
  by_cases h : a ≥ b
  · rw [if_pos h]; simp [h]
  · rw [if_neg h]; simp; intro h2; omega
theorem specTick (a : Int) : spec_l02Tick.f a = some (decide (0 ≤ a ∧ a ≤ 1000000)) := by
  unfold spec_l02Tick.f
  rw [specIn]; rfl

/-- A bucket in order. -/
def BOk (s e l a : Int) : Prop := 1 ≤ s ∧ s ≤ 1000 ∧ 1 ≤ e ∧ e ≤ 1000000 ∧ 0 ≤ l ∧ l ≤ s ∧ 0 ≤ a ∧ a ≤ 1000000
instance (s e l a : Int) : Decidable (BOk s e l a) := by unfold BOk; infer_instance
theorem implIs (a b c d : Int) : impl_ValidBucket.f a b c d = some (decide (BOk a b c d)) := by
  unfold impl_ValidBucket.f
  simp only [implIn, implTick, Option.bind_some]
  by_cases h1 : 1 ≤ a ∧ a ≤ 1000
  · by_cases h2 : 1 ≤ b ∧ b ≤ 1000000
    · by_cases h3 : 0 ≤ c ∧ c ≤ a
      · by_cases h4 : 0 ≤ d ∧ d ≤ 1000000
        · have : BOk a b c d := ⟨h1.1, h1.2, h2.1, h2.2, h3.1, h3.2, h4.1, h4.2⟩
          simp [h1, h2, h3, h4, this]
        · have : ¬ BOk a b c d := fun h => h4 ⟨h.2.2.2.2.2.2.1, h.2.2.2.2.2.2.2⟩
          simp [h1, h2, h3, h4, this]
      · have : ¬ BOk a b c d := fun h => h3 ⟨h.2.2.2.2.1, h.2.2.2.2.2.1⟩
        simp [h1, h2, h3, this]
    · have : ¬ BOk a b c d := fun h => h2 ⟨h.2.2.1, h.2.2.2.1⟩
      simp [h1, h2, this]
  · have : ¬ BOk a b c d := fun h => h1 ⟨h.1, h.2.1⟩
    simp [h1, this]

theorem specIs (a b c d : Int) : spec_l06Is.f a b c d = impl_ValidBucket.f a b c d := rfl

theorem specLeft (s e l a t : Int) : spec_l06Left.f s e l a t = impl_Bucket_left.f s e l a t := by
  unfold spec_l06Left.f impl_Bucket_left.f spec_l00Min.f mn
  by_cases h : e = 0
  · rw [if_pos h, if_pos h]
  · rw [if_neg h, if_neg h]
    generalize wrap64 (l + wrap64 ((wrap64 (t - a)).tdiv e)) = x
    by_cases h2 : s < x
    · rw [if_pos h2, if_neg (by omega)]; rfl
    · rw [if_neg h2]
      by_cases h3 : x < s
      · rw [if_pos h3]; rfl
      · rw [if_neg h3]; have : x = s := by omega
        rw [this]; rfl

theorem implOk (s e l a t : Int) : impl_bucketOk.f s e l a t = some (decide (BOk s e l a ∧ a ≤ t ∧ t ≤ 1000000)) := by
  unfold impl_bucketOk.f
  rw [implIs]
  simp only [Option.bind_some, implIn]
  by_cases h : BOk s e l a <;> simp [h]

theorem leftVal {s e l a t : Int} (h : BOk s e l a) (h1 : a ≤ t) (h2 : t ≤ 1000000) : impl_Bucket_left.f s e l a t = some (min s (l + (t - a) / e)) := by
  unfold BOk at h
  have q0 : 0 ≤ (t - a) / e := Int.ediv_nonneg (by omega) (by omega)
  have q1 : (t - a) / e ≤ t - a := Int.ediv_le_self _ (by omega)
  unfold impl_Bucket_left.f
  rw [if_neg (by omega), w64 (n := t - a) (by omega) (by omega), Int.tdiv_eq_ediv_of_nonneg (by omega), w64 (n := (t - a) / e) (by omega) (by omega), w64 (by omega) (by omega)]
  unfold mn
  congr 1
  split <;> omega

theorem specAt (s e l a t : Int) : spec_l06At.f s e l a t = some (decide (a ≤ t ∧ t ≤ 1000000)) := by
  unfold spec_l06At.f
  rw [specIn]; rfl

theorem implTake {s e l a c t : Int} (h : BOk s e l a) (h1 : a ≤ t) (h2 : t ≤ 1000000) (hc : 1 ≤ c) (hc2 : c ≤ s) :
    impl_Bucket_take.f s e l a c t = some (if min s (l + (t - a) / e) < c then (s, e, l, a, false) else if min s (l + (t - a) / e) = s then (s, e, min s (l + (t - a) / e) - c, t, true) else (s, e, min s (l + (t - a) / e) - c, a + (t - a) / e * e, true)) := by
  unfold impl_Bucket_take.f
  rw [leftVal h h1 h2]
  unfold BOk at h
  have q0 : 0 ≤ (t - a) / e := Int.ediv_nonneg (by omega) (by omega)
  have q1 : (t - a) / e ≤ t - a := Int.ediv_le_self _ (by omega)
  have q2 : (t - a) / e * e ≤ t - a := Int.ediv_mul_le _ (by omega)
  have q3 : 0 ≤ (t - a) / e * e := Int.mul_nonneg q0 (by omega)
  rw [w64 (n := t - a) (by omega) (by omega), Int.tdiv_eq_ediv_of_nonneg (by omega), w64 (n := (t - a) / e) (by omega) (by omega), w64 (n := (t - a) / e * e) (by omega) (by omega), w64 (n := a + (t - a) / e * e) (by omega) (by omega)]
  simp only [Option.bind_some]
  rw [w64 (n := min s (l + (t - a) / e) - c) (by omega) (by omega), if_neg (show ¬ e = 0 by omega)]
  split
  · rfl
  · split <;> rfl

theorem specTake (s e l a c t : Int) : spec_l06Take.f s e l a c t = (impl_Bucket_take.f s e l a c t).map fun r => (r.2.2.2.2, r.1, r.2.1, r.2.2.1, r.2.2.2.1) := by
  unfold spec_l06Take.f impl_Bucket_take.f
  rw [specLeft]
  cases impl_Bucket_left.f s e l a t with
  | none => rfl
  | some x =>
    simp only [Option.bind_some]
    split
    · rfl
    · split
      · rfl
      · split <;> rfl

theorem FnExactTakeBucket : laws_FnExactTakeBucket.Pure := by
  intro s e l a c t _ _ _ _ _ _
  unfold laws_FnExactTakeBucket.f laws_toBucket.f spec_TakeBucket.f impl_TakeBucket.f laws_eqBucket.f
  simp only [Option.bind_some, specIs, implIs, specAt, implOk, specTake, specIn, implIn]
  by_cases h : BOk s e l a
  · by_cases h1 : a ≤ t ∧ t ≤ 1000000
    · by_cases h2 : 1 ≤ c ∧ c ≤ s
      · rw [implTake h h1.1 h1.2 h2.1 h2.2]
        simp [h, h1, h2]
      · simp [h, h1, h2]
    · simp [h, h1]
  · simp [h]

end Go.Proofs.Ytidlbifgfciikaa.Pure
