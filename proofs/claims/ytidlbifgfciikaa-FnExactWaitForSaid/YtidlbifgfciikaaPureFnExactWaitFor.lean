/- WaitFor: the program and the reference answer alike, for every bucket, number of drops and tick of int64. -/
import Derived.Test.YtidlbifgfciikaaQFnExactWaitForx3
namespace Go.Proofs.Ytidlbifgfciikaa.Pure
open Go.RowKit Go.Proofs.Ytidlbifgfciikaa.QFnExactWaitFor Go.Proofs.YtidlbifgfciikaaW.PrintWords Go.Proofs.YtidlbifgfciikaaW.PrintLast Go.Proofs.YtidlbifgfciikaaW.PrintMore
set_option linter.unusedVariables false

theorem w64 {n : Int} (h1 : -9223372036854775808 ≤ n) (h2 : n ≤ 9223372036854775807) : wrap64 n = n := by
  unfold wrap64
  omega
theorem wf64 {n : Int} (h : (Lit.int .i64 n).wf = true) : -9223372036854775808 ≤ n ∧ n ≤ 9223372036854775807 := by
  simp [Lit.wf, IntKind.min, IntKind.max, IntKind.signed, IntKind.bits] at h
  omega

theorem implIn (a b c : Int) : impl_in.f a b c = some (decide (b ≤ a ∧ a ≤ c)) := by
  unfold impl_in.f
  by_cases h : a ≥ b
  · rw [if_pos h]; simp [h]
  · rw [if_neg h]; simp; intro h2; omega
theorem implTick (a : Int) : impl_isTick.f a = some (decide (0 ≤ a ∧ a ≤ 1000000)) := by
  unfold impl_isTick.f
  rw [implIn]; rfl

theorem specIn (a b c : Int) : spec_l00In.f a b c = some (decide (b ≤ a ∧ a ≤ c)) := by
  unfold spec_l00In.f
  by_cases h : a ≥ b
  · rw [if_pos h]; simp [h]
  · rw [if_neg h]; simp; intro h2; omega
theorem specTick (a : Int) : spec_l02Tick.f a = some (decide (0 ≤ a ∧ a ≤ 1000000)) := by
  unfold spec_l02Tick.f
  rw [specIn]; rfl

/-- A bucket in order. -/
def BOk (s e l a : Int) : Prop := 1 ≤ s ∧ s ≤ 1000 ∧ 1 ≤ e ∧ e ≤ 1000000 ∧ 0 ≤ l ∧ l ≤ s ∧ 0 ≤ a ∧ a ≤ 1000000
instance (s e l a : Int) : Decidable (BOk s e l a) := by unfold BOk; infer_instance
theorem implIs (a b c d : Int) : impl_ValidBucket.f a b c d = some (decide (BOk a b c d)) := by
  unfold impl_ValidBucket.f
  simp only [implIn, implTick, Option.bind_some]
  by_cases h1 : 1 ≤ a ∧ a ≤ 1000
  · by_cases h2 : 1 ≤ b ∧ b ≤ 1000000
    · by_cases h3 : 0 ≤ c ∧ c ≤ a
      · by_cases h4 : 0 ≤ d ∧ d ≤ 1000000
        · have : BOk a b c d := ⟨h1.1, h1.2, h2.1, h2.2, h3.1, h3.2, h4.1, h4.2⟩
          simp [h1, h2, h3, h4, this]
        · have : ¬ BOk a b c d := fun h => h4 ⟨h.2.2.2.2.2.2.1, h.2.2.2.2.2.2.2⟩
          simp [h1, h2, h3, h4, this]
      · have : ¬ BOk a b c d := fun h => h3 ⟨h.2.2.2.2.1, h.2.2.2.2.2.1⟩
        simp [h1, h2, h3, this]
    · have : ¬ BOk a b c d := fun h => h2 ⟨h.2.2.1, h.2.2.2.1⟩
      simp [h1, h2, this]
  · have : ¬ BOk a b c d := fun h => h1 ⟨h.1, h.2.1⟩
    simp [h1, this]

theorem specIs (a b c d : Int) : spec_l06Is.f a b c d = impl_ValidBucket.f a b c d := rfl

theorem implOk (s e l a t : Int) : impl_bucketOk.f s e l a t = some (decide (BOk s e l a ∧ a ≤ t ∧ t ≤ 1000000)) := by
  unfold impl_bucketOk.f
  rw [implIs]
  simp only [Option.bind_some, implIn]
  by_cases h : BOk s e l a <;> simp [h]

theorem specLeftVal {s e l a t : Int} (h : BOk s e l a) (h1 : a ≤ t) (h2 : t ≤ 1000000) : spec_l06Left.f s e l a t = some (min s (l + (t - a) / e)) := by
  unfold BOk at h
  have q0 : 0 ≤ (t - a) / e := Int.ediv_nonneg (by omega) (by omega)
  have q1 : (t - a) / e ≤ t - a := Int.ediv_le_self _ (by omega)
  unfold spec_l06Left.f spec_l00Min.f
  rw [if_neg (by omega), w64 (n := t - a) (by omega) (by omega), Int.tdiv_eq_ediv_of_nonneg (by omega), w64 (n := (t - a) / e) (by omega) (by omega), w64 (by omega) (by omega)]
  by_cases g : s < l + (t - a) / e
  · rw [if_pos g]; simp only [Option.bind_some]; congr 1; omega
  · rw [if_neg g]; simp only [Option.bind_some]; congr 1; omega

theorem specAt (s e l a t : Int) : spec_l06At.f s e l a t = some (decide (a ≤ t ∧ t ≤ 1000000)) := by
  unfold spec_l06At.f
  rw [specIn]; rfl

/-- How long to wait, in plain words. -/
def waitOf (s e l a c t : Int) : Int × Bool := if min s (l + (t - a) / e) ≥ c then (0, true) else if a + (c - l) * e > 1000000 then (0, false) else (a + (c - l) * e - t, true)
theorem wait_bounds {s e l a c t : Int} (h : BOk s e l a) (h1 : a ≤ t) (h2 : t ≤ 1000000) (hc : 1 ≤ c) (hc2 : c ≤ s) :
    (min s (l + (t - a) / e) ≥ c → max (c - l) 0 * e ≤ t - a) ∧ (¬ min s (l + (t - a) / e) ≥ c → t - a < (c - l) * e ∧ max (c - l) 0 = c - l) ∧ 0 ≤ max (c - l) 0 * e ∧ max (c - l) 0 * e ≤ 1000 * 1000000 := by
  unfold BOk at h
  have q2 : (t - a) / e * e ≤ t - a := Int.ediv_mul_le _ (by omega)
  have q3 : t - a < ((t - a) / e + 1) * e := by
    have := Int.lt_ediv_add_one_mul_self (t - a) (show 0 < e by omega)
    exact this
  have q0 : 0 ≤ (t - a) / e := Int.ediv_nonneg (by omega) (by omega)
  refine ⟨fun g => ?_, fun g => ⟨?_, by omega⟩, Int.mul_nonneg (by omega) (by omega), ?_⟩
  · have : max (c - l) 0 * e ≤ (t - a) / e * e := Int.mul_le_mul_of_nonneg_right (by omega) (by omega)
    omega
  · have : ((t - a) / e + 1) * e ≤ (c - l) * e := Int.mul_le_mul_of_nonneg_right (by omega) (by omega)
    omega
  · exact Int.mul_le_mul (by omega) (by omega) (by omega) (by omega)
theorem implWait {s e l a c t : Int} (h : BOk s e l a) (h1 : a ≤ t) (h2 : t ≤ 1000000) (hc : 1 ≤ c) (hc2 : c ≤ s) (k : Nat) : impl_WaitFor.j0 (k + 1) c t false s e l a = some (waitOf s e l a c t) := by
  obtain ⟨b1, b2, b3, b4⟩ := wait_bounds h h1 h2 hc hc2
  unfold BOk at h
  simp only [impl_WaitFor.j0]
  have e1 : mx (wrap64 (c - l)) 0 = max (c - l) 0 := by rw [w64 (by omega) (by omega)]; unfold mx; split <;> omega
  have e2 : mx t (wrap64 (a + wrap64 (mx (wrap64 (c - l)) 0 * e))) = max t (a + max (c - l) 0 * e) := by
    rw [e1, w64 (n := max (c - l) 0 * e) (by omega) (by omega), w64 (by omega) (by omega)]
    unfold mx
    split <;> omega
  rw [e2]
  unfold waitOf
  by_cases g : min s (l + (t - a) / e) ≥ c
  · have := b1 g
    rw [if_pos g, if_neg (show ¬ (false = true) by simp), w64 (by omega) (by omega), if_neg (show ¬ max t (a + max (c - l) 0 * e) > 1000000 by omega)]
    have e4 : max t (a + max (c - l) 0 * e) - t = 0 := by omega
    rw [e4]
  · have := b2 g
    rw [if_neg g, if_neg (show ¬ (false = true) by simp)]
    have e3 : max t (a + max (c - l) 0 * e) = a + (c - l) * e := by rw [this.2]; omega
    rw [e3]
    rw [this.2] at b3 b4
    by_cases g2 : a + (c - l) * e > 1000000
    · rw [if_pos g2, if_pos g2]
    · rw [if_neg g2, if_neg g2, w64 (by omega) (by omega)]

theorem specWait {s e l a c t : Int} (h : BOk s e l a) (h1 : a ≤ t) (h2 : t ≤ 1000000) (hc : 1 ≤ c) (hc2 : c ≤ s) (k : Nat) : spec_WaitFor.j0 (k + 1) c t false s e l a = some (waitOf s e l a c t) := by
  obtain ⟨b1, b2, b3, b4⟩ := wait_bounds h h1 h2 hc hc2
  simp only [spec_WaitFor.j0]
  rw [specLeftVal h h1 h2]
  unfold BOk at h
  unfold waitOf
  simp only [Option.bind_some]
  rw [if_neg (show ¬ (false = true) by simp)]
  by_cases g : min s (l + (t - a) / e) ≥ c
  · rw [if_pos g, if_pos g]
  · have := b2 g
    rw [this.2] at b3 b4
    rw [if_neg g, if_neg g, w64 (n := c - l) (by omega) (by omega), w64 (n := (c - l) * e) (by omega) (by omega), w64 (n := a + (c - l) * e) (by omega) (by omega)]
    by_cases g2 : a + (c - l) * e > 1000000
    · rw [if_pos g2, if_pos g2]
    · rw [if_neg g2, if_neg g2, w64 (by omega) (by omega)]
theorem FnExactWaitFor : laws_FnExactWaitFor.Pure := by
  intro s e l a c t _ _ _ _ _ _
  refine ⟨1, ?_⟩
  unfold laws_FnExactWaitFor.f laws_toBucket.f spec_WaitFor.f impl_WaitFor.f
  simp only [Option.bind_some, specIs, implIs, specAt, implOk, specIn, implIn]
  have n1 : spec_WaitFor.j0 1 c t true s e l a = some (0, false) := by simp [spec_WaitFor.j0]
  have n2 : impl_WaitFor.j0 1 c t true s e l a = some (0, false) := by simp [impl_WaitFor.j0]
  by_cases h : BOk s e l a
  · by_cases h1 : a ≤ t ∧ t ≤ 1000000
    · by_cases h2 : 1 ≤ c ∧ c ≤ s
      · simp [h, h1, h2, specWait h h1.1 h1.2 h2.1 h2.2 0, implWait h h1.1 h1.2 h2.1 h2.2 0]
      · simp [h, h1, h2, n1, n2]
    · simp [h, h1, n1, n2]
  · simp [h, n1, n2]

end Go.Proofs.Ytidlbifgfciikaa.Pure
