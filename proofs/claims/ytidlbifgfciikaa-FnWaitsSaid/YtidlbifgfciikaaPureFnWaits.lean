/- Waits: behind the time that is told to wait, a bucket has enough drops, a tick before it has not, and drops are taken exactly if there are enough; for every pair of byte strings. -/
import Derived.Test.YtidlbifgfciikaaQFnWaitsx4
import Derived.Laws.BitsLemmas
namespace Go.Proofs.Ytidlbifgfciikaa.Pure
open Go.RowKit Go.Proofs.Ytidlbifgfciikaa.QFnWaits Go.Proofs.YtidlbifgfciikaaW.PrintWords Go.Proofs.YtidlbifgfciikaaW.PrintLast Go.Proofs.YtidlbifgfciikaaW.PrintMore
set_option linter.unusedVariables false

theorem w64 {n : Int} (h1 : -9223372036854775808 ≤ n) (h2 : n ≤ 9223372036854775807) : wrap64 n = n := by
  unfold wrap64
  omega
theorem wf64 {n : Int} (h : (Lit.int .i64 n).wf = true) : -9223372036854775808 ≤ n ∧ n ≤ 9223372036854775807 := by
  simp [Lit.wf, IntKind.min, IntKind.max, IntKind.signed, IntKind.bits] at h
  omega

theorem ev_pos {α : Type} {c : Prop} [Decidable c] {g f : Nat → Option α} {r : α} (h : c) (e : Ev g r) : Ev (fun k => if c then g k else f k) r := Ev.congr (fun _ => if_pos h) e
theorem ev_neg {α : Type} {c : Prop} [Decidable c] {g f : Nat → Option α} {r : α} (h : ¬ c) (e : Ev f r) : Ev (fun k => if c then g k else f k) r := Ev.congr (fun _ => if_neg h) e
theorem ev_b {α β : Type} {o : Option α} {a : α} {f : Nat → α → Option β} {r : β} (h : o = some a) (e : Ev (fun k => f k a) r) : Ev (fun k => o.bind (f k)) r := by subst h; exact e
theorem ev_eq {α : Type} {g : Nat → Option α} {r q : α} (e : Ev g r) (h : r = q) : Ev g q := h ▸ e
theorem ev_some {α : Type} {r q : α} (h : r = q) : Ev (fun _ => some r) q := h ▸ Ev.now r
/-- Down from a list's end. -/
theorem idx_ind {α : Type} (l : List α) (P : Nat → Prop) (hend : P l.length) (hstep : ∀ i, i < l.length → P (i + 1) → P i) : ∀ i, i ≤ l.length → P i := by
  have key : ∀ d i, i + d = l.length → P i := by
    intro d
    induction d with
    | zero => intro i h; have : i = l.length := by omega
              rw [this]; exact hend
    | succ d ih => intro i h; exact hstep i (by omega) (ih (i + 1) (by omega))
  intro i h
  exact key (l.length - i) i (by omega)
theorem rd_at (l : List Int) (i : Nat) (h : i < l.length) : rd l (i : Int) = l[i] := by
  simp [rd, List.getD, h]
theorem rdOf_at {α : Type} (d : α) (l : List α) (i : Nat) (h : i < l.length) : rdOf d l (i : Int) = l[i] := by
  simp [rdOf, List.getD, h]
theorem drop_at {α : Type} (l : List α) (i : Nat) (h : i < l.length) : l.drop i = l[i] :: l.drop (i + 1) := List.drop_eq_getElem_cons h
theorem wsucc {i n : Nat} (h : i < n) (hn : n ≤ 9223372036854775807) : wrap64 ((i : Int) + 1) = ((i + 1 : Nat) : Int) := by
  rw [w64 (by omega) (by omega)]; rfl

theorem implIn (a b c : Int) : impl_in.f a b c = some (decide (b ≤ a ∧ a ≤ c)) := by
  unfold impl_in.f
  by_cases h : a ≥ b
  · rw [if_pos h]; simp [h]
  · rw [if_neg h]; simp; intro h2; omega
theorem implTick (a : Int) : impl_isTick.f a = some (decide (0 ≤ a ∧ a ≤ 1000000)) := by
  unfold impl_isTick.f
  rw [implIn]; rfl

/-- A bucket in order. -/
def BOk (s e l a : Int) : Prop := 1 ≤ s ∧ s ≤ 1000 ∧ 1 ≤ e ∧ e ≤ 1000000 ∧ 0 ≤ l ∧ l ≤ s ∧ 0 ≤ a ∧ a ≤ 1000000
instance (s e l a : Int) : Decidable (BOk s e l a) := by unfold BOk; infer_instance
theorem implIs (a b c d : Int) : impl_ValidBucket.f a b c d = some (decide (BOk a b c d)) := by
  unfold impl_ValidBucket.f
  simp only [implIn, implTick, Option.bind_some]
  by_cases h1 : 1 ≤ a ∧ a ≤ 1000
  · by_cases h2 : 1 ≤ b ∧ b ≤ 1000000
    · by_cases h3 : 0 ≤ c ∧ c ≤ a
      · by_cases h4 : 0 ≤ d ∧ d ≤ 1000000
        · have : BOk a b c d := ⟨h1.1, h1.2, h2.1, h2.2, h3.1, h3.2, h4.1, h4.2⟩
          simp [h1, h2, h3, h4, this]
        · have : ¬ BOk a b c d := fun h => h4 ⟨h.2.2.2.2.2.2.1, h.2.2.2.2.2.2.2⟩
          simp [h1, h2, h3, h4, this]
      · have : ¬ BOk a b c d := fun h => h3 ⟨h.2.2.2.2.1, h.2.2.2.2.2.1⟩
        simp [h1, h2, h3, this]
    · have : ¬ BOk a b c d := fun h => h2 ⟨h.2.2.1, h.2.2.2.1⟩
      simp [h1, h2, this]
  · have : ¬ BOk a b c d := fun h => h1 ⟨h.1, h.2.1⟩
    simp [h1, this]

theorem implOk (s e l a t : Int) : impl_bucketOk.f s e l a t = some (decide (BOk s e l a ∧ a ≤ t ∧ t ≤ 1000000)) := by
  unfold impl_bucketOk.f
  rw [implIs]
  simp only [Option.bind_some, implIn]
  by_cases h : BOk s e l a <;> simp [h]

theorem leftVal {s e l a t : Int} (h : BOk s e l a) (h1 : a ≤ t) (h2 : t ≤ 1000000) : impl_Bucket_left.f s e l a t = some (min s (l + (t - a) / e)) := by
  unfold BOk at h
  have q0 : 0 ≤ (t - a) / e := Int.ediv_nonneg (by omega) (by omega)
  have q1 : (t - a) / e ≤ t - a := Int.ediv_le_self _ (by omega)
  unfold impl_Bucket_left.f
  rw [if_neg (by omega), w64 (n := t - a) (by omega) (by omega), Int.tdiv_eq_ediv_of_nonneg (by omega), w64 (n := (t - a) / e) (by omega) (by omega), w64 (by omega) (by omega)]
  unfold mn
  congr 1
  split <;> omega

theorem implTake {s e l a c t : Int} (h : BOk s e l a) (h1 : a ≤ t) (h2 : t ≤ 1000000) (hc : 1 ≤ c) (hc2 : c ≤ s) :
    impl_Bucket_take.f s e l a c t = some (if min s (l + (t - a) / e) < c then (s, e, l, a, false) else if min s (l + (t - a) / e) = s then (s, e, min s (l + (t - a) / e) - c, t, true) else (s, e, min s (l + (t - a) / e) - c, a + (t - a) / e * e, true)) := by
  unfold impl_Bucket_take.f
  rw [leftVal h h1 h2]
  unfold BOk at h
  have q0 : 0 ≤ (t - a) / e := Int.ediv_nonneg (by omega) (by omega)
  have q1 : (t - a) / e ≤ t - a := Int.ediv_le_self _ (by omega)
  have q2 : (t - a) / e * e ≤ t - a := Int.ediv_mul_le _ (by omega)
  have q3 : 0 ≤ (t - a) / e * e := Int.mul_nonneg q0 (by omega)
  rw [w64 (n := t - a) (by omega) (by omega), Int.tdiv_eq_ediv_of_nonneg (by omega), w64 (n := (t - a) / e) (by omega) (by omega), w64 (n := (t - a) / e * e) (by omega) (by omega), w64 (n := a + (t - a) / e * e) (by omega) (by omega)]
  simp only [Option.bind_some]
  rw [w64 (n := min s (l + (t - a) / e) - c) (by omega) (by omega), if_neg (show ¬ e = 0 by omega)]
  split
  · rfl
  · split <;> rfl

/-- How long to wait, in plain words. -/
def waitOf (s e l a c t : Int) : Int × Bool := if min s (l + (t - a) / e) ≥ c then (0, true) else if a + (c - l) * e > 1000000 then (0, false) else (a + (c - l) * e - t, true)
theorem wait_bounds {s e l a c t : Int} (h : BOk s e l a) (h1 : a ≤ t) (h2 : t ≤ 1000000) (hc : 1 ≤ c) (hc2 : c ≤ s) :
    (min s (l + (t - a) / e) ≥ c → max (c - l) 0 * e ≤ t - a) ∧ (¬ min s (l + (t - a) / e) ≥ c → t - a < (c - l) * e ∧ max (c - l) 0 = c - l) ∧ 0 ≤ max (c - l) 0 * e ∧ max (c - l) 0 * e ≤ 1000 * 1000000 := by
  unfold BOk at h
  have q2 : (t - a) / e * e ≤ t - a := Int.ediv_mul_le _ (by omega)
  have q3 : t - a < ((t - a) / e + 1) * e := by
    have := Int.lt_ediv_add_one_mul_self (t - a) (show 0 < e by omega)
    exact this
  have q0 : 0 ≤ (t - a) / e := Int.ediv_nonneg (by omega) (by omega)
  refine ⟨fun g => ?_, fun g => ⟨?_, by omega⟩, Int.mul_nonneg (by omega) (by omega), ?_⟩
  · have : max (c - l) 0 * e ≤ (t - a) / e * e := Int.mul_le_mul_of_nonneg_right (by omega) (by omega)
    omega
  · have : ((t - a) / e + 1) * e ≤ (c - l) * e := Int.mul_le_mul_of_nonneg_right (by omega) (by omega)
    omega
  · exact Int.mul_le_mul (by omega) (by omega) (by omega) (by omega)
theorem implWait {s e l a c t : Int} (h : BOk s e l a) (h1 : a ≤ t) (h2 : t ≤ 1000000) (hc : 1 ≤ c) (hc2 : c ≤ s) (k : Nat) : impl_WaitFor.j0 (k + 1) c t false s e l a = some (waitOf s e l a c t) := by
  obtain ⟨b1, b2, b3, b4⟩ := wait_bounds h h1 h2 hc hc2
  unfold BOk at h
  simp only [impl_WaitFor.j0]
  have e1 : mx (wrap64 (c - l)) 0 = max (c - l) 0 := by rw [w64 (by omega) (by omega)]; unfold mx; split <;> omega
  have e2 : mx t (wrap64 (a + wrap64 (mx (wrap64 (c - l)) 0 * e))) = max t (a + max (c - l) 0 * e) := by
    rw [e1, w64 (n := max (c - l) 0 * e) (by omega) (by omega), w64 (by omega) (by omega)]
    unfold mx
    split <;> omega
  rw [e2]
  unfold waitOf
  by_cases g : min s (l + (t - a) / e) ≥ c
  · have := b1 g
    rw [if_pos g, if_neg (show ¬ (false = true) by simp), w64 (by omega) (by omega), if_neg (show ¬ max t (a + max (c - l) 0 * e) > 1000000 by omega)]
    have e4 : max t (a + max (c - l) 0 * e) - t = 0 := by omega
    rw [e4]
  · have := b2 g
    rw [if_neg g, if_neg (show ¬ (false = true) by simp)]
    have e3 : max t (a + max (c - l) 0 * e) = a + (c - l) * e := by rw [this.2]; omega
    rw [e3]
    rw [this.2] at b3 b4
    by_cases g2 : a + (c - l) * e > 1000000
    · rw [if_pos g2, if_pos g2]
    · rw [if_neg g2, if_neg g2, w64 (by omega) (by omega)]

theorem u64_range (n : Int) : 0 ≤ IntKind.u64.wrap n ∧ IntKind.u64.wrap n < 18446744073709551616 := by
  simp only [IntKind.wrap, IntKind.bits, IntKind.signed]
  constructor
  · exact Int.emod_nonneg _ (by decide)
  · exact Int.emod_lt_of_pos _ (by decide)
theorem u64_small (n : Int) (h0 : 0 ≤ n) (h1 : n < 2 ^ 24) : IntKind.u64.wrap n = n := by
  simp only [IntKind.wrap, IntKind.bits, IntKind.signed]
  have h1' : n < 16777216 := h1
  show n % 18446744073709551616 = n
  omega
/-- A byte that is drawn lies between 0 and 255. -/
theorem and255 (n : Int) : 0 ≤ Go.bits .and .u64 (IntKind.u64.wrap n / 1099511627776) 255 ∧ Go.bits .and .u64 (IntKind.u64.wrap n / 1099511627776) 255 ≤ 255 := by
  have h := u64_range n
  have e := bits_mask .u64 24 (by decide) u64_small 8 (by decide) (IntKind.u64.wrap n / 1099511627776) (by omega) (by show _ < (16777216 : Int); omega)
  have e2 : Go.bits .and .u64 (IntKind.u64.wrap n / 1099511627776) 255 = IntKind.u64.wrap n / 1099511627776 % 256 := e
  rw [e2]
  omega
def U8s (l : List Int) : Prop := ∀ x ∈ l, (Lit.int .u8 x).wf = true
theorem u8_rd {l : List Int} (h : U8s l) (i : Int) : 0 ≤ rd l i ∧ rd l i ≤ 255 := by
  unfold rd
  rcases Nat.lt_or_ge i.toNat l.length with hi | hi
  · have := h l[i.toNat] (List.getElem_mem hi)
    simp [Lit.wf, IntKind.min, IntKind.max, IntKind.signed, IntKind.bits] at this
    simp [List.getD, hi]
    omega
  · simp [List.getD, hi]
theorem nextOk {l : List Int} (h : U8s l) (i s : Int) (h0 : 0 ≤ i) (h1 : i ≤ 1000000000) : ∃ v s', spec_l00Src_next.f l i s = some (v, i + 1, s') ∧ 0 ≤ v ∧ v ≤ 255 := by
  have hr := u8_rd h i
  have e1 : wrap64 (i + 1) = i + 1 := w64 (by omega) (by omega)
  have e2 : wrap64 (rd l i) = rd l i := w64 (by omega) (by omega)
  unfold spec_l00Src_next.f
  rw [e1, e2]
  have big : ∀ n : Int, wrap64 (Go.bits .and .u64 (IntKind.u64.wrap n / 1099511627776) 255) = Go.bits .and .u64 (IntKind.u64.wrap n / 1099511627776) 255 := fun n => w64 (by have := and255 n; omega) (by have := and255 n; omega)
  by_cases c1 : i < (l.length : Int)
  · rw [if_pos c1, if_pos h0]
    by_cases c2 : i + 1 ≤ (l.length : Int)
    · rw [if_pos c2]; exact ⟨_, _, rfl, hr.1, hr.2⟩
    · rw [if_neg c2, big]; exact ⟨_, _, rfl, (and255 _).1, (and255 _).2⟩
  · rw [if_neg c1]
    by_cases c2 : i + 1 ≤ (l.length : Int)
    · rw [if_pos c2]; exact ⟨_, _, rfl, by omega, by omega⟩
    · rw [if_neg c2, big]; exact ⟨_, _, rfl, (and255 _).1, (and255 _).2⟩
theorem pickOk {l : List Int} (h : U8s l) (i s n : Int) (h0 : 0 ≤ i) (h1 : i ≤ 900000000) : ∃ v i' s', spec_l00Src_pick.f l i s n = some (v, i', s') ∧ 0 ≤ v ∧ (1 ≤ n → v < n) ∧ (n ≤ 1 → v = 0) ∧ i ≤ i' ∧ i' ≤ i + 2 := by
  unfold spec_l00Src_pick.f
  by_cases c : n ≤ 1
  · rw [if_pos c]; exact ⟨_, _, _, rfl, by omega, by omega, by omega, by omega, by omega⟩
  · rw [if_neg c]
    obtain ⟨v, s', e, v0, v1⟩ := nextOk h i s h0 (by omega)
    rw [e]
    simp only [Option.bind_some]
    by_cases c2 : n > 200
    · rw [if_pos c2]
      obtain ⟨v2, s2, e2, w0, w1⟩ := nextOk h (i + 1) s' (by omega) (by omega)
      rw [e2]
      simp only [Option.bind_some]
      rw [if_neg (by omega), w64 (n := v * 256) (by omega) (by omega), w64 (by omega) (by omega), Int.tmod_eq_emod_of_nonneg (by omega)]
      exact ⟨_, _, _, rfl, Int.emod_nonneg _ (by omega), fun _ => Int.emod_lt_of_pos _ (by omega), by omega, by omega, by omega⟩
    · rw [if_neg c2, if_neg (by omega), Int.tmod_eq_emod_of_nonneg (by omega)]
      exact ⟨_, _, _, rfl, Int.emod_nonneg _ (by omega), fun _ => Int.emod_lt_of_pos _ (by omega), by omega, by omega, by omega⟩

theorem r8At {l : List Int} (h : U8s l) (i n : Int) (h0 : 0 ≤ i) : ∃ v, laws_r8At.f l i n = some v ∧ 0 ≤ v ∧ (1 ≤ n → v < n) := by
  unfold laws_r8At.f
  by_cases c : n ≤ 1
  · rw [if_pos c]; exact ⟨0, rfl, by omega, by omega⟩
  · rw [if_neg c]
    by_cases c1 : i ≥ (l.length : Int)
    · rw [if_pos c1]; exact ⟨0, rfl, by omega, by omega⟩
    · have hr := u8_rd h i
      rw [if_neg c1, if_pos h0, if_pos (by omega), if_neg (by omega), w64 (by omega) (by omega), Int.tmod_eq_emod_of_nonneg (by omega)]
      exact ⟨_, rfl, Int.emod_nonneg _ (by omega), fun _ => Int.emod_lt_of_pos _ (by omega)⟩

theorem drawBucket {l : List Int} (h : U8s l) : ∃ s e d a, spec_R8Bucket.f l = some (s, e, d, a) ∧ BOk s e d a ∧ s ≤ 5 ∧ e ≤ 12 ∧ a ≤ 19 := by
  unfold spec_R8Bucket.f spec_l00From.f spec_l06DrawOk.f
  simp only [Option.bind_some]
  obtain ⟨v1, i1, s1, e1, a1, b1, _, c1, d1⟩ := pickOk h 0 0 5 (by omega) (by omega)
  rw [e1]; simp only [Option.bind_some]
  obtain ⟨v2, i2, s2, e2, a2, b2, _, c2, d2⟩ := pickOk h i1 s1 12 (by omega) (by omega)
  rw [e2]; simp only [Option.bind_some]
  have w1 : wrap64 (1 + v1) = 1 + v1 := w64 (by omega) (by omega)
  have w2 : wrap64 (1 + v2) = 1 + v2 := w64 (by omega) (by omega)
  rw [w1, w2, w64 (n := 1 + v1 + 1) (by omega) (by omega)]
  obtain ⟨v3, i3, s3, e3, a3, b3, _, c3, d3⟩ := pickOk h i2 s2 (1 + v1 + 1) (by omega) (by omega)
  rw [e3]; simp only [Option.bind_some]
  obtain ⟨v4, i4, s4, e4, a4, b4, _, c4, d4⟩ := pickOk h i3 s3 20 (by omega) (by omega)
  rw [e4]; simp only [Option.bind_some]
  refine ⟨_, _, _, _, rfl, ?_, ?_, ?_, ?_⟩
  · unfold BOk; omega
  all_goals omega

theorem leftAt {s e l a t : Int} (h : BOk s e l a) (h1 : a ≤ t) (h2 : t ≤ 1000000) : impl_LeftAt.f s e l a t = some (min s (l + (t - a) / e), true) := by
  unfold impl_LeftAt.f
  rw [implOk, leftVal h h1 h2]
  simp [h, h1, h2]
theorem waitAt {s e l a c t : Int} (h : BOk s e l a) (h1 : a ≤ t) (h2 : t ≤ 1000000) (hc : 1 ≤ c) (hc2 : c ≤ s) : Ev (fun k => impl_WaitFor.f k s e l a c t) (waitOf s e l a c t) := by
  unfold impl_WaitFor.f
  rw [implOk]
  refine ev_b rfl (ev_pos (by simp [h, h1, h2]) (ev_b (implIn _ _ _) ?_))
  rw [show (!decide (1 ≤ c ∧ c ≤ s)) = false by simp [hc, hc2]]
  exact Ev.step (fun k => implWait h h1 h2 hc hc2 k) (Ev.now _)
theorem takeAt {s e l a c t : Int} (h : BOk s e l a) (h1 : a ≤ t) (h2 : t ≤ 1000000) (hc : 1 ≤ c) (hc2 : c ≤ s) :
    impl_TakeBucket.f s e l a c t = some (if min s (l + (t - a) / e) < c then (s, e, l, a, false, true) else if min s (l + (t - a) / e) = s then (s, e, min s (l + (t - a) / e) - c, t, true, true) else (s, e, min s (l + (t - a) / e) - c, a + (t - a) / e * e, true, true)) := by
  unfold impl_TakeBucket.f
  rw [implOk, implIn, implTake h h1 h2 hc hc2]
  simp only [h, h1, h2, hc, hc2, and_self, decide_true, Option.bind_some, if_true]
  split
  · rfl
  · split <;> rfl
theorem newAt {s e t : Int} (hs : 1 ≤ s ∧ s ≤ 1000) (he : 1 ≤ e ∧ e ≤ 1000000) (ht : 0 ≤ t ∧ t ≤ 1000000) : impl_NewBucket.f s e t = some (s, e, s, t, true) := by
  unfold impl_NewBucket.f
  have : BOk s e s t := by unfold BOk; omega
  rw [implIs]
  simp [this]
theorem ev_j0_wait {s e l a c t : Int} (h : BOk s e l a) (hs : s ≤ 5) (he : e ≤ 12) (ha : a ≤ 19) (h1 : a ≤ t) (h2 : t ≤ a + 30) (hc : 1 ≤ c) (hc2 : c ≤ s) (L W : Int) (eL : min s (l + (t - a) / e) = L) (g : ¬ L ≥ c) (eW : W = a + (c - l) * e - t) :
    0 < W ∧ t + W ≤ 1000000 ∧ min s (l + (t + W - a) / e) = c ∧ min s (l + (t + W - 1 - a) / e) < c := by
  have b := (wait_bounds h h1 (by unfold BOk at h; omega) hc hc2).2.1 (by rw [eL]; exact g)
  have up := (wait_bounds h h1 (by unfold BOk at h; omega) hc hc2).2.2
  rw [b.2] at up
  unfold BOk at h
  have b1 : l < c := by
    by_cases z : l < c
    · exact z
    · have : (c - l) * e ≤ 0 := Int.mul_nonpos_of_nonpos_of_nonneg (by omega) (by omega)
      omega
  have up2 : (c - l) * e ≤ 5 * 12 := Int.mul_le_mul (by omega) (by omega) (by omega) (by omega)
  have e1 : (t + W - a) / e = c - l := by
    rw [show t + W - a = (c - l) * e by omega, Int.mul_ediv_cancel _ (by omega)]
  have e2 : (t + W - 1 - a) / e < c - l := by
    rw [show t + W - 1 - a = (c - l) * e - 1 by omega]
    exact Int.ediv_lt_of_lt_mul (by omega) (by omega)
  refine ⟨by omega, by omega, ?_, ?_⟩
  · rw [e1]; omega
  · omega
theorem FnWaits : laws_FnWaits.Pure := by
  intro l0 l1 _ _ h0 _ _ h1
  refine Ev.rounds ?_
  unfold laws_FnWaits.f laws_r8Long.f
  by_cases hb : ((l0.length : Int) > 48) ∨ ((l1.length : Int) > 48)
  · refine ev_b (a := true) ?_ (ev_pos rfl (Ev.now _))
    by_cases c : (l0.length : Int) > 48
    · rw [if_pos c]
    · rw [if_neg c]; congr 1; simpa using by omega
  · refine ev_b (a := false) ?_ (ev_neg (by simp) ?_)
    · rw [if_neg (by omega)]; congr 1; simpa using by omega
    · obtain ⟨s, e, l, a, eB, ok, s5, e12, a19⟩ := drawBucket (show U8s l0 from h0)
      have ok' := ok
      unfold BOk at ok'
      obtain ⟨v1, e1, a1, b1⟩ := r8At (show U8s l1 from h1) 0 s (by omega)
      obtain ⟨v2, e2, a2, b2⟩ := r8At (show U8s l1 from h1) 1 30 (by omega)
      have w1 : wrap64 (1 + v1) = 1 + v1 := w64 (by omega) (by omega)
      have w2 : wrap64 (a + v2) = a + v2 := w64 (by omega) (by omega)
      obtain ⟨c, hc⟩ : ∃ c, 1 + v1 = c := ⟨_, rfl⟩
      obtain ⟨t, ht⟩ : ∃ t, a + v2 = t := ⟨_, rfl⟩
      rw [hc] at w1
      rw [ht] at w2
      have c0 : 1 ≤ c := by omega
      have c1 : c ≤ s := by omega
      have t0 : a ≤ t := by omega
      have t1 : t ≤ a + 30 := by omega
      have t2 : t ≤ 1000000 := by omega
      refine ev_b eB (ev_b e1 (ev_b e2 ?_))
      simp only [hc, ht, w1, w2]
      refine ev_b (leftAt ok t0 t2) (Ev.bind (waitAt ok t0 t2 c0 c1) (ev_b (takeAt ok t0 t2 c0 c1) ?_))
      have bounds := wait_bounds ok t0 t2 c0 c1
      have q0 : 0 ≤ (t - a) / e := Int.ediv_nonneg (by omega) (by omega)
      have q1 : (t - a) / e ≤ t - a := Int.ediv_le_self _ (by omega)
      have q2 : (t - a) / e * e ≤ t - a := Int.ediv_mul_le _ (by omega)
      have q3 : 0 ≤ (t - a) / e * e := Int.mul_nonneg q0 (by omega)
      have q4 : t - a < ((t - a) / e + 1) * e := Int.lt_ediv_add_one_mul_self (t - a) (show 0 < e by omega)
      have hL : min s (l + (t - a) / e) ≤ s ∧ (min s (l + (t - a) / e) = s ∨ min s (l + (t - a) / e) = l + (t - a) / e) ∧ l ≤ min s (l + (t - a) / e) := by omega
      obtain ⟨L, eL⟩ : ∃ L, min s (l + (t - a) / e) = L := ⟨_, rfl⟩
      unfold waitOf
      rw [eL] at hL
      simp only [eL]
      by_cases g : L ≥ c
      · simp only [if_pos g, if_neg (show ¬ L < c by omega)]
        have e0 : wrap64 (wrap64 t + 0) = t := by rw [Int.add_zero, w64 (n := t) (by omega) (by omega), w64 (by omega) (by omega)]
        have e0' : wrap64 (t + 0) = t := by rw [Int.add_zero, w64 (by omega) (by omega)]
        refine ev_b (by first | (rw [e0']; exact leftAt ok t0 t2) | (rw [e0]; exact leftAt ok t0 t2)) ?_
        rw [eL]
        have dd : decide (L ≥ c) = true := by simpa using g
        refine ev_pos (by first | trivial | rfl) (ev_pos (by first | trivial | rfl) (ev_pos (by split <;> rfl) (ev_pos (by first | trivial | rfl) (ev_neg (by omega) (ev_neg (by omega) (ev_neg (by omega) (ev_neg (by rw [dd]; split <;> simp) (ev_neg (by omega) ?_))))))))
        refine Ev.step (fun k => by rw [laws_FnWaits.j0]) ?_
        refine ev_neg (by split <;> simp) (ev_neg (by omega) ?_)
        have e9 : (t - t) / e = 0 := by simp
        have full : impl_LeftAt.f s e s t t = some (s, true) := by
          have okf : BOk s e s t := by unfold BOk; omega
          rw [leftAt okf (by omega) t2, e9]
          congr 2
          omega
        have w5 : wrap64 (L - c) = L - c := w64 (by omega) (by omega)
        by_cases cs : L = s
        · have okT : BOk s e (L - c) t := by unfold BOk; omega
          have lt : impl_LeftAt.f s e (L - c) t t = some (L - c, true) := by
            rw [leftAt okT (by omega) t2, e9]
            congr 2
            omega
          simp only [if_pos cs]
          refine ev_b lt (ev_b (newAt (by omega) (by omega) (by omega)) (ev_b full ?_))
          exact ev_pos rfl (ev_pos w5.symm (ev_pos rfl (ev_pos rfl (ev_some (by simp)))))
        · have okT : BOk s e (L - c) (a + (t - a) / e * e) := by unfold BOk; omega
          have lt : impl_LeftAt.f s e (L - c) (a + (t - a) / e * e) t = some (L - c, true) := by
            have z : (t - (a + (t - a) / e * e)) / e = 0 := by
              have q5 : ((t - a) / e + 1) * e = (t - a) / e * e + e := by rw [Int.add_mul, Int.one_mul]
              exact Int.ediv_eq_zero_of_lt (by omega) (by omega)
            rw [leftAt okT (by omega) t2, z]
            congr 2
            omega
          simp only [if_neg cs]
          refine ev_b lt (ev_b (newAt (by omega) (by omega) (by omega)) (ev_b full ?_))
          exact ev_pos rfl (ev_pos w5.symm (ev_pos rfl (ev_pos rfl (ev_some (by simp)))))
      · obtain ⟨W, hW⟩ : ∃ W, a + (c - l) * e - t = W := ⟨_, rfl⟩
        obtain ⟨p1, p2, p3, p4⟩ := ev_j0_wait ok s5 e12 a19 t0 t1 c0 c1 L W eL g hW.symm
        have ng : ¬ a + (c - l) * e > 1000000 := by omega
        simp only [if_neg g, if_neg ng, if_pos (show L < c by omega), hW]
        have e0 : wrap64 (t + W) = t + W := w64 (by omega) (by omega)
        refine ev_b (by rw [e0]; exact leftAt ok (by omega) p2) ?_
        rw [p3]
        have dd : decide (L ≥ c) = false := by simpa using g
        refine ev_pos (by first | trivial | rfl) (ev_pos (by first | trivial | rfl) (ev_pos (by first | trivial | rfl) (ev_pos (by first | trivial | rfl) (ev_neg (by omega) (ev_neg (by omega) (ev_neg (by omega) (ev_neg (by rw [dd]; simp) (ev_neg (by omega) ?_))))))))
        refine Ev.step (fun k => by rw [laws_FnWaits.j0]) ?_
        have nz : ((W == 0) : Bool) = false := by rw [beq_eq_false_iff_ne]; omega
        refine ev_neg (by rw [nz]; simp) (ev_pos (by omega) ?_)
        have e1' : wrap64 (wrap64 (t + W) - 1) = t + W - 1 := by rw [e0, w64 (by omega) (by omega)]
        refine ev_b (by rw [e1']; exact leftAt ok (by omega) (by omega)) ?_
        exact ev_pos rfl (ev_pos p4 (ev_some (by simp)))

end Go.Proofs.Ytidlbifgfciikaa.Pure
