/- RunBucket: the program and the reference answer alike and leave memory alone, for every bucket and list of ticks. -/
import Derived.Test.YtidlbifgfciikaaQFnExactRunBucketx7
namespace Go.Proofs.Ytidlbifgfciikaa.Pure
open Go.RowKit Go.Proofs.Ytidlbifgfciikaa.QFnExactRunBucket Go.Proofs.YtidlbifgfciikaaW.PrintWords Go.Proofs.YtidlbifgfciikaaW.PrintLast Go.Proofs.YtidlbifgfciikaaW.PrintMore
set_option linter.unusedVariables false

theorem w64 {n : Int} (h1 : -9223372036854775808 ≤ n) (h2 : n ≤ 9223372036854775807) : wrap64 n = n := by
  unfold wrap64
  omega
theorem wf64 {n : Int} (h : (Lit.int .i64 n).wf = true) : -9223372036854775808 ≤ n ∧ n ≤ 9223372036854775807 := by
  simp [Lit.wf, IntKind.min, IntKind.max, IntKind.signed, IntKind.bits] at h
  omega

theorem ev_pos {α : Type} {c : Prop} [Decidable c] {g f : Nat → Option α} {r : α} (h : c) (e : Ev g r) : Ev (fun k => if c then g k else f k) r := Ev.congr (fun _ => if_pos h) e
theorem ev_neg {α : Type} {c : Prop} [Decidable c] {g f : Nat → Option α} {r : α} (h : ¬ c) (e : Ev f r) : Ev (fun k => if c then g k else f k) r := Ev.congr (fun _ => if_neg h) e
theorem ev_b {α β : Type} {o : Option α} {a : α} {f : Nat → α → Option β} {r : β} (h : o = some a) (e : Ev (fun k => f k a) r) : Ev (fun k => o.bind (f k)) r := by subst h; exact e
theorem ev_eq {α : Type} {g : Nat → Option α} {r q : α} (e : Ev g r) (h : r = q) : Ev g q := h ▸ e
theorem ev_some {α : Type} {r q : α} (h : r = q) : Ev (fun _ => some r) q := h ▸ Ev.now r
/-- Down from a list's end. -/
theorem idx_ind {α : Type} (l : List α) (P : Nat → Prop) (hend : P l.length) (hstep : ∀ i, i < l.length → P (i + 1) → P i) : ∀ i, i ≤ l.length → P i := by
  have key : ∀ d i, i + d = l.length → P i := by
    intro d
    induction d with
    | zero => intro i h; have : i = l.length := by omega
              rw [this]; exact hend
    | succ d ih => intro i h; exact hstep i (by omega) (ih (i + 1) (by omega))
  intro i h
  exact key (l.length - i) i (by omega)
theorem rd_at (l : List Int) (i : Nat) (h : i < l.length) : rd l (i : Int) = l[i] := by
  simp [rd, List.getD, h]
theorem rdOf_at {α : Type} (d : α) (l : List α) (i : Nat) (h : i < l.length) : rdOf d l (i : Int) = l[i] := by
  simp [rdOf, List.getD, h]
theorem drop_at {α : Type} (l : List α) (i : Nat) (h : i < l.length) : l.drop i = l[i] :: l.drop (i + 1) := List.drop_eq_getElem_cons h
theorem wsucc {i n : Nat} (h : i < n) (hn : n ≤ 9223372036854775807) : wrap64 ((i : Int) + 1) = ((i + 1 : Nat) : Int) := by
  rw [w64 (by omega) (by omega)]; rfl

theorem implIn (a b c : Int) : impl_in.f a b c = some (decide (b ≤ a ∧ a ≤ c)) := by
  unfold impl_in.f
  by_cases h : a ≥ b
  · rw [if_pos h]; simp [h]
  · rw [if_neg h]; simp; intro h2; omega
theorem implTick (a : Int) : impl_isTick.f a = some (decide (0 ≤ a ∧ a ≤ 1000000)) := by
  unfold impl_isTick.f
  rw [implIn]; rfl

theorem specIn (a b c : Int) : spec_l00In.f a b c = some (decide (b ≤ a ∧ a ≤ c)) := by
  unfold spec_l00In.f
  by_cases h : a ≥ b
  · rw [if_pos h]; simp [h]
  · rw [if_neg h]; simp; intro h2; omega
theorem specTick (a : Int) : spec_l02Tick.f a = some (decide (0 ≤ a ∧ a ≤ 1000000)) := by
  unfold spec_l02Tick.f
  rw [specIn]; rfl

/-- A bucket in order. -/
def BOk (s e l a : Int) : Prop := 1 ≤ s ∧ s ≤ 1000 ∧ 1 ≤ e ∧ e ≤ 1000000 ∧ 0 ≤ l ∧ l ≤ s ∧ 0 ≤ a ∧ a ≤ 1000000
instance (s e l a : Int) : Decidable (BOk s e l a) := by unfold BOk; infer_instance
theorem implIs (a b c d : Int) : impl_ValidBucket.f a b c d = some (decide (BOk a b c d)) := by
  unfold impl_ValidBucket.f
  simp only [implIn, implTick, Option.bind_some]
  by_cases h1 : 1 ≤ a ∧ a ≤ 1000
  · by_cases h2 : 1 ≤ b ∧ b ≤ 1000000
    · by_cases h3 : 0 ≤ c ∧ c ≤ a
      · by_cases h4 : 0 ≤ d ∧ d ≤ 1000000
        · have : BOk a b c d := ⟨h1.1, h1.2, h2.1, h2.2, h3.1, h3.2, h4.1, h4.2⟩
          simp [h1, h2, h3, h4, this]
        · have : ¬ BOk a b c d := fun h => h4 ⟨h.2.2.2.2.2.2.1, h.2.2.2.2.2.2.2⟩
          simp [h1, h2, h3, h4, this]
      · have : ¬ BOk a b c d := fun h => h3 ⟨h.2.2.2.2.1, h.2.2.2.2.2.1⟩
        simp [h1, h2, h3, this]
    · have : ¬ BOk a b c d := fun h => h2 ⟨h.2.2.1, h.2.2.2.1⟩
      simp [h1, h2, this]
  · have : ¬ BOk a b c d := fun h => h1 ⟨h.1, h.2.1⟩
    simp [h1, this]

theorem specIs (a b c d : Int) : spec_l06Is.f a b c d = impl_ValidBucket.f a b c d := rfl

theorem specLeft (s e l a t : Int) : spec_l06Left.f s e l a t = impl_Bucket_left.f s e l a t := by
  unfold spec_l06Left.f impl_Bucket_left.f spec_l00Min.f mn
  by_cases h : e = 0
  · rw [if_pos h, if_pos h]
  · rw [if_neg h, if_neg h]
    generalize wrap64 (l + wrap64 ((wrap64 (t - a)).tdiv e)) = x
    by_cases h2 : s < x
    · rw [if_pos h2, if_neg (by omega)]; rfl
    · rw [if_neg h2]
      by_cases h3 : x < s
      · rw [if_pos h3]; rfl
      · rw [if_neg h3]; have : x = s := by omega
        rw [this]; rfl

theorem leftVal {s e l a t : Int} (h : BOk s e l a) (h1 : a ≤ t) (h2 : t ≤ 1000000) : impl_Bucket_left.f s e l a t = some (min s (l + (t - a) / e)) := by
  unfold BOk at h
  have q0 : 0 ≤ (t - a) / e := Int.ediv_nonneg (by omega) (by omega)
  have q1 : (t - a) / e ≤ t - a := Int.ediv_le_self _ (by omega)
  unfold impl_Bucket_left.f
  rw [if_neg (by omega), w64 (n := t - a) (by omega) (by omega), Int.tdiv_eq_ediv_of_nonneg (by omega), w64 (n := (t - a) / e) (by omega) (by omega), w64 (by omega) (by omega)]
  unfold mn
  congr 1
  split <;> omega

theorem implTake {s e l a c t : Int} (h : BOk s e l a) (h1 : a ≤ t) (h2 : t ≤ 1000000) (hc : 1 ≤ c) (hc2 : c ≤ s) :
    impl_Bucket_take.f s e l a c t = some (if min s (l + (t - a) / e) < c then (s, e, l, a, false) else if min s (l + (t - a) / e) = s then (s, e, min s (l + (t - a) / e) - c, t, true) else (s, e, min s (l + (t - a) / e) - c, a + (t - a) / e * e, true)) := by
  unfold impl_Bucket_take.f
  rw [leftVal h h1 h2]
  unfold BOk at h
  have q0 : 0 ≤ (t - a) / e := Int.ediv_nonneg (by omega) (by omega)
  have q1 : (t - a) / e ≤ t - a := Int.ediv_le_self _ (by omega)
  have q2 : (t - a) / e * e ≤ t - a := Int.ediv_mul_le _ (by omega)
  have q3 : 0 ≤ (t - a) / e * e := Int.mul_nonneg q0 (by omega)
  rw [w64 (n := t - a) (by omega) (by omega), Int.tdiv_eq_ediv_of_nonneg (by omega), w64 (n := (t - a) / e) (by omega) (by omega), w64 (n := (t - a) / e * e) (by omega) (by omega), w64 (n := a + (t - a) / e * e) (by omega) (by omega)]
  simp only [Option.bind_some]
  rw [w64 (n := min s (l + (t - a) / e) - c) (by omega) (by omega), if_neg (show ¬ e = 0 by omega)]
  split
  · rfl
  · split <;> rfl

theorem specTake (s e l a c t : Int) : spec_l06Take.f s e l a c t = (impl_Bucket_take.f s e l a c t).map fun r => (r.2.2.2.2, r.1, r.2.1, r.2.2.1, r.2.2.2.1) := by
  unfold spec_l06Take.f impl_Bucket_take.f
  rw [specLeft]
  cases impl_Bucket_left.f s e l a t with
  | none => rfl
  | some x =>
    simp only [Option.bind_some]
    split
    · rfl
    · split
      · rfl
      · split <;> rfl

/-- Ticks from one on, none less than the one before. -/
def tOk (p : Int) : List Int → Bool
  | [] => true
  | x :: r => decide (p ≤ x ∧ x ≤ 1000000) && tOk x r
theorem implCalls (l : List Int) (hl : l.length ≤ 9223372036854775807) : Ev (fun k => impl_callsOk.f k l) (tOk 0 l && decide (l.length ≤ 256)) := by
  have key := idx_ind l (fun i => ∀ p : Int, 0 ≤ p → (i = 0 → p = 0) → (∀ h : 0 < i, i ≤ l.length → (l[i - 1]?).getD 0 = p) → Ev (fun k => impl_callsOk.l0 k l l (l.length : Int) (i : Int)) (tOk p (l.drop i) && decide (l.length ≤ 256))) ?_ ?_
  · exact key 0 (Nat.zero_le _) 0 (by omega) (fun _ => rfl) (fun h => by omega)
  · intro p _ _ _
    refine Ev.step (fun k => by rw [impl_callsOk.l0]) ?_
    refine ev_neg (by omega) (ev_some ?_)
    simp [tOk]
    omega
  · intro i hi ih p hp h0 hprev
    refine Ev.step (fun k => by rw [impl_callsOk.l0]) ?_
    refine ev_pos (by omega) (ev_pos (by omega) (ev_pos (by omega) (ev_b (implTick _) ?_)))
    rw [rd_at l i hi, drop_at l i hi, wsucc hi hl]
    by_cases ht : 0 ≤ l[i] ∧ l[i] ≤ 1000000
    · refine ev_pos (by simpa using ht) ?_
      have next := ih l[i] ht.1 (fun h => by omega) (fun _ _ => by simp [hi])
      by_cases h1 : 0 < i
      · have e1 : wrap64 ((i : Int) - 1) = ((i - 1 : Nat) : Int) := by rw [w64 (by omega) (by omega)]; omega
        have e2 : rd l ((i - 1 : Nat) : Int) = p := by
          have := hprev h1 (by omega)
          rw [rd_at l (i - 1) (by omega)]
          simpa [show i - 1 < l.length by omega] using this
        rw [e1, e2]
        refine ev_pos (by omega) (ev_pos (by omega) (ev_pos (by omega) ?_))
        by_cases hp2 : p > l[i]
        · refine ev_pos hp2 (ev_some ?_)
          simp [tOk]; omega
        · refine ev_neg hp2 (ev_eq next ?_)
          have : p ≤ l[i] ∧ l[i] ≤ 1000000 := ⟨by omega, ht.2⟩
          simp [tOk, this]
      · have : i = 0 := by omega
        refine ev_neg (by omega) (ev_eq next ?_)
        have hp0 := h0 this
        have : p ≤ l[i] ∧ l[i] ≤ 1000000 := ⟨by omega, ht.2⟩
        simp [tOk, this]
    · refine ev_neg (by simpa using ht) (ev_some ?_)
      have : ¬ (p ≤ l[i] ∧ l[i] ≤ 1000000) := by omega
      simp [tOk, this]
theorem tOk_mono {a x : Int} {l : List Int} (h : a ≤ x) (h0 : 0 ≤ a) (ht : tOk x l = true) : tOk a l = true := by
  cases l with
  | nil => rfl
  | cons y r =>
    simp only [tOk, Bool.and_eq_true, decide_eq_true_eq] at ht ⊢
    exact ⟨⟨by omega, ht.1.2⟩, ht.2⟩
theorem tOk_at (a : Int) (h : 0 ≤ a) (l : List Int) : tOk a l = (tOk 0 l && decide (∀ x, l.head? = some x → a ≤ x)) := by
  cases l with
  | nil => simp [tOk]
  | cons x r =>
    simp only [tOk, List.head?_cons, Option.some.injEq, forall_eq']
    by_cases h1 : a ≤ x
    · have : 0 ≤ x := by omega
      simp [h1, this]
    · simp [h1]

theorem specTimes (l : List Int) (p : Int) (hl : l.length ≤ 9223372036854775807) : Ev (fun k => spec_l06Times.f k l p) (tOk p l && decide (l.length ≤ 256)) := by
  unfold spec_l06Times.f
  by_cases h : (l.length : Int) > 256
  · refine ev_pos h (ev_some ?_)
    have : ¬ l.length ≤ 256 := by omega
    simp [this]
  · refine ev_neg h ?_
    have key := idx_ind l (fun i => ∀ p : Int, Ev (fun k => spec_l06Times.l0 k l p (i : Int)) (tOk p (l.drop i))) ?_ ?_
    · refine ev_eq (key 0 (Nat.zero_le _) p) ?_
      have : l.length ≤ 256 := by omega
      simp [this]
    · intro p
      refine Ev.step (fun k => by rw [spec_l06Times.l0]) ?_
      refine ev_neg (by omega) (ev_some ?_)
      simp [tOk]
    · intro i hi ih p
      refine Ev.step (fun k => by rw [spec_l06Times.l0]) ?_
      refine ev_pos (by omega) (ev_pos (by omega) (ev_b (specIn _ _ _) ?_))
      rw [rd_at l i hi, drop_at l i hi, wsucc hi hl]
      by_cases ht : p ≤ l[i] ∧ l[i] ≤ 1000000
      · refine ev_pos (by simpa using ht) (ev_eq (ih l[i]) ?_)
        simp [tOk, ht]
      · refine ev_neg (by simpa using ht) (ev_some ?_)
        simp [tOk, ht]

/-- What taking a drop leaves, in plain words. -/
def takeV (b : Int × Int × Int × Int) (t : Int) : (Int × Int × Int × Int) × Bool :=
  if min b.1 (b.2.2.1 + (t - b.2.2.2) / b.2.1) < 1 then (b, false)
  else if min b.1 (b.2.2.1 + (t - b.2.2.2) / b.2.1) = b.1 then ((b.1, b.2.1, min b.1 (b.2.2.1 + (t - b.2.2.2) / b.2.1) - 1, t), true)
  else ((b.1, b.2.1, min b.1 (b.2.2.1 + (t - b.2.2.2) / b.2.1) - 1, b.2.2.2 + (t - b.2.2.2) / b.2.1 * b.2.1), true)
def BOk4 (b : Int × Int × Int × Int) : Prop := BOk b.1 b.2.1 b.2.2.1 b.2.2.2
theorem takeV_ok {b : Int × Int × Int × Int} {t : Int} (h : BOk4 b) (h1 : b.2.2.2 ≤ t) (h2 : t ≤ 1000000) : BOk4 (takeV b t).1 ∧ (takeV b t).1.2.2.2 ≤ t ∧ (takeV b t).1.1 = b.1 ∧ (takeV b t).1.2.1 = b.2.1 := by
  obtain ⟨s, e, l, a⟩ := b
  simp only [BOk4, BOk] at h ⊢
  simp only at h1
  have q0 : 0 ≤ (t - a) / e := Int.ediv_nonneg (by omega) (by omega)
  have q2 : (t - a) / e * e ≤ t - a := Int.ediv_mul_le _ (by omega)
  have q3 : 0 ≤ (t - a) / e * e := Int.mul_nonneg q0 (by omega)
  unfold takeV
  simp only
  have hm : min s (l + (t - a) / e) ≤ s ∧ (min s (l + (t - a) / e) = s ∨ min s (l + (t - a) / e) = l + (t - a) / e) := by omega
  generalize min s (l + (t - a) / e) = m at hm ⊢
  by_cases c1 : m < 1
  · simp only [if_pos c1, and_true]; omega
  · by_cases c2 : m = s
    · simp only [if_neg c1, if_pos c2, and_true]; omega
    · simp only [if_neg c1, if_neg c2, and_true]; omega
theorem implTake1 {b : Int × Int × Int × Int} {t : Int} (h : BOk4 b) (h1 : b.2.2.2 ≤ t) (h2 : t ≤ 1000000) :
    impl_Bucket_take.f b.1 b.2.1 b.2.2.1 b.2.2.2 1 t = some ((takeV b t).1.1, (takeV b t).1.2.1, (takeV b t).1.2.2.1, (takeV b t).1.2.2.2, (takeV b t).2) := by
  obtain ⟨s, e, l, a⟩ := b
  simp only [BOk4] at h
  have hs : 1 ≤ s := h.1
  rw [implTake h h1 h2 (by omega) hs]
  unfold takeV
  simp only
  split
  · rfl
  · split <;> rfl
def runB : (Int × Int × Int × Int) → List Int → (Int × Int × Int × Int) × List Bool
  | b, [] => (b, [])
  | b, t :: r => ((runB (takeV b t).1 r).1, (takeV b t).2 :: (runB (takeV b t).1 r).2)
theorem runB_len (l : List Int) : ∀ b, (runB b l).2.length = l.length := by
  induction l with
  | nil => intro b; rfl
  | cons t r ih => intro b; simp [runB, ih]
theorem implRun0 (l : List Int) (hl : l.length ≤ 256) : ∀ i, i ≤ l.length → ∀ (b : Int × Int × Int × Int) (out : List Bool), BOk4 b → tOk b.2.2.2 (l.drop i) = true → out.length ≤ i →
    Ev (fun k => impl_RunBucket.l0 k out l (l.length : Int) (i : Int) b.1 b.2.1 b.2.2.1 b.2.2.2) ((runB b (l.drop i)).1.1, (runB b (l.drop i)).1.2.1, (runB b (l.drop i)).1.2.2.1, (runB b (l.drop i)).1.2.2.2, out ++ (runB b (l.drop i)).2, true) := by
  refine idx_ind l _ ?_ ?_
  · intro b out hb ht ho
    refine Ev.step (fun k => by rw [impl_RunBucket.l0]) ?_
    refine ev_neg (by omega) (ev_some ?_)
    simp [runB]
  · intro i hi ih b out hb ht ho
    rw [drop_at l i hi] at ht
    simp only [tOk, Bool.and_eq_true, decide_eq_true_eq] at ht
    have ok := takeV_ok hb ht.1.1 ht.1.2
    refine Ev.step (fun k => by rw [impl_RunBucket.l0]) ?_
    rw [rd_at l i hi]
    refine ev_pos (by omega) (ev_pos (by omega) (ev_pos (by omega) (ev_b (implTake1 hb ht.1.1 ht.1.2) (ev_pos (by omega) ?_))))
    rw [wsucc hi (by omega)]
    have next := ih (takeV b l[i]).1 (out ++ [(takeV b l[i]).2]) ok.1 (tOk_mono ok.2.1 (show 0 ≤ (takeV b l[i]).1.2.2.2 from ok.1.2.2.2.2.2.2.1) ht.2) (by simp; omega)
    refine ev_eq next ?_
    rw [drop_at l i hi]
    simp [runB]

theorem toInts (l : List Int) (hl : l.length ≤ 100000000) : Ev (fun k => laws_toInt64S.f k l) l := by
  have key := idx_ind l (fun i => ∀ x : List Int, x.length = l.length → (∀ j, j < i → x[j]? = l[j]?) → Ev (fun k => laws_toInt64S.l0 k l x (i : Int)) l) ?_ ?_
  · unfold laws_toInt64S.f
    refine ev_pos (by omega) (ev_pos (by omega) ?_)
    exact key 0 (Nat.zero_le _) _ (by simp) (fun j h => by omega)
  · intro x hx hj
    refine Ev.step (fun k => by rw [laws_toInt64S.l0]) ?_
    refine ev_neg (by omega) (ev_some ?_)
    apply List.ext_getElem?
    intro j
    rcases Nat.lt_or_ge j l.length with h | h
    · exact hj j h
    · rw [List.getElem?_eq_none (by omega), List.getElem?_eq_none (by omega)]
  · intro i hi ih x hx hj
    refine Ev.step (fun k => by rw [laws_toInt64S.l0]) ?_
    refine ev_pos (by omega) (ev_pos (by omega) (ev_pos (by omega) ?_))
    rw [wsucc hi (by omega), rd_at l i hi]
    refine ih _ (by simp [hx]) ?_
    intro j hj2
    by_cases e : j = i
    · subst e
      simp [hx, hi]
    · simp only [Int.toNat_natCast]
      rw [List.getElem?_set_ne (by omega)]
      exact hj j (by omega)
theorem eqInts (l : List Int) (hl : l.length ≤ 100000000) : Ev (fun k => laws_eqInt64S.f k l l) true := by
  unfold laws_eqInt64S.f
  refine ev_pos rfl ?_
  refine idx_ind l (fun i => Ev (fun k => laws_eqInt64S.l0 k l l (i : Int)) true) ?_ ?_ 0 (Nat.zero_le _)
  · refine Ev.step (fun k => by rw [laws_eqInt64S.l0]) ?_
    exact ev_neg (by omega) (Ev.now _)
  · intro i hi ih
    refine Ev.step (fun k => by rw [laws_eqInt64S.l0]) ?_
    refine ev_pos (by omega) (ev_pos (by omega) (ev_pos (by omega) (ev_pos rfl ?_)))
    rw [wsucc hi (by omega)]
    exact ih

theorem markInts (l : List Int) (m : Nat) (hl : l.length ≤ 100000000) (hm : m ≤ 100000000) : ∃ l2 : List Int, Ev (fun k => laws_markInt64S.f k l (m : Int)) (((m + l.length : Nat) : Int), l2) ∧ l2.length = l.length ∧ ∀ j, j < l.length → l2[j]? = some ((m + j : Nat) : Int) := by
  have key := idx_ind l (fun i => ∀ x : List Int, x.length = l.length → (∀ j, j < i → x[j]? = some ((m + j : Nat) : Int)) → ∃ l2 : List Int, Ev (fun k => laws_markInt64S.l0 k x ((m + i : Nat) : Int) (i : Int)) (((m + l.length : Nat) : Int), l2) ∧ l2.length = l.length ∧ ∀ j, j < l.length → l2[j]? = some ((m + j : Nat) : Int)) ?_ ?_
  · obtain ⟨l2, h1, h2⟩ := key 0 (Nat.zero_le _) l rfl (fun j h => by omega)
    exact ⟨l2, h1, h2⟩
  · intro x hx hj
    refine ⟨x, ?_, hx, hj⟩
    refine Ev.step (fun k => by rw [laws_markInt64S.l0]) ?_
    exact ev_neg (by omega) (Ev.now _)
  · intro i hi ih x hx hj
    obtain ⟨l2, h1, h2⟩ := ih (x.set i ((m + i : Nat) : Int)) (by simp [hx]) (by
      intro j hj2
      by_cases e : j = i
      · subst e
        simp [hx, hi]
      · rw [List.getElem?_set_ne (by omega)]
        exact hj j (by omega))
    refine ⟨l2, ?_, h2⟩
    refine Ev.step (fun k => by rw [laws_markInt64S.l0]) ?_
    refine ev_pos (by omega) (ev_pos (by omega) ?_)
    have e1 : wrap64 (((m + i : Nat) : Int) + 1) = ((m + (i + 1) : Nat) : Int) := by rw [w64 (by omega) (by omega)]; omega
    rw [wsucc hi (by omega), e1, Int.toNat_natCast]
    exact h1

theorem eqBools (l : List Bool) (hl : l.length ≤ 100000000) : Ev (fun k => laws_eqBoolS.f k l l) true := by
  unfold laws_eqBoolS.f
  refine ev_pos rfl ?_
  refine idx_ind l (fun i => Ev (fun k => laws_eqBoolS.l0 k l l (i : Int)) true) ?_ ?_ 0 (Nat.zero_le _)
  · refine Ev.step (fun k => by rw [laws_eqBoolS.l0]) ?_
    exact ev_neg (by omega) (Ev.now _)
  · intro i hi ih
    refine Ev.step (fun k => by rw [laws_eqBoolS.l0]) ?_
    refine ev_pos (by omega) (ev_pos (by omega) (ev_pos (by omega) (ev_neg (by simp) ?_)))
    rw [wsucc hi (by omega)]
    exact ih
/-- The mark at a place of a list of answers. -/
def mkB (n : Nat) : Bool := (Int.tmod (n : Int) 3) == 0
theorem markBools (l : List Bool) (m : Nat) (hl : l.length ≤ 100000000) (hm : m ≤ 100000000) : ∃ l2 : List Bool, Ev (fun k => laws_markBoolS.f k l (m : Int)) (((m + l.length : Nat) : Int), l2) ∧ l2.length = l.length ∧ ∀ j, j < l.length → l2[j]? = some (mkB (m + j)) := by
  have key := idx_ind l (fun i => ∀ x : List Bool, x.length = l.length → (∀ j, j < i → x[j]? = some (mkB (m + j))) → ∃ l2 : List Bool, Ev (fun k => laws_markBoolS.l0 k x ((m + i : Nat) : Int) (i : Int)) (((m + l.length : Nat) : Int), l2) ∧ l2.length = l.length ∧ ∀ j, j < l.length → l2[j]? = some (mkB (m + j))) ?_ ?_
  · obtain ⟨l2, h1, h2⟩ := key 0 (Nat.zero_le _) l rfl (fun j h => by omega)
    exact ⟨l2, h1, h2⟩
  · intro x hx hj
    refine ⟨x, ?_, hx, hj⟩
    refine Ev.step (fun k => by rw [laws_markBoolS.l0]) ?_
    exact ev_neg (by omega) (Ev.now _)
  · intro i hi ih x hx hj
    obtain ⟨l2, h1, h2⟩ := ih (x.set i (mkB (m + i))) (by simp [hx]) (by
      intro j hj2
      by_cases e : j = i
      · subst e
        simp [hx, hi]
      · rw [List.getElem?_set_ne (by omega)]
        exact hj j (by omega))
    refine ⟨l2, ?_, h2⟩
    refine Ev.step (fun k => by rw [laws_markBoolS.l0]) ?_
    refine ev_pos (by omega) (ev_pos (by omega) ?_)
    have e1 : wrap64 (((m + i : Nat) : Int) + 1) = ((m + (i + 1) : Nat) : Int) := by rw [w64 (by omega) (by omega)]; omega
    rw [wsucc hi (by omega), e1, Int.toNat_natCast]
    exact h1
theorem heldBools (l : List Bool) (m : Nat) (hl : l.length ≤ 100000000) (hm : m ≤ 100000000) (h : ∀ j, j < l.length → l[j]? = some (mkB (m + j))) : Ev (fun k => laws_heldBoolS.f k l (m : Int)) ((m + l.length : Nat) : Int) := by
  have key := idx_ind l (fun i => Ev (fun k => laws_heldBoolS.l0 k l ((m + i : Nat) : Int) (i : Int)) ((m + l.length : Nat) : Int)) ?_ ?_ 0 (Nat.zero_le _)
  · exact key
  · refine Ev.step (fun k => by rw [laws_heldBoolS.l0]) ?_
    exact ev_neg (by omega) (Ev.now _)
  · intro i hi ih
    refine Ev.step (fun k => by rw [laws_heldBoolS.l0]) ?_
    have e1 : wrap64 (((m + i : Nat) : Int) + 1) = ((m + (i + 1) : Nat) : Int) := by rw [w64 (by omega) (by omega)]; omega
    have e2 : l[i] = mkB (m + i) := by have := h i hi; rw [List.getElem?_eq_getElem hi] at this; exact Option.some.inj this
    refine ev_pos (by omega) (ev_pos (by omega) (ev_neg ?_ ?_))
    · rw [rdOf_at _ _ _ hi, e2]; simp [mkB]
    · rw [wsucc hi (by omega), e1]
      exact ih

/-- What both answer. -/
def runAns (s e l a : Int) (ts : List Int) : Int × Int × Int × Int × List Bool × Bool :=
  if BOk s e l a ∧ (tOk a ts && decide (ts.length ≤ 256)) = true then ((runB (s, e, l, a) ts).1.1, (runB (s, e, l, a) ts).1.2.1, (runB (s, e, l, a) ts).1.2.2.1, (runB (s, e, l, a) ts).1.2.2.2, (runB (s, e, l, a) ts).2, true) else (0, 0, 0, 0, [], false)
theorem runAns_len (s e l a : Int) (ts : List Int) (h : ts.length ≤ 100000000) : (runAns s e l a ts).2.2.2.2.1.length ≤ 100000000 := by
  unfold runAns
  split
  · simpa [runB_len] using h
  · simp
theorem implRun (s e l a : Int) (ts : List Int) (hl : ts.length ≤ 9223372036854775807) : Ev (fun k => impl_RunBucket.f k s e l a ts) (runAns s e l a ts) := by
  unfold impl_RunBucket.f
  rw [implIs]
  have no : ¬ (BOk s e l a ∧ (tOk a ts && decide (ts.length ≤ 256)) = true) → Ev (fun k => impl_RunBucket.j0 k ts true s e l a) (runAns s e l a ts) := by
    intro h
    refine Ev.step (fun k => by rw [impl_RunBucket.j0]) ?_
    refine ev_pos rfl (ev_some ?_)
    unfold runAns
    rw [if_neg h]
  have yes : (BOk s e l a ∧ (tOk a ts && decide (ts.length ≤ 256)) = true) → Ev (fun k => impl_RunBucket.j0 k ts false s e l a) (runAns s e l a ts) := by
    intro h
    have h2 := h.2
    simp only [Bool.and_eq_true, decide_eq_true_eq] at h2
    refine Ev.step (fun k => by rw [impl_RunBucket.j0]) ?_
    refine ev_neg (by simp) ?_
    refine ev_eq (implRun0 ts h2.2 0 (Nat.zero_le _) (s, e, l, a) [] h.1 (by simpa using h2.1) (Nat.le_refl _)) ?_
    unfold runAns
    rw [if_pos h]
    simp
  refine ev_b rfl ?_
  by_cases hb : BOk s e l a
  · refine ev_pos (by simpa using hb) (Ev.bind (implCalls ts hl) ?_)
    have ha : 0 ≤ a := hb.2.2.2.2.2.2.1
    have split := tOk_at a ha ts
    by_cases h1 : (tOk 0 ts && decide (ts.length ≤ 256)) = true
    · refine ev_pos h1 ?_
      simp only [Bool.and_eq_true, decide_eq_true_eq] at h1
      cases ts with
      | nil =>
        refine ev_neg (by simp) ?_
        exact yes ⟨hb, by simp [tOk]⟩
      | cons x r =>
        refine ev_pos (by simp only [List.length_cons]; omega) (ev_pos (by simp only [List.length_cons]; omega) ?_)
        have e1 : rd (x :: r) 0 = x := rfl
        rw [e1]
        by_cases hx : x < a
        · rw [show decide (x < a) = true by simpa using hx]
          refine no fun z => ?_
          have z2 := z.2
          simp only [Bool.and_eq_true, tOk, decide_eq_true_eq] at z2
          omega
        · rw [show decide (x < a) = false by simpa using hx]
          refine yes ⟨hb, ?_⟩
          rw [split, h1.1]
          simp
          exact ⟨by omega, by simpa using h1.2⟩
    · refine ev_neg h1 (no fun z => h1 ?_)
      have z2 := z.2
      rw [split] at z2
      simp only [Bool.and_eq_true] at z2 ⊢
      exact ⟨z2.1.1, z2.2⟩
  · exact ev_neg (by simpa using hb) (no fun z => hb z.1)
theorem specRun0 (l : List Int) (hl : l.length ≤ 256) : ∀ i, i ≤ l.length → ∀ (b : Int × Int × Int × Int) (out : List Bool), BOk4 b → tOk b.2.2.2 (l.drop i) = true → out.length ≤ i →
    Ev (fun k => spec_RunBucket.l0 k l out (i : Int) b.1 b.2.1 b.2.2.1 b.2.2.2) ((runB b (l.drop i)).1.1, (runB b (l.drop i)).1.2.1, (runB b (l.drop i)).1.2.2.1, (runB b (l.drop i)).1.2.2.2, out ++ (runB b (l.drop i)).2, true) := by
  refine idx_ind l _ ?_ ?_
  · intro b out hb ht ho
    refine Ev.step (fun k => by rw [spec_RunBucket.l0]) ?_
    refine ev_neg (by omega) (ev_some ?_)
    simp [runB]
  · intro i hi ih b out hb ht ho
    rw [drop_at l i hi] at ht
    simp only [tOk, Bool.and_eq_true, decide_eq_true_eq] at ht
    have ok := takeV_ok hb ht.1.1 ht.1.2
    refine Ev.step (fun k => by rw [spec_RunBucket.l0]) ?_
    rw [rd_at l i hi]
    refine ev_pos (by omega) (ev_pos (by omega) (ev_b (by rw [specTake, implTake1 hb ht.1.1 ht.1.2]; rfl) (ev_pos (by omega) ?_)))
    rw [wsucc hi (by omega)]
    have next := ih (takeV b l[i]).1 (out ++ [(takeV b l[i]).2]) ok.1 (tOk_mono ok.2.1 (show 0 ≤ (takeV b l[i]).1.2.2.2 from ok.1.2.2.2.2.2.2.1) ht.2) (by simp; omega)
    refine ev_eq next ?_
    rw [drop_at l i hi]
    simp [runB]
theorem specRun (s e l a : Int) (ts : List Int) (hl : ts.length ≤ 9223372036854775807) : Ev (fun k => spec_RunBucket.f k s e l a ts) (runAns s e l a ts) := by
  unfold spec_RunBucket.f
  rw [specIs, implIs]
  have no : ¬ (BOk s e l a ∧ (tOk a ts && decide (ts.length ≤ 256)) = true) → Ev (fun k => spec_RunBucket.j0 k ts true s e l a) (runAns s e l a ts) := by
    intro h
    refine Ev.step (fun k => by rw [spec_RunBucket.j0]) ?_
    refine ev_pos rfl (ev_some ?_)
    unfold runAns
    rw [if_neg h]
  refine ev_b rfl ?_
  by_cases hb : BOk s e l a
  · refine ev_pos (by simpa using hb) (Ev.bind (specTimes ts a hl) ?_)
    by_cases h1 : (tOk a ts && decide (ts.length ≤ 256)) = true
    · rw [h1]
      have h2 := h1
      simp only [Bool.and_eq_true, decide_eq_true_eq] at h2
      refine Ev.step (fun k => by rw [spec_RunBucket.j0]) ?_
      refine ev_neg (by simp) ?_
      refine ev_eq (specRun0 ts h2.2 0 (Nat.zero_le _) (s, e, l, a) [] hb (by simpa using h2.1) (Nat.le_refl _)) ?_
      unfold runAns
      rw [if_pos ⟨hb, h1⟩]
      simp
    · have h2 := h1
      rw [Bool.not_eq_true] at h2
      rw [h2]
      exact no fun z => h1 z.2
  · exact ev_neg (by simpa using hb) (no fun z => hb z.1)
theorem eqB4 (a b c d : Int) : laws_eqBucket.f a b c d a b c d = some true := by simp [laws_eqBucket.f]
theorem FnExactRunBucket : laws_FnExactRunBucket.Pure := by
  intro s e l a ts _ _ _ _ hts
  refine Ev.rounds ?_
  have hm : ts.length ≤ 9223372036854775807 := by have := hts.1; unfold maxLen at this; omega
  unfold laws_FnExactRunBucket.f
  by_cases h : (ts.length : Int) > 1048576
  · exact ev_pos h (Ev.now _)
  · have hl : ts.length ≤ 100000000 := by omega
    have hr := runAns_len s e l a ts hl
    refine ev_neg h (ev_b rfl ?_)
    refine Ev.bind (toInts ts hl) (Ev.bind (specRun s e l a ts hm) (Ev.bind (toInts ts hl) (ev_b rfl (Ev.bind (implRun s e l a ts hm) (ev_b (eqB4 _ _ _ _) (ev_pos rfl (Ev.bind (eqBools _ hr) (ev_pos rfl ?_))))))))
    refine Ev.step (fun k => by rw [laws_FnExactRunBucket.j0]) ?_
    refine ev_neg (by simp) (Ev.bind (toInts ts hl) (Ev.bind (eqInts ts hl) (ev_pos rfl ?_)))
    obtain ⟨x2, m1, m2, m3⟩ := markInts ts 1 hl (by omega)
    refine Ev.bind m1 (ev_neg (by simp only; omega) (ev_b (eqB4 _ _ _ _) (ev_pos rfl (Ev.bind (eqBools _ hr) (ev_pos rfl ?_)))))
    refine Ev.step (fun k => by rw [laws_FnExactRunBucket.j1]) ?_
    refine ev_neg (by simp) ?_
    obtain ⟨g2, n1, n2, n3⟩ := markBools (runAns s e l a ts).2.2.2.2.1 1 hr (by omega)
    have held := heldBools g2 1 (by omega) (by omega) (fun j hj => n3 j (by omega))
    rw [n2] at held
    refine Ev.bind n1 (Ev.bind held (ev_neg (by omega) (ev_pos rfl (ev_b rfl (Ev.bind (toInts ts hl) (Ev.bind (implRun s e l a ts hm) (ev_b (eqB4 _ _ _ _) (ev_pos rfl (Ev.bind (eqBools _ hr) (ev_pos rfl ?_))))))))))
    refine Ev.step (fun k => by rw [laws_FnExactRunBucket.j2]) ?_
    exact ev_neg (by simp) (Ev.bind held (ev_neg (by omega) (ev_pos rfl (Ev.now _))))

end Go.Proofs.Ytidlbifgfciikaa.Pure
