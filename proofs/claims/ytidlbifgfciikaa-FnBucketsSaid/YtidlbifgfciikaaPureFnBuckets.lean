/- Buckets: a bucket lets through at most its size and one for each time that a drop takes, in every span, and runs can be cut anywhere; for every pair of byte strings. -/
import Derived.Test.YtidlbifgfciikaaQFnBucketsx6
import Derived.Laws.BitsLemmas
namespace Go.Proofs.Ytidlbifgfciikaa.Pure
open Go.RowKit Go.Proofs.Ytidlbifgfciikaa.QFnBuckets Go.Proofs.YtidlbifgfciikaaW.PrintWords Go.Proofs.YtidlbifgfciikaaW.PrintLast Go.Proofs.YtidlbifgfciikaaW.PrintMore
set_option linter.unusedVariables false

theorem w64 {n : Int} (h1 : -9223372036854775808 ≤ n) (h2 : n ≤ 9223372036854775807) : wrap64 n = n := by
  unfold wrap64
  omega
theorem wf64 {n : Int} (h : (Lit.int .i64 n).wf = true) : -9223372036854775808 ≤ n ∧ n ≤ 9223372036854775807 := by
  simp [Lit.wf, IntKind.min, IntKind.max, IntKind.signed, IntKind.bits] at h
  omega

theorem ev_pos {α : Type} {c : Prop} [Decidable c] {g f : Nat → Option α} {r : α} (h : c) (e : Ev g r) : Ev (fun k => if c then g k else f k) r := Ev.congr (fun _ => if_pos h) e
theorem ev_neg {α : Type} {c : Prop} [Decidable c] {g f : Nat → Option α} {r : α} (h : ¬ c) (e : Ev f r) : Ev (fun k => if c then g k else f k) r := Ev.congr (fun _ => if_neg h) e
theorem ev_b {α β : Type} {o : Option α} {a : α} {f : Nat → α → Option β} {r : β} (h : o = some a) (e : Ev (fun k => f k a) r) : Ev (fun k => o.bind (f k)) r := by subst h; exact e
theorem ev_eq {α : Type} {g : Nat → Option α} {r q : α} (e : Ev g r) (h : r = q) : Ev g q := h ▸ e
theorem ev_some {α : Type} {r q : α} (h : r = q) : Ev (fun _ => some r) q := h ▸ Ev.now r
/-- Down from a list's end. -/
theorem idx_ind {α : Type} (l : List α) (P : Nat → Prop) (hend : P l.length) (hstep : ∀ i, i < l.length → P (i + 1) → P i) : ∀ i, i ≤ l.length → P i := by
  have key : ∀ d i, i + d = l.length → P i := by
    intro d
    induction d with
    | zero => intro i h; have : i = l.length := by omega
              rw [this]; exact hend
    | succ d ih => intro i h; exact hstep i (by omega) (ih (i + 1) (by omega))
  intro i h
  exact key (l.length - i) i (by omega)
theorem rd_at (l : List Int) (i : Nat) (h : i < l.length) : rd l (i : Int) = l[i] := by
  simp [rd, List.getD, h]
theorem rdOf_at {α : Type} (d : α) (l : List α) (i : Nat) (h : i < l.length) : rdOf d l (i : Int) = l[i] := by
  simp [rdOf, List.getD, h]
theorem drop_at {α : Type} (l : List α) (i : Nat) (h : i < l.length) : l.drop i = l[i] :: l.drop (i + 1) := List.drop_eq_getElem_cons h
theorem wsucc {i n : Nat} (h : i < n) (hn : n ≤ 9223372036854775807) : wrap64 ((i : Int) + 1) = ((i + 1 : Nat) : Int) := by
  rw [w64 (by omega) (by omega)]; rfl

theorem implIn (a b c : Int) : impl_in.f a b c = some (decide (b ≤ a ∧ a ≤ c)) := by
  unfold impl_in.f
  by_cases h : a ≥ b
  · rw [if_pos h]; simp [h]
  · rw [if_neg h]; simp; intro h2; omega
theorem implTick (a : Int) : impl_isTick.f a = some (decide (0 ≤ a ∧ a ≤ 1000000)) := by
  unfold impl_isTick.f
  rw [implIn]; rfl

/-- A bucket in order. -/
def BOk (s e l a : Int) : Prop := 1 ≤ s ∧ s ≤ 1000 ∧ 1 ≤ e ∧ e ≤ 1000000 ∧ 0 ≤ l ∧ l ≤ s ∧ 0 ≤ a ∧ a ≤ 1000000
instance (s e l a : Int) : Decidable (BOk s e l a) := by unfold BOk; infer_instance
theorem implIs (a b c d : Int) : impl_ValidBucket.f a b c d = some (decide (BOk a b c d)) := by
  unfold impl_ValidBucket.f
  simp only [implIn, implTick, Option.bind_some]
  by_cases h1 : 1 ≤ a ∧ a ≤ 1000
  · by_cases h2 : 1 ≤ b ∧ b ≤ 1000000
    · by_cases h3 : 0 ≤ c ∧ c ≤ a
      · by_cases h4 : 0 ≤ d ∧ d ≤ 1000000
        · have : BOk a b c d := ⟨h1.1, h1.2, h2.1, h2.2, h3.1, h3.2, h4.1, h4.2⟩
          simp [h1, h2, h3, h4, this]
        · have : ¬ BOk a b c d := fun h => h4 ⟨h.2.2.2.2.2.2.1, h.2.2.2.2.2.2.2⟩
          simp [h1, h2, h3, h4, this]
      · have : ¬ BOk a b c d := fun h => h3 ⟨h.2.2.2.2.1, h.2.2.2.2.2.1⟩
        simp [h1, h2, h3, this]
    · have : ¬ BOk a b c d := fun h => h2 ⟨h.2.2.1, h.2.2.2.1⟩
      simp [h1, h2, this]
  · have : ¬ BOk a b c d := fun h => h1 ⟨h.1, h.2.1⟩
    simp [h1, this]

theorem leftVal {s e l a t : Int} (h : BOk s e l a) (h1 : a ≤ t) (h2 : t ≤ 1000000) : impl_Bucket_left.f s e l a t = some (min s (l + (t - a) / e)) := by
  unfold BOk at h
  have q0 : 0 ≤ (t - a) / e := Int.ediv_nonneg (by omega) (by omega)
  have q1 : (t - a) / e ≤ t - a := Int.ediv_le_self _ (by omega)
  unfold impl_Bucket_left.f
  rw [if_neg (by omega), w64 (n := t - a) (by omega) (by omega), Int.tdiv_eq_ediv_of_nonneg (by omega), w64 (n := (t - a) / e) (by omega) (by omega), w64 (by omega) (by omega)]
  unfold mn
  congr 1
  split <;> omega

theorem implTake {s e l a c t : Int} (h : BOk s e l a) (h1 : a ≤ t) (h2 : t ≤ 1000000) (hc : 1 ≤ c) (hc2 : c ≤ s) :
    impl_Bucket_take.f s e l a c t = some (if min s (l + (t - a) / e) < c then (s, e, l, a, false) else if min s (l + (t - a) / e) = s then (s, e, min s (l + (t - a) / e) - c, t, true) else (s, e, min s (l + (t - a) / e) - c, a + (t - a) / e * e, true)) := by
  unfold impl_Bucket_take.f
  rw [leftVal h h1 h2]
  unfold BOk at h
  have q0 : 0 ≤ (t - a) / e := Int.ediv_nonneg (by omega) (by omega)
  have q1 : (t - a) / e ≤ t - a := Int.ediv_le_self _ (by omega)
  have q2 : (t - a) / e * e ≤ t - a := Int.ediv_mul_le _ (by omega)
  have q3 : 0 ≤ (t - a) / e * e := Int.mul_nonneg q0 (by omega)
  rw [w64 (n := t - a) (by omega) (by omega), Int.tdiv_eq_ediv_of_nonneg (by omega), w64 (n := (t - a) / e) (by omega) (by omega), w64 (n := (t - a) / e * e) (by omega) (by omega), w64 (n := a + (t - a) / e * e) (by omega) (by omega)]
  simp only [Option.bind_some]
  rw [w64 (n := min s (l + (t - a) / e) - c) (by omega) (by omega), if_neg (show ¬ e = 0 by omega)]
  split
  · rfl
  · split <;> rfl

/-- Ticks from one on, none less than the one before. -/
def tOk (p : Int) : List Int → Bool
  | [] => true
  | x :: r => decide (p ≤ x ∧ x ≤ 1000000) && tOk x r
theorem implCalls (l : List Int) (hl : l.length ≤ 9223372036854775807) : Ev (fun k => impl_callsOk.f k l) (tOk 0 l && decide (l.length ≤ 256)) := by
  have key := idx_ind l (fun i => ∀ p : Int, 0 ≤ p → (i = 0 → p = 0) → (∀ h : 0 < i, i ≤ l.length → (l[i - 1]?).getD 0 = p) → Ev (fun k => impl_callsOk.l0 k l l (l.length : Int) (i : Int)) (tOk p (l.drop i) && decide (l.length ≤ 256))) ?_ ?_
  · exact key 0 (Nat.zero_le _) 0 (by omega) (fun _ => rfl) (fun h => by omega)
  · intro p _ _ _
    refine Ev.step (fun k => by rw [impl_callsOk.l0]) ?_
    refine ev_neg (by omega) (ev_some ?_)
    simp [tOk]
    omega
  · intro i hi ih p hp h0 hprev
    refine Ev.step (fun k => by rw [impl_callsOk.l0]) ?_
    refine ev_pos (by omega) (ev_pos (by omega) (ev_pos (by omega) (ev_b (implTick _) ?_)))
    rw [rd_at l i hi, drop_at l i hi, wsucc hi hl]
    by_cases ht : 0 ≤ l[i] ∧ l[i] ≤ 1000000
    · refine ev_pos (by simpa using ht) ?_
      have next := ih l[i] ht.1 (fun h => by omega) (fun _ _ => by simp [hi])
      by_cases h1 : 0 < i
      · have e1 : wrap64 ((i : Int) - 1) = ((i - 1 : Nat) : Int) := by rw [w64 (by omega) (by omega)]; omega
        have e2 : rd l ((i - 1 : Nat) : Int) = p := by
          have := hprev h1 (by omega)
          rw [rd_at l (i - 1) (by omega)]
          simpa [show i - 1 < l.length by omega] using this
        rw [e1, e2]
        refine ev_pos (by omega) (ev_pos (by omega) (ev_pos (by omega) ?_))
        by_cases hp2 : p > l[i]
        · refine ev_pos hp2 (ev_some ?_)
          simp [tOk]; omega
        · refine ev_neg hp2 (ev_eq next ?_)
          have : p ≤ l[i] ∧ l[i] ≤ 1000000 := ⟨by omega, ht.2⟩
          simp [tOk, this]
      · have : i = 0 := by omega
        refine ev_neg (by omega) (ev_eq next ?_)
        have hp0 := h0 this
        have : p ≤ l[i] ∧ l[i] ≤ 1000000 := ⟨by omega, ht.2⟩
        simp [tOk, this]
    · refine ev_neg (by simpa using ht) (ev_some ?_)
      have : ¬ (p ≤ l[i] ∧ l[i] ≤ 1000000) := by omega
      simp [tOk, this]
theorem tOk_mono {a x : Int} {l : List Int} (h : a ≤ x) (h0 : 0 ≤ a) (ht : tOk x l = true) : tOk a l = true := by
  cases l with
  | nil => rfl
  | cons y r =>
    simp only [tOk, Bool.and_eq_true, decide_eq_true_eq] at ht ⊢
    exact ⟨⟨by omega, ht.1.2⟩, ht.2⟩
theorem tOk_at (a : Int) (h : 0 ≤ a) (l : List Int) : tOk a l = (tOk 0 l && decide (∀ x, l.head? = some x → a ≤ x)) := by
  cases l with
  | nil => simp [tOk]
  | cons x r =>
    simp only [tOk, List.head?_cons, Option.some.injEq, forall_eq']
    by_cases h1 : a ≤ x
    · have : 0 ≤ x := by omega
      simp [h1, this]
    · simp [h1]

/-- What taking a drop leaves, in plain words. -/
def takeV (b : Int × Int × Int × Int) (t : Int) : (Int × Int × Int × Int) × Bool :=
  if min b.1 (b.2.2.1 + (t - b.2.2.2) / b.2.1) < 1 then (b, false)
  else if min b.1 (b.2.2.1 + (t - b.2.2.2) / b.2.1) = b.1 then ((b.1, b.2.1, min b.1 (b.2.2.1 + (t - b.2.2.2) / b.2.1) - 1, t), true)
  else ((b.1, b.2.1, min b.1 (b.2.2.1 + (t - b.2.2.2) / b.2.1) - 1, b.2.2.2 + (t - b.2.2.2) / b.2.1 * b.2.1), true)
def BOk4 (b : Int × Int × Int × Int) : Prop := BOk b.1 b.2.1 b.2.2.1 b.2.2.2
theorem takeV_ok {b : Int × Int × Int × Int} {t : Int} (h : BOk4 b) (h1 : b.2.2.2 ≤ t) (h2 : t ≤ 1000000) : BOk4 (takeV b t).1 ∧ (takeV b t).1.2.2.2 ≤ t ∧ (takeV b t).1.1 = b.1 ∧ (takeV b t).1.2.1 = b.2.1 := by
  obtain ⟨s, e, l, a⟩ := b
  simp only [BOk4, BOk] at h ⊢
  simp only at h1
  have q0 : 0 ≤ (t - a) / e := Int.ediv_nonneg (by omega) (by omega)
  have q2 : (t - a) / e * e ≤ t - a := Int.ediv_mul_le _ (by omega)
  have q3 : 0 ≤ (t - a) / e * e := Int.mul_nonneg q0 (by omega)
  unfold takeV
  simp only
  have hm : min s (l + (t - a) / e) ≤ s ∧ (min s (l + (t - a) / e) = s ∨ min s (l + (t - a) / e) = l + (t - a) / e) := by omega
  generalize min s (l + (t - a) / e) = m at hm ⊢
  by_cases c1 : m < 1
  · simp only [if_pos c1, and_true]; omega
  · by_cases c2 : m = s
    · simp only [if_neg c1, if_pos c2, and_true]; omega
    · simp only [if_neg c1, if_neg c2, and_true]; omega
theorem implTake1 {b : Int × Int × Int × Int} {t : Int} (h : BOk4 b) (h1 : b.2.2.2 ≤ t) (h2 : t ≤ 1000000) :
    impl_Bucket_take.f b.1 b.2.1 b.2.2.1 b.2.2.2 1 t = some ((takeV b t).1.1, (takeV b t).1.2.1, (takeV b t).1.2.2.1, (takeV b t).1.2.2.2, (takeV b t).2) := by
  obtain ⟨s, e, l, a⟩ := b
  simp only [BOk4] at h
  have hs : 1 ≤ s := h.1
  rw [implTake h h1 h2 (by omega) hs]
  unfold takeV
  simp only
  split
  · rfl
  · split <;> rfl
def runB : (Int × Int × Int × Int) → List Int → (Int × Int × Int × Int) × List Bool
  | b, [] => (b, [])
  | b, t :: r => ((runB (takeV b t).1 r).1, (takeV b t).2 :: (runB (takeV b t).1 r).2)
theorem runB_len (l : List Int) : ∀ b, (runB b l).2.length = l.length := by
  induction l with
  | nil => intro b; rfl
  | cons t r ih => intro b; simp [runB, ih]
theorem implRun0 (l : List Int) (hl : l.length ≤ 256) : ∀ i, i ≤ l.length → ∀ (b : Int × Int × Int × Int) (out : List Bool), BOk4 b → tOk b.2.2.2 (l.drop i) = true → out.length ≤ i →
    Ev (fun k => impl_RunBucket.l0 k out l (l.length : Int) (i : Int) b.1 b.2.1 b.2.2.1 b.2.2.2) ((runB b (l.drop i)).1.1, (runB b (l.drop i)).1.2.1, (runB b (l.drop i)).1.2.2.1, (runB b (l.drop i)).1.2.2.2, out ++ (runB b (l.drop i)).2, true) := by
  refine idx_ind l _ ?_ ?_
  · intro b out hb ht ho
    refine Ev.step (fun k => by rw [impl_RunBucket.l0]) ?_
    refine ev_neg (by omega) (ev_some ?_)
    simp [runB]
  · intro i hi ih b out hb ht ho
    rw [drop_at l i hi] at ht
    simp only [tOk, Bool.and_eq_true, decide_eq_true_eq] at ht
    have ok := takeV_ok hb ht.1.1 ht.1.2
    refine Ev.step (fun k => by rw [impl_RunBucket.l0]) ?_
    rw [rd_at l i hi]
    refine ev_pos (by omega) (ev_pos (by omega) (ev_pos (by omega) (ev_b (implTake1 hb ht.1.1 ht.1.2) (ev_pos (by omega) ?_))))
    rw [wsucc hi (by omega)]
    have next := ih (takeV b l[i]).1 (out ++ [(takeV b l[i]).2]) ok.1 (tOk_mono ok.2.1 (show 0 ≤ (takeV b l[i]).1.2.2.2 from ok.1.2.2.2.2.2.2.1) ht.2) (by simp; omega)
    refine ev_eq next ?_
    rw [drop_at l i hi]
    simp [runB]

/-- What both answer. -/
def runAns (s e l a : Int) (ts : List Int) : Int × Int × Int × Int × List Bool × Bool :=
  if BOk s e l a ∧ (tOk a ts && decide (ts.length ≤ 256)) = true then ((runB (s, e, l, a) ts).1.1, (runB (s, e, l, a) ts).1.2.1, (runB (s, e, l, a) ts).1.2.2.1, (runB (s, e, l, a) ts).1.2.2.2, (runB (s, e, l, a) ts).2, true) else (0, 0, 0, 0, [], false)
theorem runAns_len (s e l a : Int) (ts : List Int) (h : ts.length ≤ 100000000) : (runAns s e l a ts).2.2.2.2.1.length ≤ 100000000 := by
  unfold runAns
  split
  · simpa [runB_len] using h
  · simp
theorem implRun (s e l a : Int) (ts : List Int) (hl : ts.length ≤ 9223372036854775807) : Ev (fun k => impl_RunBucket.f k s e l a ts) (runAns s e l a ts) := by
  unfold impl_RunBucket.f
  rw [implIs]
  have no : ¬ (BOk s e l a ∧ (tOk a ts && decide (ts.length ≤ 256)) = true) → Ev (fun k => impl_RunBucket.j0 k ts true s e l a) (runAns s e l a ts) := by
    intro h
    refine Ev.step (fun k => by rw [impl_RunBucket.j0]) ?_
    refine ev_pos rfl (ev_some ?_)
    unfold runAns
    rw [if_neg h]
  have yes : (BOk s e l a ∧ (tOk a ts && decide (ts.length ≤ 256)) = true) → Ev (fun k => impl_RunBucket.j0 k ts false s e l a) (runAns s e l a ts) := by
    intro h
    have h2 := h.2
    simp only [Bool.and_eq_true, decide_eq_true_eq] at h2
    refine Ev.step (fun k => by rw [impl_RunBucket.j0]) ?_
    refine ev_neg (by simp) ?_
    refine ev_eq (implRun0 ts h2.2 0 (Nat.zero_le _) (s, e, l, a) [] h.1 (by simpa using h2.1) (Nat.le_refl _)) ?_
    unfold runAns
    rw [if_pos h]
    simp
  refine ev_b rfl ?_
  by_cases hb : BOk s e l a
  · refine ev_pos (by simpa using hb) (Ev.bind (implCalls ts hl) ?_)
    have ha : 0 ≤ a := hb.2.2.2.2.2.2.1
    have split := tOk_at a ha ts
    by_cases h1 : (tOk 0 ts && decide (ts.length ≤ 256)) = true
    · refine ev_pos h1 ?_
      simp only [Bool.and_eq_true, decide_eq_true_eq] at h1
      cases ts with
      | nil =>
        refine ev_neg (by simp) ?_
        exact yes ⟨hb, by simp [tOk]⟩
      | cons x r =>
        refine ev_pos (by simp only [List.length_cons]; omega) (ev_pos (by simp only [List.length_cons]; omega) ?_)
        have e1 : rd (x :: r) 0 = x := rfl
        rw [e1]
        by_cases hx : x < a
        · rw [show decide (x < a) = true by simpa using hx]
          refine no fun z => ?_
          have z2 := z.2
          simp only [Bool.and_eq_true, tOk, decide_eq_true_eq] at z2
          omega
        · rw [show decide (x < a) = false by simpa using hx]
          refine yes ⟨hb, ?_⟩
          rw [split, h1.1]
          simp
          exact ⟨by omega, by simpa using h1.2⟩
    · refine ev_neg h1 (no fun z => h1 ?_)
      have z2 := z.2
      rw [split] at z2
      simp only [Bool.and_eq_true] at z2 ⊢
      exact ⟨z2.1.1, z2.2⟩
  · exact ev_neg (by simpa using hb) (no fun z => hb z.1)

theorem u64_range (n : Int) : 0 ≤ IntKind.u64.wrap n ∧ IntKind.u64.wrap n < 18446744073709551616 := by
  simp only [IntKind.wrap, IntKind.bits, IntKind.signed]
  constructor
  · exact Int.emod_nonneg _ (by decide)
  · exact Int.emod_lt_of_pos _ (by decide)
theorem u64_small (n : Int) (h0 : 0 ≤ n) (h1 : n < 2 ^ 24) : IntKind.u64.wrap n = n := by
  simp only [IntKind.wrap, IntKind.bits, IntKind.signed]
  have h1' : n < 16777216 := h1
  show n % 18446744073709551616 = n
  omega
/-- A byte that is drawn lies between 0 and 255. -/
theorem and255 (n : Int) : 0 ≤ Go.bits .and .u64 (IntKind.u64.wrap n / 1099511627776) 255 ∧ Go.bits .and .u64 (IntKind.u64.wrap n / 1099511627776) 255 ≤ 255 := by
  have h := u64_range n
  have e := bits_mask .u64 24 (by decide) u64_small 8 (by decide) (IntKind.u64.wrap n / 1099511627776) (by omega) (by show _ < (16777216 : Int); omega)
  have e2 : Go.bits .and .u64 (IntKind.u64.wrap n / 1099511627776) 255 = IntKind.u64.wrap n / 1099511627776 % 256 := e
  rw [e2]
  omega
def U8s (l : List Int) : Prop := ∀ x ∈ l, (Lit.int .u8 x).wf = true
theorem u8_rd {l : List Int} (h : U8s l) (i : Int) : 0 ≤ rd l i ∧ rd l i ≤ 255 := by
  unfold rd
  rcases Nat.lt_or_ge i.toNat l.length with hi | hi
  · have := h l[i.toNat] (List.getElem_mem hi)
    simp [Lit.wf, IntKind.min, IntKind.max, IntKind.signed, IntKind.bits] at this
    simp [List.getD, hi]
    omega
  · simp [List.getD, hi]
theorem nextOk {l : List Int} (h : U8s l) (i s : Int) (h0 : 0 ≤ i) (h1 : i ≤ 1000000000) : ∃ v s', spec_l00Src_next.f l i s = some (v, i + 1, s') ∧ 0 ≤ v ∧ v ≤ 255 := by
  have hr := u8_rd h i
  have e1 : wrap64 (i + 1) = i + 1 := w64 (by omega) (by omega)
  have e2 : wrap64 (rd l i) = rd l i := w64 (by omega) (by omega)
  unfold spec_l00Src_next.f
  rw [e1, e2]
  have big : ∀ n : Int, wrap64 (Go.bits .and .u64 (IntKind.u64.wrap n / 1099511627776) 255) = Go.bits .and .u64 (IntKind.u64.wrap n / 1099511627776) 255 := fun n => w64 (by have := and255 n; omega) (by have := and255 n; omega)
  by_cases c1 : i < (l.length : Int)
  · rw [if_pos c1, if_pos h0]
    by_cases c2 : i + 1 ≤ (l.length : Int)
    · rw [if_pos c2]; exact ⟨_, _, rfl, hr.1, hr.2⟩
    · rw [if_neg c2, big]; exact ⟨_, _, rfl, (and255 _).1, (and255 _).2⟩
  · rw [if_neg c1]
    by_cases c2 : i + 1 ≤ (l.length : Int)
    · rw [if_pos c2]; exact ⟨_, _, rfl, by omega, by omega⟩
    · rw [if_neg c2, big]; exact ⟨_, _, rfl, (and255 _).1, (and255 _).2⟩
theorem pickOk {l : List Int} (h : U8s l) (i s n : Int) (h0 : 0 ≤ i) (h1 : i ≤ 900000000) : ∃ v i' s', spec_l00Src_pick.f l i s n = some (v, i', s') ∧ 0 ≤ v ∧ (1 ≤ n → v < n) ∧ (n ≤ 1 → v = 0) ∧ i ≤ i' ∧ i' ≤ i + 2 := by
  unfold spec_l00Src_pick.f
  by_cases c : n ≤ 1
  · rw [if_pos c]; exact ⟨_, _, _, rfl, by omega, by omega, by omega, by omega, by omega⟩
  · rw [if_neg c]
    obtain ⟨v, s', e, v0, v1⟩ := nextOk h i s h0 (by omega)
    rw [e]
    simp only [Option.bind_some]
    by_cases c2 : n > 200
    · rw [if_pos c2]
      obtain ⟨v2, s2, e2, w0, w1⟩ := nextOk h (i + 1) s' (by omega) (by omega)
      rw [e2]
      simp only [Option.bind_some]
      rw [if_neg (by omega), w64 (n := v * 256) (by omega) (by omega), w64 (by omega) (by omega), Int.tmod_eq_emod_of_nonneg (by omega)]
      exact ⟨_, _, _, rfl, Int.emod_nonneg _ (by omega), fun _ => Int.emod_lt_of_pos _ (by omega), by omega, by omega, by omega⟩
    · rw [if_neg c2, if_neg (by omega), Int.tmod_eq_emod_of_nonneg (by omega)]
      exact ⟨_, _, _, rfl, Int.emod_nonneg _ (by omega), fun _ => Int.emod_lt_of_pos _ (by omega), by omega, by omega, by omega⟩

theorem r8At {l : List Int} (h : U8s l) (i n : Int) (h0 : 0 ≤ i) : ∃ v, laws_r8At.f l i n = some v ∧ 0 ≤ v ∧ (1 ≤ n → v < n) := by
  unfold laws_r8At.f
  by_cases c : n ≤ 1
  · rw [if_pos c]; exact ⟨0, rfl, by omega, by omega⟩
  · rw [if_neg c]
    by_cases c1 : i ≥ (l.length : Int)
    · rw [if_pos c1]; exact ⟨0, rfl, by omega, by omega⟩
    · have hr := u8_rd h i
      rw [if_neg c1, if_pos h0, if_pos (by omega), if_neg (by omega), w64 (by omega) (by omega), Int.tmod_eq_emod_of_nonneg (by omega)]
      exact ⟨_, rfl, Int.emod_nonneg _ (by omega), fun _ => Int.emod_lt_of_pos _ (by omega)⟩

theorem drawBucket {l : List Int} (h : U8s l) : ∃ s e d a, spec_R8Bucket.f l = some (s, e, d, a) ∧ BOk s e d a ∧ s ≤ 5 ∧ e ≤ 12 ∧ a ≤ 19 := by
  unfold spec_R8Bucket.f spec_l00From.f spec_l06DrawOk.f
  simp only [Option.bind_some]
  obtain ⟨v1, i1, s1, e1, a1, b1, _, c1, d1⟩ := pickOk h 0 0 5 (by omega) (by omega)
  rw [e1]; simp only [Option.bind_some]
  obtain ⟨v2, i2, s2, e2, a2, b2, _, c2, d2⟩ := pickOk h i1 s1 12 (by omega) (by omega)
  rw [e2]; simp only [Option.bind_some]
  have w1 : wrap64 (1 + v1) = 1 + v1 := w64 (by omega) (by omega)
  have w2 : wrap64 (1 + v2) = 1 + v2 := w64 (by omega) (by omega)
  rw [w1, w2, w64 (n := 1 + v1 + 1) (by omega) (by omega)]
  obtain ⟨v3, i3, s3, e3, a3, b3, _, c3, d3⟩ := pickOk h i2 s2 (1 + v1 + 1) (by omega) (by omega)
  rw [e3]; simp only [Option.bind_some]
  obtain ⟨v4, i4, s4, e4, a4, b4, _, c4, d4⟩ := pickOk h i3 s3 20 (by omega) (by omega)
  rw [e4]; simp only [Option.bind_some]
  refine ⟨_, _, _, _, rfl, ?_, ?_, ?_, ?_⟩
  · unfold BOk; omega
  all_goals omega

theorem drawTimes0 {l : List Int} (h : U8s l) : ∀ (n : Nat) (x : Int) (out : List Int) (i s : Int), n ≤ 13 → out.length + n ≤ 13 → 0 ≤ i → i ≤ 1000 + 2 * (13 - n) → 0 ≤ x → x + 7 * n ≤ 1000000 →
    ∃ r, Ev (fun k => spec_R8Times.l0 k x out (n : Int) l i s) (out ++ r) ∧ tOk x r = true ∧ r.length = n := by
  intro n
  induction n with
  | zero =>
    intro x out i s _ _ _ _ _ _
    refine ⟨[], ?_, rfl, rfl⟩
    refine Ev.step (fun k => by rw [spec_R8Times.l0]) ?_
    exact ev_neg (by omega) (ev_some (by simp))
  | succ n ih =>
    intro x out i s hn ho hi0 hi hx hx2
    obtain ⟨v, i', s', e, v0, v1, _, g1, g2⟩ := pickOk h i s 8 hi0 (by omega)
    have w1 : wrap64 (x + v) = x + v := w64 (by omega) (by omega)
    have w2 : wrap64 (((n + 1 : Nat) : Int) - 1) = (n : Int) := by rw [w64 (by omega) (by omega)]; omega
    obtain ⟨r, hr, ht, hl⟩ := ih (x + v) (out ++ [x + v]) i' s' (by omega) (by simp; omega) (by omega) (by omega) (by omega) (by omega)
    refine ⟨(x + v) :: r, ?_, ?_, by simp [hl]⟩
    · refine Ev.step (fun k => by rw [spec_R8Times.l0]) ?_
      refine ev_pos (by omega) (ev_b e (ev_pos (by omega) ?_))
      simp only [w1, w2]
      refine ev_eq hr (by simp)
    · simp only [tOk, ht, Bool.and_true, decide_eq_true_eq]
      omega
theorem drawTimes {l : List Int} (h : U8s l) (x : Int) (hx : 0 ≤ x) (hx2 : x ≤ 1000) : ∃ r, Ev (fun k => spec_R8Times.f k l x) r ∧ tOk x r = true ∧ r.length ≤ 13 := by
  unfold spec_R8Times.f spec_l00From.f
  obtain ⟨v, i', s', e, v0, v1, _, g1, g2⟩ := pickOk h 0 0 14 (by omega) (by omega)
  obtain ⟨n, rfl⟩ := Int.eq_ofNat_of_zero_le v0
  obtain ⟨r, hr, ht, hl⟩ := drawTimes0 h n x [] i' s' (by omega) (by simp; omega) (by omega) (by omega) hx (by omega)
  refine ⟨r, ?_, ht, by omega⟩
  refine ev_b rfl (ev_b e ?_)
  simpa using hr

theorem tOk_range {l : List Int} : ∀ {p : Int}, 0 ≤ p → tOk p l = true → ∀ i (h : i < l.length), p ≤ l[i] ∧ l[i] ≤ 1000000 := by
  induction l with
  | nil => intro p _ _ i h; simp at h
  | cons x r ih =>
    intro p hp ht i h
    simp only [tOk, Bool.and_eq_true, decide_eq_true_eq] at ht
    cases i with
    | zero => simpa using ht.1
    | succ i =>
      have := ih (by omega) ht.2 i (by simpa using h)
      simp only [List.getElem_cons_succ]
      omega
/-- Of a sorted list: each is at least the one before. -/
theorem tOk_step {l : List Int} : ∀ {p : Int}, tOk p l = true → ∀ i (h : i + 1 < l.length), l[i] ≤ l[i + 1] := by
  induction l with
  | nil => intro p _ i h; simp at h
  | cons x r ih =>
    intro p ht i h
    simp only [tOk, Bool.and_eq_true, decide_eq_true_eq] at ht
    cases i with
    | zero =>
      cases r with
      | nil => simp at h
      | cons y q =>
        have := ht.2
        simp only [tOk, Bool.and_eq_true, decide_eq_true_eq] at this
        simpa using this.1.1
    | succ i => simpa using ih ht.2 i (by simpa using h)
theorem tOk_le {l : List Int} {p : Int} (ht : tOk p l = true) (i : Nat) : ∀ (d : Nat) (h : i + d < l.length), l[i] ≤ l[i + d]
  | 0, h => by simp
  | d + 1, h => by
    have := tOk_le ht i d (by omega)
    have st := tOk_step ht (i + d) (by omega)
    have e : l[i + (d + 1)] = l[i + d + 1]'(by omega) := by congr 1
    omega
theorem runB_app (l m : List Int) : ∀ b, runB b (l ++ m) = ((runB (runB b l).1 m).1, (runB b l).2 ++ (runB (runB b l).1 m).2) := by
  induction l with
  | nil => intro b; simp [runB]
  | cons t r ih => intro b; simp [runB, ih]
theorem run_ok (l : List Int) : ∀ (b : Int × Int × Int × Int) (i : Nat), BOk4 b → tOk b.2.2.2 l = true → BOk4 (runB b (l.take i)).1 ∧ tOk (runB b (l.take i)).1.2.2.2 (l.drop i) = true ∧ (runB b (l.take i)).1.1 = b.1 ∧ (runB b (l.take i)).1.2.1 = b.2.1 := by
  induction l with
  | nil => intro b i hb ht; simp [runB]; exact ⟨hb, ht⟩
  | cons t r ih =>
    intro b i hb ht
    cases i with
    | zero => exact ⟨hb, ht, rfl, rfl⟩
    | succ i =>
      have h2 := ht
      simp only [tOk, Bool.and_eq_true, decide_eq_true_eq] at h2
      have ok := takeV_ok hb h2.1.1 h2.1.2
      obtain ⟨q1, q2, q3, q4⟩ := ih (takeV b t).1 i ok.1 (tOk_mono ok.2.1 (show 0 ≤ (takeV b t).1.2.2.2 from ok.1.2.2.2.2.2.2.1) h2.2)
      simp only [List.take_succ_cons, List.drop_succ_cons, runB]
      exact ⟨q1, q2, q3.trans ok.2.2.1, q4.trans ok.2.2.2⟩
theorem tOk_take : ∀ (l : List Int) (p : Int) (i : Nat), tOk p l = true → tOk p (l.take i) = true
  | [], p, i, h => by simpa using h
  | t :: r, p, 0, h => rfl
  | t :: r, p, i + 1, h => by
    simp only [tOk, List.take_succ_cons, Bool.and_eq_true] at h ⊢
    exact ⟨h.1, tOk_take r t i h.2⟩
/-- What a bucket holds at a tick, in ticks. -/
def pot (b : Int × Int × Int × Int) (t : Int) : Int := min (b.2.1 * b.1) (b.2.1 * b.2.2.1 + (t - b.2.2.2))
theorem pot_take {b : Int × Int × Int × Int} {t : Int} (h : BOk4 b) (h1 : b.2.2.2 ≤ t) : pot (takeV b t).1 t = pot b t - (if (takeV b t).2 = true then b.2.1 else 0) ∧ 0 ≤ pot (takeV b t).1 t := by
  obtain ⟨s, e, l, a⟩ := b
  simp only [BOk4, BOk] at h
  simp only at h1
  have q0 : 0 ≤ (t - a) / e := Int.ediv_nonneg (by omega) (by omega)
  have q2 : (t - a) / e * e ≤ t - a := Int.ediv_mul_le _ (by omega)
  have q3 : t - a < ((t - a) / e + 1) * e := Int.lt_ediv_add_one_mul_self _ (by omega)
  unfold takeV pot
  simp only
  generalize (t - a) / e = q at q0 q2 q3 ⊢
  have p1 : ((q + 1) * e : Int) = q * e + e := by rw [Int.add_mul]; omega
  have es : 0 ≤ e * (s - 1) := Int.mul_nonneg (by omega) (by omega)
  have el : 0 ≤ e * l := Int.mul_nonneg (by omega) (by omega)
  have es1 : e * (s - 1) = e * s - e := by rw [Int.mul_sub]; omega
  by_cases c1 : min s (l + q) < 1
  · simp only [if_pos c1, Bool.false_eq_true, if_false, Int.sub_zero, true_and]
    omega
  · by_cases c2 : min s (l + q) = s
    · simp only [if_neg c1, if_pos c2, if_true]
      have g1 : s ≤ l + q := by omega
      have g2 : e * s ≤ e * (l + q) := Int.mul_le_mul_of_nonneg_left g1 (by omega)
      have g3 : e * (l + q) = e * l + q * e := by rw [Int.mul_add, Int.mul_comm e q]
      rw [c2]
      omega
    · simp only [if_neg c1, if_neg c2, if_true]
      have g0 : min s (l + q) = l + q := by omega
      have g1 : l + q + 1 ≤ s := by omega
      have g2 : e * (l + q + 1) ≤ e * s := Int.mul_le_mul_of_nonneg_left g1 (by omega)
      have g3 : e * (l + q + 1) = e * l + q * e + e := by rw [Int.mul_add, Int.mul_add, Int.mul_comm e q]; omega
      have g4 : e * (l + q - 1) = e * l + q * e - e := by rw [Int.mul_sub, Int.mul_add, Int.mul_comm e q]; omega
      have g5 : 0 ≤ e * (l + q - 1) := Int.mul_nonneg (by omega) (by omega)
      rw [g0, g4]
      omega
theorem pot_later {b : Int × Int × Int × Int} {t u : Int} (h : t ≤ u) : pot b u ≤ pot b t + (u - t) := by unfold pot; omega
/-- How many of the first n are let through. -/
def cT : List Bool → Nat → Nat
  | _, 0 => 0
  | [], _ + 1 => 0
  | x :: r, n + 1 => (if x = true then 1 else 0) + cT r n
theorem cT_le : ∀ (l : List Bool) (n : Nat), cT l n ≤ n
  | _, 0 => by simp [cT]
  | [], _ + 1 => by simp [cT]
  | x :: r, n + 1 => by have := cT_le r n; simp only [cT]; split <;> omega
theorem cT_succ : ∀ (l : List Bool) (n : Nat) (h : n < l.length), cT l (n + 1) = cT l n + (if l[n] = true then 1 else 0)
  | [], n, h => absurd h (Nat.not_lt_zero _)
  | x :: r, 0, h => by simp [cT]
  | x :: r, n + 1, h => by
    have := cT_succ r n (by simpa using h)
    rw [cT, this, cT]
    simp only [List.getElem_cons_succ]
    omega
def lastT : Int → List Int → Nat → Int
  | t, _, 0 => t
  | t, [], _ + 1 => t
  | _, u :: r, n + 1 => lastT u r n
theorem lastT_at : ∀ (l : List Int) (t : Int) (n : Nat) (h : n < l.length), lastT t l (n + 1) = l[n]
  | [], t, n, h => absurd h (Nat.not_lt_zero _)
  | u :: r, t, 0, h => by simp [lastT]
  | u :: r, t, n + 1, h => by
    rw [lastT, lastT_at r u n (by simpa using h)]
    rfl
theorem run_cnt (l : List Int) : ∀ (b : Int × Int × Int × Int) (t : Int) (n : Nat), BOk4 b → b.2.2.2 ≤ t → tOk t l = true → b.2.1 * (cT (runB b l).2 n : Int) ≤ pot b t + (lastT t l n - t) := by
  induction l with
  | nil =>
    intro b t n hb h1 ht
    have hp : 0 ≤ pot b t := by
      have e1 : 0 ≤ b.2.1 * b.1 := Int.mul_nonneg (by have := hb.2.2.1; omega) (by have := hb.1; omega)
      have e2 : 0 ≤ b.2.1 * b.2.2.1 := Int.mul_nonneg (by have := hb.2.2.1; omega) (by have := hb.2.2.2.2.1; omega)
      unfold pot; omega
    cases n <;> simp [runB, cT, lastT] <;> omega
  | cons u r ih =>
    intro b t n hb h1 ht
    have hp : 0 ≤ pot b t := by
      have e1 : 0 ≤ b.2.1 * b.1 := Int.mul_nonneg (by have := hb.2.2.1; omega) (by have := hb.1; omega)
      have e2 : 0 ≤ b.2.1 * b.2.2.1 := Int.mul_nonneg (by have := hb.2.2.1; omega) (by have := hb.2.2.2.2.1; omega)
      unfold pot; omega
    cases n with
    | zero => simp [cT, lastT]; omega
    | succ n =>
      have h2 := ht
      simp only [tOk, Bool.and_eq_true, decide_eq_true_eq] at h2
      have ok := takeV_ok hb (Int.le_trans h1 h2.1.1) h2.1.2
      have pt := pot_take hb (Int.le_trans h1 h2.1.1)
      have pl := pot_later (b := b) h2.1.1
      have nx := ih (takeV b u).1 u n ok.1 ok.2.1 h2.2
      rw [ok.2.2.2] at nx
      simp only [runB, cT, lastT]
      rw [Int.natCast_add, Int.mul_add]
      by_cases c : (takeV b u).2 = true
      · rw [if_pos c] at pt ⊢
        omega
      · rw [if_neg c] at pt ⊢
        omega
theorem span {ts : List Int} {b : Int × Int × Int × Int} (hb : BOk4 b) (ht : tOk b.2.2.2 ts = true) (i d : Nat) (h : i + d < ts.length) :
    (cT ((runB b ts).2.drop i) (d + 1) : Int) ≤ b.1 + (ts[i + d] - ts[i]) / b.2.1 := by
  obtain ⟨q1, q2, q3, q4⟩ := run_ok ts b i hb ht
  have e1 : (runB b ts).2.drop i = (runB (runB b (ts.take i)).1 (ts.drop i)).2 := by
    have := runB_app (ts.take i) (ts.drop i) b
    rw [List.take_append_drop] at this
    rw [this]
    have hl : (runB b (ts.take i)).2.length = i := by rw [runB_len, List.length_take]; omega
    simp only
    rw [List.drop_append_of_le_length (by omega), List.drop_eq_nil_of_le (by omega), List.nil_append]
  rw [e1]
  have hd := drop_at ts i (by omega)
  have q5 := q2
  rw [hd] at q5
  simp only [tOk, Bool.and_eq_true, decide_eq_true_eq] at q5
  have tt : tOk ts[i] (ts.drop i) = true := by
    rw [hd]
    simp only [tOk, Bool.and_eq_true, decide_eq_true_eq]
    exact ⟨⟨by omega, q5.1.2⟩, q5.2⟩
  have key := run_cnt (ts.drop i) (runB b (ts.take i)).1 ts[i] (d + 1) q1 q5.1.1 tt
  rw [lastT_at (ts.drop i) _ d (by rw [List.length_drop]; omega)] at key
  have e2 : (ts.drop i)[d]'(by rw [List.length_drop]; omega) = ts[i + d] := by simp
  rw [e2, q4] at key
  have pm : pot (runB b (ts.take i)).1 ts[i] ≤ b.2.1 * b.1 := by unfold pot; rw [q3, q4]; omega
  have he : 0 < b.2.1 := by have := hb.2.2.1; omega
  have : ((cT (runB (runB b (ts.take i)).1 (ts.drop i)).2 (d + 1) : Int) - b.1) ≤ (ts[i + d] - ts[i]) / b.2.1 := by
    rw [Int.le_ediv_iff_mul_le he, Int.sub_mul, Int.mul_comm _ b.2.1, Int.mul_comm b.1 b.2.1]
    omega
  omega
theorem FnBuckets : laws_FnBuckets.Pure := by
  intro l0 l1 _ _ h0 _ _ h1
  refine Ev.rounds ?_
  unfold laws_FnBuckets.f laws_r8Long.f
  by_cases hb : ((l0.length : Int) > 48) ∨ ((l1.length : Int) > 48)
  · refine ev_b (a := true) ?_ (ev_pos rfl (Ev.now _))
    by_cases c : (l0.length : Int) > 48
    · rw [if_pos c]
    · rw [if_neg c]; congr 1; simpa using by omega
  · refine ev_b (a := false) ?_ (ev_neg (by simp) ?_)
    · rw [if_neg (by omega)]; congr 1; simpa using by omega
    · obtain ⟨s, e, d, a, eb, ok, b1, b2, b3⟩ := drawBucket (show U8s l0 from h0)
      have hs := ok
      unfold BOk at hs
      obtain ⟨ts, et, ht, hl⟩ := drawTimes (show U8s l1 from h1) a (by omega) (by omega)
      refine ev_b eb (Ev.bind et (Ev.bind (implRun s e d a ts (by omega)) ?_))
      have wl : wrap64 ((ts.length : Int) + 1) = (ts.length : Int) + 1 := w64 (by omega) (by omega)
      obtain ⟨v, ev, a1, a2⟩ := r8At (show U8s l1 from h1) 40 ((ts.length : Int) + 1) (by omega)
      simp only [wl]
      have a3 := a2 (by omega)
      obtain ⟨m, rfl⟩ : ∃ m : Nat, v = (m : Int) := ⟨v.toNat, by omega⟩
      refine ev_b ev (ev_pos (by omega) (ev_pos (by omega) ?_))
      rw [Int.toNat_natCast]
      have hb4 : BOk4 (s, e, d, a) := ok
      obtain ⟨q1, q2, q3, q4⟩ := run_ok ts (s, e, d, a) m hb4 ht
      have ta := tOk_take ts a m ht
      have lt : (ts.take m).length = m := by rw [List.length_take]; omega
      have ld : (ts.drop m).length = ts.length - m := List.length_drop
      have ap := runB_app (ts.take m) (ts.drop m) (s, e, d, a)
      rw [List.take_append_drop] at ap
      have an1 : runAns s e d a ts = ((runB (s, e, d, a) ts).1.1, (runB (s, e, d, a) ts).1.2.1, (runB (s, e, d, a) ts).1.2.2.1, (runB (s, e, d, a) ts).1.2.2.2, (runB (s, e, d, a) ts).2, true) := by
        unfold runAns; rw [if_pos ⟨ok, by simp [ht]; omega⟩]
      have an2 : runAns s e d a (ts.take m) = ((runB (s, e, d, a) (ts.take m)).1.1, (runB (s, e, d, a) (ts.take m)).1.2.1, (runB (s, e, d, a) (ts.take m)).1.2.2.1, (runB (s, e, d, a) (ts.take m)).1.2.2.2, (runB (s, e, d, a) (ts.take m)).2, true) := by
        unfold runAns; rw [if_pos ⟨ok, by rw [ta, lt]; simp; omega⟩]
      refine Ev.bind (implRun s e d a (ts.take m) (by omega)) ?_
      rw [an1, an2]
      have z1 := runB_len (ts.take m) (s, e, d, a)
      have z2 := runB_len (ts.drop m) (runB (s, e, d, a) (ts.take m)).1
      have z3 := runB_len ts (s, e, d, a)
      have okE := (run_ok ts (s, e, d, a) ts.length hb4 ht).1
      rw [List.take_length] at okE
      have sp := span hb4 ht
      generalize runB (s, e, d, a) (ts.take m) = A at q1 q2 q3 q4 ap z1 z2 ⊢
      obtain ⟨⟨A1, A2, A3, A4⟩, AL⟩ := A
      simp only at q1 q2 q3 q4 ap z1 z2 ⊢
      have an3 : runAns A1 A2 A3 A4 (ts.drop m) = ((runB (A1, A2, A3, A4) (ts.drop m)).1.1, (runB (A1, A2, A3, A4) (ts.drop m)).1.2.1, (runB (A1, A2, A3, A4) (ts.drop m)).1.2.2.1, (runB (A1, A2, A3, A4) (ts.drop m)).1.2.2.2, (runB (A1, A2, A3, A4) (ts.drop m)).2, true) := by
        unfold runAns; rw [if_pos ⟨q1, by rw [q2, ld]; simp; omega⟩]
      refine Ev.bind (implRun A1 A2 A3 A4 (ts.drop m) (by omega)) ?_
      rw [an3]
      generalize runB (A1, A2, A3, A4) (ts.drop m) = C at ap z2 ⊢
      obtain ⟨⟨C1, C2, C3, C4⟩, CL⟩ := C
      simp only at ap z2 ⊢
      generalize hR : runB (s, e, d, a) ts = R at ap z3 okE sp ⊢
      obtain ⟨⟨R1, R2, R3, R4⟩, RL⟩ := R
      simp only [Prod.mk.injEq] at ap z3 okE sp ⊢
      obtain ⟨⟨rfl, rfl, rfl, rfl⟩, rfl⟩ := ap
      refine ev_pos trivial (ev_pos trivial (ev_pos trivial (ev_neg (by simp) (ev_pos (by omega) (ev_pos (by omega) (ev_pos (by rw [w64 (by omega) (by omega)]; omega) ?_))))))
      rw [implIs, decide_eq_true (show BOk R1 R2 R3 R4 from okE)]
      refine ev_b rfl ?_
      refine Ev.step (fun k => by rw [laws_FnBuckets.j0]) ?_
      refine ev_neg (by simp) ?_
      have hr := fun j (hj : j < ts.length) => tOk_range (show 0 ≤ a by omega) ht j hj
      refine idx_ind ts (fun i => Ev (fun k => laws_FnBuckets.l0 k ts (AL ++ CL) (m : Int) AL CL (i : Int) s e d a) true) ?_ ?_ 0 (Nat.zero_le _)
      · refine Ev.step (fun k => by rw [laws_FnBuckets.l0]) ?_
        exact ev_neg (by omega) (Ev.now _)
      · intro i hi ih
        have inner : Ev (fun k => laws_FnBuckets.j2 k ts (AL ++ CL) (m : Int) AL CL (i : Int) false s e d a) true := by
          refine Ev.step (fun k => by rw [laws_FnBuckets.j2]) ?_
          refine ev_neg (by simp) ?_
          have key : ∀ n j, j + n = ts.length → i ≤ j → Ev (fun k => laws_FnBuckets.l1 k ts (AL ++ CL) (m : Int) AL CL (i : Int) (cT ((AL ++ CL).drop i) (j - i) : Int) (j : Int) s e d a) true := by
            intro n
            induction n with
            | zero =>
              intro j hj hij
              refine Ev.step (fun k => by rw [laws_FnBuckets.l1]) ?_
              refine ev_neg (by omega) ?_
              rw [wsucc hi (by omega)]
              exact ih
            | succ n ihn =>
              intro j hj hij
              have hj2 : j < ts.length := by omega
              have nx := ihn (j + 1) (by omega) (by omega)
              have hjl : j < (AL ++ CL).length := by omega
              have cs := cT_succ ((AL ++ CL).drop i) (j - i) (by rw [List.length_drop]; omega)
              have ce : ((AL ++ CL).drop i)[j - i]'(by rw [List.length_drop]; omega) = (AL ++ CL)[j] := by
                rw [List.getElem_drop]; congr 1; omega
              rw [ce, show j - i + 1 = j + 1 - i by omega] at cs
              have spj := sp i (j - i) (by omega)
              have te : ts[i + (j - i)]'(by omega) = ts[j] := by congr 1; omega
              rw [te, show j - i + 1 = j + 1 - i by omega] at spj
              have cl := cT_le ((AL ++ CL).drop i) (j - i)
              have r1 := hr i hi
              have r2 := hr j hj2
              have mono : ts[i] ≤ ts[j] := by
                obtain ⟨k1, k2⟩ := (show ∃ k1, i + k1 = j from ⟨j - i, by omega⟩)
                subst k2
                exact tOk_le ht i k1 hj2
              have dv : 0 ≤ (ts[j] - ts[i]) / e := Int.ediv_nonneg (by omega) (by omega)
              have dv2 : (ts[j] - ts[i]) / e ≤ ts[j] - ts[i] := Int.ediv_le_self _ (by omega)
              have wd : wrap64 (s + wrap64 (Int.tdiv (wrap64 (ts[j] - ts[i])) e)) = s + (ts[j] - ts[i]) / e := by
                rw [w64 (n := ts[j] - ts[i]) (by omega) (by omega), Int.tdiv_eq_ediv_of_nonneg (by omega), w64 (n := (ts[j] - ts[i]) / e) (by omega) (by omega), w64 (by omega) (by omega)]
              refine Ev.step (fun k => by rw [laws_FnBuckets.l1]) ?_
              rw [rdOf_at false _ j hjl, rd_at ts j hj2, rd_at ts i hi, wd, wsucc hj2 (by omega)]
              refine ev_pos (by omega) (ev_pos (by omega) (ev_pos (by omega) ?_))
              by_cases c : (AL ++ CL)[j] = true
              · rw [if_pos c] at cs
                have w1 : wrap64 ((cT ((AL ++ CL).drop i) (j - i) : Int) + 1) = (cT ((AL ++ CL).drop i) (j + 1 - i) : Int) := by rw [w64 (by omega) (by omega)]; omega
                refine ev_pos c (ev_pos (by omega) (ev_pos (by omega) (ev_neg (by omega) ?_)))
                rw [w1]
                exact ev_neg (Int.not_lt.mpr spj) nx
              · rw [if_neg c] at cs
                refine ev_neg c (ev_pos (by omega) (ev_pos (by omega) (ev_neg (by omega) ?_)))
                rw [show cT ((AL ++ CL).drop i) (j - i) = cT ((AL ++ CL).drop i) (j + 1 - i) from cs.symm]
                exact ev_neg (Int.not_lt.mpr spj) nx
          have := key (ts.length - i) i (by omega) (Nat.le_refl _)
          rw [Nat.sub_self] at this
          simpa [cT] using this
        refine Ev.step (fun k => by rw [laws_FnBuckets.l0]) ?_
        refine ev_pos (by omega) ?_
        by_cases c : i < m
        · refine ev_pos (by omega) (ev_pos (by omega) (ev_pos (by omega) (ev_pos (by simp only [List.length_append]; omega) ?_)))
          rw [rdOf_at false _ i (show i < AL.length by omega), rdOf_at false _ i (show i < (AL ++ CL).length by simp only [List.length_append]; omega), List.getElem_append_left (show i < AL.length by omega)]
          exact ev_neg (by simp) (ev_neg (by omega) inner)
        · have wi : wrap64 ((i : Int) - (m : Int)) = ((i - m : Nat) : Int) := by rw [w64 (by omega) (by omega)]; omega
          rw [wi]
          refine ev_neg (by omega) (ev_pos (by omega) (ev_pos (by omega) (ev_pos (by omega) (ev_pos (by omega) (ev_pos (by simp only [List.length_append]; omega) ?_)))))
          rw [rdOf_at false _ (i - m) (show i - m < CL.length by omega), rdOf_at false _ i (show i < (AL ++ CL).length by simp only [List.length_append]; omega), List.getElem_append_right (show AL.length ≤ i by omega)]
          have : CL[i - m]'(by omega) = CL[i - AL.length]'(by omega) := by congr 1; omega
          rw [this, bne_self_eq_false]
          exact inner

end Go.Proofs.Ytidlbifgfciikaa.Pure
