/- RunWindow: the program and the reference answer alike and leave memory alone, for every list of ticks, window and number. -/
import Derived.Test.YtjfaepolmllejaaQFnExactRunWindowx4
namespace Go.Proofs.Ytjfaepolmllejaa.Pure
open Go.RowKit Go.Proofs.Ytjfaepolmllejaa.QFnExactRunWindow Go.Proofs.YtjfaepolmllejaaW.PrintWords Go.Proofs.YtjfaepolmllejaaW.PrintLast Go.Proofs.YtjfaepolmllejaaW.PrintMore
set_option linter.unusedVariables false

theorem w64 {n : Int} (h1 : -9223372036854775808 ≤ n) (h2 : n ≤ 9223372036854775807) : wrap64 n = n := by
  unfold wrap64
  omega
theorem wf64 {n : Int} (h : (Lit.int .i64 n).wf = true) : -9223372036854775808 ≤ n ∧ n ≤ 9223372036854775807 := by
  simp [Lit.wf, IntKind.min, IntKind.max, IntKind.signed, IntKind.bits] at h
  omega

theorem ev_pos {α : Type} {c : Prop} [Decidable c] {g f : Nat → Option α} {r : α} (h : c) (e : Ev g r) : Ev (fun k => if c then g k else f k) r := Ev.congr (fun _ => if_pos h) e
theorem ev_neg {α : Type} {c : Prop} [Decidable c] {g f : Nat → Option α} {r : α} (h : ¬ c) (e : Ev f r) : Ev (fun k => if c then g k else f k) r := Ev.congr (fun _ => if_neg h) e
theorem ev_b {α β : Type} {o : Option α} {a : α} {f : Nat → α → Option β} {r : β} (h : o = some a) (e : Ev (fun k => f k a) r) : Ev (fun k => o.bind (f k)) r := by subst h; exact e
theorem ev_eq {α : Type} {g : Nat → Option α} {r q : α} (e : Ev g r) (h : r = q) : Ev g q := h ▸ e
theorem ev_some {α : Type} {r q : α} (h : r = q) : Ev (fun _ => some r) q := h ▸ Ev.now r
/-- Down from a list's end. -/
theorem idx_ind {α : Type} (l : List α) (P : Nat → Prop) (hend : P l.length) (hstep : ∀ i, i < l.length → P (i + 1) → P i) : ∀ i, i ≤ l.length → P i := by
  have key : ∀ d i, i + d = l.length → P i := by
    intro d
    induction d with
    | zero => intro i h; have : i = l.length := by omega
              rw [this]; exact hend
    | succ d ih => intro i h; exact hstep i (by omega) (ih (i + 1) (by omega))
  intro i h
  exact key (l.length - i) i (by omega)
theorem rd_at (l : List Int) (i : Nat) (h : i < l.length) : rd l (i : Int) = l[i] := by
  simp [rd, List.getD, h]
theorem rdOf_at {α : Type} (d : α) (l : List α) (i : Nat) (h : i < l.length) : rdOf d l (i : Int) = l[i] := by
  simp [rdOf, List.getD, h]
theorem drop_at {α : Type} (l : List α) (i : Nat) (h : i < l.length) : l.drop i = l[i] :: l.drop (i + 1) := List.drop_eq_getElem_cons h
theorem wsucc {i n : Nat} (h : i < n) (hn : n ≤ 9223372036854775807) : wrap64 ((i : Int) + 1) = ((i + 1 : Nat) : Int) := by
  rw [w64 (by omega) (by omega)]; rfl

theorem implIn (a b c : Int) : impl_in.f a b c = some (decide (b ≤ a ∧ a ≤ c)) := by
  unfold impl_in.f
  by_cases h : a ≥ b
  · rw [if_pos h]; simp [h]
  · rw [if_neg h]; simp; intro h2; omega
theorem implTick (a : Int) : impl_isTick.f a = some (decide (0 ≤ a ∧ a ≤ 1000000)) := by
  unfold impl_isTick.f
  rw [implIn]; rfl

theorem specIn (a b c : Int) : spec_l00In.f a b c = some (decide (b ≤ a ∧ a ≤ c)) := by
  unfold spec_l00In.f
  by_cases h : a ≥ b
  · rw [if_pos h]; simp [h]
  · rw [if_neg h]; simp; intro h2; omega

/-- Ticks from one on, none less than the one before. -/
def tOk (p : Int) : List Int → Bool
  | [] => true
  | x :: r => decide (p ≤ x ∧ x ≤ 1000000) && tOk x r
theorem implCalls (l : List Int) (hl : l.length ≤ 9223372036854775807) : Ev (fun k => impl_callsOk.f k l) (tOk 0 l && decide (l.length ≤ 256)) := by
  have key := idx_ind l (fun i => ∀ p : Int, 0 ≤ p → (i = 0 → p = 0) → (∀ h : 0 < i, i ≤ l.length → (l[i - 1]?).getD 0 = p) → Ev (fun k => impl_callsOk.l0 k l l (l.length : Int) (i : Int)) (tOk p (l.drop i) && decide (l.length ≤ 256))) ?_ ?_
  · exact key 0 (Nat.zero_le _) 0 (by omega) (fun _ => rfl) (fun h => by omega)
  · intro p _ _ _
    refine Ev.step (fun k => by rw [impl_callsOk.l0]) ?_
    refine ev_neg (by omega) (ev_some ?_)
    simp [tOk]
    omega
  · intro i hi ih p hp h0 hprev
    refine Ev.step (fun k => by rw [impl_callsOk.l0]) ?_
    refine ev_pos (by omega) (ev_pos (by omega) (ev_pos (by omega) (ev_b (implTick _) ?_)))
    rw [rd_at l i hi, drop_at l i hi, wsucc hi hl]
    by_cases ht : 0 ≤ l[i] ∧ l[i] ≤ 1000000
    · refine ev_pos (by simpa using ht) ?_
      have next := ih l[i] ht.1 (fun h => by omega) (fun _ _ => by simp [hi])
      by_cases h1 : 0 < i
      · have e1 : wrap64 ((i : Int) - 1) = ((i - 1 : Nat) : Int) := by rw [w64 (by omega) (by omega)]; omega
        have e2 : rd l ((i - 1 : Nat) : Int) = p := by
          have := hprev h1 (by omega)
          rw [rd_at l (i - 1) (by omega)]
          simpa [show i - 1 < l.length by omega] using this
        rw [e1, e2]
        refine ev_pos (by omega) (ev_pos (by omega) (ev_pos (by omega) ?_))
        by_cases hp2 : p > l[i]
        · refine ev_pos hp2 (ev_some ?_)
          simp [tOk]; omega
        · refine ev_neg hp2 (ev_eq next ?_)
          have : p ≤ l[i] ∧ l[i] ≤ 1000000 := ⟨by omega, ht.2⟩
          simp [tOk, this]
      · have : i = 0 := by omega
        refine ev_neg (by omega) (ev_eq next ?_)
        have hp0 := h0 this
        have : p ≤ l[i] ∧ l[i] ≤ 1000000 := ⟨by omega, ht.2⟩
        simp [tOk, this]
    · refine ev_neg (by simpa using ht) (ev_some ?_)
      have : ¬ (p ≤ l[i] ∧ l[i] ≤ 1000000) := by omega
      simp [tOk, this]
theorem tOk_mono {a x : Int} {l : List Int} (h : a ≤ x) (h0 : 0 ≤ a) (ht : tOk x l = true) : tOk a l = true := by
  cases l with
  | nil => rfl
  | cons y r =>
    simp only [tOk, Bool.and_eq_true, decide_eq_true_eq] at ht ⊢
    exact ⟨⟨by omega, ht.1.2⟩, ht.2⟩
theorem tOk_at (a : Int) (h : 0 ≤ a) (l : List Int) : tOk a l = (tOk 0 l && decide (∀ x, l.head? = some x → a ≤ x)) := by
  cases l with
  | nil => simp [tOk]
  | cons x r =>
    simp only [tOk, List.head?_cons, Option.some.injEq, forall_eq']
    by_cases h1 : a ≤ x
    · have : 0 ≤ x := by omega
      simp [h1, this]
    · simp [h1]

theorem specTimes (l : List Int) (p : Int) (hl : l.length ≤ 9223372036854775807) : Ev (fun k => spec_l06Times.f k l p) (tOk p l && decide (l.length ≤ 256)) := by
  unfold spec_l06Times.f
  by_cases h : (l.length : Int) > 256
  · refine ev_pos h (ev_some ?_)
    have : ¬ l.length ≤ 256 := by omega
    simp [this]
  · refine ev_neg h ?_
    have key := idx_ind l (fun i => ∀ p : Int, Ev (fun k => spec_l06Times.l0 k l p (i : Int)) (tOk p (l.drop i))) ?_ ?_
    · refine ev_eq (key 0 (Nat.zero_le _) p) ?_
      have : l.length ≤ 256 := by omega
      simp [this]
    · intro p
      refine Ev.step (fun k => by rw [spec_l06Times.l0]) ?_
      refine ev_neg (by omega) (ev_some ?_)
      simp [tOk]
    · intro i hi ih p
      refine Ev.step (fun k => by rw [spec_l06Times.l0]) ?_
      refine ev_pos (by omega) (ev_pos (by omega) (ev_b (specIn _ _ _) ?_))
      rw [rd_at l i hi, drop_at l i hi, wsucc hi hl]
      by_cases ht : p ≤ l[i] ∧ l[i] ≤ 1000000
      · refine ev_pos (by simpa using ht) (ev_eq (ih l[i]) ?_)
        simp [tOk, ht]
      · refine ev_neg (by simpa using ht) (ev_some ?_)
        simp [tOk, ht]

theorem implOne (b : Bool) : impl_oneIf.f b = some (if b then 1 else 0) := by cases b <;> rfl
/-- How many of the first n were let through above a bound. -/
def cnt (ts : List Int) (out : List Bool) (thr : Int) : Nat → Nat
  | 0 => 0
  | i + 1 => cnt ts out thr i + if (out.getD i false && decide (ts.getD i 0 > thr)) = true then 1 else 0
theorem cnt_le (ts : List Int) (out : List Bool) (thr : Int) : ∀ n, cnt ts out thr n ≤ n
  | 0 => Nat.le_refl _
  | n + 1 => by
    have := cnt_le ts out thr n
    simp only [cnt]
    split <;> omega
theorem cnt_pos {ts : List Int} {out : List Bool} {thr : Int} {j : Nat} (h1 : out.getD j false = true) (h2 : ts.getD j 0 > thr) : cnt ts out thr (j + 1) = cnt ts out thr j + 1 := by
  show cnt ts out thr j + (if (out.getD j false && decide (ts.getD j 0 > thr)) = true then 1 else 0) = _
  rw [if_pos (by rw [h1, Bool.true_and]; exact decide_eq_true h2)]
theorem cnt_neg {ts : List Int} {out : List Bool} {thr : Int} {j : Nat} (h : ¬ (out.getD j false = true ∧ ts.getD j 0 > thr)) : cnt ts out thr (j + 1) = cnt ts out thr j := by
  show cnt ts out thr j + (if (out.getD j false && decide (ts.getD j 0 > thr)) = true then 1 else 0) = _
  rw [if_neg (by rw [Bool.and_eq_true, decide_eq_true_eq]; exact h)]
  rfl
/-- What a window answers for the first n. -/
def winV (ts : List Int) (w m : Int) : Nat → List Bool
  | 0 => []
  | i + 1 => winV ts w m i ++ [decide ((cnt ts (winV ts w m i) (ts.getD i 0 - w) i : Int) < m)]
theorem winV_len (ts : List Int) (w m : Int) : ∀ n, (winV ts w m n).length = n
  | 0 => rfl
  | n + 1 => by simp [winV, winV_len ts w m n]
theorem tOk_range {l : List Int} : ∀ {p : Int}, 0 ≤ p → tOk p l = true → ∀ i (h : i < l.length), p ≤ l[i] ∧ l[i] ≤ 1000000 := by
  induction l with
  | nil => intro p _ _ i h; simp at h
  | cons x r ih =>
    intro p hp ht i h
    simp only [tOk, Bool.and_eq_true, decide_eq_true_eq] at ht
    cases i with
    | zero => simpa using ht.1
    | succ i =>
      have := ih (by omega) ht.2 i (by simpa using h)
      simp only [List.getElem_cons_succ]
      omega
theorem implWin1 (ts : List Int) (w m : Int) (out : List Bool) (i : Nat) (hi : i < ts.length) (hl : ts.length ≤ 256) (hw : 1 ≤ w ∧ w ≤ 1000000) (hr : ∀ j (h : j < ts.length), 0 ≤ ts[j] ∧ ts[j] ≤ 1000000) (ho : out.length = i) (R : List Bool × Bool)
    (next : Ev (fun k => impl_RunWindow.l0 k ts w m (out ++ [decide ((cnt ts out (ts[i] - w) i : Int) < m)]) ts (ts.length : Int) ((i + 1 : Nat) : Int)) R) :
    ∀ d j, j + d = i → Ev (fun k => impl_RunWindow.l1 k ts w m out ts[i] (cnt ts out (ts[i] - w) j : Int) ts (ts.length : Int) (i : Int) (i : Int) (j : Int)) R := by
  have hwr : wrap64 (ts[i] - w) = ts[i] - w := w64 (by have := hr i hi; omega) (by have := hr i hi; omega)
  intro d
  induction d with
  | zero =>
    intro j hj
    have : j = i := by omega
    subst this
    refine Ev.step (fun k => by rw [impl_RunWindow.l1]) ?_
    refine ev_neg (by omega) (ev_pos (by omega) ?_)
    rw [wsucc hi (by omega)]
    exact next
  | succ d ih =>
    intro j hj
    have hc := cnt_le ts out (ts[i] - w) j
    refine Ev.step (fun k => by rw [impl_RunWindow.l1]) ?_
    refine ev_pos (by omega) (ev_pos (by omega) (ev_pos (by omega) ?_))
    rw [rdOf_at false out j (by omega), hwr, wsucc (show j < i by omega) (by omega)]
    have nx := ih (j + 1) (by omega)
    have e1 : out.getD j false = out[j]'(by omega) := by simp [List.getD, show j < out.length by omega]
    have e2 : ts.getD j 0 = ts[j]'(by omega) := by simp [List.getD, show j < ts.length by omega]
    by_cases c : out[j]'(by omega) = true
    · refine ev_pos c (ev_pos (by omega) ?_)
      rw [rd_at ts j (by omega)]
      refine ev_b (implOne _) ?_
      by_cases c2 : ts[j]'(by omega) > ts[i] - w
      · have e3 : cnt ts out (ts[i] - w) (j + 1) = cnt ts out (ts[i] - w) j + 1 := cnt_pos (by rw [e1]; exact c) (by rw [e2]; exact c2)
        rw [e3] at nx
        simp only [c2, decide_true, if_true]
        rw [w64 (by omega) (by omega)]
        exact nx
      · have e3 : cnt ts out (ts[i] - w) (j + 1) = cnt ts out (ts[i] - w) j := cnt_neg (by rw [e2]; exact fun z => c2 z.2)
        rw [e3] at nx
        simp only [c2, decide_false, Bool.false_eq_true, if_false]
        rw [w64 (by omega) (by omega), Int.add_zero]
        exact nx
    · refine ev_neg c (ev_b (implOne _) ?_)
      have e3 : cnt ts out (ts[i] - w) (j + 1) = cnt ts out (ts[i] - w) j := cnt_neg (by rw [e1]; exact fun z => c z.1)
      rw [e3] at nx
      simp only [Bool.false_eq_true, if_false]
      rw [w64 (by omega) (by omega), Int.add_zero]
      exact nx
theorem implWin0 (ts : List Int) (w m : Int) (hl : ts.length ≤ 256) (hw : 1 ≤ w ∧ w ≤ 1000000) (hr : ∀ j (h : j < ts.length), 0 ≤ ts[j] ∧ ts[j] ≤ 1000000) : ∀ i, i ≤ ts.length → Ev (fun k => impl_RunWindow.l0 k ts w m (winV ts w m i) ts (ts.length : Int) (i : Int)) (winV ts w m ts.length, true) := by
  refine idx_ind ts _ ?_ ?_
  · refine Ev.step (fun k => by rw [impl_RunWindow.l0]) ?_
    exact ev_neg (by omega) (Ev.now _)
  · intro i hi ih
    refine Ev.step (fun k => by rw [impl_RunWindow.l0]) ?_
    rw [rd_at ts i hi]
    refine ev_pos (by omega) (ev_pos (by omega) (ev_pos (by omega) ?_))
    refine implWin1 ts w m (winV ts w m i) i hi hl hw hr (winV_len _ _ _ _) _ ?_ i 0 (by omega)
    have e : ts.getD i 0 = ts[i] := by simp [List.getD, hi]
    simp only [winV, e] at ih
    exact ih
/-- What a window answers. -/
def winAns (ts : List Int) (w m : Int) : List Bool × Bool := if (tOk 0 ts && decide (ts.length ≤ 256)) = true ∧ (1 ≤ w ∧ w ≤ 1000000) ∧ (1 ≤ m ∧ m ≤ 256) then (winV ts w m ts.length, true) else ([], false)
theorem implWin (ts : List Int) (w m : Int) (hl : ts.length ≤ 9223372036854775807) : Ev (fun k => impl_RunWindow.f k ts w m) (winAns ts w m) := by
  unfold impl_RunWindow.f
  have no : ¬ ((tOk 0 ts && decide (ts.length ≤ 256)) = true ∧ (1 ≤ w ∧ w ≤ 1000000) ∧ (1 ≤ m ∧ m ≤ 256)) → Ev (fun k => impl_RunWindow.j0 k ts w m true) (winAns ts w m) := by
    intro h
    refine Ev.step (fun k => by rw [impl_RunWindow.j0]) ?_
    refine ev_pos rfl (ev_some ?_)
    unfold winAns
    rw [if_neg h]
  refine Ev.bind (implCalls ts hl) ?_
  by_cases h1 : (tOk 0 ts && decide (ts.length ≤ 256)) = true
  · refine ev_pos h1 (ev_b (implIn _ _ _) ?_)
    by_cases h2 : 1 ≤ w ∧ w ≤ 1000000
    · refine ev_pos (by simpa using h2) (ev_b (implIn _ _ _) ?_)
      by_cases h3 : 1 ≤ m ∧ m ≤ 256
      · rw [show (!decide (1 ≤ m ∧ m ≤ 256)) = false by simpa using h3]
        have h' := h1
        simp only [Bool.and_eq_true, decide_eq_true_eq] at h'
        refine Ev.step (fun k => by rw [impl_RunWindow.j0]) ?_
        refine ev_neg (by simp) ?_
        refine ev_eq (implWin0 ts w m h'.2 h2 (fun j hj => tOk_range (Int.le_refl 0) h'.1 j hj) 0 (Nat.zero_le _)) ?_
        unfold winAns
        rw [if_pos ⟨h1, h2, h3⟩]
      · rw [show (!decide (1 ≤ m ∧ m ≤ 256)) = true by rw [decide_eq_false h3]; rfl]
        exact no fun z => h3 z.2.2
    · exact ev_neg (by simpa using h2) (no fun z => h2 z.2.1)
  · exact ev_neg h1 (no fun z => h1 z.1)

theorem toInts (l : List Int) (hl : l.length ≤ 100000000) : Ev (fun k => laws_toInt64S.f k l) l := by
  have key := idx_ind l (fun i => ∀ x : List Int, x.length = l.length → (∀ j, j < i → x[j]? = l[j]?) → Ev (fun k => laws_toInt64S.l0 k l x (i : Int)) l) ?_ ?_
  · unfold laws_toInt64S.f
    refine ev_pos (by omega) (ev_pos (by omega) ?_)
    exact key 0 (Nat.zero_le _) _ (by simp) (fun j h => by omega)
  · intro x hx hj
    refine Ev.step (fun k => by rw [laws_toInt64S.l0]) ?_
    refine ev_neg (by omega) (ev_some ?_)
    apply List.ext_getElem?
    intro j
    rcases Nat.lt_or_ge j l.length with h | h
    · exact hj j h
    · rw [List.getElem?_eq_none (by omega), List.getElem?_eq_none (by omega)]
  · intro i hi ih x hx hj
    refine Ev.step (fun k => by rw [laws_toInt64S.l0]) ?_
    refine ev_pos (by omega) (ev_pos (by omega) (ev_pos (by omega) ?_))
    rw [wsucc hi (by omega), rd_at l i hi]
    refine ih _ (by simp [hx]) ?_
    intro j hj2
    by_cases e : j = i
    · subst e
      simp [hx, hi]
    · simp only [Int.toNat_natCast]
      rw [List.getElem?_set_ne (by omega)]
      exact hj j (by omega)
theorem eqInts (l : List Int) (hl : l.length ≤ 100000000) : Ev (fun k => laws_eqInt64S.f k l l) true := by
  unfold laws_eqInt64S.f
  refine ev_pos rfl ?_
  refine idx_ind l (fun i => Ev (fun k => laws_eqInt64S.l0 k l l (i : Int)) true) ?_ ?_ 0 (Nat.zero_le _)
  · refine Ev.step (fun k => by rw [laws_eqInt64S.l0]) ?_
    exact ev_neg (by omega) (Ev.now _)
  · intro i hi ih
    refine Ev.step (fun k => by rw [laws_eqInt64S.l0]) ?_
    refine ev_pos (by omega) (ev_pos (by omega) (ev_pos (by omega) (ev_pos rfl ?_)))
    rw [wsucc hi (by omega)]
    exact ih

theorem markInts (l : List Int) (m : Nat) (hl : l.length ≤ 100000000) (hm : m ≤ 100000000) : ∃ l2 : List Int, Ev (fun k => laws_markInt64S.f k l (m : Int)) (((m + l.length : Nat) : Int), l2) ∧ l2.length = l.length ∧ ∀ j, j < l.length → l2[j]? = some ((m + j : Nat) : Int) := by
  have key := idx_ind l (fun i => ∀ x : List Int, x.length = l.length → (∀ j, j < i → x[j]? = some ((m + j : Nat) : Int)) → ∃ l2 : List Int, Ev (fun k => laws_markInt64S.l0 k x ((m + i : Nat) : Int) (i : Int)) (((m + l.length : Nat) : Int), l2) ∧ l2.length = l.length ∧ ∀ j, j < l.length → l2[j]? = some ((m + j : Nat) : Int)) ?_ ?_
  · obtain ⟨l2, h1, h2⟩ := key 0 (Nat.zero_le _) l rfl (fun j h => by omega)
    exact ⟨l2, h1, h2⟩
  · intro x hx hj
    refine ⟨x, ?_, hx, hj⟩
    refine Ev.step (fun k => by rw [laws_markInt64S.l0]) ?_
    exact ev_neg (by omega) (Ev.now _)
  · intro i hi ih x hx hj
    obtain ⟨l2, h1, h2⟩ := ih (x.set i ((m + i : Nat) : Int)) (by simp [hx]) (by
      intro j hj2
      by_cases e : j = i
      · subst e
        simp [hx, hi]
      · rw [List.getElem?_set_ne (by omega)]
        exact hj j (by omega))
    refine ⟨l2, ?_, h2⟩
    refine Ev.step (fun k => by rw [laws_markInt64S.l0]) ?_
    refine ev_pos (by omega) (ev_pos (by omega) ?_)
    have e1 : wrap64 (((m + i : Nat) : Int) + 1) = ((m + (i + 1) : Nat) : Int) := by rw [w64 (by omega) (by omega)]; omega
    rw [wsucc hi (by omega), e1, Int.toNat_natCast]
    exact h1

theorem eqBools (l : List Bool) (hl : l.length ≤ 100000000) : Ev (fun k => laws_eqBoolS.f k l l) true := by
  unfold laws_eqBoolS.f
  refine ev_pos rfl ?_
  refine idx_ind l (fun i => Ev (fun k => laws_eqBoolS.l0 k l l (i : Int)) true) ?_ ?_ 0 (Nat.zero_le _)
  · refine Ev.step (fun k => by rw [laws_eqBoolS.l0]) ?_
    exact ev_neg (by omega) (Ev.now _)
  · intro i hi ih
    refine Ev.step (fun k => by rw [laws_eqBoolS.l0]) ?_
    refine ev_pos (by omega) (ev_pos (by omega) (ev_pos (by omega) (ev_neg (by simp) ?_)))
    rw [wsucc hi (by omega)]
    exact ih
/-- The mark at a place of a list of answers. -/
def mkB (n : Nat) : Bool := (Int.tmod (n : Int) 3) == 0
theorem markBools (l : List Bool) (m : Nat) (hl : l.length ≤ 100000000) (hm : m ≤ 100000000) : ∃ l2 : List Bool, Ev (fun k => laws_markBoolS.f k l (m : Int)) (((m + l.length : Nat) : Int), l2) ∧ l2.length = l.length ∧ ∀ j, j < l.length → l2[j]? = some (mkB (m + j)) := by
  have key := idx_ind l (fun i => ∀ x : List Bool, x.length = l.length → (∀ j, j < i → x[j]? = some (mkB (m + j))) → ∃ l2 : List Bool, Ev (fun k => laws_markBoolS.l0 k x ((m + i : Nat) : Int) (i : Int)) (((m + l.length : Nat) : Int), l2) ∧ l2.length = l.length ∧ ∀ j, j < l.length → l2[j]? = some (mkB (m + j))) ?_ ?_
  · obtain ⟨l2, h1, h2⟩ := key 0 (Nat.zero_le _) l rfl (fun j h => by omega)
    exact ⟨l2, h1, h2⟩
  · intro x hx hj
    refine ⟨x, ?_, hx, hj⟩
    refine Ev.step (fun k => by rw [laws_markBoolS.l0]) ?_
    exact ev_neg (by omega) (Ev.now _)
  · intro i hi ih x hx hj
    obtain ⟨l2, h1, h2⟩ := ih (x.set i (mkB (m + i))) (by simp [hx]) (by
      intro j hj2
      by_cases e : j = i
      · subst e
        simp [hx, hi]
      · rw [List.getElem?_set_ne (by omega)]
        exact hj j (by omega))
    refine ⟨l2, ?_, h2⟩
    refine Ev.step (fun k => by rw [laws_markBoolS.l0]) ?_
    refine ev_pos (by omega) (ev_pos (by omega) ?_)
    have e1 : wrap64 (((m + i : Nat) : Int) + 1) = ((m + (i + 1) : Nat) : Int) := by rw [w64 (by omega) (by omega)]; omega
    rw [wsucc hi (by omega), e1, Int.toNat_natCast]
    exact h1
theorem heldBools (l : List Bool) (m : Nat) (hl : l.length ≤ 100000000) (hm : m ≤ 100000000) (h : ∀ j, j < l.length → l[j]? = some (mkB (m + j))) : Ev (fun k => laws_heldBoolS.f k l (m : Int)) ((m + l.length : Nat) : Int) := by
  have key := idx_ind l (fun i => Ev (fun k => laws_heldBoolS.l0 k l ((m + i : Nat) : Int) (i : Int)) ((m + l.length : Nat) : Int)) ?_ ?_ 0 (Nat.zero_le _)
  · exact key
  · refine Ev.step (fun k => by rw [laws_heldBoolS.l0]) ?_
    exact ev_neg (by omega) (Ev.now _)
  · intro i hi ih
    refine Ev.step (fun k => by rw [laws_heldBoolS.l0]) ?_
    have e1 : wrap64 (((m + i : Nat) : Int) + 1) = ((m + (i + 1) : Nat) : Int) := by rw [w64 (by omega) (by omega)]; omega
    have e2 : l[i] = mkB (m + i) := by have := h i hi; rw [List.getElem?_eq_getElem hi] at this; exact Option.some.inj this
    refine ev_pos (by omega) (ev_pos (by omega) (ev_neg ?_ ?_))
    · rw [rdOf_at _ _ _ hi, e2]; simp [mkB]
    · rw [wsucc hi (by omega), e1]
      exact ih

theorem specWin1 (ts : List Int) (w m : Int) (out : List Bool) (i : Nat) (hi : i < ts.length) (hl : ts.length ≤ 256) (hw : 1 ≤ w ∧ w ≤ 1000000) (hr : ∀ j (h : j < ts.length), 0 ≤ ts[j] ∧ ts[j] ≤ 1000000) (ho : out.length = i) (R : List Bool × Bool)
    (next : Ev (fun k => spec_RunWindow.l0 k ts w m (out ++ [decide ((cnt ts out (ts[i] - w) i : Int) < m)]) ((i + 1 : Nat) : Int)) R) :
    ∀ d j, j + d = i → Ev (fun k => spec_RunWindow.l1 k ts w m out (i : Int) (cnt ts out (ts[i] - w) j : Int) (j : Int)) R := by
  have hwr : wrap64 (ts[i] - w) = ts[i] - w := w64 (by have := hr i hi; omega) (by have := hr i hi; omega)
  intro d
  induction d with
  | zero =>
    intro j hj
    have : j = i := by omega
    subst this
    refine Ev.step (fun k => by rw [spec_RunWindow.l1]) ?_
    refine ev_neg (by omega) (ev_pos (by omega) ?_)
    rw [wsucc hi (by omega)]
    exact next
  | succ d ih =>
    intro j hj
    have hc := cnt_le ts out (ts[i] - w) j
    refine Ev.step (fun k => by rw [spec_RunWindow.l1]) ?_
    refine ev_pos (by omega) (ev_pos (by omega) (ev_pos (by omega) ?_))
    rw [rdOf_at false out j (by omega), wsucc (show j < i by omega) (by omega)]
    have nx := ih (j + 1) (by omega)
    have e1 : out.getD j false = out[j]'(by omega) := by simp [List.getD, show j < out.length by omega]
    have e2 : ts.getD j 0 = ts[j]'(by omega) := by simp [List.getD, show j < ts.length by omega]
    by_cases c : out[j]'(by omega) = true
    · refine ev_pos c (ev_pos (by omega) (ev_pos (by omega) (ev_pos (by omega) ?_)))
      rw [rd_at ts j (by omega), rd_at ts i hi, hwr]
      by_cases c2 : ts[j]'(by omega) > ts[i] - w
      · have e3 : cnt ts out (ts[i] - w) (j + 1) = cnt ts out (ts[i] - w) j + 1 := cnt_pos (by rw [e1]; exact c) (by rw [e2]; exact c2)
        rw [e3] at nx
        refine ev_pos c2 ?_
        rw [w64 (by omega) (by omega)]
        exact nx
      · have e3 : cnt ts out (ts[i] - w) (j + 1) = cnt ts out (ts[i] - w) j := cnt_neg (by rw [e2]; exact fun z => c2 z.2)
        rw [e3] at nx
        exact ev_neg c2 nx
    · have e3 : cnt ts out (ts[i] - w) (j + 1) = cnt ts out (ts[i] - w) j := cnt_neg (by rw [e1]; exact fun z => c z.1)
      rw [e3] at nx
      exact ev_neg c nx
theorem specWin0 (ts : List Int) (w m : Int) (hl : ts.length ≤ 256) (hw : 1 ≤ w ∧ w ≤ 1000000) (hr : ∀ j (h : j < ts.length), 0 ≤ ts[j] ∧ ts[j] ≤ 1000000) : ∀ i, i ≤ ts.length → Ev (fun k => spec_RunWindow.l0 k ts w m (winV ts w m i) (i : Int)) (winV ts w m ts.length, true) := by
  refine idx_ind ts _ ?_ ?_
  · refine Ev.step (fun k => by rw [spec_RunWindow.l0]) ?_
    exact ev_neg (by omega) (Ev.now _)
  · intro i hi ih
    refine Ev.step (fun k => by rw [spec_RunWindow.l0]) ?_
    refine ev_pos (by omega) ?_
    refine specWin1 ts w m (winV ts w m i) i hi hl hw hr (winV_len _ _ _ _) _ ?_ i 0 (by omega)
    have e : ts.getD i 0 = ts[i] := by simp [List.getD, hi]
    simp only [winV, e] at ih
    exact ih
theorem specWin (ts : List Int) (w m : Int) (hl : ts.length ≤ 9223372036854775807) : Ev (fun k => spec_RunWindow.f k ts w m) (winAns ts w m) := by
  unfold spec_RunWindow.f
  have no : ¬ ((tOk 0 ts && decide (ts.length ≤ 256)) = true ∧ (1 ≤ w ∧ w ≤ 1000000) ∧ (1 ≤ m ∧ m ≤ 256)) → Ev (fun k => spec_RunWindow.j0 k ts w m true) (winAns ts w m) := by
    intro h
    refine Ev.step (fun k => by rw [spec_RunWindow.j0]) ?_
    refine ev_pos rfl (ev_some ?_)
    unfold winAns
    rw [if_neg h]
  refine Ev.bind (specTimes ts 0 hl) ?_
  by_cases h1 : (tOk 0 ts && decide (ts.length ≤ 256)) = true
  · refine ev_pos h1 (ev_b (specIn _ _ _) ?_)
    by_cases h2 : 1 ≤ w ∧ w ≤ 1000000
    · refine ev_pos (by simpa using h2) (ev_b (specIn _ _ _) ?_)
      by_cases h3 : 1 ≤ m ∧ m ≤ 256
      · rw [show (!decide (1 ≤ m ∧ m ≤ 256)) = false by simpa using h3]
        have h' := h1
        simp only [Bool.and_eq_true, decide_eq_true_eq] at h'
        refine Ev.step (fun k => by rw [spec_RunWindow.j0]) ?_
        refine ev_neg (by simp) ?_
        refine ev_eq (specWin0 ts w m h'.2 h2 (fun j hj => tOk_range (Int.le_refl 0) h'.1 j hj) 0 (Nat.zero_le _)) ?_
        unfold winAns
        rw [if_pos ⟨h1, h2, h3⟩]
      · rw [show (!decide (1 ≤ m ∧ m ≤ 256)) = true by rw [decide_eq_false h3]; rfl]
        exact no fun z => h3 z.2.2
    · exact ev_neg (by simpa using h2) (no fun z => h2 z.2.1)
  · exact ev_neg h1 (no fun z => h1 z.1)
theorem FnExactRunWindow : laws_FnExactRunWindow.Pure := by
  intro ts w m hml _ _ _ _
  refine Ev.rounds ?_
  have hm : ts.length ≤ 9223372036854775807 := by unfold maxLen at hml; omega
  unfold laws_FnExactRunWindow.f
  by_cases h : (ts.length : Int) > 1048576
  · exact ev_pos h (Ev.now _)
  · have hl : ts.length ≤ 100000000 := by omega
    have hr : (winAns ts w m).1.length ≤ 100000000 := by
      unfold winAns
      split
      · simpa [winV_len] using hl
      · simp
    refine ev_neg h (Ev.bind (toInts ts hl) (Ev.bind (specWin ts w m hm) (Ev.bind (toInts ts hl) (Ev.bind (implWin ts w m hm) (Ev.bind (eqBools _ hr) (ev_pos rfl ?_))))))
    refine Ev.step (fun k => by rw [laws_FnExactRunWindow.j0]) ?_
    refine ev_neg (by simp) (Ev.bind (toInts ts hl) (Ev.bind (eqInts ts hl) (ev_pos rfl ?_)))
    obtain ⟨x2, m1, m2, m3⟩ := markInts ts 1 hl (by omega)
    refine Ev.bind m1 (ev_neg (by simp only; omega) (Ev.bind (eqBools _ hr) (ev_pos rfl ?_)))
    refine Ev.step (fun k => by rw [laws_FnExactRunWindow.j1]) ?_
    refine ev_neg (by simp) ?_
    obtain ⟨g2, n1, n2, n3⟩ := markBools (winAns ts w m).1 1 hr (by omega)
    have held := heldBools g2 1 (by omega) (by omega) (fun j hj => n3 j (by omega))
    rw [n2] at held
    refine Ev.bind n1 (Ev.bind held (ev_neg (by omega) (ev_pos rfl (Ev.bind (toInts ts hl) (Ev.bind (implWin ts w m hm) (Ev.bind (eqBools _ hr) (ev_pos rfl ?_)))))))
    refine Ev.step (fun k => by rw [laws_FnExactRunWindow.j2]) ?_
    exact ev_neg (by simp) (Ev.bind held (ev_neg (by omega) (ev_pos rfl (Ev.now _))))

end Go.Proofs.Ytjfaepolmllejaa.Pure
