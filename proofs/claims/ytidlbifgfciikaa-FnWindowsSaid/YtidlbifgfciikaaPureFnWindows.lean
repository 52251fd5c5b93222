/- Windows: a window lets through at most as many as told in each of its spans, and refuses one only if as many have been let through; for every pair of byte strings. -/
import Derived.Test.YtidlbifgfciikaaQFnWindowsx2
import Derived.Laws.BitsLemmas
namespace Go.Proofs.Ytidlbifgfciikaa.Pure
open Go.RowKit Go.Proofs.Ytidlbifgfciikaa.QFnWindows Go.Proofs.YtidlbifgfciikaaW.PrintWords Go.Proofs.YtidlbifgfciikaaW.PrintLast Go.Proofs.YtidlbifgfciikaaW.PrintMore
set_option linter.unusedVariables false

theorem w64 {n : Int} (h1 : -9223372036854775808 ≤ n) (h2 : n ≤ 9223372036854775807) : wrap64 n = n := by
  unfold wrap64
  omega
theorem wf64 {n : Int} (h : (Lit.int .i64 n).wf = true) : -9223372036854775808 ≤ n ∧ n ≤ 9223372036854775807 := by
  simp [Lit.wf, IntKind.min, IntKind.max, IntKind.signed, IntKind.bits] at h
  omega

theorem ev_pos {α : Type} {c : Prop} [Decidable c] {g f : Nat → Option α} {r : α} (h : c) (e : Ev g r) : Ev (fun k => if c then g k else f k) r := Ev.congr (fun _ => if_pos h) e
theorem ev_neg {α : Type} {c : Prop} [Decidable c] {g f : Nat → Option α} {r : α} (h : ¬ c) (e : Ev f r) : Ev (fun k => if c then g k else f k) r := Ev.congr (fun _ => if_neg h) e
theorem ev_b {α β : Type} {o : Option α} {a : α} {f : Nat → α → Option β} {r : β} (h : o = some a) (e : Ev (fun k => f k a) r) : Ev (fun k => o.bind (f k)) r := by subst h; exact e
theorem ev_eq {α : Type} {g : Nat → Option α} {r q : α} (e : Ev g r) (h : r = q) : Ev g q := h ▸ e
theorem ev_some {α : Type} {r q : α} (h : r = q) : Ev (fun _ => some r) q := h ▸ Ev.now r
/-- Down from a list's end. -/
theorem idx_ind {α : Type} (l : List α) (P : Nat → Prop) (hend : P l.length) (hstep : ∀ i, i < l.length → P (i + 1) → P i) : ∀ i, i ≤ l.length → P i := by
  have key : ∀ d i, i + d = l.length → P i := by
    intro d
    induction d with
    | zero => intro i h; have : i = l.length := by omega
              rw [this]; exact hend
    | succ d ih => intro i h; exact hstep i (by omega) (ih (i + 1) (by omega))
  intro i h
  exact key (l.length - i) i (by omega)
theorem rd_at (l : List Int) (i : Nat) (h : i < l.length) : rd l (i : Int) = l[i] := by
  simp [rd, List.getD, h]
theorem rdOf_at {α : Type} (d : α) (l : List α) (i : Nat) (h : i < l.length) : rdOf d l (i : Int) = l[i] := by
  simp [rdOf, List.getD, h]
theorem drop_at {α : Type} (l : List α) (i : Nat) (h : i < l.length) : l.drop i = l[i] :: l.drop (i + 1) := List.drop_eq_getElem_cons h
theorem wsucc {i n : Nat} (h : i < n) (hn : n ≤ 9223372036854775807) : wrap64 ((i : Int) + 1) = ((i + 1 : Nat) : Int) := by
  rw [w64 (by omega) (by omega)]; rfl

theorem implIn (a b c : Int) : impl_in.f a b c = some (decide (b ≤ a ∧ a ≤ c)) := by
  unfold impl_in.f
  by_cases h : a ≥ b
  · rw [if_pos h]; simp [h]
  · rw [if_neg h]; simp; intro h2; omega
theorem implTick (a : Int) : impl_isTick.f a = some (decide (0 ≤ a ∧ a ≤ 1000000)) := by
  unfold impl_isTick.f
  rw [implIn]; rfl

/-- Ticks from one on, none less than the one before. -/
def tOk (p : Int) : List Int → Bool
  | [] => true
  | x :: r => decide (p ≤ x ∧ x ≤ 1000000) && tOk x r
theorem implCalls (l : List Int) (hl : l.length ≤ 9223372036854775807) : Ev (fun k => impl_callsOk.f k l) (tOk 0 l && decide (l.length ≤ 256)) := by
  have key := idx_ind l (fun i => ∀ p : Int, 0 ≤ p → (i = 0 → p = 0) → (∀ h : 0 < i, i ≤ l.length → (l[i - 1]?).getD 0 = p) → Ev (fun k => impl_callsOk.l0 k l l (l.length : Int) (i : Int)) (tOk p (l.drop i) && decide (l.length ≤ 256))) ?_ ?_
  · exact key 0 (Nat.zero_le _) 0 (by omega) (fun _ => rfl) (fun h => by omega)
  · intro p _ _ _
    refine Ev.step (fun k => by rw [impl_callsOk.l0]) ?_
    refine ev_neg (by omega) (ev_some ?_)
    simp [tOk]
    omega
  · intro i hi ih p hp h0 hprev
    refine Ev.step (fun k => by rw [impl_callsOk.l0]) ?_
    refine ev_pos (by omega) (ev_pos (by omega) (ev_pos (by omega) (ev_b (implTick _) ?_)))
    rw [rd_at l i hi, drop_at l i hi, wsucc hi hl]
    by_cases ht : 0 ≤ l[i] ∧ l[i] ≤ 1000000
    · refine ev_pos (by simpa using ht) ?_
      have next := ih l[i] ht.1 (fun h => by omega) (fun _ _ => by simp [hi])
      by_cases h1 : 0 < i
      · have e1 : wrap64 ((i : Int) - 1) = ((i - 1 : Nat) : Int) := by rw [w64 (by omega) (by omega)]; omega
        have e2 : rd l ((i - 1 : Nat) : Int) = p := by
          have := hprev h1 (by omega)
          rw [rd_at l (i - 1) (by omega)]
          simpa [show i - 1 < l.length by omega] using this
        rw [e1, e2]
        refine ev_pos (by omega) (ev_pos (by omega) (ev_pos (by omega) ?_))
        by_cases hp2 : p > l[i]
        · refine ev_pos hp2 (ev_some ?_)
          simp [tOk]; omega
        · refine ev_neg hp2 (ev_eq next ?_)
          have : p ≤ l[i] ∧ l[i] ≤ 1000000 := ⟨by omega, ht.2⟩
          simp [tOk, this]
      · have : i = 0 := by omega
        refine ev_neg (by omega) (ev_eq next ?_)
        have hp0 := h0 this
        have : p ≤ l[i] ∧ l[i] ≤ 1000000 := ⟨by omega, ht.2⟩
        simp [tOk, this]
    · refine ev_neg (by simpa using ht) (ev_some ?_)
      have : ¬ (p ≤ l[i] ∧ l[i] ≤ 1000000) := by omega
      simp [tOk, this]
theorem tOk_mono {a x : Int} {l : List Int} (h : a ≤ x) (h0 : 0 ≤ a) (ht : tOk x l = true) : tOk a l = true := by
  cases l with
  | nil => rfl
  | cons y r =>
    simp only [tOk, Bool.and_eq_true, decide_eq_true_eq] at ht ⊢
    exact ⟨⟨by omega, ht.1.2⟩, ht.2⟩
theorem tOk_at (a : Int) (h : 0 ≤ a) (l : List Int) : tOk a l = (tOk 0 l && decide (∀ x, l.head? = some x → a ≤ x)) := by
  cases l with
  | nil => simp [tOk]
  | cons x r =>
    simp only [tOk, List.head?_cons, Option.some.injEq, forall_eq']
    by_cases h1 : a ≤ x
    · have : 0 ≤ x := by omega
      simp [h1, this]
    · simp [h1]

theorem u64_range (n : Int) : 0 ≤ IntKind.u64.wrap n ∧ IntKind.u64.wrap n < 18446744073709551616 := by
  simp only [IntKind.wrap, IntKind.bits, IntKind.signed]
  constructor
  · exact Int.emod_nonneg _ (by decide)
  · exact Int.emod_lt_of_pos _ (by decide)
theorem u64_small (n : Int) (h0 : 0 ≤ n) (h1 : n < 2 ^ 24) : IntKind.u64.wrap n = n := by
  simp only [IntKind.wrap, IntKind.bits, IntKind.signed]
  have h1' : n < 16777216 := h1
  show n % 18446744073709551616 = n
  omega
/-- A byte that is drawn lies between 0 and 255. -/
theorem and255 (n : Int) : 0 ≤ Go.bits .and .u64 (IntKind.u64.wrap n / 1099511627776) 255 ∧ Go.bits .and .u64 (IntKind.u64.wrap n / 1099511627776) 255 ≤ 255 := by
  have h := u64_range n
  have e := bits_mask .u64 24 (by decide) u64_small 8 (by decide) (IntKind.u64.wrap n / 1099511627776) (by omega) (by show _ < (16777216 : Int); omega)
  have e2 : Go.bits .and .u64 (IntKind.u64.wrap n / 1099511627776) 255 = IntKind.u64.wrap n / 1099511627776 % 256 := e
  rw [e2]
  omega
def U8s (l : List Int) : Prop := ∀ x ∈ l, (Lit.int .u8 x).wf = true
theorem u8_rd {l : List Int} (h : U8s l) (i : Int) : 0 ≤ rd l i ∧ rd l i ≤ 255 := by
  unfold rd
  rcases Nat.lt_or_ge i.toNat l.length with hi | hi
  · have := h l[i.toNat] (List.getElem_mem hi)
    simp [Lit.wf, IntKind.min, IntKind.max, IntKind.signed, IntKind.bits] at this
    simp [List.getD, hi]
    omega
  · simp [List.getD, hi]
theorem nextOk {l : List Int} (h : U8s l) (i s : Int) (h0 : 0 ≤ i) (h1 : i ≤ 1000000000) : ∃ v s', spec_l00Src_next.f l i s = some (v, i + 1, s') ∧ 0 ≤ v ∧ v ≤ 255 := by
  have hr := u8_rd h i
  have e1 : wrap64 (i + 1) = i + 1 := w64 (by omega) (by omega)
  have e2 : wrap64 (rd l i) = rd l i := w64 (by omega) (by omega)
  unfold spec_l00Src_next.f
  rw [e1, e2]
  have big : ∀ n : Int, wrap64 (Go.bits .and .u64 (IntKind.u64.wrap n / 1099511627776) 255) = Go.bits .and .u64 (IntKind.u64.wrap n / 1099511627776) 255 := fun n => w64 (by have := and255 n; omega) (by have := and255 n; omega)
  by_cases c1 : i < (l.length : Int)
  · rw [if_pos c1, if_pos h0]
    by_cases c2 : i + 1 ≤ (l.length : Int)
    · rw [if_pos c2]; exact ⟨_, _, rfl, hr.1, hr.2⟩
    · rw [if_neg c2, big]; exact ⟨_, _, rfl, (and255 _).1, (and255 _).2⟩
  · rw [if_neg c1]
    by_cases c2 : i + 1 ≤ (l.length : Int)
    · rw [if_pos c2]; exact ⟨_, _, rfl, by omega, by omega⟩
    · rw [if_neg c2, big]; exact ⟨_, _, rfl, (and255 _).1, (and255 _).2⟩
theorem pickOk {l : List Int} (h : U8s l) (i s n : Int) (h0 : 0 ≤ i) (h1 : i ≤ 900000000) : ∃ v i' s', spec_l00Src_pick.f l i s n = some (v, i', s') ∧ 0 ≤ v ∧ (1 ≤ n → v < n) ∧ (n ≤ 1 → v = 0) ∧ i ≤ i' ∧ i' ≤ i + 2 := by
  unfold spec_l00Src_pick.f
  by_cases c : n ≤ 1
  · rw [if_pos c]; exact ⟨_, _, _, rfl, by omega, by omega, by omega, by omega, by omega⟩
  · rw [if_neg c]
    obtain ⟨v, s', e, v0, v1⟩ := nextOk h i s h0 (by omega)
    rw [e]
    simp only [Option.bind_some]
    by_cases c2 : n > 200
    · rw [if_pos c2]
      obtain ⟨v2, s2, e2, w0, w1⟩ := nextOk h (i + 1) s' (by omega) (by omega)
      rw [e2]
      simp only [Option.bind_some]
      rw [if_neg (by omega), w64 (n := v * 256) (by omega) (by omega), w64 (by omega) (by omega), Int.tmod_eq_emod_of_nonneg (by omega)]
      exact ⟨_, _, _, rfl, Int.emod_nonneg _ (by omega), fun _ => Int.emod_lt_of_pos _ (by omega), by omega, by omega, by omega⟩
    · rw [if_neg c2, if_neg (by omega), Int.tmod_eq_emod_of_nonneg (by omega)]
      exact ⟨_, _, _, rfl, Int.emod_nonneg _ (by omega), fun _ => Int.emod_lt_of_pos _ (by omega), by omega, by omega, by omega⟩

theorem r8At {l : List Int} (h : U8s l) (i n : Int) (h0 : 0 ≤ i) : ∃ v, laws_r8At.f l i n = some v ∧ 0 ≤ v ∧ (1 ≤ n → v < n) := by
  unfold laws_r8At.f
  by_cases c : n ≤ 1
  · rw [if_pos c]; exact ⟨0, rfl, by omega, by omega⟩
  · rw [if_neg c]
    by_cases c1 : i ≥ (l.length : Int)
    · rw [if_pos c1]; exact ⟨0, rfl, by omega, by omega⟩
    · have hr := u8_rd h i
      rw [if_neg c1, if_pos h0, if_pos (by omega), if_neg (by omega), w64 (by omega) (by omega), Int.tmod_eq_emod_of_nonneg (by omega)]
      exact ⟨_, rfl, Int.emod_nonneg _ (by omega), fun _ => Int.emod_lt_of_pos _ (by omega)⟩

theorem drawTimes0 {l : List Int} (h : U8s l) : ∀ (n : Nat) (x : Int) (out : List Int) (i s : Int), n ≤ 13 → out.length + n ≤ 13 → 0 ≤ i → i ≤ 1000 + 2 * (13 - n) → 0 ≤ x → x + 7 * n ≤ 1000000 →
    ∃ r, Ev (fun k => spec_R8Times.l0 k x out (n : Int) l i s) (out ++ r) ∧ tOk x r = true ∧ r.length = n := by
  intro n
  induction n with
  | zero =>
    intro x out i s _ _ _ _ _ _
    refine ⟨[], ?_, rfl, rfl⟩
    refine Ev.step (fun k => by rw [spec_R8Times.l0]) ?_
    exact ev_neg (by omega) (ev_some (by simp))
  | succ n ih =>
    intro x out i s hn ho hi0 hi hx hx2
    obtain ⟨v, i', s', e, v0, v1, _, g1, g2⟩ := pickOk h i s 8 hi0 (by omega)
    have w1 : wrap64 (x + v) = x + v := w64 (by omega) (by omega)
    have w2 : wrap64 (((n + 1 : Nat) : Int) - 1) = (n : Int) := by rw [w64 (by omega) (by omega)]; omega
    obtain ⟨r, hr, ht, hl⟩ := ih (x + v) (out ++ [x + v]) i' s' (by omega) (by simp; omega) (by omega) (by omega) (by omega) (by omega)
    refine ⟨(x + v) :: r, ?_, ?_, by simp [hl]⟩
    · refine Ev.step (fun k => by rw [spec_R8Times.l0]) ?_
      refine ev_pos (by omega) (ev_b e (ev_pos (by omega) ?_))
      simp only [w1, w2]
      refine ev_eq hr (by simp)
    · simp only [tOk, ht, Bool.and_true, decide_eq_true_eq]
      omega
theorem drawTimes {l : List Int} (h : U8s l) (x : Int) (hx : 0 ≤ x) (hx2 : x ≤ 1000) : ∃ r, Ev (fun k => spec_R8Times.f k l x) r ∧ tOk x r = true ∧ r.length ≤ 13 := by
  unfold spec_R8Times.f spec_l00From.f
  obtain ⟨v, i', s', e, v0, v1, _, g1, g2⟩ := pickOk h 0 0 14 (by omega) (by omega)
  obtain ⟨n, rfl⟩ := Int.eq_ofNat_of_zero_le v0
  obtain ⟨r, hr, ht, hl⟩ := drawTimes0 h n x [] i' s' (by omega) (by simp; omega) (by omega) (by omega) hx (by omega)
  refine ⟨r, ?_, ht, by omega⟩
  refine ev_b rfl (ev_b e ?_)
  simpa using hr

theorem implOne (b : Bool) : impl_oneIf.f b = some (if b then 1 else 0) := by cases b <;> rfl
/-- How many of the first n were let through above a bound. -/
def cnt (ts : List Int) (out : List Bool) (thr : Int) : Nat → Nat
  | 0 => 0
  | i + 1 => cnt ts out thr i + if (out.getD i false && decide (ts.getD i 0 > thr)) = true then 1 else 0
theorem cnt_le (ts : List Int) (out : List Bool) (thr : Int) : ∀ n, cnt ts out thr n ≤ n
  | 0 => Nat.le_refl _
  | n + 1 => by
    have := cnt_le ts out thr n
    simp only [cnt]
    split <;> omega
theorem cnt_pos {ts : List Int} {out : List Bool} {thr : Int} {j : Nat} (h1 : out.getD j false = true) (h2 : ts.getD j 0 > thr) : cnt ts out thr (j + 1) = cnt ts out thr j + 1 := by
  show cnt ts out thr j + (if (out.getD j false && decide (ts.getD j 0 > thr)) = true then 1 else 0) = _
  rw [if_pos (by rw [h1, Bool.true_and]; exact decide_eq_true h2)]
theorem cnt_neg {ts : List Int} {out : List Bool} {thr : Int} {j : Nat} (h : ¬ (out.getD j false = true ∧ ts.getD j 0 > thr)) : cnt ts out thr (j + 1) = cnt ts out thr j := by
  show cnt ts out thr j + (if (out.getD j false && decide (ts.getD j 0 > thr)) = true then 1 else 0) = _
  rw [if_neg (by rw [Bool.and_eq_true, decide_eq_true_eq]; exact h)]
  rfl
/-- What a window answers for the first n. -/
def winV (ts : List Int) (w m : Int) : Nat → List Bool
  | 0 => []
  | i + 1 => winV ts w m i ++ [decide ((cnt ts (winV ts w m i) (ts.getD i 0 - w) i : Int) < m)]
theorem winV_len (ts : List Int) (w m : Int) : ∀ n, (winV ts w m n).length = n
  | 0 => rfl
  | n + 1 => by simp [winV, winV_len ts w m n]
theorem tOk_range {l : List Int} : ∀ {p : Int}, 0 ≤ p → tOk p l = true → ∀ i (h : i < l.length), p ≤ l[i] ∧ l[i] ≤ 1000000 := by
  induction l with
  | nil => intro p _ _ i h; simp at h
  | cons x r ih =>
    intro p hp ht i h
    simp only [tOk, Bool.and_eq_true, decide_eq_true_eq] at ht
    cases i with
    | zero => simpa using ht.1
    | succ i =>
      have := ih (by omega) ht.2 i (by simpa using h)
      simp only [List.getElem_cons_succ]
      omega
theorem implWin1 (ts : List Int) (w m : Int) (out : List Bool) (i : Nat) (hi : i < ts.length) (hl : ts.length ≤ 256) (hw : 1 ≤ w ∧ w ≤ 1000000) (hr : ∀ j (h : j < ts.length), 0 ≤ ts[j] ∧ ts[j] ≤ 1000000) (ho : out.length = i) (R : List Bool × Bool)
    (next : Ev (fun k => impl_RunWindow.l0 k ts w m (out ++ [decide ((cnt ts out (ts[i] - w) i : Int) < m)]) ts (ts.length : Int) ((i + 1 : Nat) : Int)) R) :
    ∀ d j, j + d = i → Ev (fun k => impl_RunWindow.l1 k ts w m out ts[i] (cnt ts out (ts[i] - w) j : Int) ts (ts.length : Int) (i : Int) (i : Int) (j : Int)) R := by
  have hwr : wrap64 (ts[i] - w) = ts[i] - w := w64 (by have := hr i hi; omega) (by have := hr i hi; omega)
  intro d
  induction d with
  | zero =>
    intro j hj
    have : j = i := by omega
    subst this
    refine Ev.step (fun k => by rw [impl_RunWindow.l1]) ?_
    refine ev_neg (by omega) (ev_pos (by omega) ?_)
    rw [wsucc hi (by omega)]
    exact next
  | succ d ih =>
    intro j hj
    have hc := cnt_le ts out (ts[i] - w) j
    refine Ev.step (fun k => by rw [impl_RunWindow.l1]) ?_
    refine ev_pos (by omega) (ev_pos (by omega) (ev_pos (by omega) ?_))
    rw [rdOf_at false out j (by omega), hwr, wsucc (show j < i by omega) (by omega)]
    have nx := ih (j + 1) (by omega)
    have e1 : out.getD j false = out[j]'(by omega) := by simp [List.getD, show j < out.length by omega]
    have e2 : ts.getD j 0 = ts[j]'(by omega) := by simp [List.getD, show j < ts.length by omega]
    by_cases c : out[j]'(by omega) = true
    · refine ev_pos c (ev_pos (by omega) ?_)
      rw [rd_at ts j (by omega)]
      refine ev_b (implOne _) ?_
      by_cases c2 : ts[j]'(by omega) > ts[i] - w
      · have e3 : cnt ts out (ts[i] - w) (j + 1) = cnt ts out (ts[i] - w) j + 1 := cnt_pos (by rw [e1]; exact c) (by rw [e2]; exact c2)
        rw [e3] at nx
        simp only [c2, decide_true, if_true]
        rw [w64 (by omega) (by omega)]
        exact nx
      · have e3 : cnt ts out (ts[i] - w) (j + 1) = cnt ts out (ts[i] - w) j := cnt_neg (by rw [e2]; exact fun z => c2 z.2)
        rw [e3] at nx
        simp only [c2, decide_false, Bool.false_eq_true, if_false]
        rw [w64 (by omega) (by omega), Int.add_zero]
        exact nx
    · refine ev_neg c (ev_b (implOne _) ?_)
      have e3 : cnt ts out (ts[i] - w) (j + 1) = cnt ts out (ts[i] - w) j := cnt_neg (by rw [e1]; exact fun z => c z.1)
      rw [e3] at nx
      simp only [Bool.false_eq_true, if_false]
      rw [w64 (by omega) (by omega), Int.add_zero]
      exact nx
theorem implWin0 (ts : List Int) (w m : Int) (hl : ts.length ≤ 256) (hw : 1 ≤ w ∧ w ≤ 1000000) (hr : ∀ j (h : j < ts.length), 0 ≤ ts[j] ∧ ts[j] ≤ 1000000) : ∀ i, i ≤ ts.length → Ev (fun k => impl_RunWindow.l0 k ts w m (winV ts w m i) ts (ts.length : Int) (i : Int)) (winV ts w m ts.length, true) := by
  refine idx_ind ts _ ?_ ?_
  · refine Ev.step (fun k => by rw [impl_RunWindow.l0]) ?_
    exact ev_neg (by omega) (Ev.now _)
  · intro i hi ih
    refine Ev.step (fun k => by rw [impl_RunWindow.l0]) ?_
    rw [rd_at ts i hi]
    refine ev_pos (by omega) (ev_pos (by omega) (ev_pos (by omega) ?_))
    refine implWin1 ts w m (winV ts w m i) i hi hl hw hr (winV_len _ _ _ _) _ ?_ i 0 (by omega)
    have e : ts.getD i 0 = ts[i] := by simp [List.getD, hi]
    simp only [winV, e] at ih
    exact ih
/-- What a window answers. -/
def winAns (ts : List Int) (w m : Int) : List Bool × Bool := if (tOk 0 ts && decide (ts.length ≤ 256)) = true ∧ (1 ≤ w ∧ w ≤ 1000000) ∧ (1 ≤ m ∧ m ≤ 256) then (winV ts w m ts.length, true) else ([], false)
theorem implWin (ts : List Int) (w m : Int) (hl : ts.length ≤ 9223372036854775807) : Ev (fun k => impl_RunWindow.f k ts w m) (winAns ts w m) := by
  unfold impl_RunWindow.f
  have no : ¬ ((tOk 0 ts && decide (ts.length ≤ 256)) = true ∧ (1 ≤ w ∧ w ≤ 1000000) ∧ (1 ≤ m ∧ m ≤ 256)) → Ev (fun k => impl_RunWindow.j0 k ts w m true) (winAns ts w m) := by
    intro h
    refine Ev.step (fun k => by rw [impl_RunWindow.j0]) ?_
    refine ev_pos rfl (ev_some ?_)
    unfold winAns
    rw [if_neg h]
  refine Ev.bind (implCalls ts hl) ?_
  by_cases h1 : (tOk 0 ts && decide (ts.length ≤ 256)) = true
  · refine ev_pos h1 (ev_b (implIn _ _ _) ?_)
    by_cases h2 : 1 ≤ w ∧ w ≤ 1000000
    · refine ev_pos (by simpa using h2) (ev_b (implIn _ _ _) ?_)
      by_cases h3 : 1 ≤ m ∧ m ≤ 256
      · rw [show (!decide (1 ≤ m ∧ m ≤ 256)) = false by simpa using h3]
        have h' := h1
        simp only [Bool.and_eq_true, decide_eq_true_eq] at h'
        refine Ev.step (fun k => by rw [impl_RunWindow.j0]) ?_
        refine ev_neg (by simp) ?_
        refine ev_eq (implWin0 ts w m h'.2 h2 (fun j hj => tOk_range (Int.le_refl 0) h'.1 j hj) 0 (Nat.zero_le _)) ?_
        unfold winAns
        rw [if_pos ⟨h1, h2, h3⟩]
      · rw [show (!decide (1 ≤ m ∧ m ≤ 256)) = true by rw [decide_eq_false h3]; rfl]
        exact no fun z => h3 z.2.2
    · exact ev_neg (by simpa using h2) (no fun z => h2 z.2.1)
  · exact ev_neg h1 (no fun z => h1 z.1)

theorem cnt_anti (ts : List Int) (out : List Bool) {a b : Int} (h : a ≤ b) : ∀ n, cnt ts out b n ≤ cnt ts out a n
  | 0 => Nat.le_refl _
  | n + 1 => by
    have := cnt_anti ts out h n
    simp only [cnt]
    by_cases c : (out.getD n false && decide (ts.getD n 0 > b)) = true
    · have c2 : (out.getD n false && decide (ts.getD n 0 > a)) = true := by
        simp only [Bool.and_eq_true, decide_eq_true_eq] at c ⊢
        exact ⟨c.1, by omega⟩
      rw [if_pos c, if_pos c2]; omega
    · rw [if_neg c]; omega
theorem cnt_app (ts : List Int) (out : List Bool) (b : Bool) (thr : Int) : ∀ n, n ≤ out.length → cnt ts (out ++ [b]) thr n = cnt ts out thr n
  | 0, _ => rfl
  | n + 1, h => by
    have e : (out ++ [b]).getD n false = out.getD n false := by simp [List.getD, List.getElem?_append_left (show n < out.length by omega)]
    simp only [cnt, cnt_app ts out b thr n (by omega), e]
theorem cnt_win (ts : List Int) (w m thr : Int) (n : Nat) : ∀ d, cnt ts (winV ts w m (n + d)) thr n = cnt ts (winV ts w m n) thr n
  | 0 => rfl
  | d + 1 => by
    show cnt ts (winV ts w m (n + d + 1)) thr n = _
    rw [winV, cnt_app _ _ _ _ _ (by rw [winV_len]; omega), cnt_win ts w m thr n d]
theorem win_at (ts : List Int) (w m : Int) (n : Nat) : ∀ d, (winV ts w m (n + 1 + d)).getD n false = decide ((cnt ts (winV ts w m n) (ts.getD n 0 - w) n : Int) < m)
  | 0 => by simp [winV, List.getD, winV_len]
  | d + 1 => by
    show (winV ts w m (n + 1 + d + 1)).getD n false = _
    rw [← win_at ts w m n d, winV]
    simp [List.getD, List.getElem?_append_left (show n < (winV ts w m (n + 1 + d)).length by rw [winV_len]; omega)]
/-- Of a sorted list: each is at least the one before. -/
theorem tOk_step {l : List Int} : ∀ {p : Int}, tOk p l = true → ∀ i (h : i + 1 < l.length), l[i] ≤ l[i + 1] := by
  induction l with
  | nil => intro p _ i h; simp at h
  | cons x r ih =>
    intro p ht i h
    simp only [tOk, Bool.and_eq_true, decide_eq_true_eq] at ht
    cases i with
    | zero =>
      cases r with
      | nil => simp at h
      | cons y q =>
        have := ht.2
        simp only [tOk, Bool.and_eq_true, decide_eq_true_eq] at this
        simpa using this.1.1
    | succ i => simpa using ih ht.2 i (by simpa using h)
theorem win_most (ts : List Int) (w m : Int) (hm : 1 ≤ m) (ht : tOk 0 ts = true) : ∀ n thr, n ≤ ts.length → (∀ h : 0 < n, ts.getD (n - 1) 0 - w ≤ thr) → (cnt ts (winV ts w m n) thr n : Int) ≤ m
  | 0, thr, _, _ => by simp [cnt]; omega
  | n + 1, thr, hn, hthr => by
    have h1 : ts.getD n 0 - w ≤ thr := hthr (by omega)
    have e : cnt ts (winV ts w m (n + 1)) thr n = cnt ts (winV ts w m n) thr n := cnt_win ts w m thr n 1
    have mono := cnt_anti ts (winV ts w m n) h1 n
    have ih := win_most ts w m hm ht n thr (by omega) (fun h => by
      have st := tOk_step ht (n - 1) (by omega)
      have e1 : ts.getD (n - 1) 0 = ts[n - 1]'(by omega) := by simp [List.getD, show n - 1 < ts.length by omega]
      have e2 : ts.getD n 0 = ts[n - 1 + 1]'(by omega) := by simp [List.getD, show n - 1 + 1 = n by omega, show n < ts.length by omega]
      rw [e2] at h1
      rw [e1]
      omega)
    simp only [cnt, e]
    have wa := win_at ts w m n 0
    by_cases c : ((winV ts w m (n + 1)).getD n false && decide (ts.getD n 0 > thr)) = true
    · rw [if_pos c]
      simp only [Bool.and_eq_true] at c
      have c1 := c.1
      rw [show n + 1 = n + 1 + 0 from rfl, wa] at c1
      simp only [decide_eq_true_eq] at c1
      omega
    · rw [if_neg c]
      omega
theorem lawWin (ts : List Int) (w m : Int) (hl : ts.length ≤ 256) (hw : 1 ≤ w ∧ w ≤ 1000000) (hm : 1 ≤ m ∧ m ≤ 256) (ht : tOk 0 ts = true) : ∀ i, i ≤ ts.length → Ev (fun k => laws_FnWindows.l0 k ts w m (winV ts w m ts.length) (i : Int)) true := by
  have hr := fun j (hj : j < ts.length) => tOk_range (Int.le_refl 0) ht j hj
  have vl := winV_len ts w m ts.length
  refine idx_ind ts _ ?_ ?_
  · refine Ev.step (fun k => by rw [laws_FnWindows.l0]) ?_
    exact ev_neg (by omega) (Ev.now _)
  · intro i hi ih
    refine Ev.step (fun k => by rw [laws_FnWindows.l0]) ?_
    refine ev_pos (by omega) ?_
    have hri := hr i hi
    have hwr : wrap64 (ts[i] - w) = ts[i] - w := w64 (by omega) (by omega)
    have ei : ts.getD i 0 = ts[i] := by simp [List.getD, hi]
    have key : ∀ d j, j + d = i → Ev (fun k => laws_FnWindows.l1 k ts w m (winV ts w m ts.length) (i : Int) (cnt ts (winV ts w m ts.length) (ts[i] - w) j : Int) (j : Int)) true := by
      intro d
      induction d with
      | zero =>
        intro j hj
        have : j = i := by omega
        subst this
        have pre : cnt ts (winV ts w m ts.length) (ts[j] - w) j = cnt ts (winV ts w m j) (ts[j] - w) j := by
          have := cnt_win ts w m (ts[j] - w) j (ts.length - j)
          rwa [show j + (ts.length - j) = ts.length by omega] at this
        have at_ : (winV ts w m ts.length)[j]'(by omega) = decide ((cnt ts (winV ts w m j) (ts[j] - w) j : Int) < m) := by
          have := win_at ts w m j (ts.length - (j + 1))
          rw [show j + 1 + (ts.length - (j + 1)) = ts.length by omega, ei] at this
          rw [← this]
          simp [List.getD, show j < (winV ts w m ts.length).length by omega]
        have most := win_most ts w m hm.1 ht j (ts[j] - w) (by omega) (fun h => by
          have st := tOk_step ht (j - 1) (by omega)
          have e1 : ts.getD (j - 1) 0 = ts[j - 1]'(by omega) := by simp [List.getD, show j - 1 < ts.length by omega]
          have e2 : ts[j - 1 + 1]'(by omega) = ts[j] := by congr 1; omega
          rw [e2] at st
          rw [e1]
          omega)
        refine Ev.step (fun k => by rw [laws_FnWindows.l1]) ?_
        refine ev_neg (by omega) (ev_pos (by omega) (ev_pos (by omega) (ev_neg ?_ (ev_neg ?_ ?_))))
        · rw [rdOf_at _ _ _ (by omega), at_, pre]; simp
        · rw [pre]; omega
        · rw [wsucc hi (by omega)]
          exact ih
      | succ d ihd =>
        intro j hj
        have hc := cnt_le ts (winV ts w m ts.length) (ts[i] - w) j
        have nx := ihd (j + 1) (by omega)
        have e1 : (winV ts w m ts.length).getD j false = (winV ts w m ts.length)[j]'(by omega) := by simp [List.getD, show j < (winV ts w m ts.length).length by omega]
        have e2 : ts.getD j 0 = ts[j]'(by omega) := by simp [List.getD, show j < ts.length by omega]
        refine Ev.step (fun k => by rw [laws_FnWindows.l1]) ?_
        refine ev_pos (by omega) (ev_pos (by omega) (ev_pos (by omega) ?_))
        rw [rdOf_at false _ j (by omega), wsucc (show j < i by omega) (by omega)]
        by_cases c : (winV ts w m ts.length)[j]'(by omega) = true
        · refine ev_pos c (ev_pos (by omega) (ev_pos (by omega) (ev_pos (by omega) ?_)))
          rw [rd_at ts j (by omega), rd_at ts i hi, hwr]
          by_cases c2 : ts[j]'(by omega) > ts[i] - w
          · have e3 : cnt ts (winV ts w m ts.length) (ts[i] - w) (j + 1) = cnt ts (winV ts w m ts.length) (ts[i] - w) j + 1 := cnt_pos (by rw [e1]; exact c) (by rw [e2]; exact c2)
            rw [e3] at nx
            refine ev_pos c2 ?_
            rw [w64 (by omega) (by omega)]
            exact nx
          · have e3 : cnt ts (winV ts w m ts.length) (ts[i] - w) (j + 1) = cnt ts (winV ts w m ts.length) (ts[i] - w) j := cnt_neg (by rw [e2]; exact fun z => c2 z.2)
            rw [e3] at nx
            exact ev_neg c2 nx
        · have e3 : cnt ts (winV ts w m ts.length) (ts[i] - w) (j + 1) = cnt ts (winV ts w m ts.length) (ts[i] - w) j := cnt_neg (by rw [e1]; exact fun z => c z.1)
          rw [e3] at nx
          exact ev_neg c nx
    exact key i 0 (by omega)
theorem FnWindows : laws_FnWindows.Pure := by
  intro l0 l1 _ _ h0 _ _ h1
  refine Ev.rounds ?_
  unfold laws_FnWindows.f laws_r8Long.f
  by_cases hb : ((l0.length : Int) > 48) ∨ ((l1.length : Int) > 48)
  · refine ev_b (a := true) ?_ (ev_pos rfl (Ev.now _))
    by_cases c : (l0.length : Int) > 48
    · rw [if_pos c]
    · rw [if_neg c]; congr 1; simpa using by omega
  · refine ev_b (a := false) ?_ (ev_neg (by simp) ?_)
    · rw [if_neg (by omega)]; congr 1; simpa using by omega
    · obtain ⟨ts, et, ht, hl⟩ := drawTimes (show U8s l0 from h0) 0 (by omega) (by omega)
      obtain ⟨v1, e1, a1, b1⟩ := r8At (show U8s l1 from h1) 0 20 (by omega)
      obtain ⟨v2, e2, a2, b2⟩ := r8At (show U8s l1 from h1) 1 4 (by omega)
      have w1 : wrap64 (1 + v1) = 1 + v1 := w64 (by omega) (by omega)
      have w2 : wrap64 (1 + v2) = 1 + v2 := w64 (by omega) (by omega)
      refine Ev.bind et (ev_b e1 (ev_b e2 ?_))
      simp only [w1, w2]
      refine Ev.bind (implWin ts (1 + v1) (1 + v2) (by omega)) ?_
      have ea : winAns ts (1 + v1) (1 + v2) = (winV ts (1 + v1) (1 + v2) ts.length, true) := by
        unfold winAns
        rw [if_pos ⟨by simp [ht]; omega, ⟨by omega, by omega⟩, ⟨by omega, by omega⟩⟩]
      rw [ea]
      refine ev_pos rfl ?_
      refine Ev.step (fun k => by rw [laws_FnWindows.j0]) ?_
      refine ev_neg (by simp [winV_len]) ?_
      exact lawWin ts _ _ (by omega) ⟨by omega, by omega⟩ ⟨by omega, by omega⟩ ht 0 (Nat.zero_le _)

end Go.Proofs.Ytidlbifgfciikaa.Pure
