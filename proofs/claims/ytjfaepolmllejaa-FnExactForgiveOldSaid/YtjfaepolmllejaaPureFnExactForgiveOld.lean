/- ForgiveOld: the program and the reference answer alike and leave memory alone, for every list of strikes and tick. -/
import Derived.Test.YtjfaepolmllejaaQFnExactForgiveOldx7
namespace Go.Proofs.Ytjfaepolmllejaa.Pure
open Go.RowKit Go.Proofs.Ytjfaepolmllejaa.QFnExactForgiveOld Go.Proofs.YtjfaepolmllejaaW.PrintWords Go.Proofs.YtjfaepolmllejaaW.PrintLast Go.Proofs.YtjfaepolmllejaaW.PrintMore
set_option linter.unusedVariables false

theorem w64 {n : Int} (h1 : -9223372036854775808 ≤ n) (h2 : n ≤ 9223372036854775807) : wrap64 n = n := by
  unfold wrap64
  omega
theorem wf64 {n : Int} (h : (Lit.int .i64 n).wf = true) : -9223372036854775808 ≤ n ∧ n ≤ 9223372036854775807 := by
  simp [Lit.wf, IntKind.min, IntKind.max, IntKind.signed, IntKind.bits] at h
  omega

theorem ev_pos {α : Type} {c : Prop} [Decidable c] {g f : Nat → Option α} {r : α} (h : c) (e : Ev g r) : Ev (fun k => if c then g k else f k) r := Ev.congr (fun _ => if_pos h) e
theorem ev_neg {α : Type} {c : Prop} [Decidable c] {g f : Nat → Option α} {r : α} (h : ¬ c) (e : Ev f r) : Ev (fun k => if c then g k else f k) r := Ev.congr (fun _ => if_neg h) e
theorem ev_b {α β : Type} {o : Option α} {a : α} {f : Nat → α → Option β} {r : β} (h : o = some a) (e : Ev (fun k => f k a) r) : Ev (fun k => o.bind (f k)) r := by subst h; exact e
theorem ev_eq {α : Type} {g : Nat → Option α} {r q : α} (e : Ev g r) (h : r = q) : Ev g q := h ▸ e
theorem ev_some {α : Type} {r q : α} (h : r = q) : Ev (fun _ => some r) q := h ▸ Ev.now r
/-- Down from a list's end. -/
theorem idx_ind {α : Type} (l : List α) (P : Nat → Prop) (hend : P l.length) (hstep : ∀ i, i < l.length → P (i + 1) → P i) : ∀ i, i ≤ l.length → P i := by
  have key : ∀ d i, i + d = l.length → P i := by
    intro d
    induction d with
    | zero => intro i h; have : i = l.length := by omega
              rw [this]; exact hend
    | succ d ih => intro i h; exact hstep i (by omega) (ih (i + 1) (by omega))
  intro i h
  exact key (l.length - i) i (by omega)
theorem rd_at (l : List Int) (i : Nat) (h : i < l.length) : rd l (i : Int) = l[i] := by
  simp [rd, List.getD, h]
theorem rdOf_at {α : Type} (d : α) (l : List α) (i : Nat) (h : i < l.length) : rdOf d l (i : Int) = l[i] := by
  simp [rdOf, List.getD, h]
theorem drop_at {α : Type} (l : List α) (i : Nat) (h : i < l.length) : l.drop i = l[i] :: l.drop (i + 1) := List.drop_eq_getElem_cons h
theorem wsucc {i n : Nat} (h : i < n) (hn : n ≤ 9223372036854775807) : wrap64 ((i : Int) + 1) = ((i + 1 : Nat) : Int) := by
  rw [w64 (by omega) (by omega)]; rfl

theorem implIn (a b c : Int) : impl_in.f a b c = some (decide (b ≤ a ∧ a ≤ c)) := by
  unfold impl_in.f
  by_cases h : a ≥ b
  · rw [if_pos h]; simp [h]
  · rw [if_neg h]; simp; intro h2; omega
theorem implTick (a : Int) : impl_isTick.f a = some (decide (0 ≤ a ∧ a ≤ 1000000)) := by
  unfold impl_isTick.f
  rw [implIn]; rfl

theorem specIn (a b c : Int) : spec_l00In.f a b c = some (decide (b ≤ a ∧ a ≤ c)) := by
  unfold spec_l00In.f
  by_cases h : a ≥ b
  · rw [if_pos h]; simp [h]
  · rw [if_neg h]; simp; intro h2; omega
theorem specTick (a : Int) : spec_l02Tick.f a = some (decide (0 ≤ a ∧ a ≤ 1000000)) := by
  unfold spec_l02Tick.f
  rw [specIn]; rfl

theorem szStrikeS (l : List S39) (hl : l.length ≤ 9223372036854775807) : laws_szStrikeS.f l 1048576 = some (if l.length ≤ 1048576 then 1048576 - (l.length : Int) else -1) := by
  unfold laws_szStrikeS.f
  rw [w64 (by omega) (by omega)]
  by_cases h : l.length ≤ 1048576
  · rw [if_pos h, if_neg (by omega)]
  · rw [if_neg h, if_pos (by omega)]
theorem szAtStrikeS (l : List S39) (a : Int) (h0 : 0 ≤ a) (ha : a ≤ 1048576) (hl : l.length ≤ 9223372036854775807) : laws_szStrikeS.f l a = some (if (l.length : Int) ≤ a then a - (l.length : Int) else -1) := by
  unfold laws_szStrikeS.f
  rw [w64 (by omega) (by omega)]
  by_cases h : (l.length : Int) ≤ a
  · rw [if_pos h, if_neg (by omega)]
  · rw [if_neg h, if_pos (by omega)]
/-- An element, taken over. -/
def cvStrike (x : S39) : S45 := ⟨x.f0, x.f1, x.f2⟩
theorem rdIStrike (l : List S39) (i : Nat) (h : i < l.length) : rd_T39 l (i : Int) = l[i] := by
  simp [rd_T39, List.getD, h]
theorem rdOStrike (l : List S45) (i : Nat) (h : i < l.length) : rd_T45 l (i : Int) = l[i] := by
  simp [rd_T45, List.getD, h]
theorem rdSStrike (l : List S45) (i : Nat) (v : S45) (h : i < l.length) : rd_T45 (l.set i v) (i : Int) = v := by
  simp [rd_T45, List.getD, h]
theorem toStrikeS (l : List S39) (hl : l.length ≤ 100000000) : Ev (fun k => laws_toStrikeS.f k l) (l.map cvStrike) := by
  have key := idx_ind l (fun i => ∀ x : List S45, x.length = l.length → (∀ j, j < i → x[j]? = (l.map cvStrike)[j]?) → Ev (fun k => laws_toStrikeS.l0 k l x (i : Int)) (l.map cvStrike)) ?_ ?_
  · unfold laws_toStrikeS.f
    refine ev_pos (by omega) (ev_pos (by omega) ?_)
    exact key 0 (Nat.zero_le _) _ (by simp) (fun j h => by omega)
  · intro x hx hj
    refine Ev.step (fun k => by rw [laws_toStrikeS.l0]) ?_
    refine ev_neg (by omega) (ev_some ?_)
    apply List.ext_getElem?
    intro j
    rcases Nat.lt_or_ge j l.length with h | h
    · exact hj j h
    · rw [List.getElem?_eq_none (by omega), List.getElem?_eq_none (by simpa using h)]
  · intro i hi ih x hx hj
    refine Ev.step (fun k => by rw [laws_toStrikeS.l0]) ?_
    refine ev_pos (by omega) (ev_pos (by omega) (ev_b rfl (ev_pos (by omega) ?_)))
    rw [wsucc hi (by omega), rdIStrike l i hi]
    refine ih _ (by simp [hx]) ?_
    intro j hj2
    by_cases e : j = i
    · subst e
      simp [hx, hi, cvStrike]
    · simp only [Int.toNat_natCast]
      rw [List.getElem?_set_ne (by omega)]
      exact hj j (by omega)
theorem eqStrikeS (l : List S45) (hl : l.length ≤ 100000000) : Ev (fun k => laws_eqStrikeS.f k l l) true := by
  unfold laws_eqStrikeS.f
  refine ev_pos rfl ?_
  refine idx_ind l (fun i => Ev (fun k => laws_eqStrikeS.l0 k l l (i : Int)) true) ?_ ?_ 0 (Nat.zero_le _)
  · refine Ev.step (fun k => by rw [laws_eqStrikeS.l0]) ?_
    exact ev_neg (by omega) (Ev.now _)
  · intro i hi ih
    refine Ev.step (fun k => by rw [laws_eqStrikeS.l0]) ?_
    refine ev_pos (by omega) (ev_pos (by omega) (ev_pos (by omega) (ev_b (a := true) (by simp [laws_eqStrike.f]) (ev_pos rfl ?_))))
    rw [wsucc hi (by omega)]
    exact ih
theorem markStrikeS (l : List S45) (m : Nat) (hl : l.length ≤ 10000000) (hm : m ≤ 100000000) : ∃ l2 : List S45, Ev (fun k => laws_markStrikeS.f k l (m : Int)) (((m + 3 * l.length : Nat) : Int), l2) ∧ l2.length = l.length ∧ ∀ j, j < l.length → l2[j]? = some (⟨((m + 3 * j : Nat) : Int), ((m + 3 * j + 1 : Nat) : Int), ((m + 3 * j + 2 : Nat) : Int)⟩ : S45) := by
  have key := idx_ind l (fun i => ∀ x : List S45, x.length = l.length → (∀ j, j < i → x[j]? = some (⟨((m + 3 * j : Nat) : Int), ((m + 3 * j + 1 : Nat) : Int), ((m + 3 * j + 2 : Nat) : Int)⟩ : S45)) → ∃ l2 : List S45, Ev (fun k => laws_markStrikeS.l0 k x ((m + 3 * i : Nat) : Int) (i : Int)) (((m + 3 * l.length : Nat) : Int), l2) ∧ l2.length = l.length ∧ ∀ j, j < l.length → l2[j]? = some (⟨((m + 3 * j : Nat) : Int), ((m + 3 * j + 1 : Nat) : Int), ((m + 3 * j + 2 : Nat) : Int)⟩ : S45)) ?_ ?_
  · obtain ⟨l2, h1, h2⟩ := key 0 (Nat.zero_le _) l rfl (fun j h => by omega)
    exact ⟨l2, h1, h2⟩
  · intro x hx hj
    refine ⟨x, ?_, hx, hj⟩
    refine Ev.step (fun k => by rw [laws_markStrikeS.l0]) ?_
    exact ev_neg (by omega) (Ev.now _)
  · intro i hi ih x hx hj
    obtain ⟨l2, h1, h2⟩ := ih (x.set i (⟨((m + 3 * i : Nat) : Int), ((m + 3 * i + 1 : Nat) : Int), ((m + 3 * i + 2 : Nat) : Int)⟩ : S45)) (by simp [hx]) (by
      intro j hj2
      by_cases e : j = i
      · subst e
        simp [hx, hi]
      · rw [List.getElem?_set_ne (by omega)]
        exact hj j (by omega))
    refine ⟨l2, ?_, h2⟩
    refine Ev.step (fun k => by rw [laws_markStrikeS.l0]) ?_
    refine ev_pos (by omega) (ev_pos (by omega) ?_)
    have hix : i < x.length := by omega
    have a0 : wrap64 (((m + 3 * i : Nat) : Int) + 1) = ((m + 3 * i + 1 : Nat) : Int) := by rw [w64 (by omega) (by omega)]; omega
    have a1 : wrap64 (((m + 3 * i + 1 : Nat) : Int) + 1) = ((m + 3 * i + 2 : Nat) : Int) := by rw [w64 (by omega) (by omega)]; omega
    have a2 : wrap64 (((m + 3 * i + 2 : Nat) : Int) + 1) = ((m + 3 * (i + 1) : Nat) : Int) := by rw [w64 (by omega) (by omega)]; omega
    have e2 : wrap64 ((i : Int) + 1) = ((i + 1 : Nat) : Int) := wsucc hi (by omega)
    simp only [Option.bind_some, Int.toNat_natCast, e2, a0, a1, a2, List.set_set, rdSStrike x i _ hix]
    exact h1
theorem heldStrikeS (l : List S45) (m : Nat) (hl : l.length ≤ 10000000) (hm : m ≤ 100000000) (hj : ∀ j, j < l.length → l[j]? = some (⟨((m + 3 * j : Nat) : Int), ((m + 3 * j + 1 : Nat) : Int), ((m + 3 * j + 2 : Nat) : Int)⟩ : S45)) : Ev (fun k => laws_heldStrikeS.f k l (m : Int)) ((m + 3 * l.length : Nat) : Int) := by
  refine idx_ind l (fun i => Ev (fun k => laws_heldStrikeS.l0 k l ((m + 3 * i : Nat) : Int) (i : Int)) ((m + 3 * l.length : Nat) : Int)) ?_ ?_ 0 (Nat.zero_le _)
  · refine Ev.step (fun k => by rw [laws_heldStrikeS.l0]) ?_
    exact ev_neg (by omega) (Ev.now _)
  · intro i hi ih
    have hv : l[i] = (⟨((m + 3 * i : Nat) : Int), ((m + 3 * i + 1 : Nat) : Int), ((m + 3 * i + 2 : Nat) : Int)⟩ : S45) := by
      have := hj i hi
      rw [List.getElem?_eq_getElem hi] at this
      exact Option.some.inj this
    refine Ev.step (fun k => by rw [laws_heldStrikeS.l0]) ?_
    refine ev_pos (by omega) (ev_pos (by omega) ?_)
    have a0 : wrap64 (((m + 3 * i : Nat) : Int) + 1) = ((m + 3 * i + 1 : Nat) : Int) := by rw [w64 (by omega) (by omega)]; omega
    have a1 : wrap64 (((m + 3 * i + 1 : Nat) : Int) + 1) = ((m + 3 * i + 2 : Nat) : Int) := by rw [w64 (by omega) (by omega)]; omega
    have a2 : wrap64 (((m + 3 * i + 2 : Nat) : Int) + 1) = ((m + 3 * (i + 1) : Nat) : Int) := by rw [w64 (by omega) (by omega)]; omega
    have e2 : wrap64 ((i : Int) + 1) = ((i + 1 : Nat) : Int) := wsucc hi (by omega)
    simp only [rdOStrike l i hi, hv, e2, a0, a1, a2]
    exact ev_pos (by first | rfl | trivial) (ev_pos (by first | rfl | trivial) (ev_pos (by first | rfl | trivial) (ih)))

/-- A strike in order. -/
def StOk (x : S45) : Prop := (1 ≤ x.f0 ∧ x.f0 ≤ 1000) ∧ (0 ≤ x.f1 ∧ x.f1 ≤ 2) ∧ (0 ≤ x.f2 ∧ x.f2 ≤ 1000000)
instance (x : S45) : Decidable (StOk x) := by unfold StOk; infer_instance
/-- Strikes in order, from a tick on. -/
def sOk (p : Int) : List S45 → Bool
  | [] => true
  | x :: r => decide (StOk x ∧ p ≤ x.f2) && sOk x.f2 r
theorem implMember (a : Int) : impl_isMember.f a = some (decide (1 ≤ a ∧ a ≤ 1000)) := by
  unfold impl_isMember.f
  rw [implIn]; rfl
theorem specStrike (x : S45) : spec_l06Strike.f x.f0 x.f1 x.f2 = some (decide (StOk x)) := by
  unfold spec_l06Strike.f spec_l02Id.f StOk
  simp only [specIn, specTick, Option.bind_some]
  by_cases h1 : 1 ≤ x.f0 ∧ x.f0 ≤ 1000
  · by_cases h2 : 0 ≤ x.f1 ∧ x.f1 ≤ 2
    · by_cases h3 : 0 ≤ x.f2 ∧ x.f2 ≤ 1000000 <;> simp [h1, h2, h3]
    · simp [h1, h2]
  · simp [h1]
theorem implStrikes (l : List S45) (hl : l.length ≤ 100000000) : Ev (fun k => impl_AreStrikes.f k l) (sOk 0 l && decide (l.length ≤ 64)) := by
  have key := idx_ind l (fun i => ∀ p : Int, (i = 0 → p = 0) → (∀ h : 0 < i, ∀ h2 : i ≤ l.length, (l[i - 1]'(by omega)).f2 = p) → Ev (fun k => impl_AreStrikes.l0 k l l (l.length : Int) (i : Int)) (sOk p (l.drop i) && decide (l.length ≤ 64))) ?_ ?_
  · exact key 0 (Nat.zero_le _) 0 (fun _ => rfl) (fun h => by omega)
  · intro p _ _
    refine Ev.step (fun k => by rw [impl_AreStrikes.l0]) ?_
    refine ev_neg (by omega) (ev_some ?_)
    simp [sOk]
    omega
  · intro i hi ih p h0 hprev
    refine Ev.step (fun k => by rw [impl_AreStrikes.l0]) ?_
    rw [rdOStrike l i hi, drop_at l i hi, wsucc hi (by omega)]
    refine ev_pos (by omega) (ev_pos (by omega) (ev_pos (by omega) (ev_b (implMember _) ?_)))
    by_cases a1 : 1 ≤ l[i].f0 ∧ l[i].f0 ≤ 1000
    · refine ev_pos (by simpa using a1) (ev_b (implIn _ _ _) ?_)
      by_cases a2 : 0 ≤ l[i].f1 ∧ l[i].f1 ≤ 2
      · refine ev_pos (by simpa using a2) (ev_b (implTick _) ?_)
        by_cases a3 : 0 ≤ l[i].f2 ∧ l[i].f2 ≤ 1000000
        · refine ev_pos (by simpa using a3) ?_
          have next := ih l[i].f2 (fun h => by omega) (fun _ _ => rfl)
          have ok : StOk l[i] := ⟨a1, a2, a3⟩
          by_cases h1 : 0 < i
          · have e1 : wrap64 ((i : Int) - 1) = ((i - 1 : Nat) : Int) := by rw [w64 (by omega) (by omega)]; omega
            rw [e1, rdOStrike l (i - 1) (by omega), hprev h1 (by omega)]
            refine ev_pos (by omega) (ev_pos (by omega) (ev_pos (by omega) ?_))
            by_cases hp2 : p > l[i].f2
            · refine ev_pos hp2 (ev_some ?_)
              have : ¬ p ≤ l[i].f2 := by omega
              simp [sOk, this]
            · refine ev_neg hp2 (ev_eq next ?_)
              have : p ≤ l[i].f2 := by omega
              simp [sOk, this, ok]
          · have hp0 := h0 (by omega)
            refine ev_neg (by omega) (ev_eq next ?_)
            have : p ≤ l[i].f2 := by omega
            simp [sOk, this, ok]
        · refine ev_neg (by simpa using a3) (ev_some ?_)
          have : ¬ StOk l[i] := fun h => a3 h.2.2
          simp [sOk, this]
      · refine ev_neg (by simpa using a2) (ev_some ?_)
        have : ¬ StOk l[i] := fun h => a2 h.2.1
        simp [sOk, this]
    · refine ev_neg (by simpa using a1) (ev_some ?_)
      have : ¬ StOk l[i] := fun h => a1 h.1
      simp [sOk, this]
theorem specStrikes (l : List S45) : Ev (fun k => spec_l06Strikes.f k l) (sOk 0 l && decide (l.length ≤ 64)) := by
  unfold spec_l06Strikes.f
  by_cases hlen : (l.length : Int) > 64
  · refine ev_pos hlen (ev_some ?_)
    have : ¬ l.length ≤ 64 := by omega
    simp [this]
  · refine ev_neg hlen ?_
    have hl : l.length ≤ 64 := by omega
    have key := idx_ind l (fun i => ∀ p : Int, (i = 0 → p = 0) → (∀ h : 0 < i, ∀ h2 : i ≤ l.length, (l[i - 1]'(by omega)).f2 = p) → Ev (fun k => spec_l06Strikes.l0 k l (i : Int)) (sOk p (l.drop i) && decide (l.length ≤ 64))) ?_ ?_
    · exact key 0 (Nat.zero_le _) 0 (fun _ => rfl) (fun h => by omega)
    · intro p _ _
      refine Ev.step (fun k => by rw [spec_l06Strikes.l0]) ?_
      refine ev_neg (by omega) (ev_some ?_)
      simp [sOk, hl]
    · intro i hi ih p h0 hprev
      refine Ev.step (fun k => by rw [spec_l06Strikes.l0]) ?_
      rw [rdOStrike l i hi, drop_at l i hi, wsucc hi (by omega)]
      refine ev_pos (by omega) (ev_pos (by omega) (ev_b (specStrike _) ?_))
      by_cases ok : StOk l[i]
      · refine ev_pos (by simpa using ok) ?_
        have next := ih l[i].f2 (fun h => by omega) (fun _ _ => rfl)
        have a3 := ok.2.2
        by_cases h1 : 0 < i
        · have e1 : wrap64 ((i : Int) - 1) = ((i - 1 : Nat) : Int) := by rw [w64 (by omega) (by omega)]; omega
          rw [e1, rdOStrike l (i - 1) (by omega), hprev h1 (by omega)]
          refine ev_pos (by omega) (ev_pos (by omega) (ev_pos (by omega) ?_))
          by_cases hp2 : l[i].f2 < p
          · refine ev_pos hp2 (ev_some ?_)
            have : ¬ p ≤ l[i].f2 := by omega
            simp [sOk, this]
          · refine ev_neg hp2 (ev_eq next ?_)
            have : p ≤ l[i].f2 := by omega
            simp [sOk, this, ok]
        · have hp0 := h0 (by omega)
          refine ev_neg (by omega) (ev_eq next ?_)
          have : p ≤ l[i].f2 := by omega
          simp [sOk, this, ok]
      · refine ev_neg (by simpa using ok) (ev_some ?_)
        simp [sOk, ok]

/-- A strike that is too old. -/
def pS (c : Int) (x : S45) : Bool := decide (x.f2 < c)
theorem pS_f (x : S45) (c : Int) : impl_ForgiveOld_1_v2.f x.f0 x.f1 x.f2 c = some (pS c x) := rfl

theorem rddS (l : List S45) (i : Nat) (h : i < l.length) : rd_T45 l (i : Int) = l[i] := by
  simp [rd_T45, List.getD, h]
theorem fndS (c : Int) (l : List S45) (hl : l.length ≤ 100000000) : ∃ r : Int, Ev (fun k => impl_Strike_v1.f k l c) r ∧ ((r = -1 ∧ ∀ j (h : j < l.length), pS c l[j] = false) ∨ ∃ i, ∃ h : i < l.length, r = (i : Int) ∧ pS c l[i] = true ∧ ∀ j (h : j < l.length), j < i → pS c l[j] = false) := by
  have key := idx_ind l (fun i => (∀ j (h : j < l.length), j < i → pS c l[j] = false) → ∃ r : Int, Ev (fun k => impl_Strike_v1.l0 k l (l.length : Int) (i : Int) c) r ∧ ((r = -1 ∧ ∀ j (h : j < l.length), pS c l[j] = false) ∨ ∃ i, ∃ h : i < l.length, r = (i : Int) ∧ pS c l[i] = true ∧ ∀ j (h : j < l.length), j < i → pS c l[j] = false)) ?_ ?_
  · exact key 0 (Nat.zero_le _) (fun j _ h => by omega)
  · intro hall
    refine ⟨-1, ?_, .inl ⟨rfl, fun j h => hall j h h⟩⟩
    refine Ev.step (fun k => by rw [impl_Strike_v1.l0]) ?_
    exact ev_neg (by omega) (Ev.now _)
  · intro i hi ih hall
    by_cases hp : pS c l[i] = true
    · refine ⟨(i : Int), ?_, .inr ⟨i, hi, rfl, hp, hall⟩⟩
      refine Ev.step (fun k => by rw [impl_Strike_v1.l0]) ?_
      refine ev_pos (by omega) (ev_pos (by omega) (ev_pos (by omega) ?_))
      rw [rddS l i hi]
      exact ev_b (pS_f _ _) (ev_pos hp (Ev.now _))
    · obtain ⟨r, h1, h2⟩ := ih (fun j h hj => by
        rcases Nat.lt_or_eq_of_le (Nat.lt_succ_iff.1 hj) with h3 | h3
        · exact hall j h h3
        · subst h3; simpa using hp)
      refine ⟨r, ?_, h2⟩
      refine Ev.step (fun k => by rw [impl_Strike_v1.l0]) ?_
      refine ev_pos (by omega) (ev_pos (by omega) (ev_pos (by omega) ?_))
      rw [rddS l i hi, wsucc hi (by omega)]
      exact ev_b (pS_f _ _) (ev_neg hp h1)
theorem dellS (c : Int) (l : List S45) (hl : l.length ≤ 100000000) : ∀ j, j ≤ l.length → ∀ (x : List S45) (i : Nat), x.length = l.length → i ≤ j → x.take i = (l.take j).filter (fun y => !pS c y) → x.drop j = l.drop j → Ev (fun k => impl_Strike_v0.l0 k x (i : Int) (j : Int) c) (l.filter (fun y => !pS c y)) := by
  refine idx_ind l _ ?_ ?_
  · intro x i hx hi ht hd
    refine Ev.step (fun k => by rw [impl_Strike_v0.l0]) ?_
    refine ev_neg (by omega) (ev_pos (by omega) (ev_pos (by omega) (ev_some ?_)))
    rw [List.take_length] at ht
    rw [← ht, Int.toNat_natCast]
    exact List.take_left' (by rw [List.length_take]; omega)
  · intro j hj ih x i hx hi ht hd
    have hxj : j < x.length := by omega
    have hv : x[j] = l[j] := by
      have h1 : (x.drop j)[0]? = (l.drop j)[0]? := by rw [hd]
      rw [List.getElem?_drop, List.getElem?_drop, Nat.add_zero, List.getElem?_eq_getElem hxj, List.getElem?_eq_getElem hj] at h1
      exact Option.some.inj h1
    have hd2 : x.drop (j + 1) = l.drop (j + 1) := by
      have h1 : (x.drop j).drop 1 = (l.drop j).drop 1 := by rw [hd]
      rwa [List.drop_drop, List.drop_drop] at h1
    have ht2 : l.take (j + 1) = l.take j ++ [l[j]] := by rw [List.take_succ_eq_append_getElem hj]
    refine Ev.step (fun k => by rw [impl_Strike_v0.l0]) ?_
    refine ev_pos (by omega) (ev_pos (by omega) ?_)
    rw [rddS x j hxj, hv, wsucc (n := l.length) (i := j) hj (by omega)]
    refine ev_b (pS_f _ _) ?_
    by_cases hp : pS c l[j] = true
    · refine ev_pos hp (ih x i hx (by omega) ?_ hd2)
      rw [ht2, List.filter_append, ht]
      simp [hp]
    · refine ev_neg hp (ev_pos (by omega) (ev_pos (by omega) ?_))
      rw [wsucc (n := l.length) (i := i) (by omega) (by omega)]
      have hset : (x.set i l[j]).take (i + 1) = (l.take (j + 1)).filter (fun y => !pS c y) := by
        rw [List.take_succ_eq_append_getElem (by rw [List.length_set]; omega), List.take_set_of_le (Nat.le_refl _), ht, ht2, List.filter_append]
        simp [hp]
      exact ih (x.set i l[j]) (i + 1) (by rw [List.length_set]; exact hx) (by omega) hset (by rw [List.drop_set_of_lt (by omega)]; exact hd2)
/-- What slices.DeleteFunc does. -/
theorem delS (c : Int) (l : List S45) (hl : l.length ≤ 100000000) : Ev (fun k => impl_Strike_v0.f k l c) (l.filter (fun y => !pS c y)) := by
  obtain ⟨r, h1, h2⟩ := fndS c l hl
  unfold impl_Strike_v0.f
  refine Ev.bind h1 ?_
  rcases h2 with ⟨rfl, hall⟩ | ⟨i, hi, rfl, hp, hall⟩
  · refine ev_pos rfl (ev_some ?_)
    exact (List.filter_eq_self.2 fun y hy => by
      obtain ⟨j, hj, rfl⟩ := List.mem_iff_getElem.1 hy
      rw [hall j hj]; rfl).symm
  · refine ev_neg (by omega) ?_
    rw [wsucc hi (by omega)]
    have ht2 : l.take (i + 1) = l.take i ++ [l[i]] := by rw [List.take_succ_eq_append_getElem hi]
    refine dellS c l hl (i + 1) (by omega) l i rfl (by omega) ?_ rfl
    rw [ht2, List.filter_append]
    have h3 : (l.take i).filter (fun y => !pS c y) = l.take i := List.filter_eq_self.2 fun y hy => by
      obtain ⟨j, hj, rfl⟩ := List.mem_iff_getElem.1 hy
      rw [List.length_take] at hj
      rw [List.getElem_take, hall j (by omega) (by omega)]; rfl
    rw [h3]
    simp [hp]

/-- What both answer. -/
def forgAns (l : List S45) (b : Int) : List S45 × Bool := if (sOk 0 l && decide (l.length ≤ 64)) = true ∧ (0 ≤ b ∧ b ≤ 1000000) then (l.filter (fun y => !pS b y), true) else ([], false)
theorem forgLen (l : List S45) (b : Int) : (forgAns l b).1.length ≤ 64 := by
  unfold forgAns
  split
  · rename_i h
    have h1 := h.1
    simp only [Bool.and_eq_true, decide_eq_true_eq] at h1
    exact Nat.le_trans (List.length_filter_le _ _) h1.2
  · simp
theorem specForgL (l : List S45) (b : Int) (hl : l.length ≤ 64) : ∀ i, i ≤ l.length → ∀ out : List S45, out.length ≤ i → Ev (fun k => spec_ForgiveOld.l0 k l b out (i : Int)) (out ++ (l.drop i).filter (fun y => !pS b y), true) := by
  refine idx_ind l _ ?_ ?_
  · intro out ho
    refine Ev.step (fun k => by rw [spec_ForgiveOld.l0]) ?_
    refine ev_neg (by omega) (ev_some ?_)
    simp
  · intro i hi ih out ho
    refine Ev.step (fun k => by rw [spec_ForgiveOld.l0]) ?_
    refine ev_pos (by omega) (ev_pos (by omega) ?_)
    rw [rdOStrike l i hi, wsucc hi (by omega)]
    by_cases h : l[i].f2 ≥ b
    · refine ev_pos h (ev_pos (by omega) (ev_eq (ih _ (by simp; omega)) ?_))
      have hp : pS b l[i] = false := by unfold pS; simpa using h
      rw [drop_at l i hi, List.filter_cons_of_pos (by rw [hp]; rfl), List.append_assoc]
      rfl
    · refine ev_neg h (ev_eq (ih _ (by omega)) ?_)
      have hp : pS b l[i] = true := by unfold pS; simpa using h
      rw [drop_at l i hi, List.filter_cons_of_neg (by rw [hp]; simp)]
theorem specForg (l : List S45) (b : Int) : Ev (fun k => spec_ForgiveOld.f k l b) (forgAns l b) := by
  unfold spec_ForgiveOld.f forgAns
  refine Ev.bind (specStrikes l) ?_
  have no : ¬ ((sOk 0 l && decide (l.length ≤ 64)) = true ∧ (0 ≤ b ∧ b ≤ 1000000)) → Ev (fun k => spec_ForgiveOld.j0 k l b true) (if (sOk 0 l && decide (l.length ≤ 64)) = true ∧ (0 ≤ b ∧ b ≤ 1000000) then (l.filter (fun y => !pS b y), true) else ([], false)) := by
    intro h
    rw [if_neg h]
    refine Ev.step (fun k => by rw [spec_ForgiveOld.j0]) ?_
    exact ev_pos rfl (Ev.now _)
  by_cases h : (sOk 0 l && decide (l.length ≤ 64)) = true
  · refine ev_pos h (ev_b (specTick _) ?_)
    by_cases h2 : 0 ≤ b ∧ b ≤ 1000000
    · rw [if_pos ⟨h, h2⟩, show (!decide (0 ≤ b ∧ b ≤ 1000000)) = false by simpa using h2]
      have h' := h
      simp only [Bool.and_eq_true, decide_eq_true_eq] at h'
      refine Ev.step (fun k => by rw [spec_ForgiveOld.j0]) ?_
      refine ev_neg (by simp) (ev_eq (specForgL l b h'.2 0 (Nat.zero_le _) [] (Nat.le_refl _)) ?_)
      simp
    · rw [decide_eq_false h2]
      exact no fun z => h2 z.2
  · exact ev_neg h (no fun z => h z.1)
theorem implForg (l : List S45) (b : Int) (hl : l.length ≤ 10000000) : Ev (fun k => impl_ForgiveOld.f k l b) (forgAns l b) := by
  unfold impl_ForgiveOld.f forgAns
  refine Ev.bind (implStrikes l (by omega)) ?_
  have no : ¬ ((sOk 0 l && decide (l.length ≤ 64)) = true ∧ (0 ≤ b ∧ b ≤ 1000000)) → Ev (fun k => impl_ForgiveOld.j0 k l true b) (if (sOk 0 l && decide (l.length ≤ 64)) = true ∧ (0 ≤ b ∧ b ≤ 1000000) then (l.filter (fun y => !pS b y), true) else ([], false)) := by
    intro h
    rw [if_neg h]
    refine Ev.step (fun k => by rw [impl_ForgiveOld.j0]) ?_
    exact ev_pos rfl (Ev.now _)
  by_cases h : (sOk 0 l && decide (l.length ≤ 64)) = true
  · refine ev_pos h (ev_b (implTick _) ?_)
    by_cases h2 : 0 ≤ b ∧ b ≤ 1000000
    · rw [if_pos ⟨h, h2⟩, show (!decide (0 ≤ b ∧ b ≤ 1000000)) = false by simpa using h2]
      refine Ev.step (fun k => by rw [impl_ForgiveOld.j0]) ?_
      have hc : impl_Strike_64.f l = some l := by unfold impl_Strike_64.f; rw [if_pos (by omega)]
      exact ev_neg (by simp) (ev_b hc (Ev.bind (delS b l (by omega)) (Ev.now _)))
    · rw [decide_eq_false h2]
      exact no fun z => h2 z.2
  · exact ev_neg h (no fun z => h z.1)
theorem FnExactForgiveOld : laws_FnExactForgiveOld.Pure := by
  intro l b hl _
  refine Ev.rounds ?_
  have hm : l.length ≤ 9223372036854775807 := by have := hl.1; unfold maxLen at this; omega
  unfold laws_FnExactForgiveOld.f
  refine ev_b (szStrikeS l hm) ?_
  by_cases h : l.length ≤ 1048576
  · rw [if_pos h]
    have hlm : (l.map cvStrike).length ≤ 10000000 := by simp; omega
    have hA := forgLen (l.map cvStrike) b
    have hS := specForg (l.map cvStrike) b
    have hI := implForg (l.map cvStrike) b hlm
    refine ev_neg (by omega) (Ev.bind (toStrikeS l (by omega)) (Ev.bind hS (Ev.bind (toStrikeS l (by omega)) (Ev.bind hI (Ev.bind (eqStrikeS _ (by omega)) (ev_pos rfl ?_))))))
    obtain ⟨x2, m1, m2, m3⟩ := markStrikeS (l.map cvStrike) 1 hlm (by omega)
    obtain ⟨g2, n1, n2, n3⟩ := markStrikeS (forgAns (l.map cvStrike) b).1 1 (by omega) (by omega)
    have held := heldStrikeS g2 1 (by omega) (by omega) (fun j hj => n3 j (by omega))
    rw [n2] at held
    refine Ev.step (fun k => by rw [laws_FnExactForgiveOld.j0]) ?_
    refine ev_neg (by simp) (Ev.bind (toStrikeS l (by omega)) (Ev.bind (eqStrikeS _ (by omega)) (ev_pos rfl (Ev.bind m1 (ev_neg (by simp only; omega) (Ev.bind (eqStrikeS _ (by omega)) (ev_pos rfl ?_)))))))
    refine Ev.step (fun k => by rw [laws_FnExactForgiveOld.j1]) ?_
    refine ev_neg (by simp) (Ev.bind n1 (Ev.bind held (ev_neg (by omega) (ev_pos rfl (Ev.bind (toStrikeS l (by omega)) (Ev.bind hI (Ev.bind (eqStrikeS _ (by omega)) (ev_pos rfl ?_))))))))
    refine Ev.step (fun k => by rw [laws_FnExactForgiveOld.j2]) ?_
    exact ev_neg (by simp) (Ev.bind held (ev_neg (by omega) (ev_pos rfl (Ev.now _))))
  · rw [if_neg h]
    exact ev_pos (by omega) (Ev.now _)

end Go.Proofs.Ytjfaepolmllejaa.Pure
