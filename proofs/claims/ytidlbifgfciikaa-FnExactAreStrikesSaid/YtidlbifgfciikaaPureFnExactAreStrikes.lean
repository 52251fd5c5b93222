/- AreStrikes: the program and the reference answer alike, for every list of strikes. -/
import Derived.Test.YtidlbifgfciikaaQFnExactAreStrikesx5
namespace Go.Proofs.Ytidlbifgfciikaa.Pure
open Go.RowKit Go.Proofs.Ytidlbifgfciikaa.QFnExactAreStrikes Go.Proofs.YtidlbifgfciikaaW.PrintWords Go.Proofs.YtidlbifgfciikaaW.PrintLast Go.Proofs.YtidlbifgfciikaaW.PrintMore
set_option linter.unusedVariables false

theorem w64 {n : Int} (h1 : -9223372036854775808 ≤ n) (h2 : n ≤ 9223372036854775807) : wrap64 n = n := by
  unfold wrap64
  omega
theorem wf64 {n : Int} (h : (Lit.int .i64 n).wf = true) : -9223372036854775808 ≤ n ∧ n ≤ 9223372036854775807 := by
  simp [Lit.wf, IntKind.min, IntKind.max, IntKind.signed, IntKind.bits] at h
  omega

theorem ev_pos {α : Type} {c : Prop} [Decidable c] {g f : Nat → Option α} {r : α} (h : c) (e : Ev g r) : Ev (fun k => if c then g k else f k) r := Ev.congr (fun _ => if_pos h) e
theorem ev_neg {α : Type} {c : Prop} [Decidable c] {g f : Nat → Option α} {r : α} (h : ¬ c) (e : Ev f r) : Ev (fun k => if c then g k else f k) r := Ev.congr (fun _ => if_neg h) e
theorem ev_b {α β : Type} {o : Option α} {a : α} {f : Nat → α → Option β} {r : β} (h : o = some a) (e : Ev (fun k => f k a) r) : Ev (fun k => o.bind (f k)) r := by subst h; exact e
theorem ev_eq {α : Type} {g : Nat → Option α} {r q : α} (e : Ev g r) (h : r = q) : Ev g q := h ▸ e
theorem ev_some {α : Type} {r q : α} (h : r = q) : Ev (fun _ => some r) q := h ▸ Ev.now r
/-- Down from a list's end. -/
theorem idx_ind {α : Type} (l : List α) (P : Nat → Prop) (hend : P l.length) (hstep : ∀ i, i < l.length → P (i + 1) → P i) : ∀ i, i ≤ l.length → P i := by
  have key : ∀ d i, i + d = l.length → P i := by
    intro d
    induction d with
    | zero => intro i h; have : i = l.length := by omega
              rw [this]; exact hend
    | succ d ih => intro i h; exact hstep i (by omega) (ih (i + 1) (by omega))
  intro i h
  exact key (l.length - i) i (by omega)
theorem rd_at (l : List Int) (i : Nat) (h : i < l.length) : rd l (i : Int) = l[i] := by
  simp [rd, List.getD, h]
theorem rdOf_at {α : Type} (d : α) (l : List α) (i : Nat) (h : i < l.length) : rdOf d l (i : Int) = l[i] := by
  simp [rdOf, List.getD, h]
theorem drop_at {α : Type} (l : List α) (i : Nat) (h : i < l.length) : l.drop i = l[i] :: l.drop (i + 1) := List.drop_eq_getElem_cons h
theorem wsucc {i n : Nat} (h : i < n) (hn : n ≤ 9223372036854775807) : wrap64 ((i : Int) + 1) = ((i + 1 : Nat) : Int) := by
  rw [w64 (by omega) (by omega)]; rfl

theorem implIn (a b c : Int) : impl_in.f a b c = some (decide (b ≤ a ∧ a ≤ c)) := by
  unfold impl_in.f
  by_cases h : a ≥ b
  · rw [if_pos h]; simp [h]
  · rw [if_neg h]; simp; intro h2; omega
theorem implTick (a : Int) : impl_isTick.f a = some (decide (0 ≤ a ∧ a ≤ 1000000)) := by
  unfold impl_isTick.f
  rw [implIn]; rfl

theorem specIn (a b c : Int) : spec_l00In.f a b c = some (decide (b ≤ a ∧ a ≤ c)) := by
  unfold spec_l00In.f
  by_cases h : a ≥ b
  · rw [if_pos h]; simp [h]
  · rw [if_neg h]; simp; intro h2; omega
theorem specTick (a : Int) : spec_l02Tick.f a = some (decide (0 ≤ a ∧ a ≤ 1000000)) := by
  unfold spec_l02Tick.f
  rw [specIn]; rfl

theorem szStrike (l : List S81) (hl : l.length ≤ 9223372036854775807) : laws_szStrikeS.f l 1048576 = some (if l.length ≤ 1048576 then 1048576 - (l.length : Int) else -1) := by
  unfold laws_szStrikeS.f
  rw [w64 (by omega) (by omega)]
  by_cases h : l.length ≤ 1048576
  · rw [if_pos h, if_neg (by omega)]
  · rw [if_neg h, if_pos (by omega)]

/-- An element, taken over. -/
def cvStrike (x : S81) : S79 := ⟨x.f0, x.f1, x.f2⟩
theorem rdIStrike (l : List S81) (i : Nat) (h : i < l.length) : rd_T81 l (i : Int) = l[i] := by
  simp [rd_T81, List.getD, h]
theorem toStrikeS (l : List S81) (hl : l.length ≤ 100000000) : Ev (fun k => laws_toStrikeS.f k l) (l.map cvStrike) := by
  have key := idx_ind l (fun i => ∀ x : List S79, x.length = l.length → (∀ j, j < i → x[j]? = (l.map cvStrike)[j]?) → Ev (fun k => laws_toStrikeS.l0 k l x (i : Int)) (l.map cvStrike)) ?_ ?_
  · unfold laws_toStrikeS.f
    refine ev_pos (by omega) (ev_pos (by omega) ?_)
    exact key 0 (Nat.zero_le _) _ (by simp) (fun j h => by omega)
  · intro x hx hj
    refine Ev.step (fun k => by rw [laws_toStrikeS.l0]) ?_
    refine ev_neg (by omega) (ev_some ?_)
    apply List.ext_getElem?
    intro j
    rcases Nat.lt_or_ge j l.length with h | h
    · exact hj j h
    · rw [List.getElem?_eq_none (by omega), List.getElem?_eq_none (by simpa using h)]
  · intro i hi ih x hx hj
    refine Ev.step (fun k => by rw [laws_toStrikeS.l0]) ?_
    refine ev_pos (by omega) (ev_pos (by omega) (ev_b rfl (ev_pos (by omega) ?_)))
    rw [wsucc hi (by omega), rdIStrike l i hi]
    refine ih _ (by simp [hx]) ?_
    intro j hj2
    by_cases e : j = i
    · subst e
      simp [hx, hi, cvStrike]
    · simp only [Int.toNat_natCast]
      rw [List.getElem?_set_ne (by omega)]
      exact hj j (by omega)

theorem rdOStrike (l : List S79) (i : Nat) (h : i < l.length) : rd_T79 l (i : Int) = l[i] := by
  simp [rd_T79, List.getD, h]
theorem eqStrikeS (l : List S79) (hl : l.length ≤ 100000000) : Ev (fun k => laws_eqStrikeS.f k l l) true := by
  unfold laws_eqStrikeS.f
  refine ev_pos rfl ?_
  refine idx_ind l (fun i => Ev (fun k => laws_eqStrikeS.l0 k l l (i : Int)) true) ?_ ?_ 0 (Nat.zero_le _)
  · refine Ev.step (fun k => by rw [laws_eqStrikeS.l0]) ?_
    exact ev_neg (by omega) (Ev.now _)
  · intro i hi ih
    refine Ev.step (fun k => by rw [laws_eqStrikeS.l0]) ?_
    refine ev_pos (by omega) (ev_pos (by omega) (ev_pos (by omega) (ev_b (a := true) (by simp [laws_eqStrike.f]) (ev_pos rfl ?_))))
    rw [wsucc hi (by omega)]
    exact ih

/-- A strike in order. -/
def StOk (x : S79) : Prop := (1 ≤ x.f0 ∧ x.f0 ≤ 1000) ∧ (0 ≤ x.f1 ∧ x.f1 ≤ 2) ∧ (0 ≤ x.f2 ∧ x.f2 ≤ 1000000)
instance (x : S79) : Decidable (StOk x) := by unfold StOk; infer_instance
/-- Strikes in order, from a tick on. -/
def sOk (p : Int) : List S79 → Bool
  | [] => true
  | x :: r => decide (StOk x ∧ p ≤ x.f2) && sOk x.f2 r
theorem implMember (a : Int) : impl_isMember.f a = some (decide (1 ≤ a ∧ a ≤ 1000)) := by
  unfold impl_isMember.f
  rw [implIn]; rfl
theorem specStrike (x : S79) : spec_l06Strike.f x.f0 x.f1 x.f2 = some (decide (StOk x)) := by
  unfold spec_l06Strike.f spec_l02Id.f StOk
  simp only [specIn, specTick, Option.bind_some]
  by_cases h1 : 1 ≤ x.f0 ∧ x.f0 ≤ 1000
  · by_cases h2 : 0 ≤ x.f1 ∧ x.f1 ≤ 2
    · by_cases h3 : 0 ≤ x.f2 ∧ x.f2 ≤ 1000000 <;> simp [h1, h2, h3]
    · simp [h1, h2]
  · simp [h1]
theorem implStrikes (l : List S79) (hl : l.length ≤ 100000000) : Ev (fun k => impl_AreStrikes.f k l) (sOk 0 l && decide (l.length ≤ 64)) := by
  have key := idx_ind l (fun i => ∀ p : Int, (i = 0 → p = 0) → (∀ h : 0 < i, ∀ h2 : i ≤ l.length, (l[i - 1]'(by omega)).f2 = p) → Ev (fun k => impl_AreStrikes.l0 k l l (l.length : Int) (i : Int)) (sOk p (l.drop i) && decide (l.length ≤ 64))) ?_ ?_
  · exact key 0 (Nat.zero_le _) 0 (fun _ => rfl) (fun h => by omega)
  · intro p _ _
    refine Ev.step (fun k => by rw [impl_AreStrikes.l0]) ?_
    refine ev_neg (by omega) (ev_some ?_)
    simp [sOk]
    omega
  · intro i hi ih p h0 hprev
    refine Ev.step (fun k => by rw [impl_AreStrikes.l0]) ?_
    rw [rdOStrike l i hi, drop_at l i hi, wsucc hi (by omega)]
    refine ev_pos (by omega) (ev_pos (by omega) (ev_pos (by omega) (ev_b (implMember _) ?_)))
    by_cases a1 : 1 ≤ l[i].f0 ∧ l[i].f0 ≤ 1000
    · refine ev_pos (by simpa using a1) (ev_b (implIn _ _ _) ?_)
      by_cases a2 : 0 ≤ l[i].f1 ∧ l[i].f1 ≤ 2
      · refine ev_pos (by simpa using a2) (ev_b (implTick _) ?_)
        by_cases a3 : 0 ≤ l[i].f2 ∧ l[i].f2 ≤ 1000000
        · refine ev_pos (by simpa using a3) ?_
          have next := ih l[i].f2 (fun h => by omega) (fun _ _ => rfl)
          have ok : StOk l[i] := ⟨a1, a2, a3⟩
          by_cases h1 : 0 < i
          · have e1 : wrap64 ((i : Int) - 1) = ((i - 1 : Nat) : Int) := by rw [w64 (by omega) (by omega)]; omega
            rw [e1, rdOStrike l (i - 1) (by omega), hprev h1 (by omega)]
            refine ev_pos (by omega) (ev_pos (by omega) (ev_pos (by omega) ?_))
            by_cases hp2 : p > l[i].f2
            · refine ev_pos hp2 (ev_some ?_)
              have : ¬ p ≤ l[i].f2 := by omega
              simp [sOk, this]
            · refine ev_neg hp2 (ev_eq next ?_)
              have : p ≤ l[i].f2 := by omega
              simp [sOk, this, ok]
          · have hp0 := h0 (by omega)
            refine ev_neg (by omega) (ev_eq next ?_)
            have : p ≤ l[i].f2 := by omega
            simp [sOk, this, ok]
        · refine ev_neg (by simpa using a3) (ev_some ?_)
          have : ¬ StOk l[i] := fun h => a3 h.2.2
          simp [sOk, this]
      · refine ev_neg (by simpa using a2) (ev_some ?_)
        have : ¬ StOk l[i] := fun h => a2 h.2.1
        simp [sOk, this]
    · refine ev_neg (by simpa using a1) (ev_some ?_)
      have : ¬ StOk l[i] := fun h => a1 h.1
      simp [sOk, this]
theorem specStrikes (l : List S79) : Ev (fun k => spec_l06Strikes.f k l) (sOk 0 l && decide (l.length ≤ 64)) := by
  unfold spec_l06Strikes.f
  by_cases hlen : (l.length : Int) > 64
  · refine ev_pos hlen (ev_some ?_)
    have : ¬ l.length ≤ 64 := by omega
    simp [this]
  · refine ev_neg hlen ?_
    have hl : l.length ≤ 64 := by omega
    have key := idx_ind l (fun i => ∀ p : Int, (i = 0 → p = 0) → (∀ h : 0 < i, ∀ h2 : i ≤ l.length, (l[i - 1]'(by omega)).f2 = p) → Ev (fun k => spec_l06Strikes.l0 k l (i : Int)) (sOk p (l.drop i) && decide (l.length ≤ 64))) ?_ ?_
    · exact key 0 (Nat.zero_le _) 0 (fun _ => rfl) (fun h => by omega)
    · intro p _ _
      refine Ev.step (fun k => by rw [spec_l06Strikes.l0]) ?_
      refine ev_neg (by omega) (ev_some ?_)
      simp [sOk, hl]
    · intro i hi ih p h0 hprev
      refine Ev.step (fun k => by rw [spec_l06Strikes.l0]) ?_
      rw [rdOStrike l i hi, drop_at l i hi, wsucc hi (by omega)]
      refine ev_pos (by omega) (ev_pos (by omega) (ev_b (specStrike _) ?_))
      by_cases ok : StOk l[i]
      · refine ev_pos (by simpa using ok) ?_
        have next := ih l[i].f2 (fun h => by omega) (fun _ _ => rfl)
        have a3 := ok.2.2
        by_cases h1 : 0 < i
        · have e1 : wrap64 ((i : Int) - 1) = ((i - 1 : Nat) : Int) := by rw [w64 (by omega) (by omega)]; omega
          rw [e1, rdOStrike l (i - 1) (by omega), hprev h1 (by omega)]
          refine ev_pos (by omega) (ev_pos (by omega) (ev_pos (by omega) ?_))
          by_cases hp2 : l[i].f2 < p
          · refine ev_pos hp2 (ev_some ?_)
            have : ¬ p ≤ l[i].f2 := by omega
            simp [sOk, this]
          · refine ev_neg hp2 (ev_eq next ?_)
            have : p ≤ l[i].f2 := by omega
            simp [sOk, this, ok]
        · have hp0 := h0 (by omega)
          refine ev_neg (by omega) (ev_eq next ?_)
          have : p ≤ l[i].f2 := by omega
          simp [sOk, this, ok]
      · refine ev_neg (by simpa using ok) (ev_some ?_)
        simp [sOk, ok]

theorem FnExactAreStrikes : laws_FnExactAreStrikes.Pure := by
  intro l hl
  refine Ev.rounds ?_
  have hm : l.length ≤ 9223372036854775807 := by have := hl.1; unfold maxLen at this; omega
  unfold laws_FnExactAreStrikes.f
  refine ev_b (szStrike l hm) ?_
  by_cases h : l.length ≤ 1048576
  · rw [if_pos h]
    refine ev_neg (by omega) ?_
    refine Ev.bind (toStrikeS l (by omega)) ?_
    unfold spec_AreStrikes.f
    refine Ev.bind (Ev.bind (specStrikes _) (Ev.now _)) ?_
    refine Ev.bind (toStrikeS l (by omega)) ?_
    refine Ev.bind (implStrikes _ (by simpa using by omega)) ?_
    refine ev_neg (by simp) ?_
    refine Ev.bind (toStrikeS l (by omega)) ?_
    refine Ev.bind (eqStrikeS _ (by simpa using by omega)) ?_
    exact ev_pos rfl (Ev.now _)
  · rw [if_neg h]
    exact ev_pos (by omega) (Ev.now _)

end Go.Proofs.Ytidlbifgfciikaa.Pure
