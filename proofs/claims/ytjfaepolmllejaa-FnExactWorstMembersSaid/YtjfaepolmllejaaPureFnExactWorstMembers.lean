/- WorstMembers: the program and the reference answer alike and leave memory alone, for every list of strikes, tick, fade and count. -/
import Derived.Test.YtjfaepolmllejaaQFnExactWorstMembersx9
namespace Go.Proofs.Ytjfaepolmllejaa.Pure
open Go.RowKit Go.Proofs.Ytjfaepolmllejaa.QFnExactWorstMembers Go.Proofs.YtjfaepolmllejaaW.PrintWords Go.Proofs.YtjfaepolmllejaaW.PrintLast Go.Proofs.YtjfaepolmllejaaW.PrintMore
set_option linter.unusedVariables false

theorem w64 {n : Int} (h1 : -9223372036854775808 ≤ n) (h2 : n ≤ 9223372036854775807) : wrap64 n = n := by
  unfold wrap64
  omega
theorem wf64 {n : Int} (h : (Lit.int .i64 n).wf = true) : -9223372036854775808 ≤ n ∧ n ≤ 9223372036854775807 := by
  simp [Lit.wf, IntKind.min, IntKind.max, IntKind.signed, IntKind.bits] at h
  omega

theorem ev_pos {α : Type} {c : Prop} [Decidable c] {g f : Nat → Option α} {r : α} (h : c) (e : Ev g r) : Ev (fun k => if c then g k else f k) r := Ev.congr (fun _ => if_pos h) e
theorem ev_neg {α : Type} {c : Prop} [Decidable c] {g f : Nat → Option α} {r : α} (h : ¬ c) (e : Ev f r) : Ev (fun k => if c then g k else f k) r := Ev.congr (fun _ => if_neg h) e
theorem ev_b {α β : Type} {o : Option α} {a : α} {f : Nat → α → Option β} {r : β} (h : o = some a) (e : Ev (fun k => f k a) r) : Ev (fun k => o.bind (f k)) r := by subst h; exact e
theorem ev_eq {α : Type} {g : Nat → Option α} {r q : α} (e : Ev g r) (h : r = q) : Ev g q := h ▸ e
theorem ev_some {α : Type} {r q : α} (h : r = q) : Ev (fun _ => some r) q := h ▸ Ev.now r
/-- Down from a list's end. -/
theorem idx_ind {α : Type} (l : List α) (P : Nat → Prop) (hend : P l.length) (hstep : ∀ i, i < l.length → P (i + 1) → P i) : ∀ i, i ≤ l.length → P i := by
  have key : ∀ d i, i + d = l.length → P i := by
    intro d
    induction d with
    | zero => intro i h; have : i = l.length := by omega
              rw [this]; exact hend
    | succ d ih => intro i h; exact hstep i (by omega) (ih (i + 1) (by omega))
  intro i h
  exact key (l.length - i) i (by omega)
theorem rd_at (l : List Int) (i : Nat) (h : i < l.length) : rd l (i : Int) = l[i] := by
  simp [rd, List.getD, h]
theorem rdOf_at {α : Type} (d : α) (l : List α) (i : Nat) (h : i < l.length) : rdOf d l (i : Int) = l[i] := by
  simp [rdOf, List.getD, h]
theorem drop_at {α : Type} (l : List α) (i : Nat) (h : i < l.length) : l.drop i = l[i] :: l.drop (i + 1) := List.drop_eq_getElem_cons h
theorem wsucc {i n : Nat} (h : i < n) (hn : n ≤ 9223372036854775807) : wrap64 ((i : Int) + 1) = ((i + 1 : Nat) : Int) := by
  rw [w64 (by omega) (by omega)]; rfl

theorem implIn (a b c : Int) : impl_in.f a b c = some (decide (b ≤ a ∧ a ≤ c)) := by
  unfold impl_in.f
  by_cases h : a ≥ b
  · rw [if_pos h]; simp [h]
  · rw [if_neg h]; simp; intro h2; omega
theorem implTick (a : Int) : impl_isTick.f a = some (decide (0 ≤ a ∧ a ≤ 1000000)) := by
  unfold impl_isTick.f
  rw [implIn]; rfl

theorem specIn (a b c : Int) : spec_l00In.f a b c = some (decide (b ≤ a ∧ a ≤ c)) := by
  unfold spec_l00In.f
  by_cases h : a ≥ b
  · rw [if_pos h]; simp [h]
  · rw [if_neg h]; simp; intro h2; omega
theorem specTick (a : Int) : spec_l02Tick.f a = some (decide (0 ≤ a ∧ a ≤ 1000000)) := by
  unfold spec_l02Tick.f
  rw [specIn]; rfl

theorem szStrikeS (l : List S39) (hl : l.length ≤ 9223372036854775807) : laws_szStrikeS.f l 1048576 = some (if l.length ≤ 1048576 then 1048576 - (l.length : Int) else -1) := by
  unfold laws_szStrikeS.f
  rw [w64 (by omega) (by omega)]
  by_cases h : l.length ≤ 1048576
  · rw [if_pos h, if_neg (by omega)]
  · rw [if_neg h, if_pos (by omega)]
theorem szAtStrikeS (l : List S39) (a : Int) (h0 : 0 ≤ a) (ha : a ≤ 1048576) (hl : l.length ≤ 9223372036854775807) : laws_szStrikeS.f l a = some (if (l.length : Int) ≤ a then a - (l.length : Int) else -1) := by
  unfold laws_szStrikeS.f
  rw [w64 (by omega) (by omega)]
  by_cases h : (l.length : Int) ≤ a
  · rw [if_pos h, if_neg (by omega)]
  · rw [if_neg h, if_pos (by omega)]
/-- An element, taken over. -/
def cvStrike (x : S39) : S45 := ⟨x.f0, x.f1, x.f2⟩
theorem rdIStrike (l : List S39) (i : Nat) (h : i < l.length) : rd_T39 l (i : Int) = l[i] := by
  simp [rd_T39, List.getD, h]
theorem rdOStrike (l : List S45) (i : Nat) (h : i < l.length) : rd_T45 l (i : Int) = l[i] := by
  simp [rd_T45, List.getD, h]
theorem rdSStrike (l : List S45) (i : Nat) (v : S45) (h : i < l.length) : rd_T45 (l.set i v) (i : Int) = v := by
  simp [rd_T45, List.getD, h]
theorem toStrikeS (l : List S39) (hl : l.length ≤ 100000000) : Ev (fun k => laws_toStrikeS.f k l) (l.map cvStrike) := by
  have key := idx_ind l (fun i => ∀ x : List S45, x.length = l.length → (∀ j, j < i → x[j]? = (l.map cvStrike)[j]?) → Ev (fun k => laws_toStrikeS.l0 k l x (i : Int)) (l.map cvStrike)) ?_ ?_
  · unfold laws_toStrikeS.f
    refine ev_pos (by omega) (ev_pos (by omega) ?_)
    exact key 0 (Nat.zero_le _) _ (by simp) (fun j h => by omega)
  · intro x hx hj
    refine Ev.step (fun k => by rw [laws_toStrikeS.l0]) ?_
    refine ev_neg (by omega) (ev_some ?_)
    apply List.ext_getElem?
    intro j
    rcases Nat.lt_or_ge j l.length with h | h
    · exact hj j h
    · rw [List.getElem?_eq_none (by omega), List.getElem?_eq_none (by simpa using h)]
  · intro i hi ih x hx hj
    refine Ev.step (fun k => by rw [laws_toStrikeS.l0]) ?_
    refine ev_pos (by omega) (ev_pos (by omega) (ev_b rfl (ev_pos (by omega) ?_)))
    rw [wsucc hi (by omega), rdIStrike l i hi]
    refine ih _ (by simp [hx]) ?_
    intro j hj2
    by_cases e : j = i
    · subst e
      simp [hx, hi, cvStrike]
    · simp only [Int.toNat_natCast]
      rw [List.getElem?_set_ne (by omega)]
      exact hj j (by omega)
theorem eqStrikeS (l : List S45) (hl : l.length ≤ 100000000) : Ev (fun k => laws_eqStrikeS.f k l l) true := by
  unfold laws_eqStrikeS.f
  refine ev_pos rfl ?_
  refine idx_ind l (fun i => Ev (fun k => laws_eqStrikeS.l0 k l l (i : Int)) true) ?_ ?_ 0 (Nat.zero_le _)
  · refine Ev.step (fun k => by rw [laws_eqStrikeS.l0]) ?_
    exact ev_neg (by omega) (Ev.now _)
  · intro i hi ih
    refine Ev.step (fun k => by rw [laws_eqStrikeS.l0]) ?_
    refine ev_pos (by omega) (ev_pos (by omega) (ev_pos (by omega) (ev_b (a := true) (by simp [laws_eqStrike.f]) (ev_pos rfl ?_))))
    rw [wsucc hi (by omega)]
    exact ih

theorem markStrikeS (l : List S45) (m : Nat) (hl : l.length ≤ 10000000) (hm : m ≤ 100000000) : ∃ l2 : List S45, Ev (fun k => laws_markStrikeS.f k l (m : Int)) (((m + 3 * l.length : Nat) : Int), l2) ∧ l2.length = l.length ∧ ∀ j, j < l.length → l2[j]? = some (⟨((m + 3 * j : Nat) : Int), ((m + 3 * j + 1 : Nat) : Int), ((m + 3 * j + 2 : Nat) : Int)⟩ : S45) := by
  have key := idx_ind l (fun i => ∀ x : List S45, x.length = l.length → (∀ j, j < i → x[j]? = some (⟨((m + 3 * j : Nat) : Int), ((m + 3 * j + 1 : Nat) : Int), ((m + 3 * j + 2 : Nat) : Int)⟩ : S45)) → ∃ l2 : List S45, Ev (fun k => laws_markStrikeS.l0 k x ((m + 3 * i : Nat) : Int) (i : Int)) (((m + 3 * l.length : Nat) : Int), l2) ∧ l2.length = l.length ∧ ∀ j, j < l.length → l2[j]? = some (⟨((m + 3 * j : Nat) : Int), ((m + 3 * j + 1 : Nat) : Int), ((m + 3 * j + 2 : Nat) : Int)⟩ : S45)) ?_ ?_
  · obtain ⟨l2, h1, h2⟩ := key 0 (Nat.zero_le _) l rfl (fun j h => by omega)
    exact ⟨l2, h1, h2⟩
  · intro x hx hj
    refine ⟨x, ?_, hx, hj⟩
    refine Ev.step (fun k => by rw [laws_markStrikeS.l0]) ?_
    exact ev_neg (by omega) (Ev.now _)
  · intro i hi ih x hx hj
    obtain ⟨l2, h1, h2⟩ := ih (x.set i (⟨((m + 3 * i : Nat) : Int), ((m + 3 * i + 1 : Nat) : Int), ((m + 3 * i + 2 : Nat) : Int)⟩ : S45)) (by simp [hx]) (by
      intro j hj2
      by_cases e : j = i
      · subst e
        simp [hx, hi]
      · rw [List.getElem?_set_ne (by omega)]
        exact hj j (by omega))
    refine ⟨l2, ?_, h2⟩
    refine Ev.step (fun k => by rw [laws_markStrikeS.l0]) ?_
    refine ev_pos (by omega) (ev_pos (by omega) ?_)
    have hix : i < x.length := by omega
    have a0 : wrap64 (((m + 3 * i : Nat) : Int) + 1) = ((m + 3 * i + 1 : Nat) : Int) := by rw [w64 (by omega) (by omega)]; omega
    have a1 : wrap64 (((m + 3 * i + 1 : Nat) : Int) + 1) = ((m + 3 * i + 2 : Nat) : Int) := by rw [w64 (by omega) (by omega)]; omega
    have a2 : wrap64 (((m + 3 * i + 2 : Nat) : Int) + 1) = ((m + 3 * (i + 1) : Nat) : Int) := by rw [w64 (by omega) (by omega)]; omega
    have e2 : wrap64 ((i : Int) + 1) = ((i + 1 : Nat) : Int) := wsucc hi (by omega)
    simp only [Option.bind_some, Int.toNat_natCast, e2, a0, a1, a2, List.set_set, rdSStrike x i _ hix]
    exact h1

/-- A strike in order. -/
def StOk (x : S45) : Prop := (1 ≤ x.f0 ∧ x.f0 ≤ 1000) ∧ (0 ≤ x.f1 ∧ x.f1 ≤ 2) ∧ (0 ≤ x.f2 ∧ x.f2 ≤ 1000000)
instance (x : S45) : Decidable (StOk x) := by unfold StOk; infer_instance
/-- Strikes in order, from a tick on. -/
def sOk (p : Int) : List S45 → Bool
  | [] => true
  | x :: r => decide (StOk x ∧ p ≤ x.f2) && sOk x.f2 r
theorem implMember (a : Int) : impl_isMember.f a = some (decide (1 ≤ a ∧ a ≤ 1000)) := by
  unfold impl_isMember.f
  rw [implIn]; rfl
theorem specStrike (x : S45) : spec_l06Strike.f x.f0 x.f1 x.f2 = some (decide (StOk x)) := by
  unfold spec_l06Strike.f spec_l02Id.f StOk
  simp only [specIn, specTick, Option.bind_some]
  by_cases h1 : 1 ≤ x.f0 ∧ x.f0 ≤ 1000
  · by_cases h2 : 0 ≤ x.f1 ∧ x.f1 ≤ 2
    · by_cases h3 : 0 ≤ x.f2 ∧ x.f2 ≤ 1000000 <;> simp [h1, h2, h3]
    · simp [h1, h2]
  · simp [h1]
theorem implStrikes (l : List S45) (hl : l.length ≤ 100000000) : Ev (fun k => impl_AreStrikes.f k l) (sOk 0 l && decide (l.length ≤ 64)) := by
  have key := idx_ind l (fun i => ∀ p : Int, (i = 0 → p = 0) → (∀ h : 0 < i, ∀ h2 : i ≤ l.length, (l[i - 1]'(by omega)).f2 = p) → Ev (fun k => impl_AreStrikes.l0 k l l (l.length : Int) (i : Int)) (sOk p (l.drop i) && decide (l.length ≤ 64))) ?_ ?_
  · exact key 0 (Nat.zero_le _) 0 (fun _ => rfl) (fun h => by omega)
  · intro p _ _
    refine Ev.step (fun k => by rw [impl_AreStrikes.l0]) ?_
    refine ev_neg (by omega) (ev_some ?_)
    simp [sOk]
    omega
  · intro i hi ih p h0 hprev
    refine Ev.step (fun k => by rw [impl_AreStrikes.l0]) ?_
    rw [rdOStrike l i hi, drop_at l i hi, wsucc hi (by omega)]
    refine ev_pos (by omega) (ev_pos (by omega) (ev_pos (by omega) (ev_b (implMember _) ?_)))
    by_cases a1 : 1 ≤ l[i].f0 ∧ l[i].f0 ≤ 1000
    · refine ev_pos (by simpa using a1) (ev_b (implIn _ _ _) ?_)
      by_cases a2 : 0 ≤ l[i].f1 ∧ l[i].f1 ≤ 2
      · refine ev_pos (by simpa using a2) (ev_b (implTick _) ?_)
        by_cases a3 : 0 ≤ l[i].f2 ∧ l[i].f2 ≤ 1000000
        · refine ev_pos (by simpa using a3) ?_
          have next := ih l[i].f2 (fun h => by omega) (fun _ _ => rfl)
          have ok : StOk l[i] := ⟨a1, a2, a3⟩
          by_cases h1 : 0 < i
          · have e1 : wrap64 ((i : Int) - 1) = ((i - 1 : Nat) : Int) := by rw [w64 (by omega) (by omega)]; omega
            rw [e1, rdOStrike l (i - 1) (by omega), hprev h1 (by omega)]
            refine ev_pos (by omega) (ev_pos (by omega) (ev_pos (by omega) ?_))
            by_cases hp2 : p > l[i].f2
            · refine ev_pos hp2 (ev_some ?_)
              have : ¬ p ≤ l[i].f2 := by omega
              simp [sOk, this]
            · refine ev_neg hp2 (ev_eq next ?_)
              have : p ≤ l[i].f2 := by omega
              simp [sOk, this, ok]
          · have hp0 := h0 (by omega)
            refine ev_neg (by omega) (ev_eq next ?_)
            have : p ≤ l[i].f2 := by omega
            simp [sOk, this, ok]
        · refine ev_neg (by simpa using a3) (ev_some ?_)
          have : ¬ StOk l[i] := fun h => a3 h.2.2
          simp [sOk, this]
      · refine ev_neg (by simpa using a2) (ev_some ?_)
        have : ¬ StOk l[i] := fun h => a2 h.2.1
        simp [sOk, this]
    · refine ev_neg (by simpa using a1) (ev_some ?_)
      have : ¬ StOk l[i] := fun h => a1 h.1
      simp [sOk, this]
theorem specStrikes (l : List S45) : Ev (fun k => spec_l06Strikes.f k l) (sOk 0 l && decide (l.length ≤ 64)) := by
  unfold spec_l06Strikes.f
  by_cases hlen : (l.length : Int) > 64
  · refine ev_pos hlen (ev_some ?_)
    have : ¬ l.length ≤ 64 := by omega
    simp [this]
  · refine ev_neg hlen ?_
    have hl : l.length ≤ 64 := by omega
    have key := idx_ind l (fun i => ∀ p : Int, (i = 0 → p = 0) → (∀ h : 0 < i, ∀ h2 : i ≤ l.length, (l[i - 1]'(by omega)).f2 = p) → Ev (fun k => spec_l06Strikes.l0 k l (i : Int)) (sOk p (l.drop i) && decide (l.length ≤ 64))) ?_ ?_
    · exact key 0 (Nat.zero_le _) 0 (fun _ => rfl) (fun h => by omega)
    · intro p _ _
      refine Ev.step (fun k => by rw [spec_l06Strikes.l0]) ?_
      refine ev_neg (by omega) (ev_some ?_)
      simp [sOk, hl]
    · intro i hi ih p h0 hprev
      refine Ev.step (fun k => by rw [spec_l06Strikes.l0]) ?_
      rw [rdOStrike l i hi, drop_at l i hi, wsucc hi (by omega)]
      refine ev_pos (by omega) (ev_pos (by omega) (ev_b (specStrike _) ?_))
      by_cases ok : StOk l[i]
      · refine ev_pos (by simpa using ok) ?_
        have next := ih l[i].f2 (fun h => by omega) (fun _ _ => rfl)
        have a3 := ok.2.2
        by_cases h1 : 0 < i
        · have e1 : wrap64 ((i : Int) - 1) = ((i - 1 : Nat) : Int) := by rw [w64 (by omega) (by omega)]; omega
          rw [e1, rdOStrike l (i - 1) (by omega), hprev h1 (by omega)]
          refine ev_pos (by omega) (ev_pos (by omega) (ev_pos (by omega) ?_))
          by_cases hp2 : l[i].f2 < p
          · refine ev_pos hp2 (ev_some ?_)
            have : ¬ p ≤ l[i].f2 := by omega
            simp [sOk, this]
          · refine ev_neg hp2 (ev_eq next ?_)
            have : p ≤ l[i].f2 := by omega
            simp [sOk, this, ok]
        · have hp0 := h0 (by omega)
          refine ev_neg (by omega) (ev_eq next ?_)
          have : p ≤ l[i].f2 := by omega
          simp [sOk, this, ok]
      · refine ev_neg (by simpa using ok) (ev_some ?_)
        simp [sOk, ok]

/-- What is left of a strike's points. -/
def ptOf (m t f : Int) (x : S45) : Nat := if x.f0 = m ∧ x.f2 ≤ t then 2 ^ x.f1.toNat / 2 ^ ((t - x.f2) / f).toNat else 0
def ptsOf (m t f : Int) : List S45 → Nat
  | [] => 0
  | x :: r => ptOf m t f x + ptsOf m t f r
theorem ptOf_le {m t f : Int} {x : S45} (h : StOk x) : ptOf m t f x ≤ 4 := by
  unfold ptOf
  split
  · have h1 : 2 ^ x.f1.toNat ≤ 2 ^ 2 := Nat.pow_le_pow_right (by omega) (by have := h.2.1; omega)
    exact Nat.le_trans (Nat.div_le_self _ _) h1
  · omega
theorem shl1 {n : Int} (h0 : 0 ≤ n) (h2 : n ≤ 2) : shl .i64 1 n = ((2 ^ n.toNat : Nat) : Int) := by
  rcases (show n = 0 ∨ n = 1 ∨ n = 2 by omega) with rfl | rfl | rfl <;> rfl
theorem u64small {n : Int} (h0 : 0 ≤ n) (h2 : n ≤ 2) : IntKind.u64.wrap n = n := by
  rcases (show n = 0 ∨ n = 1 ∨ n = 2 by omega) with rfl | rfl | rfl <;> rfl
theorem sOk_head {p : Int} {x : S45} {r : List S45} (h : sOk p (x :: r) = true) : StOk x ∧ sOk x.f2 r = true := by
  simp only [sOk, Bool.and_eq_true, decide_eq_true_eq] at h
  exact ⟨h.1.1, h.2⟩
theorem sOk_drop {l : List S45} : ∀ {p : Int} (i : Nat), sOk p l = true → ∃ q, sOk q (l.drop i) = true := by
  induction l with
  | nil => intro p i h; exact ⟨p, by simpa using h⟩
  | cons x r ih =>
    intro p i h
    cases i with
    | zero => exact ⟨p, h⟩
    | succ i => exact ih i (sOk_head h).2
theorem pow9 {a q : Nat} (h : a ≤ 2) : 2 ^ a / 2 ^ (min q 9) = 2 ^ a / 2 ^ q := by
  by_cases hq : q ≤ 9
  · rw [Nat.min_eq_left hq]
  · rw [Nat.min_eq_right (by omega)]
    have h1 : 2 ^ a ≤ 2 ^ 2 := Nat.pow_le_pow_right (by omega) h
    have h2 : 2 ^ 9 ≤ 2 ^ q := Nat.pow_le_pow_right (by omega) (by omega)
    rw [Nat.div_eq_of_lt (by omega), Nat.div_eq_of_lt (by omega)]
theorem implPoints (l : List S45) (m t f : Int) (hl : l.length ≤ 64) (hs : sOk 0 l = true) (ht : 0 ≤ t ∧ t ≤ 1000000) (hf : 1 ≤ f ∧ f ≤ 1000000) : Ev (fun k => impl_points.f k l m t f) (ptsOf m t f l : Int) := by
  have key := idx_ind l (fun i => ∀ acc : Nat, acc ≤ 4 * i → Ev (fun k => impl_points.l0 k m t f (acc : Int) l (l.length : Int) (i : Int)) ((acc + ptsOf m t f (l.drop i) : Nat) : Int)) ?_ ?_
  · have := key 0 (Nat.zero_le _) 0 (by omega)
    unfold impl_points.f
    simpa using this
  · intro acc _
    refine Ev.step (fun k => by rw [impl_points.l0]) ?_
    refine ev_neg (by omega) (ev_some ?_)
    simp [ptsOf]
  · intro i hi ih acc hacc
    obtain ⟨q, hq⟩ := sOk_drop i hs
    rw [drop_at l i hi] at hq
    have ok := (sOk_head hq).1
    have hle := ptOf_le (m := m) (t := t) (f := f) ok
    refine Ev.step (fun k => by rw [impl_points.l0]) ?_
    rw [rdOStrike l i hi, drop_at l i hi, wsucc hi (by omega)]
    refine ev_pos (by omega) (ev_pos (by omega) (ev_pos (by omega) ?_))
    obtain ⟨_, ⟨k0, k2⟩, ⟨t0, t1⟩⟩ := ok
    by_cases hm : l[i].f0 = m
    · refine ev_pos hm ?_
      by_cases hat : l[i].f2 ≤ t
      · refine ev_pos hat (ev_pos k0 (ev_neg (by omega) ?_))
        have g0 : 0 ≤ (t - l[i].f2) / f := Int.ediv_nonneg (by omega) (by omega)
        have g1 : (t - l[i].f2) / f ≤ t - l[i].f2 := Int.ediv_le_self _ (by omega)
        have e1 : mn (wrap64 ((wrap64 (t - l[i].f2)).tdiv f)) 9 = ((min ((t - l[i].f2) / f).toNat 9 : Nat) : Int) := by
          rw [w64 (n := t - l[i].f2) (by omega) (by omega), Int.tdiv_eq_ediv_of_nonneg (by omega), w64 (by omega) (by omega)]
          unfold mn
          split <;> omega
        have hp : ptOf m t f l[i] = 2 ^ l[i].f1.toNat / 2 ^ ((t - l[i].f2) / f).toNat := by unfold ptOf; rw [if_pos ⟨hm, hat⟩]
        have e2 : shl .i64 1 l[i].f1 / 2 ^ (min ((t - l[i].f2) / f).toNat 9) = ((ptOf m t f l[i] : Nat) : Int) := by
          rw [shl1 k0 k2, hp, ← pow9 (q := ((t - l[i].f2) / f).toNat) (show l[i].f1.toNat ≤ 2 by omega)]
          simp
        rw [e1]
        refine ev_pos (by omega) ?_
        rw [Int.toNat_natCast, e2, w64 (by omega) (by omega)]
        have := ih (acc + ptOf m t f l[i]) (by omega)
        simp only [ptsOf]
        rw [show acc + (ptOf m t f l[i] + ptsOf m t f (l.drop (i + 1))) = acc + ptOf m t f l[i] + ptsOf m t f (l.drop (i + 1)) by omega]
        simpa using this
      · refine ev_neg hat (ev_eq (ih acc (by omega)) ?_)
        simp [ptsOf, ptOf, hat]
    · refine ev_neg hm (ev_eq (ih acc (by omega)) ?_)
      simp [ptsOf, ptOf, hm]

theorem specHalf (l : List S45) (m t f : Int) (acc : Nat) (i : Nat) (hi : i < l.length) (hl : l.length ≤ 64) (R : Int) : ∀ (q p : Nat), p ≤ 4 → acc ≤ 256 → Ev (fun k => spec_l06Points.l0 k l m t f ((acc + p / 2 ^ q : Nat) : Int) ((i + 1 : Nat) : Int)) R →
    q ≤ 1000000 → Ev (fun k => spec_l06Points.l1 k l m t f (acc : Int) (i : Int) (p : Int) (q : Int)) R := by
  intro q
  induction q with
  | zero =>
    intro p hp ha h _
    refine Ev.step (fun k => by rw [spec_l06Points.l1]) ?_
    refine ev_neg (by omega) ?_
    rw [wsucc hi (by omega), w64 (by omega) (by omega)]
    simpa using h
  | succ q ih =>
    intro p hp ha h hq
    refine Ev.step (fun k => by rw [spec_l06Points.l1]) ?_
    refine ev_pos (by omega) ?_
    by_cases h0 : p = 0
    · subst h0
      refine ev_neg (by omega) ?_
      rw [wsucc hi (by omega), w64 (by omega) (by omega)]
      simpa using h
    · refine ev_pos (by omega) ?_
      have e1 : wrap64 ((p : Int).tdiv 2) = ((p / 2 : Nat) : Int) := by
        rw [Int.tdiv_eq_ediv_of_nonneg (by omega), w64 (by omega) (by omega)]; omega
      have e2 : wrap64 (((q + 1 : Nat) : Int) - 1) = (q : Int) := by rw [w64 (by omega) (by omega)]; omega
      rw [e1, e2]
      refine ih (p / 2) (by omega) ha ?_ (by omega)
      have e3 : p / 2 / 2 ^ q = p / 2 ^ (q + 1) := by rw [Nat.div_div_eq_div_mul, Nat.pow_succ, Nat.mul_comm]
      rw [e3]
      exact h
theorem specPoints (l : List S45) (m t f : Int) (hl : l.length ≤ 64) (hs : sOk 0 l = true) (ht : 0 ≤ t ∧ t ≤ 1000000) (hf : 1 ≤ f ∧ f ≤ 1000000) : Ev (fun k => spec_l06Points.f k l m t f) (ptsOf m t f l : Int) := by
  have key := idx_ind l (fun i => ∀ acc : Nat, acc ≤ 4 * i → Ev (fun k => spec_l06Points.l0 k l m t f (acc : Int) (i : Int)) ((acc + ptsOf m t f (l.drop i) : Nat) : Int)) ?_ ?_
  · have := key 0 (Nat.zero_le _) 0 (by omega)
    unfold spec_l06Points.f
    simpa using this
  · intro acc _
    refine Ev.step (fun k => by rw [spec_l06Points.l0]) ?_
    refine ev_neg (by omega) (ev_some ?_)
    simp [ptsOf]
  · intro i hi ih acc hacc
    obtain ⟨q, hq⟩ := sOk_drop i hs
    rw [drop_at l i hi] at hq
    have ok := (sOk_head hq).1
    have hle := ptOf_le (m := m) (t := t) (f := f) ok
    refine Ev.step (fun k => by rw [spec_l06Points.l0]) ?_
    rw [rdOStrike l i hi, drop_at l i hi]
    refine ev_pos (by omega) (ev_pos (by omega) ?_)
    obtain ⟨_, ⟨k0, k2⟩, ⟨t0, t1⟩⟩ := ok
    by_cases hm : l[i].f0 = m
    · refine ev_pos hm ?_
      refine Ev.step (fun k => by rw [spec_l06Points.j1]) ?_
      by_cases hat : l[i].f2 ≤ t
      · refine ev_neg (by simpa using hat) ?_
        rw [u64small k0 k2]
        refine ev_pos k0 (ev_neg (by omega) ?_)
        have g0 : 0 ≤ (t - l[i].f2) / f := Int.ediv_nonneg (by omega) (by omega)
        have g1 : (t - l[i].f2) / f ≤ t - l[i].f2 := Int.ediv_le_self _ (by omega)
        have e1 : wrap64 ((wrap64 (t - l[i].f2)).tdiv f) = ((((t - l[i].f2) / f).toNat : Nat) : Int) := by
          rw [w64 (n := t - l[i].f2) (by omega) (by omega), Int.tdiv_eq_ediv_of_nonneg (by omega), w64 (by omega) (by omega)]
          omega
        have hp : ptOf m t f l[i] = 2 ^ l[i].f1.toNat / 2 ^ ((t - l[i].f2) / f).toNat := by unfold ptOf; rw [if_pos ⟨hm, hat⟩]
        have h4 : 2 ^ l[i].f1.toNat ≤ 4 := by
          have : 2 ^ l[i].f1.toNat ≤ 2 ^ 2 := Nat.pow_le_pow_right (by omega) (by omega)
          omega
        rw [e1, shl1 k0 k2]
        refine specHalf l m t f acc i hi hl _ _ _ h4 (by omega) ?_ (by omega)
        rw [← hp]
        refine ev_eq (ih (acc + ptOf m t f l[i]) (by omega)) ?_
        simp only [ptsOf]
        congr 1
        omega
      · refine ev_pos (by simpa using by omega) ?_
        rw [wsucc hi (by omega)]
        refine ev_eq (ih acc (by omega)) ?_
        simp [ptsOf, ptOf, hat]
    · refine ev_neg hm ?_
      refine Ev.step (fun k => by rw [spec_l06Points.j1]) ?_
      refine ev_pos rfl ?_
      rw [wsucc hi (by omega)]
      refine ev_eq (ih acc (by omega)) ?_
      simp [ptsOf, ptOf, hm]

theorem eqInts (l : List Int) (hl : l.length ≤ 100000000) : Ev (fun k => laws_eqInt64S.f k l l) true := by
  unfold laws_eqInt64S.f
  refine ev_pos rfl ?_
  refine idx_ind l (fun i => Ev (fun k => laws_eqInt64S.l0 k l l (i : Int)) true) ?_ ?_ 0 (Nat.zero_le _)
  · refine Ev.step (fun k => by rw [laws_eqInt64S.l0]) ?_
    exact ev_neg (by omega) (Ev.now _)
  · intro i hi ih
    refine Ev.step (fun k => by rw [laws_eqInt64S.l0]) ?_
    refine ev_pos (by omega) (ev_pos (by omega) (ev_pos (by omega) (ev_pos rfl ?_)))
    rw [wsucc hi (by omega)]
    exact ih

theorem markInts (l : List Int) (m : Nat) (hl : l.length ≤ 100000000) (hm : m ≤ 100000000) : ∃ l2 : List Int, Ev (fun k => laws_markInt64S.f k l (m : Int)) (((m + l.length : Nat) : Int), l2) ∧ l2.length = l.length ∧ ∀ j, j < l.length → l2[j]? = some ((m + j : Nat) : Int) := by
  have key := idx_ind l (fun i => ∀ x : List Int, x.length = l.length → (∀ j, j < i → x[j]? = some ((m + j : Nat) : Int)) → ∃ l2 : List Int, Ev (fun k => laws_markInt64S.l0 k x ((m + i : Nat) : Int) (i : Int)) (((m + l.length : Nat) : Int), l2) ∧ l2.length = l.length ∧ ∀ j, j < l.length → l2[j]? = some ((m + j : Nat) : Int)) ?_ ?_
  · obtain ⟨l2, h1, h2⟩ := key 0 (Nat.zero_le _) l rfl (fun j h => by omega)
    exact ⟨l2, h1, h2⟩
  · intro x hx hj
    refine ⟨x, ?_, hx, hj⟩
    refine Ev.step (fun k => by rw [laws_markInt64S.l0]) ?_
    exact ev_neg (by omega) (Ev.now _)
  · intro i hi ih x hx hj
    obtain ⟨l2, h1, h2⟩ := ih (x.set i ((m + i : Nat) : Int)) (by simp [hx]) (by
      intro j hj2
      by_cases e : j = i
      · subst e
        simp [hx, hi]
      · rw [List.getElem?_set_ne (by omega)]
        exact hj j (by omega))
    refine ⟨l2, ?_, h2⟩
    refine Ev.step (fun k => by rw [laws_markInt64S.l0]) ?_
    refine ev_pos (by omega) (ev_pos (by omega) ?_)
    have e1 : wrap64 (((m + i : Nat) : Int) + 1) = ((m + (i + 1) : Nat) : Int) := by rw [w64 (by omega) (by omega)]; omega
    rw [wsucc hi (by omega), e1, Int.toNat_natCast]
    exact h1

theorem heldInts (l : List Int) (m : Nat) (hl : l.length ≤ 100000000) (hm : m ≤ 100000000) (hj : ∀ j, j < l.length → l[j]? = some ((m + j : Nat) : Int)) : Ev (fun k => laws_heldInt64S.f k l (m : Int)) ((m + l.length : Nat) : Int) := by
  refine idx_ind l (fun i => Ev (fun k => laws_heldInt64S.l0 k l ((m + i : Nat) : Int) (i : Int)) ((m + l.length : Nat) : Int)) ?_ ?_ 0 (Nat.zero_le _)
  · refine Ev.step (fun k => by rw [laws_heldInt64S.l0]) ?_
    exact ev_neg (by omega) (Ev.now _)
  · intro i hi ih
    have hv : l[i] = ((m + i : Nat) : Int) := by
      have := hj i hi
      rw [List.getElem?_eq_getElem hi] at this
      exact Option.some.inj this
    refine Ev.step (fun k => by rw [laws_heldInt64S.l0]) ?_
    rw [rd_at l i hi, hv]
    refine ev_pos (by omega) (ev_pos (by omega) (ev_pos rfl ?_))
    rw [wsucc hi (by omega), wsucc (i := m + i) (n := m + l.length + 1) (by omega) (by omega)]
    exact ih

/-- Who comes first: more points, then the smaller number. -/
def wLt (P : Int → Int) (x y : Int) : Prop := P y < P x ∨ (P x = P y ∧ x < y)
theorem wLt_irr (P : Int → Int) (x : Int) : ¬ wLt P x x := by unfold wLt; omega
theorem wLt_tr (P : Int → Int) {x y z : Int} (h : wLt P x y) (h2 : wLt P y z) : wLt P x z := by unfold wLt at *; omega
theorem wLt_tot (P : Int → Int) {x y : Int} (h : x ≠ y) : wLt P x y ∨ wLt P y x := by unfold wLt; omega
/-- A number put to its place. -/
def putV (n : Int) : List Int → List Int
  | [] => [n]
  | x :: r => if n ≤ x then (if n < x then n :: x :: r else x :: r) else x :: putV n r
theorem putV_mem (n x : Int) : ∀ l, x ∈ putV n l ↔ x = n ∨ x ∈ l
  | [] => by simp [putV]
  | y :: r => by
    unfold putV
    split
    · split
      · simp
      · have : y = n := by omega
        subst this
        simp
    · simp only [List.mem_cons, putV_mem n x r]
      constructor
      · rintro (h | h | h)
        · exact .inr (.inl h)
        · exact .inl h
        · exact .inr (.inr h)
      · rintro (h | h | h)
        · exact .inr (.inl h)
        · exact .inl h
        · exact .inr (.inr h)
theorem putV_up (n : Int) : ∀ l : List Int, l.Pairwise (fun x y => x < y) → (putV n l).Pairwise (fun x y => x < y)
  | [], _ => by simp [putV]
  | y :: r, h => by
    have h2 := List.pairwise_cons.1 h
    unfold putV
    split
    · split
      · refine List.pairwise_cons.2 ⟨fun z hz => ?_, h⟩
        rcases List.mem_cons.1 hz with rfl | hz
        · assumption
        · have := h2.1 z hz; omega
      · exact h
    · refine List.pairwise_cons.2 ⟨fun z hz => ?_, putV_up n r h2.2⟩
      rcases (putV_mem n z r).1 hz with rfl | hz
      · omega
      · exact h2.1 z hz
theorem putV_len (n : Int) : ∀ l, (putV n l).length ≤ l.length + 1
  | [] => by simp [putV]
  | y :: r => by
    unfold putV
    have := putV_len n r
    split
    · split <;> simp
    · simp; omega
theorem specPut (l : List Int) (n : Int) (hl : l.length ≤ 1000000) : Ev (fun k => spec_l00Put.f k l n) (putV n l) := by
  have done : ∀ i, i ≤ l.length → ∀ out : List Int, out.length ≤ i + 1 → Ev (fun k => spec_l00Put.l0 k l n out true (i : Int)) (out ++ l.drop i) := by
    refine idx_ind l _ ?_ ?_
    · intro out ho
      refine Ev.step (fun k => by rw [spec_l00Put.l0]) ?_
      refine ev_neg (by omega) (ev_pos rfl (ev_some ?_))
      simp
    · intro i hi ih out ho
      refine Ev.step (fun k => by rw [spec_l00Put.l0]) ?_
      refine ev_pos (by omega) (ev_pos rfl ?_)
      refine Ev.step (fun k => by rw [spec_l00Put.j1]) ?_
      refine ev_neg (by simp) (ev_pos (by omega) (ev_pos (by omega) (ev_pos (by omega) ?_)))
      rw [rd_at l i hi, wsucc hi (by omega), drop_at l i hi]
      refine ev_eq (ih _ (by simp; omega)) ?_
      simp
  have key : ∀ i, i ≤ l.length → ∀ out : List Int, out.length ≤ i → Ev (fun k => spec_l00Put.l0 k l n out false (i : Int)) (out ++ putV n (l.drop i)) := by
    refine idx_ind l _ ?_ ?_
    · intro out ho
      refine Ev.step (fun k => by rw [spec_l00Put.l0]) ?_
      refine ev_neg (by omega) (ev_neg (by simp) (ev_pos (by omega) (ev_some ?_)))
      simp [putV]
    · intro i hi ih out ho
      refine Ev.step (fun k => by rw [spec_l00Put.l0]) ?_
      refine ev_pos (by omega) (ev_neg (by simp) (ev_pos (by omega) ?_))
      refine Ev.step (fun k => by rw [spec_l00Put.j1]) ?_
      rw [rd_at l i hi, wsucc hi (by omega), drop_at l i hi]
      by_cases h : n ≤ l[i]
      · refine ev_pos (by simpa using h) (ev_pos (by omega) (ev_pos (by omega) ?_))
        by_cases h2 : n < l[i]
        · refine ev_pos (by omega) (ev_pos (by omega) (ev_b rfl (ev_pos (by simp; omega) ?_)))
          refine ev_eq (done (i + 1) (by omega) _ (by simp; omega)) ?_
          simp [putV, h, h2]
        · refine ev_neg (by omega) (ev_pos (by omega) ?_)
          refine ev_eq (done (i + 1) (by omega) _ (by simp; omega)) ?_
          simp [putV, h, h2]
      · refine ev_neg (by simpa using h) (ev_pos (by omega) (ev_pos (by omega) (ev_pos (by omega) ?_)))
        refine ev_eq (ih _ (by simp; omega)) ?_
        simp [putV, h]
  have := key 0 (Nat.zero_le _) [] (Nat.zero_le _)
  unfold spec_l00Put.f
  simpa using this
theorem specHas (l : List Int) (n : Int) (hl : l.length ≤ 1000000) : Ev (fun k => spec_l00Has.f k l n) (decide (n ∈ l)) := by
  have key : ∀ i, i ≤ l.length → Ev (fun k => spec_l00Has.l0 k l n (i : Int)) (decide (n ∈ l.drop i)) := by
    refine idx_ind l _ ?_ ?_
    · refine Ev.step (fun k => by rw [spec_l00Has.l0]) ?_
      refine ev_neg (by omega) (ev_some ?_)
      simp
    · intro i hi ih
      refine Ev.step (fun k => by rw [spec_l00Has.l0]) ?_
      refine ev_pos (by omega) (ev_pos (by omega) ?_)
      rw [rd_at l i hi, wsucc hi (by omega), drop_at l i hi]
      by_cases h : l[i] = n
      · refine ev_pos h (ev_some ?_)
        exact (decide_eq_true (List.mem_cons.2 (.inl h.symm))).symm
      · refine ev_neg h (ev_eq ih ?_)
        have h' : ¬ n = l[i] := fun e => h e.symm
        rw [decide_eq_decide, List.mem_cons]
        exact ⟨fun z => .inr z, fun z => z.resolve_left h'⟩
  exact key 0 (Nat.zero_le _)
/-- The best of those that are not out yet. -/
def scanV (P : Int → Int) (out : List Int) : List Int → Int → Int → Int × Int
  | [], b, m => (b, m)
  | x :: r, b, m => if P x > m then (if x ∈ out then scanV P out r b m else scanV P out r x (P x)) else scanV P out r b m
/-- What is known of the best of a list. -/
def BestOf (P : Int → Int) (out l : List Int) (b m : Int) : Prop :=
  (m = 0 ∧ ∀ x ∈ l, 0 < P x → x ∈ out) ∨ (0 < m ∧ P b = m ∧ b ∈ l ∧ b ∉ out ∧ ∀ x ∈ l, 0 < P x → x ∉ out → x = b ∨ wLt P b x)
theorem scanV_best (P : Int → Int) (out : List Int) : ∀ (suf pre : List Int) (b m : Int), (pre ++ suf).Pairwise (fun x y => x < y) → BestOf P out pre b m → BestOf P out (pre ++ suf) (scanV P out suf b m).1 (scanV P out suf b m).2
  | [], pre, b, m, _, h => by simpa [scanV] using h
  | x :: r, pre, b, m, hp, h => by
    have hp' : ((pre ++ [x]) ++ r).Pairwise (fun x y => x < y) := by simpa using hp
    have hlt : ∀ y ∈ pre, y < x := fun y hy => (List.pairwise_append.1 hp).2.2 y hy x (by simp)
    have goal : ∀ b' m', BestOf P out (pre ++ [x]) b' m' → BestOf P out (pre ++ x :: r) (scanV P out r b' m').1 (scanV P out r b' m').2 := by
      intro b' m' h'
      have := scanV_best P out r (pre ++ [x]) b' m' hp' h'
      simpa using this
    unfold scanV
    by_cases h1 : P x > m
    · rw [if_pos h1]
      by_cases h2 : x ∈ out
      · rw [if_pos h2]
        refine goal b m ?_
        rcases h with ⟨hm, hc⟩ | ⟨hm, hb, hbl, hbo, hc⟩
        · refine .inl ⟨hm, fun y hy hpy => ?_⟩
          rcases List.mem_append.1 hy with hy | hy
          · exact hc y hy hpy
          · rw [List.mem_singleton.1 hy]; exact h2
        · refine .inr ⟨hm, hb, by simp [hbl], hbo, fun y hy hpy hyo => ?_⟩
          rcases List.mem_append.1 hy with hy | hy
          · exact hc y hy hpy hyo
          · rw [List.mem_singleton.1 hy] at hyo; exact absurd h2 hyo
      · rw [if_neg h2]
        refine goal x (P x) ?_
        rcases h with ⟨hm, hc⟩ | ⟨hm, hb, hbl, hbo, hc⟩
        · refine .inr ⟨by omega, rfl, by simp, h2, fun y hy hpy hyo => ?_⟩
          rcases List.mem_append.1 hy with hy | hy
          · exact absurd (hc y hy hpy) hyo
          · exact .inl (List.mem_singleton.1 hy)
        · refine .inr ⟨by omega, rfl, by simp, h2, fun y hy hpy hyo => ?_⟩
          rcases List.mem_append.1 hy with hy | hy
          · right
            rcases hc y hy hpy hyo with rfl | hw
            · left; omega
            · left
              unfold wLt at hw
              omega
          · exact .inl (List.mem_singleton.1 hy)
    · rw [if_neg h1]
      refine goal b m ?_
      rcases h with ⟨hm, hc⟩ | ⟨hm, hb, hbl, hbo, hc⟩
      · refine .inl ⟨hm, fun y hy hpy => ?_⟩
        rcases List.mem_append.1 hy with hy | hy
        · exact hc y hy hpy
        · rw [List.mem_singleton.1 hy] at hpy; omega
      · refine .inr ⟨hm, hb, by simp [hbl], hbo, fun y hy hpy hyo => ?_⟩
        rcases List.mem_append.1 hy with hy | hy
        · exact hc y hy hpy hyo
        · right
          have e := List.mem_singleton.1 hy
          subst e
          have := hlt b hbl
          unfold wLt
          omega
section
variable (l : List S45) (t f : Int)
/-- The points of a member, as a number. -/
def ptI (m : Int) : Int := (ptsOf m t f l : Int)
theorem ptsOf_le : ∀ (l : List S45) (p m : Int), sOk p l = true → ptsOf m t f l ≤ 4 * l.length
  | [], _, _, _ => by simp [ptsOf]
  | x :: r, p, m, h => by
    have h1 := sOk_head h
    have h2 := ptsOf_le r x.f2 m h1.2
    have h3 := ptOf_le (m := m) (t := t) (f := f) h1.1
    simp only [ptsOf, List.length_cons]
    omega
theorem sOk_all : ∀ (l : List S45) (p : Int), sOk p l = true → ∀ x ∈ l, StOk x
  | [], _, _, x, hx => by cases hx
  | y :: r, p, h, x, hx => by
    have h1 := sOk_head h
    rcases List.mem_cons.1 hx with rfl | hx
    · exact h1.1
    · exact sOk_all r y.f2 h1.2 x hx
/-- Members with points, in the order in which they are met. -/
def colV (P : Int → Int) : List S45 → List (Int × Int) → List (Int × Int)
  | [], acc => acc
  | s :: r, acc => colV P r (if P s.f0 > 0 ∧ impl_WorstMembers.hasK acc s.f0 = false then acc ++ [(s.f0, P s.f0)] else acc)
theorem hasK_iff (m : List (Int × Int)) (x : Int) : impl_WorstMembers.hasK m x = true ↔ x ∈ m.map Prod.fst := by
  unfold impl_WorstMembers.hasK
  simp only [List.any_eq_true, beq_iff_eq, List.mem_map]
structure ColOk (P : Int → Int) (acc : List (Int × Int)) : Prop where
  nd : (acc.map Prod.fst).Nodup
  val : ∀ p ∈ acc, p.2 = P p.1 ∧ 0 < P p.1 ∧ 1 ≤ p.1 ∧ p.1 ≤ 1000
theorem col_step (P : Int → Int) (acc : List (Int × Int)) (h : ColOk P acc) (x : Int) (hx : 1 ≤ x ∧ x ≤ 1000) : ColOk P (if P x > 0 ∧ impl_WorstMembers.hasK acc x = false then acc ++ [(x, P x)] else acc) := by
  split
  · rename_i hc
    refine ⟨?_, ?_⟩
    · rw [List.map_append, List.nodup_append]
      refine ⟨h.nd, by simp, ?_⟩
      intro a ha b hb e
      have : b = x := by simpa using hb
      subst this
      subst e
      rw [(hasK_iff acc a).2 ha] at hc
      exact absurd hc.2 (by simp)
    · intro p hp
      rcases List.mem_append.1 hp with hp | hp
      · exact h.val p hp
      · rw [List.mem_singleton.1 hp]
        exact ⟨rfl, hc.1, hx.1, hx.2⟩
  · exact h
theorem col_ok (P : Int → Int) : ∀ (r : List S45) (acc : List (Int × Int)), (∀ x ∈ r, StOk x) → ColOk P acc → ColOk P (colV P r acc)
  | [], _, _, h => h
  | s :: r, acc, hs, h => col_ok P r _ (fun x hx => hs x (by simp [hx])) (col_step P acc h s.f0 (hs s (by simp)).1)
theorem col_mem (P : Int → Int) (x : Int) : ∀ (r : List S45) (acc : List (Int × Int)), x ∈ (colV P r acc).map Prod.fst ↔ x ∈ acc.map Prod.fst ∨ (0 < P x ∧ ∃ s ∈ r, s.f0 = x)
  | [], acc => by simp [colV]
  | s :: r, acc => by
    unfold colV
    rw [col_mem P x r]
    constructor
    · rintro (h | ⟨h, s', hs', e⟩)
      · split at h
        · rename_i hc
          rw [List.map_append] at h
          rcases List.mem_append.1 h with h | h
          · exact .inl h
          · have : x = s.f0 := by simpa using h
            subst this
            exact .inr ⟨hc.1, s, by simp, rfl⟩
        · exact .inl h
      · exact .inr ⟨h, s', by simp [hs'], e⟩
    · rintro (h | ⟨h, s', hs', e⟩)
      · left
        split
        · rw [List.map_append]; exact List.mem_append.2 (.inl h)
        · exact h
      · rcases List.mem_cons.1 hs' with rfl | hs'
        · left
          subst e
          by_cases hh : impl_WorstMembers.hasK acc s'.f0 = false
          · rw [if_pos ⟨h, hh⟩, List.map_append]; simp
          · rw [if_neg (fun z => hh z.2)]
            exact (hasK_iff acc s'.f0).1 (by simpa using hh)
        · exact .inr ⟨h, s', hs', e⟩
theorem col_len (P : Int → Int) : ∀ (r : List S45) (acc : List (Int × Int)), (colV P r acc).length ≤ acc.length + r.length
  | [], acc => by simp [colV]
  | s :: r, acc => by
    unfold colV
    have := col_len P r (if P s.f0 > 0 ∧ impl_WorstMembers.hasK acc s.f0 = false then acc ++ [(s.f0, P s.f0)] else acc)
    have h2 : (if P s.f0 > 0 ∧ impl_WorstMembers.hasK acc s.f0 = false then acc ++ [(s.f0, P s.f0)] else acc).length ≤ acc.length + 1 := by split <;> simp
    rw [List.length_cons]
    omega
theorem valK_at (P : Int → Int) : ∀ (acc : List (Int × Int)) (x : Int), (∀ p ∈ acc, p.2 = P p.1) → x ∈ acc.map Prod.fst → impl_WorstMembers.valK acc x = P x
  | [], x, _, h => by simp at h
  | p :: r, x, hv, h => by
    unfold impl_WorstMembers.valK
    by_cases e : p.1 = x
    · have : (p.1 == x) = true := by simpa using e
      simp only [List.find?_cons, this]
      simp [hv p (by simp), e]
    · have : (p.1 == x) = false := by simpa using e
      simp only [List.find?_cons, this]
      have h2 : x ∈ r.map Prod.fst := by
        rcases List.mem_cons.1 (by simpa using h : x ∈ p.1 :: r.map Prod.fst) with h2 | h2
        · exact absurd h2.symm e
        · exact h2
      exact valK_at P r x (fun q hq => hv q (by simp [hq])) h2
theorem srt_tells (P : Int → Int) (acc : List (Int × Int)) (h : ColOk P acc) (hl : acc.length ≤ 1000) : ∃ S, impl_WorstMembers.srt acc (acc.map Prod.fst) = some S ∧ S.length = acc.length ∧ S.Pairwise (wLt P) ∧ ∀ x, x ∈ S ↔ x ∈ acc.map Prod.fst := by
  have hfit : impl_WorstMembers.fitK (acc.map Prod.fst) = true := by
    unfold impl_WorstMembers.fitK
    simp only [Bool.and_eq_true, decide_eq_true_eq, List.all_eq_true, List.length_map]
    refine ⟨by omega, fun x hx => ?_⟩
    obtain ⟨p, hp, rfl⟩ := List.mem_map.1 hx
    have := h.val p hp
    omega
  unfold impl_WorstMembers.srt
  rw [if_pos hfit]
  obtain ⟨d, hd⟩ : ∃ d : List (Fin 1001), d = (acc.map Prod.fst).map fun x => (⟨x.toNat % 1001, Nat.mod_lt _ (by decide)⟩ : Fin 1001) := ⟨_, rfl⟩
  have hback : (d.map fun x => (x.val : Int)) = acc.map Prod.fst := by
    rw [hd, List.map_map]
    conv => rhs; rw [← List.map_id (acc.map Prod.fst)]
    apply List.map_congr_left
    intro x hx
    obtain ⟨p, hp, rfl⟩ := List.mem_map.1 hx
    have := h.val p hp
    simp only [Function.comp, id]
    omega
  rw [← hd]
  have hv : ∀ x ∈ acc.map Prod.fst, impl_WorstMembers.valK acc x = P x := fun x hx => valK_at P acc x (fun p hp => (h.val p hp).1) hx
  have hperm := List.mergeSort_perm d fun x y => !decide (impl_WorstMembers.cmpK acc (y.val : Int) (x.val : Int) < 0)
  have hsort := List.pairwise_mergeSort (le := fun x y : Fin 1001 => !decide (impl_WorstMembers.cmpK acc (y.val : Int) (x.val : Int) < 0)) (by
    intro a b c h1 h2
    simp only [Bool.not_eq_true', decide_eq_false_iff_not, impl_WorstMembers.lt_iff] at *
    omega) (by
    intro a b
    simp only [Bool.or_eq_true, Bool.not_eq_true', decide_eq_false_iff_not, impl_WorstMembers.lt_iff]
    omega) d
  generalize (d.mergeSort fun x y => !decide (impl_WorstMembers.cmpK acc (y.val : Int) (x.val : Int) < 0)) = e at hperm hsort
  have hpm : (e.map fun x => (x.val : Int)).Perm (acc.map Prod.fst) := by rw [← hback]; exact hperm.map _
  refine ⟨_, rfl, by have := hpm.length_eq; simpa using this, ?_, fun x => hpm.mem_iff⟩
  have hnd : (e.map fun x => (x.val : Int)).Nodup := hpm.nodup_iff.2 h.nd
  have hs2 : (e.map fun x => (x.val : Int)).Pairwise fun a b => ¬ impl_WorstMembers.cmpK acc b a < 0 := by
    rw [List.pairwise_map]
    exact hsort.imp (fun {a b} hab => by simpa using hab)
  refine ((hs2.and (List.nodup_iff_pairwise_ne.1 hnd)).imp_of_mem ?_)
  rintro a b ha hb ⟨h1, h2⟩
  rw [impl_WorstMembers.lt_iff, hv a (hpm.mem_iff.1 ha), hv b (hpm.mem_iff.1 hb)] at h1
  rcases wLt_tot P h2 with h3 | h3
  · exact h3
  · exact absurd h3 h1
/-- The members with points, the worst first. -/
def worstV : List Int := (impl_WorstMembers.srt (colV (ptI l t f) l []) ((colV (ptI l t f) l []).map Prod.fst)).getD []
def leftV : List S45 → List Int → List Int
  | [], acc => acc
  | s :: r, acc => leftV r (putV s.f0 acc)
theorem left_up : ∀ (r : List S45) (acc : List Int), acc.Pairwise (fun x y => x < y) → (leftV r acc).Pairwise (fun x y => x < y)
  | [], _, h => h
  | s :: r, acc, h => left_up r _ (putV_up s.f0 acc h)
theorem left_mem (x : Int) : ∀ (r : List S45) (acc : List Int), x ∈ leftV r acc ↔ x ∈ acc ∨ ∃ s ∈ r, s.f0 = x
  | [], acc => by simp [leftV]
  | s :: r, acc => by
    unfold leftV
    rw [left_mem x r, putV_mem]
    simp only [List.mem_cons, exists_eq_or_imp]
    constructor
    · rintro ((h | h) | h)
      · exact .inr (.inl h.symm)
      · exact .inl h
      · exact .inr (.inr h)
    · rintro (h | h | h)
      · exact .inl (.inr h)
      · exact .inl (.inl h.symm)
      · exact .inr h
theorem left_len : ∀ (r : List S45) (acc : List Int), (leftV r acc).length ≤ acc.length + r.length
  | [], acc => by simp [leftV]
  | s :: r, acc => by
    unfold leftV
    have h1 := left_len r (putV s.f0 acc)
    have h2 := putV_len s.f0 acc
    simp
    omega
theorem worst_tells (hl : l.length ≤ 64) (hs : sOk 0 l = true) : ∃ S, impl_WorstMembers.srt (colV (ptI l t f) l []) ((colV (ptI l t f) l []).map Prod.fst) = some S ∧ worstV l t f = S ∧ S.length ≤ 64 ∧ S.length = (colV (ptI l t f) l []).length ∧ S.Pairwise (wLt (ptI l t f)) ∧ ∀ x, x ∈ S ↔ 0 < ptI l t f x ∧ ∃ s ∈ l, s.f0 = x := by
  have hc := col_ok (ptI l t f) l [] (sOk_all l 0 hs) ⟨by simp, by simp⟩
  have hlen := col_len (ptI l t f) l []
  obtain ⟨S, h1, h2, h3, h4⟩ := srt_tells (ptI l t f) _ hc (by simp at hlen; omega)
  refine ⟨S, h1, by unfold worstV; rw [h1]; rfl, by rw [h2]; simp at hlen; omega, h2, h3, fun x => (h4 x).trans ?_⟩
  rw [col_mem]
  simp
theorem specScan (hl : l.length ≤ 64) (hs : sOk 0 l = true) (ht : 0 ≤ t ∧ t ≤ 1000000) (hf : 1 ≤ f ∧ f ≤ 1000000) (left out : List Int) (c : Int) (hleft : left.length ≤ 1000) (hout : out.length ≤ 1000) (R : List Int × Bool) : ∀ i, i ≤ left.length → ∀ b m : Int,
    ((scanV (ptI l t f) out (left.drop i) b m).2 = 0 → R = (out, true)) → ((scanV (ptI l t f) out (left.drop i) b m).2 ≠ 0 → Ev (fun k => spec_WorstMembers.l1 k l t f c left (out ++ [(scanV (ptI l t f) out (left.drop i) b m).1])) R) →
    Ev (fun k => spec_WorstMembers.l2 k l t f c left out b m (i : Int)) R := by
  refine idx_ind left _ ?_ ?_
  · intro b m h0 h1
    rw [List.drop_length] at h0 h1
    simp only [scanV] at h0 h1
    refine Ev.step (fun k => by rw [spec_WorstMembers.l2]) ?_
    refine ev_neg (by omega) ?_
    by_cases hm : m = 0
    · exact ev_pos hm (ev_some (h0 hm).symm)
    · exact ev_neg hm (ev_pos (by omega) (h1 hm))
  · intro i hi ih b m h0 h1
    rw [drop_at left i hi] at h0 h1
    simp only [scanV] at h0 h1
    refine Ev.step (fun k => by rw [spec_WorstMembers.l2]) ?_
    refine ev_pos (by omega) (ev_pos (by omega) ?_)
    rw [rd_at left i hi, wsucc hi (by omega)]
    refine Ev.bind (specPoints l left[i] t f hl hs ht hf) ?_
    by_cases hp : ptI l t f left[i] > m
    · rw [if_pos hp] at h0 h1
      refine ev_pos hp (Ev.bind (specHas out left[i] (by omega)) ?_)
      by_cases ho : left[i] ∈ out
      · rw [if_pos ho] at h0 h1
        exact ev_pos (by simpa using ho) (ih b m h0 h1)
      · rw [if_neg ho] at h0 h1
        exact ev_neg (by simpa using ho) (ih left[i] _ h0 h1)
    · rw [if_neg hp] at h0 h1
      exact ev_neg hp (ih b m h0 h1)
theorem specPick (hl : l.length ≤ 64) (hs : sOk 0 l = true) (ht : 0 ≤ t ∧ t ≤ 1000000) (hf : 1 ≤ f ∧ f ≤ 1000000) (c : Int) (hc : 0 ≤ c ∧ c ≤ 64) : ∀ j, j ≤ (worstV l t f).length → (j : Int) ≤ c → Ev (fun k => spec_WorstMembers.l1 k l t f c (leftV l []) ((worstV l t f).take j)) ((worstV l t f).take c.toNat, true) := by
  obtain ⟨S, _, hS, hS64, _, hSw, hSm⟩ := worst_tells l t f hl hs
  rw [hS]
  have hleft : (leftV l []).length ≤ 64 := by have := left_len l []; simp at this; omega
  have hup := left_up l [] (by simp)
  have hin : ∀ x, x ∈ S ↔ x ∈ leftV l [] ∧ 0 < ptI l t f x := by
    intro x
    rw [hSm, left_mem]
    simp [and_comm]
  refine idx_ind S _ ?_ ?_
  · intro hj
    refine Ev.step (fun k => by rw [spec_WorstMembers.l1]) ?_
    rw [List.take_length]
    have hans : (S.take c.toNat, true) = (S, true) := by rw [List.take_of_length_le (by omega)]
    by_cases h : (S.length : Int) < c
    · refine ev_pos h (specScan l t f hl hs ht hf _ S c (by omega) (by omega) _ 0 (Nat.zero_le _) 0 0 ?_ ?_)
      · intro _; exact hans
      · intro hne
        have hb := scanV_best (ptI l t f) S (leftV l []) [] 0 0 (by simpa using hup) (.inl ⟨rfl, by simp⟩)
        simp only [List.nil_append] at hb
        rw [List.drop_zero] at hne
        rcases hb with ⟨h0, _⟩ | ⟨h0, h1, h2, h3, _⟩
        · exact absurd h0 hne
        · exact absurd ((hin _).2 ⟨h2, by omega⟩) h3
    · exact ev_neg h (ev_some hans.symm)
  · intro j hj ih hjc
    refine Ev.step (fun k => by rw [spec_WorstMembers.l1]) ?_
    have hlen : (S.take j).length = j := by simp; omega
    rw [hlen]
    by_cases h : (j : Int) < c
    · have hb := scanV_best (ptI l t f) (S.take j) (leftV l []) [] 0 0 (by simpa using hup) (.inl ⟨rfl, by simp⟩)
      simp only [List.nil_append] at hb
      have hsplit : S = S.take j ++ S[j] :: S.drop (j + 1) := by
        rw [← List.drop_eq_getElem_cons hj]; exact (List.take_append_drop j S).symm
      have hSw' : (S.take j ++ S[j] :: S.drop (j + 1)).Pairwise (wLt (ptI l t f)) := by rw [← hsplit]; exact hSw
      have hnot : S[j] ∉ S.take j := by
        intro hx
        exact wLt_irr _ _ ((List.pairwise_append.1 hSw').2.2 _ hx _ List.mem_cons_self)
      have hjin := (hin S[j]).1 (List.getElem_mem hj)
      refine ev_pos h (specScan l t f hl hs ht hf _ (S.take j) c (by omega) (by omega) _ 0 (Nat.zero_le _) 0 0 ?_ ?_)
      · intro h0
        rw [List.drop_zero] at h0
        rcases hb with ⟨_, h1⟩ | ⟨h1, _⟩
        · exact absurd (h1 _ hjin.1 hjin.2) hnot
        · omega
      · intro hne
        rw [List.drop_zero] at hne ⊢
        rcases hb with ⟨h0, _⟩ | ⟨h0, h1, h2, h3, h4⟩
        · exact absurd h0 hne
        · have he : (scanV (ptI l t f) (S.take j) (leftV l []) 0 0).1 = S[j] := by
            rcases h4 _ hjin.1 hjin.2 hnot with e | hw
            · exact e.symm
            · have hbS : (scanV (ptI l t f) (S.take j) (leftV l []) 0 0).1 ∈ S.take j ++ S[j] :: S.drop (j + 1) := by
                rw [← hsplit]
                exact (hin _).2 ⟨h2, by omega⟩
              rcases List.mem_append.1 hbS with hx | hx
              · exact absurd hx h3
              · rcases List.mem_cons.1 hx with e | hx
                · exact e
                · have h5 := (List.pairwise_cons.1 (List.pairwise_append.1 hSw').2.1).1 _ hx
                  exact absurd (wLt_tr _ h5 hw) (wLt_irr _ _)
          rw [he, ← List.take_succ_eq_append_getElem hj]
          exact ih (by omega)
    · refine ev_neg h (ev_some ?_)
      have : c.toNat = j := by omega
      rw [this]
theorem implCol (hl : l.length ≤ 64) (hs : sOk 0 l = true) (ht : 0 ≤ t ∧ t ≤ 1000000) (hf : 1 ≤ f ∧ f ≤ 1000000) (c : Int) (R : List Int × Bool) (hR : Ev (fun k => impl_WorstMembers.l0 k l t f c (colV (ptI l t f) l []) ((colV (ptI l t f) l []).map Prod.fst) l (l.length : Int) (l.length : Int)) R) : ∀ i, i ≤ l.length → ∀ acc : List (Int × Int), acc.length ≤ i → colV (ptI l t f) (l.drop i) acc = colV (ptI l t f) l [] →
    Ev (fun k => impl_WorstMembers.l0 k l t f c acc (acc.map Prod.fst) l (l.length : Int) (i : Int)) R := by
  refine idx_ind l _ ?_ ?_
  · intro acc _ he
    rw [List.drop_length] at he
    simp only [colV] at he
    rw [he]
    exact hR
  · intro i hi ih acc hacc he
    rw [drop_at l i hi] at he
    simp only [colV] at he
    have hst := sOk_all l 0 hs l[i] (List.getElem_mem hi)
    have hpt := ptsOf_le t f l 0 l[i].f0 hs
    refine Ev.step (fun k => by rw [impl_WorstMembers.l0]) ?_
    rw [rdOStrike l i hi, wsucc hi (by omega)]
    refine ev_pos (by omega) (ev_pos (by omega) (ev_pos (by omega) (Ev.bind (implPoints l l[i].f0 t f hl hs ht hf) ?_)))
    refine ev_pos ⟨⟨by have := hst.1; omega, by have := hst.1; omega⟩, by omega⟩ ?_
    by_cases hp : ptI l t f l[i].f0 > 0
    · refine ev_pos hp ?_
      by_cases hh : impl_WorstMembers.hasK acc l[i].f0 = true
      · refine ev_pos hh ?_
        rw [if_neg (fun z => by rw [hh] at z; exact absurd z.2 (by simp))] at he
        exact ih acc (by omega) he
      · refine ev_neg hh (ev_pos ⟨by simp; omega, by omega⟩ ?_)
        rw [if_pos ⟨hp, by simpa using hh⟩] at he
        have := ih _ (by simp; omega) he
        rw [List.map_append] at this
        exact this
    · refine ev_neg hp ?_
      rw [if_neg (fun z => hp z.1)] at he
      exact ih acc (by omega) he
end
/-- What both answer. -/
def worAns (l : List S45) (t f c : Int) : List Int × Bool := if (sOk 0 l && decide (l.length ≤ 64)) = true ∧ (0 ≤ t ∧ t ≤ 1000000) ∧ (1 ≤ f ∧ f ≤ 1000000) ∧ (0 ≤ c ∧ c ≤ 64) then ((worstV l t f).take c.toNat, true) else ([], false)
theorem worLen (l : List S45) (t f c : Int) : (worAns l t f c).1.length ≤ 64 := by
  unfold worAns
  split
  · rename_i h
    simp only [List.length_take]
    omega
  · simp
theorem specWorst (l : List S45) (t f c : Int) : Ev (fun k => spec_WorstMembers.f k l t f c) (worAns l t f c) := by
  unfold spec_WorstMembers.f
  refine Ev.bind (specStrikes l) ?_
  have no : ¬ ((sOk 0 l && decide (l.length ≤ 64)) = true ∧ (0 ≤ t ∧ t ≤ 1000000) ∧ (1 ≤ f ∧ f ≤ 1000000) ∧ (0 ≤ c ∧ c ≤ 64)) → Ev (fun k => spec_WorstMembers.j0 k l t f c true) (worAns l t f c) := by
    intro h
    unfold worAns
    rw [if_neg h]
    refine Ev.step (fun k => by rw [spec_WorstMembers.j0]) ?_
    exact ev_pos rfl (Ev.now _)
  by_cases h : (sOk 0 l && decide (l.length ≤ 64)) = true
  · refine ev_pos h (ev_b (specTick _) ?_)
    by_cases h2 : 0 ≤ t ∧ t ≤ 1000000
    · refine ev_pos (by simpa using h2) (ev_b (specIn _ _ _) ?_)
      by_cases h3 : 1 ≤ f ∧ f ≤ 1000000
      · refine ev_pos (by simpa using h3) (ev_b (specIn _ _ _) ?_)
        by_cases h4 : 0 ≤ c ∧ c ≤ 64
        · unfold worAns
          rw [if_pos ⟨h, h2, h3, h4⟩, show (!decide (0 ≤ c ∧ c ≤ 64)) = false by simpa using h4]
          have h' := h
          simp only [Bool.and_eq_true, decide_eq_true_eq] at h'
          refine Ev.step (fun k => by rw [spec_WorstMembers.j0]) ?_
          refine ev_neg (by simp) ?_
          have fill : ∀ i, i ≤ l.length → ∀ acc : List Int, acc.length ≤ i → leftV (l.drop i) acc = leftV l [] → Ev (fun k => spec_WorstMembers.l0 k l t f c acc (i : Int)) ((worstV l t f).take c.toNat, true) := by
            refine idx_ind l _ ?_ ?_
            · intro acc _ he
              rw [List.drop_length] at he
              simp only [leftV] at he
              refine Ev.step (fun k => by rw [spec_WorstMembers.l0]) ?_
              refine ev_neg (by omega) ?_
              rw [he]
              have := specPick l t f h'.2 h'.1 h2 h3 c h4 0 (Nat.zero_le _) (by omega)
              simpa using this
            · intro i hi ih acc hacc he
              rw [drop_at l i hi] at he
              simp only [leftV] at he
              refine Ev.step (fun k => by rw [spec_WorstMembers.l0]) ?_
              rw [rdOStrike l i hi, wsucc hi (by omega)]
              refine ev_pos (by omega) (ev_pos (by omega) (Ev.bind (specPut acc l[i].f0 (by omega)) ?_))
              exact ih _ (by have := putV_len l[i].f0 acc; omega) he
          exact fill 0 (Nat.zero_le _) [] (Nat.le_refl _) rfl
        · rw [decide_eq_false h4]
          exact no fun z => h4 z.2.2.2
      · exact ev_neg (by simpa using h3) (no fun z => h3 z.2.2.1)
    · exact ev_neg (by simpa using h2) (no fun z => h2 z.2.1)
  · exact ev_neg h (no fun z => h z.1)
theorem implWorst (l : List S45) (t f c : Int) (hl : l.length ≤ 100000000) : Ev (fun k => impl_WorstMembers.f k l t f c) (worAns l t f c) := by
  unfold impl_WorstMembers.f
  refine Ev.bind (implStrikes l hl) ?_
  have no : ¬ ((sOk 0 l && decide (l.length ≤ 64)) = true ∧ (0 ≤ t ∧ t ≤ 1000000) ∧ (1 ≤ f ∧ f ≤ 1000000) ∧ (0 ≤ c ∧ c ≤ 64)) → Ev (fun k => impl_WorstMembers.j0 k l t f c true) (worAns l t f c) := by
    intro h
    unfold worAns
    rw [if_neg h]
    refine Ev.step (fun k => by rw [impl_WorstMembers.j0]) ?_
    exact ev_pos rfl (Ev.now _)
  by_cases h : (sOk 0 l && decide (l.length ≤ 64)) = true
  · refine ev_pos h (ev_b (implTick _) ?_)
    by_cases h2 : 0 ≤ t ∧ t ≤ 1000000
    · refine ev_pos (by simpa using h2) (ev_b (implIn _ _ _) ?_)
      by_cases h3 : 1 ≤ f ∧ f ≤ 1000000
      · refine ev_pos (by simpa using h3) (ev_b (implIn _ _ _) ?_)
        by_cases h4 : 0 ≤ c ∧ c ≤ 64
        · have h' := h
          simp only [Bool.and_eq_true, decide_eq_true_eq] at h'
          obtain ⟨S, hsrt, hS, hS64, hSl, _⟩ := worst_tells l t f h'.2 h'.1
          unfold worAns
          rw [if_pos ⟨h, h2, h3, h4⟩, show (!decide (0 ≤ c ∧ c ≤ 64)) = false by simpa using h4, hS]
          refine Ev.step (fun k => by rw [impl_WorstMembers.j0]) ?_
          refine ev_neg (by simp) ?_
          refine implCol l t f h'.2 h'.1 h2 h3 c _ ?_ 0 (Nat.zero_le _) [] (Nat.le_refl _) rfl
          refine Ev.step (fun k => by rw [impl_WorstMembers.l0]) ?_
          refine ev_neg (by omega) (ev_b hsrt ?_)
          have hmn : mn c (((colV (ptI l t f) l []).map Prod.fst).length : Int) = ((min c.toNat S.length : Nat) : Int) := by
            rw [List.length_map, ← hSl]
            unfold mn
            split <;> omega
          rw [hmn]
          refine ev_pos (by omega) (ev_pos (by simp [hSl]; omega) (ev_some ?_))
          rw [Int.toNat_natCast]
          congr 1
          rcases Nat.le_total c.toNat S.length with hq | hq
          · rw [Nat.min_eq_left hq]
          · rw [Nat.min_eq_right hq, List.take_length, List.take_of_length_le hq]
        · rw [decide_eq_false h4]
          exact no fun z => h4 z.2.2.2
      · exact ev_neg (by simpa using h3) (no fun z => h3 z.2.2.1)
    · exact ev_neg (by simpa using h2) (no fun z => h2 z.2.1)
  · exact ev_neg h (no fun z => h z.1)

theorem FnExactWorstMembers : laws_FnExactWorstMembers.Pure := by
  intro l t f c hl _ _ _
  refine Ev.rounds ?_
  have hm : l.length ≤ 9223372036854775807 := by have := hl.1; unfold maxLen at this; omega
  unfold laws_FnExactWorstMembers.f
  refine ev_b (szStrikeS l hm) ?_
  by_cases h : l.length ≤ 1048576
  · rw [if_pos h]
    have hlm : (l.map cvStrike).length ≤ 10000000 := by simp; omega
    have hA := worLen (l.map cvStrike) t f c
    have hS := specWorst (l.map cvStrike) t f c
    have hI := implWorst (l.map cvStrike) t f c (by omega)
    refine ev_neg (by omega) (Ev.bind (toStrikeS l (by omega)) (Ev.bind hS (Ev.bind (toStrikeS l (by omega)) (Ev.bind hI (Ev.bind (eqInts _ (by omega)) (ev_pos rfl ?_))))))
    obtain ⟨x2, m1, m2, m3⟩ := markStrikeS (l.map cvStrike) 1 hlm (by omega)
    obtain ⟨g2, n1, n2, n3⟩ := markInts (worAns (l.map cvStrike) t f c).1 1 (by omega) (by omega)
    have held := heldInts g2 1 (by omega) (by omega) (fun j hj => n3 j (by omega))
    rw [n2] at held
    refine Ev.step (fun k => by rw [laws_FnExactWorstMembers.j0]) ?_
    refine ev_neg (by simp) (Ev.bind (toStrikeS l (by omega)) (Ev.bind (eqStrikeS _ (by omega)) (ev_pos rfl (Ev.bind m1 (ev_neg (by simp only; omega) (Ev.bind (eqInts _ (by omega)) (ev_pos rfl ?_)))))))
    refine Ev.step (fun k => by rw [laws_FnExactWorstMembers.j1]) ?_
    refine ev_neg (by simp) (Ev.bind n1 (Ev.bind held (ev_neg (by omega) (ev_pos rfl (Ev.bind (toStrikeS l (by omega)) (Ev.bind hI (Ev.bind (eqInts _ (by omega)) (ev_pos rfl ?_))))))))
    refine Ev.step (fun k => by rw [laws_FnExactWorstMembers.j2]) ?_
    exact ev_neg (by simp) (Ev.bind held (ev_neg (by omega) (ev_pos rfl (Ev.now _))))
  · rw [if_neg h]
    exact ev_pos (by omega) (Ev.now _)

end Go.Proofs.Ytjfaepolmllejaa.Pure
