/- PointsOf: the program and the reference answer alike, for every list of strikes, member, tick and fade. -/
import Derived.Test.YtidlbifgfciikaaQFnExactPointsOfx5
namespace Go.Proofs.Ytidlbifgfciikaa.Pure
open Go.RowKit Go.Proofs.Ytidlbifgfciikaa.QFnExactPointsOf Go.Proofs.YtidlbifgfciikaaW.PrintWords Go.Proofs.YtidlbifgfciikaaW.PrintLast Go.Proofs.YtidlbifgfciikaaW.PrintMore
set_option linter.unusedVariables false

theorem w64 {n : Int} (h1 : -9223372036854775808 ≤ n) (h2 : n ≤ 9223372036854775807) : wrap64 n = n := by
  unfold wrap64
  omega
theorem wf64 {n : Int} (h : (Lit.int .i64 n).wf = true) : -9223372036854775808 ≤ n ∧ n ≤ 9223372036854775807 := by
  simp [Lit.wf, IntKind.min, IntKind.max, IntKind.signed, IntKind.bits] at h
  omega

theorem ev_pos {α : Type} {c : Prop} [Decidable c] {g f : Nat → Option α} {r : α} (h : c) (e : Ev g r) : Ev (fun k => if c then g k else f k) r := Ev.congr (fun _ => if_pos h) e
theorem ev_neg {α : Type} {c : Prop} [Decidable c] {g f : Nat → Option α} {r : α} (h : ¬ c) (e : Ev f r) : Ev (fun k => if c then g k else f k) r := Ev.congr (fun _ => if_neg h) e
theorem ev_b {α β : Type} {o : Option α} {a : α} {f : Nat → α → Option β} {r : β} (h : o = some a) (e : Ev (fun k => f k a) r) : Ev (fun k => o.bind (f k)) r := by subst h; exact e
theorem ev_eq {α : Type} {g : Nat → Option α} {r q : α} (e : Ev g r) (h : r = q) : Ev g q := h ▸ e
theorem ev_some {α : Type} {r q : α} (h : r = q) : Ev (fun _ => some r) q := h ▸ Ev.now r
/-- Down from a list's end. -/
theorem idx_ind {α : Type} (l : List α) (P : Nat → Prop) (hend : P l.length) (hstep : ∀ i, i < l.length → P (i + 1) → P i) : ∀ i, i ≤ l.length → P i := by
  have key : ∀ d i, i + d = l.length → P i := by
    intro d
    induction d with
    | zero => intro i h; have : i = l.length := by omega
              rw [this]; exact hend
    | succ d ih => intro i h; exact hstep i (by omega) (ih (i + 1) (by omega))
  intro i h
  exact key (l.length - i) i (by omega)
theorem rd_at (l : List Int) (i : Nat) (h : i < l.length) : rd l (i : Int) = l[i] := by
  simp [rd, List.getD, h]
theorem rdOf_at {α : Type} (d : α) (l : List α) (i : Nat) (h : i < l.length) : rdOf d l (i : Int) = l[i] := by
  simp [rdOf, List.getD, h]
theorem drop_at {α : Type} (l : List α) (i : Nat) (h : i < l.length) : l.drop i = l[i] :: l.drop (i + 1) := List.drop_eq_getElem_cons h
theorem wsucc {i n : Nat} (h : i < n) (hn : n ≤ 9223372036854775807) : wrap64 ((i : Int) + 1) = ((i + 1 : Nat) : Int) := by
  rw [w64 (by omega) (by omega)]; rfl

theorem implIn (a b c : Int) : impl_in.f a b c = some (decide (b ≤ a ∧ a ≤ c)) := by
  unfold impl_in.f
  by_cases h : a ≥ b
  · rw [if_pos h]; simp [h]
  · rw [if_neg h]; simp; intro h2; omega
theorem implTick (a : Int) : impl_isTick.f a = some (decide (0 ≤ a ∧ a ≤ 1000000)) := by
  unfold impl_isTick.f
  rw [implIn]; rfl

theorem specIn (a b c : Int) : spec_l00In.f a b c = some (decide (b ≤ a ∧ a ≤ c)) := by
  unfold spec_l00In.f
  by_cases h : a ≥ b
  · rw [if_pos h]; simp [h]
  · rw [if_neg h]; simp; intro h2; omega
theorem specTick (a : Int) : spec_l02Tick.f a = some (decide (0 ≤ a ∧ a ≤ 1000000)) := by
  unfold spec_l02Tick.f
  rw [specIn]; rfl

theorem szStrike (l : List S81) (hl : l.length ≤ 9223372036854775807) : laws_szStrikeS.f l 1048576 = some (if l.length ≤ 1048576 then 1048576 - (l.length : Int) else -1) := by
  unfold laws_szStrikeS.f
  rw [w64 (by omega) (by omega)]
  by_cases h : l.length ≤ 1048576
  · rw [if_pos h, if_neg (by omega)]
  · rw [if_neg h, if_pos (by omega)]

/-- An element, taken over. -/
def cvStrike (x : S81) : S79 := ⟨x.f0, x.f1, x.f2⟩
theorem rdIStrike (l : List S81) (i : Nat) (h : i < l.length) : rd_T81 l (i : Int) = l[i] := by
  simp [rd_T81, List.getD, h]
theorem toStrikeS (l : List S81) (hl : l.length ≤ 100000000) : Ev (fun k => laws_toStrikeS.f k l) (l.map cvStrike) := by
  have key := idx_ind l (fun i => ∀ x : List S79, x.length = l.length → (∀ j, j < i → x[j]? = (l.map cvStrike)[j]?) → Ev (fun k => laws_toStrikeS.l0 k l x (i : Int)) (l.map cvStrike)) ?_ ?_
  · unfold laws_toStrikeS.f
    refine ev_pos (by omega) (ev_pos (by omega) ?_)
    exact key 0 (Nat.zero_le _) _ (by simp) (fun j h => by omega)
  · intro x hx hj
    refine Ev.step (fun k => by rw [laws_toStrikeS.l0]) ?_
    refine ev_neg (by omega) (ev_some ?_)
    apply List.ext_getElem?
    intro j
    rcases Nat.lt_or_ge j l.length with h | h
    · exact hj j h
    · rw [List.getElem?_eq_none (by omega), List.getElem?_eq_none (by simpa using h)]
  · intro i hi ih x hx hj
    refine Ev.step (fun k => by rw [laws_toStrikeS.l0]) ?_
    refine ev_pos (by omega) (ev_pos (by omega) (ev_b rfl (ev_pos (by omega) ?_)))
    rw [wsucc hi (by omega), rdIStrike l i hi]
    refine ih _ (by simp [hx]) ?_
    intro j hj2
    by_cases e : j = i
    · subst e
      simp [hx, hi, cvStrike]
    · simp only [Int.toNat_natCast]
      rw [List.getElem?_set_ne (by omega)]
      exact hj j (by omega)

theorem rdOStrike (l : List S79) (i : Nat) (h : i < l.length) : rd_T79 l (i : Int) = l[i] := by
  simp [rd_T79, List.getD, h]
theorem eqStrikeS (l : List S79) (hl : l.length ≤ 100000000) : Ev (fun k => laws_eqStrikeS.f k l l) true := by
  unfold laws_eqStrikeS.f
  refine ev_pos rfl ?_
  refine idx_ind l (fun i => Ev (fun k => laws_eqStrikeS.l0 k l l (i : Int)) true) ?_ ?_ 0 (Nat.zero_le _)
  · refine Ev.step (fun k => by rw [laws_eqStrikeS.l0]) ?_
    exact ev_neg (by omega) (Ev.now _)
  · intro i hi ih
    refine Ev.step (fun k => by rw [laws_eqStrikeS.l0]) ?_
    refine ev_pos (by omega) (ev_pos (by omega) (ev_pos (by omega) (ev_b (a := true) (by simp [laws_eqStrike.f]) (ev_pos rfl ?_))))
    rw [wsucc hi (by omega)]
    exact ih

/-- A strike in order. -/
def StOk (x : S79) : Prop := (1 ≤ x.f0 ∧ x.f0 ≤ 1000) ∧ (0 ≤ x.f1 ∧ x.f1 ≤ 2) ∧ (0 ≤ x.f2 ∧ x.f2 ≤ 1000000)
instance (x : S79) : Decidable (StOk x) := by unfold StOk; infer_instance
/-- Strikes in order, from a tick on. -/
def sOk (p : Int) : List S79 → Bool
  | [] => true
  | x :: r => decide (StOk x ∧ p ≤ x.f2) && sOk x.f2 r
theorem implMember (a : Int) : impl_isMember.f a = some (decide (1 ≤ a ∧ a ≤ 1000)) := by
  unfold impl_isMember.f
  rw [implIn]; rfl
theorem specStrike (x : S79) : spec_l06Strike.f x.f0 x.f1 x.f2 = some (decide (StOk x)) := by
  unfold spec_l06Strike.f spec_l02Id.f StOk
  simp only [specIn, specTick, Option.bind_some]
  by_cases h1 : 1 ≤ x.f0 ∧ x.f0 ≤ 1000
  · by_cases h2 : 0 ≤ x.f1 ∧ x.f1 ≤ 2
    · by_cases h3 : 0 ≤ x.f2 ∧ x.f2 ≤ 1000000 <;> simp [h1, h2, h3]
    · simp [h1, h2]
  · simp [h1]
theorem implStrikes (l : List S79) (hl : l.length ≤ 100000000) : Ev (fun k => impl_AreStrikes.f k l) (sOk 0 l && decide (l.length ≤ 64)) := by
  have key := idx_ind l (fun i => ∀ p : Int, (i = 0 → p = 0) → (∀ h : 0 < i, ∀ h2 : i ≤ l.length, (l[i - 1]'(by omega)).f2 = p) → Ev (fun k => impl_AreStrikes.l0 k l l (l.length : Int) (i : Int)) (sOk p (l.drop i) && decide (l.length ≤ 64))) ?_ ?_
  · exact key 0 (Nat.zero_le _) 0 (fun _ => rfl) (fun h => by omega)
  · intro p _ _
    refine Ev.step (fun k => by rw [impl_AreStrikes.l0]) ?_
    refine ev_neg (by omega) (ev_some ?_)
    simp [sOk]
    omega
  · intro i hi ih p h0 hprev
    refine Ev.step (fun k => by rw [impl_AreStrikes.l0]) ?_
    rw [rdOStrike l i hi, drop_at l i hi, wsucc hi (by omega)]
    refine ev_pos (by omega) (ev_pos (by omega) (ev_pos (by omega) (ev_b (implMember _) ?_)))
    by_cases a1 : 1 ≤ l[i].f0 ∧ l[i].f0 ≤ 1000
    · refine ev_pos (by simpa using a1) (ev_b (implIn _ _ _) ?_)
      by_cases a2 : 0 ≤ l[i].f1 ∧ l[i].f1 ≤ 2
      · refine ev_pos (by simpa using a2) (ev_b (implTick _) ?_)
        by_cases a3 : 0 ≤ l[i].f2 ∧ l[i].f2 ≤ 1000000
        · refine ev_pos (by simpa using a3) ?_
          have next := ih l[i].f2 (fun h => by omega) (fun _ _ => rfl)
          have ok : StOk l[i] := ⟨a1, a2, a3⟩
          by_cases h1 : 0 < i
          · have e1 : wrap64 ((i : Int) - 1) = ((i - 1 : Nat) : Int) := by rw [w64 (by omega) (by omega)]; omega
            rw [e1, rdOStrike l (i - 1) (by omega), hprev h1 (by omega)]
            refine ev_pos (by omega) (ev_pos (by omega) (ev_pos (by omega) ?_))
            by_cases hp2 : p > l[i].f2
            · refine ev_pos hp2 (ev_some ?_)
              have : ¬ p ≤ l[i].f2 := by omega
              simp [sOk, this]
            · refine ev_neg hp2 (ev_eq next ?_)
              have : p ≤ l[i].f2 := by omega
              simp [sOk, this, ok]
          · have hp0 := h0 (by omega)
            refine ev_neg (by omega) (ev_eq next ?_)
            have : p ≤ l[i].f2 := by omega
            simp [sOk, this, ok]
        · refine ev_neg (by simpa using a3) (ev_some ?_)
          have : ¬ StOk l[i] := fun h => a3 h.2.2
          simp [sOk, this]
      · refine ev_neg (by simpa using a2) (ev_some ?_)
        have : ¬ StOk l[i] := fun h => a2 h.2.1
        simp [sOk, this]
    · refine ev_neg (by simpa using a1) (ev_some ?_)
      have : ¬ StOk l[i] := fun h => a1 h.1
      simp [sOk, this]
theorem specStrikes (l : List S79) : Ev (fun k => spec_l06Strikes.f k l) (sOk 0 l && decide (l.length ≤ 64)) := by
  unfold spec_l06Strikes.f
  by_cases hlen : (l.length : Int) > 64
  · refine ev_pos hlen (ev_some ?_)
    have : ¬ l.length ≤ 64 := by omega
    simp [this]
  · refine ev_neg hlen ?_
    have hl : l.length ≤ 64 := by omega
    have key := idx_ind l (fun i => ∀ p : Int, (i = 0 → p = 0) → (∀ h : 0 < i, ∀ h2 : i ≤ l.length, (l[i - 1]'(by omega)).f2 = p) → Ev (fun k => spec_l06Strikes.l0 k l (i : Int)) (sOk p (l.drop i) && decide (l.length ≤ 64))) ?_ ?_
    · exact key 0 (Nat.zero_le _) 0 (fun _ => rfl) (fun h => by omega)
    · intro p _ _
      refine Ev.step (fun k => by rw [spec_l06Strikes.l0]) ?_
      refine ev_neg (by omega) (ev_some ?_)
      simp [sOk, hl]
    · intro i hi ih p h0 hprev
      refine Ev.step (fun k => by rw [spec_l06Strikes.l0]) ?_
      rw [rdOStrike l i hi, drop_at l i hi, wsucc hi (by omega)]
      refine ev_pos (by omega) (ev_pos (by omega) (ev_b (specStrike _) ?_))
      by_cases ok : StOk l[i]
      · refine ev_pos (by simpa using ok) ?_
        have next := ih l[i].f2 (fun h => by omega) (fun _ _ => rfl)
        have a3 := ok.2.2
        by_cases h1 : 0 < i
        · have e1 : wrap64 ((i : Int) - 1) = ((i - 1 : Nat) : Int) := by rw [w64 (by omega) (by omega)]; omega
          rw [e1, rdOStrike l (i - 1) (by omega), hprev h1 (by omega)]
          refine ev_pos (by omega) (ev_pos (by omega) (ev_pos (by omega) ?_))
          by_cases hp2 : l[i].f2 < p
          · refine ev_pos hp2 (ev_some ?_)
            have : ¬ p ≤ l[i].f2 := by omega
            simp [sOk, this]
          · refine ev_neg hp2 (ev_eq next ?_)
            have : p ≤ l[i].f2 := by omega
            simp [sOk, this, ok]
        · have hp0 := h0 (by omega)
          refine ev_neg (by omega) (ev_eq next ?_)
          have : p ≤ l[i].f2 := by omega
          simp [sOk, this, ok]
      · refine ev_neg (by simpa using ok) (ev_some ?_)
        simp [sOk, ok]

/-- What is left of a strike's points. -/
def ptOf (m t f : Int) (x : S79) : Nat := if x.f0 = m ∧ x.f2 ≤ t then 2 ^ x.f1.toNat / 2 ^ ((t - x.f2) / f).toNat else 0
def ptsOf (m t f : Int) : List S79 → Nat
  | [] => 0
  | x :: r => ptOf m t f x + ptsOf m t f r
theorem ptOf_le {m t f : Int} {x : S79} (h : StOk x) : ptOf m t f x ≤ 4 := by
  unfold ptOf
  split
  · have h1 : 2 ^ x.f1.toNat ≤ 2 ^ 2 := Nat.pow_le_pow_right (by omega) (by have := h.2.1; omega)
    exact Nat.le_trans (Nat.div_le_self _ _) h1
  · omega
theorem shl1 {n : Int} (h0 : 0 ≤ n) (h2 : n ≤ 2) : shl .i64 1 n = ((2 ^ n.toNat : Nat) : Int) := by
  rcases (show n = 0 ∨ n = 1 ∨ n = 2 by omega) with rfl | rfl | rfl <;> rfl
theorem u64small {n : Int} (h0 : 0 ≤ n) (h2 : n ≤ 2) : IntKind.u64.wrap n = n := by
  rcases (show n = 0 ∨ n = 1 ∨ n = 2 by omega) with rfl | rfl | rfl <;> rfl
theorem sOk_head {p : Int} {x : S79} {r : List S79} (h : sOk p (x :: r) = true) : StOk x ∧ sOk x.f2 r = true := by
  simp only [sOk, Bool.and_eq_true, decide_eq_true_eq] at h
  exact ⟨h.1.1, h.2⟩
theorem sOk_drop {l : List S79} : ∀ {p : Int} (i : Nat), sOk p l = true → ∃ q, sOk q (l.drop i) = true := by
  induction l with
  | nil => intro p i h; exact ⟨p, by simpa using h⟩
  | cons x r ih =>
    intro p i h
    cases i with
    | zero => exact ⟨p, h⟩
    | succ i => exact ih i (sOk_head h).2
theorem pow9 {a q : Nat} (h : a ≤ 2) : 2 ^ a / 2 ^ (min q 9) = 2 ^ a / 2 ^ q := by
  by_cases hq : q ≤ 9
  · rw [Nat.min_eq_left hq]
  · rw [Nat.min_eq_right (by omega)]
    have h1 : 2 ^ a ≤ 2 ^ 2 := Nat.pow_le_pow_right (by omega) h
    have h2 : 2 ^ 9 ≤ 2 ^ q := Nat.pow_le_pow_right (by omega) (by omega)
    rw [Nat.div_eq_of_lt (by omega), Nat.div_eq_of_lt (by omega)]
theorem implPoints (l : List S79) (m t f : Int) (hl : l.length ≤ 64) (hs : sOk 0 l = true) (ht : 0 ≤ t ∧ t ≤ 1000000) (hf : 1 ≤ f ∧ f ≤ 1000000) : Ev (fun k => impl_points.f k l m t f) (ptsOf m t f l : Int) := by
  have key := idx_ind l (fun i => ∀ acc : Nat, acc ≤ 4 * i → Ev (fun k => impl_points.l0 k m t f (acc : Int) l (l.length : Int) (i : Int)) ((acc + ptsOf m t f (l.drop i) : Nat) : Int)) ?_ ?_
  · have := key 0 (Nat.zero_le _) 0 (by omega)
    unfold impl_points.f
    simpa using this
  · intro acc _
    refine Ev.step (fun k => by rw [impl_points.l0]) ?_
    refine ev_neg (by omega) (ev_some ?_)
    simp [ptsOf]
  · intro i hi ih acc hacc
    obtain ⟨q, hq⟩ := sOk_drop i hs
    rw [drop_at l i hi] at hq
    have ok := (sOk_head hq).1
    have hle := ptOf_le (m := m) (t := t) (f := f) ok
    refine Ev.step (fun k => by rw [impl_points.l0]) ?_
    rw [rdOStrike l i hi, drop_at l i hi, wsucc hi (by omega)]
    refine ev_pos (by omega) (ev_pos (by omega) (ev_pos (by omega) ?_))
    obtain ⟨_, ⟨k0, k2⟩, ⟨t0, t1⟩⟩ := ok
    by_cases hm : l[i].f0 = m
    · refine ev_pos hm ?_
      by_cases hat : l[i].f2 ≤ t
      · refine ev_pos hat (ev_pos k0 (ev_neg (by omega) ?_))
        have g0 : 0 ≤ (t - l[i].f2) / f := Int.ediv_nonneg (by omega) (by omega)
        have g1 : (t - l[i].f2) / f ≤ t - l[i].f2 := Int.ediv_le_self _ (by omega)
        have e1 : mn (wrap64 ((wrap64 (t - l[i].f2)).tdiv f)) 9 = ((min ((t - l[i].f2) / f).toNat 9 : Nat) : Int) := by
          rw [w64 (n := t - l[i].f2) (by omega) (by omega), Int.tdiv_eq_ediv_of_nonneg (by omega), w64 (by omega) (by omega)]
          unfold mn
          split <;> omega
        have hp : ptOf m t f l[i] = 2 ^ l[i].f1.toNat / 2 ^ ((t - l[i].f2) / f).toNat := by unfold ptOf; rw [if_pos ⟨hm, hat⟩]
        have e2 : shl .i64 1 l[i].f1 / 2 ^ (min ((t - l[i].f2) / f).toNat 9) = ((ptOf m t f l[i] : Nat) : Int) := by
          rw [shl1 k0 k2, hp, ← pow9 (q := ((t - l[i].f2) / f).toNat) (show l[i].f1.toNat ≤ 2 by omega)]
          simp
        rw [e1]
        refine ev_pos (by omega) ?_
        rw [Int.toNat_natCast, e2, w64 (by omega) (by omega)]
        have := ih (acc + ptOf m t f l[i]) (by omega)
        simp only [ptsOf]
        rw [show acc + (ptOf m t f l[i] + ptsOf m t f (l.drop (i + 1))) = acc + ptOf m t f l[i] + ptsOf m t f (l.drop (i + 1)) by omega]
        simpa using this
      · refine ev_neg hat (ev_eq (ih acc (by omega)) ?_)
        simp [ptsOf, ptOf, hat]
    · refine ev_neg hm (ev_eq (ih acc (by omega)) ?_)
      simp [ptsOf, ptOf, hm]

theorem specHalf (l : List S79) (m t f : Int) (acc : Nat) (i : Nat) (hi : i < l.length) (hl : l.length ≤ 64) (R : Int) : ∀ (q p : Nat), p ≤ 4 → acc ≤ 256 → Ev (fun k => spec_l06Points.l0 k l m t f ((acc + p / 2 ^ q : Nat) : Int) ((i + 1 : Nat) : Int)) R →
    q ≤ 1000000 → Ev (fun k => spec_l06Points.l1 k l m t f (acc : Int) (i : Int) (p : Int) (q : Int)) R := by
  intro q
  induction q with
  | zero =>
    intro p hp ha h _
    refine Ev.step (fun k => by rw [spec_l06Points.l1]) ?_
    refine ev_neg (by omega) ?_
    rw [wsucc hi (by omega), w64 (by omega) (by omega)]
    simpa using h
  | succ q ih =>
    intro p hp ha h hq
    refine Ev.step (fun k => by rw [spec_l06Points.l1]) ?_
    refine ev_pos (by omega) ?_
    by_cases h0 : p = 0
    · subst h0
      refine ev_neg (by omega) ?_
      rw [wsucc hi (by omega), w64 (by omega) (by omega)]
      simpa using h
    · refine ev_pos (by omega) ?_
      have e1 : wrap64 ((p : Int).tdiv 2) = ((p / 2 : Nat) : Int) := by
        rw [Int.tdiv_eq_ediv_of_nonneg (by omega), w64 (by omega) (by omega)]; omega
      have e2 : wrap64 (((q + 1 : Nat) : Int) - 1) = (q : Int) := by rw [w64 (by omega) (by omega)]; omega
      rw [e1, e2]
      refine ih (p / 2) (by omega) ha ?_ (by omega)
      have e3 : p / 2 / 2 ^ q = p / 2 ^ (q + 1) := by rw [Nat.div_div_eq_div_mul, Nat.pow_succ, Nat.mul_comm]
      rw [e3]
      exact h
theorem specPoints (l : List S79) (m t f : Int) (hl : l.length ≤ 64) (hs : sOk 0 l = true) (ht : 0 ≤ t ∧ t ≤ 1000000) (hf : 1 ≤ f ∧ f ≤ 1000000) : Ev (fun k => spec_l06Points.f k l m t f) (ptsOf m t f l : Int) := by
  have key := idx_ind l (fun i => ∀ acc : Nat, acc ≤ 4 * i → Ev (fun k => spec_l06Points.l0 k l m t f (acc : Int) (i : Int)) ((acc + ptsOf m t f (l.drop i) : Nat) : Int)) ?_ ?_
  · have := key 0 (Nat.zero_le _) 0 (by omega)
    unfold spec_l06Points.f
    simpa using this
  · intro acc _
    refine Ev.step (fun k => by rw [spec_l06Points.l0]) ?_
    refine ev_neg (by omega) (ev_some ?_)
    simp [ptsOf]
  · intro i hi ih acc hacc
    obtain ⟨q, hq⟩ := sOk_drop i hs
    rw [drop_at l i hi] at hq
    have ok := (sOk_head hq).1
    have hle := ptOf_le (m := m) (t := t) (f := f) ok
    refine Ev.step (fun k => by rw [spec_l06Points.l0]) ?_
    rw [rdOStrike l i hi, drop_at l i hi]
    refine ev_pos (by omega) (ev_pos (by omega) ?_)
    obtain ⟨_, ⟨k0, k2⟩, ⟨t0, t1⟩⟩ := ok
    by_cases hm : l[i].f0 = m
    · refine ev_pos hm ?_
      refine Ev.step (fun k => by rw [spec_l06Points.j1]) ?_
      by_cases hat : l[i].f2 ≤ t
      · refine ev_neg (by simpa using hat) ?_
        rw [u64small k0 k2]
        refine ev_pos k0 (ev_neg (by omega) ?_)
        have g0 : 0 ≤ (t - l[i].f2) / f := Int.ediv_nonneg (by omega) (by omega)
        have g1 : (t - l[i].f2) / f ≤ t - l[i].f2 := Int.ediv_le_self _ (by omega)
        have e1 : wrap64 ((wrap64 (t - l[i].f2)).tdiv f) = ((((t - l[i].f2) / f).toNat : Nat) : Int) := by
          rw [w64 (n := t - l[i].f2) (by omega) (by omega), Int.tdiv_eq_ediv_of_nonneg (by omega), w64 (by omega) (by omega)]
          omega
        have hp : ptOf m t f l[i] = 2 ^ l[i].f1.toNat / 2 ^ ((t - l[i].f2) / f).toNat := by unfold ptOf; rw [if_pos ⟨hm, hat⟩]
        have h4 : 2 ^ l[i].f1.toNat ≤ 4 := by
          have : 2 ^ l[i].f1.toNat ≤ 2 ^ 2 := Nat.pow_le_pow_right (by omega) (by omega)
          omega
        rw [e1, shl1 k0 k2]
        refine specHalf l m t f acc i hi hl _ _ _ h4 (by omega) ?_ (by omega)
        rw [← hp]
        refine ev_eq (ih (acc + ptOf m t f l[i]) (by omega)) ?_
        simp only [ptsOf]
        congr 1
        omega
      · refine ev_pos (by simpa using by omega) ?_
        rw [wsucc hi (by omega)]
        refine ev_eq (ih acc (by omega)) ?_
        simp [ptsOf, ptOf, hat]
    · refine ev_neg hm ?_
      refine Ev.step (fun k => by rw [spec_l06Points.j1]) ?_
      refine ev_pos rfl ?_
      rw [wsucc hi (by omega)]
      refine ev_eq (ih acc (by omega)) ?_
      simp [ptsOf, ptOf, hm]

/-- What both answer. -/
def ptsAns (l : List S79) (m t f : Int) : Int × Bool := if (sOk 0 l && decide (l.length ≤ 64)) = true ∧ (1 ≤ m ∧ m ≤ 1000) ∧ (0 ≤ t ∧ t ≤ 1000000) ∧ (1 ≤ f ∧ f ≤ 1000000) then ((ptsOf m t f l : Int), true) else (0, false)
theorem specPts (l : List S79) (m t f : Int) : Ev (fun k => spec_PointsOf.f k l m t f) (ptsAns l m t f) := by
  unfold spec_PointsOf.f ptsAns
  refine Ev.bind (specStrikes l) ?_
  by_cases h : (sOk 0 l && decide (l.length ≤ 64)) = true
  · refine ev_pos h ?_
    unfold spec_l02Id.f
    rw [specIn]
    refine ev_b rfl ?_
    by_cases h1 : 1 ≤ m ∧ m ≤ 1000
    · refine ev_pos (by simpa using h1) (ev_b (specTick _) ?_)
      by_cases h2 : 0 ≤ t ∧ t ≤ 1000000
      · refine ev_pos (by simpa using h2) (ev_b (specIn _ _ _) ?_)
        by_cases h3 : 1 ≤ f ∧ f ≤ 1000000
        · refine ev_pos (by simpa using h3) ?_
          have h' := h
          simp only [Bool.and_eq_true, decide_eq_true_eq] at h'
          refine Ev.bind (specPoints l m t f h'.2 h'.1 h2 h3) (ev_some ?_)
          rw [if_pos ⟨h, h1, h2, h3⟩]
        · exact ev_neg (by simpa using h3) (ev_some (by rw [if_neg (fun z => h3 z.2.2.2)]))
      · exact ev_neg (by simpa using h2) (ev_some (by rw [if_neg (fun z => h2 z.2.2.1)]))
    · exact ev_neg (by simpa using h1) (ev_some (by rw [if_neg (fun z => h1 z.2.1)]))
  · exact ev_neg h (ev_some (by rw [if_neg (fun z => h z.1)]))
theorem implPts (l : List S79) (m t f : Int) (hl : l.length ≤ 100000000) : Ev (fun k => impl_PointsOf.f k l m t f) (ptsAns l m t f) := by
  unfold impl_PointsOf.f ptsAns
  refine Ev.bind (implStrikes l hl) ?_
  by_cases h : (sOk 0 l && decide (l.length ≤ 64)) = true
  · refine ev_pos h (ev_b (implMember _) ?_)
    by_cases h1 : 1 ≤ m ∧ m ≤ 1000
    · refine ev_pos (by simpa using h1) (ev_b (implTick _) ?_)
      by_cases h2 : 0 ≤ t ∧ t ≤ 1000000
      · refine ev_pos (by simpa using h2) (ev_b (implIn _ _ _) ?_)
        by_cases h3 : 1 ≤ f ∧ f ≤ 1000000
        · refine ev_pos (by simpa using h3) ?_
          have h' := h
          simp only [Bool.and_eq_true, decide_eq_true_eq] at h'
          refine Ev.bind (implPoints l m t f h'.2 h'.1 h2 h3) (ev_some ?_)
          rw [if_pos ⟨h, h1, h2, h3⟩]
        · exact ev_neg (by simpa using h3) (ev_some (by rw [if_neg (fun z => h3 z.2.2.2)]))
      · exact ev_neg (by simpa using h2) (ev_some (by rw [if_neg (fun z => h2 z.2.2.1)]))
    · exact ev_neg (by simpa using h1) (ev_some (by rw [if_neg (fun z => h1 z.2.1)]))
  · exact ev_neg h (ev_some (by rw [if_neg (fun z => h z.1)]))
theorem FnExactPointsOf : laws_FnExactPointsOf.Pure := by
  intro l m t f hl _ _ _
  refine Ev.rounds ?_
  have hm : l.length ≤ 9223372036854775807 := by have := hl.1; unfold maxLen at this; omega
  unfold laws_FnExactPointsOf.f
  refine ev_b (szStrike l hm) ?_
  by_cases h : l.length ≤ 1048576
  · rw [if_pos h]
    refine ev_neg (by omega) ?_
    refine Ev.bind (toStrikeS l (by omega)) ?_
    refine Ev.bind (specPts _ m t f) ?_
    refine Ev.bind (toStrikeS l (by omega)) ?_
    refine Ev.bind (implPts _ m t f (by simpa using by omega)) ?_
    refine ev_pos rfl ?_
    refine Ev.step (fun k => by rw [laws_FnExactPointsOf.j0]) ?_
    refine ev_neg (by simp) ?_
    refine Ev.bind (toStrikeS l (by omega)) ?_
    refine Ev.bind (eqStrikeS _ (by simpa using by omega)) ?_
    exact ev_pos rfl (Ev.now _)
  · rw [if_neg h]
    exact ev_pos (by omega) (Ev.now _)

end Go.Proofs.Ytidlbifgfciikaa.Pure
