/- SweepPresence: the program and the reference answer alike and leave memory alone, for every presence and tick. -/
import Derived.Test.YtgfilednbllkmaaQFnExactSweepPresencex12
import Derived.Test.YtgfilednbllkmaaSEv
namespace Go.Proofs.Ytgfilednbllkmaa.Pure
open Go.RowKit Go.Proofs.Ytgfilednbllkmaa.QFnExactSweepPresence Go.Proofs.YtgfilednbllkmaaW.PrintWords Go.Proofs.YtgfilednbllkmaaW.PrintLast Go.Proofs.YtgfilednbllkmaaW.PrintMore
set_option linter.unusedVariables false

theorem w64 {n : Int} (h1 : -9223372036854775808 ≤ n) (h2 : n ≤ 9223372036854775807) : wrap64 n = n := by
  unfold wrap64
  omega
theorem wf64 {n : Int} (h : (Lit.int .i64 n).wf = true) : -9223372036854775808 ≤ n ∧ n ≤ 9223372036854775807 := by
  simp [Lit.wf, IntKind.min, IntKind.max, IntKind.signed, IntKind.bits] at h
  omega

theorem ev_pos {α : Type} {c : Prop} [Decidable c] {g f : Nat → Option α} {r : α} (h : c) (e : Ev g r) : Ev (fun k => if c then g k else f k) r := Ev.congr (fun _ => if_pos h) e
theorem ev_neg {α : Type} {c : Prop} [Decidable c] {g f : Nat → Option α} {r : α} (h : ¬ c) (e : Ev f r) : Ev (fun k => if c then g k else f k) r := Ev.congr (fun _ => if_neg h) e
theorem ev_b {α β : Type} {o : Option α} {a : α} {f : Nat → α → Option β} {r : β} (h : o = some a) (e : Ev (fun k => f k a) r) : Ev (fun k => o.bind (f k)) r := by subst h; exact e
theorem ev_eq {α : Type} {g : Nat → Option α} {r q : α} (e : Ev g r) (h : r = q) : Ev g q := h ▸ e
theorem ev_some {α : Type} {r q : α} (h : r = q) : Ev (fun _ => some r) q := h ▸ Ev.now r
/-- Down from a list's end. -/
theorem idx_ind {α : Type} (l : List α) (P : Nat → Prop) (hend : P l.length) (hstep : ∀ i, i < l.length → P (i + 1) → P i) : ∀ i, i ≤ l.length → P i := by
  have key : ∀ d i, i + d = l.length → P i := by
    intro d
    induction d with
    | zero => intro i h; have : i = l.length := by omega
              rw [this]; exact hend
    | succ d ih => intro i h; exact hstep i (by omega) (ih (i + 1) (by omega))
  intro i h
  exact key (l.length - i) i (by omega)
theorem rdOf_at {α : Type} (d : α) (l : List α) (i : Nat) (h : i < l.length) : rdOf d l (i : Int) = l[i] := by
  simp [rdOf, List.getD, h]
theorem drop_at {α : Type} (l : List α) (i : Nat) (h : i < l.length) : l.drop i = l[i] :: l.drop (i + 1) := List.drop_eq_getElem_cons h
theorem wsucc {i n : Nat} (h : i < n) (hn : n ≤ 9223372036854775807) : wrap64 ((i : Int) + 1) = ((i + 1 : Nat) : Int) := by
  rw [w64 (by omega) (by omega)]; rfl

theorem implIn (a b c : Int) : impl_in.f a b c = some (decide (b ≤ a ∧ a ≤ c)) := by
  unfold impl_in.f
  by_cases h : a ≥ b
  · rw [if_pos h]; simp [h]
  · rw [if_neg h]; simp; intro h2; omega

theorem specIn (a b c : Int) : spec_l00In.f a b c = some (decide (b ≤ a ∧ a ≤ c)) := by
  unfold spec_l00In.f
  by_cases h : a ≥ b
  · rw [if_pos h]; simp [h]
  · rw [if_neg h]; simp; intro h2; omega

theorem szLeaseS (l : List S108) (hl : l.length ≤ 9223372036854775807) : laws_szLeaseS.f l 1048576 = some (if l.length ≤ 1048576 then 1048576 - (l.length : Int) else -1) := by
  unfold laws_szLeaseS.f
  rw [w64 (by omega) (by omega)]
  by_cases h : l.length ≤ 1048576
  · rw [if_pos h, if_neg (by omega)]
  · rw [if_neg h, if_pos (by omega)]
theorem szAtLeaseS (l : List S108) (a : Int) (h0 : 0 ≤ a) (ha : a ≤ 1048576) (hl : l.length ≤ 9223372036854775807) : laws_szLeaseS.f l a = some (if (l.length : Int) ≤ a then a - (l.length : Int) else -1) := by
  unfold laws_szLeaseS.f
  rw [w64 (by omega) (by omega)]
  by_cases h : (l.length : Int) ≤ a
  · rw [if_pos h, if_neg (by omega)]
  · rw [if_neg h, if_pos (by omega)]
/-- An element, taken over. -/
def cvLease (x : S108) : S63 := ⟨x.f0, x.f1⟩
theorem rdILease (l : List S108) (i : Nat) (h : i < l.length) : rd_T108 l (i : Int) = l[i] := by
  simp [rd_T108, List.getD, h]
theorem rdOLease (l : List S63) (i : Nat) (h : i < l.length) : rd_T63 l (i : Int) = l[i] := by
  simp [rd_T63, List.getD, h]
theorem rdSLease (l : List S63) (i : Nat) (v : S63) (h : i < l.length) : rd_T63 (l.set i v) (i : Int) = v := by
  simp [rd_T63, List.getD, h]
theorem toLeaseS (l : List S108) (hl : l.length ≤ 100000000) : Ev (fun k => laws_toLeaseS.f k l) (l.map cvLease) := by
  have key := idx_ind l (fun i => ∀ x : List S63, x.length = l.length → (∀ j, j < i → x[j]? = (l.map cvLease)[j]?) → Ev (fun k => laws_toLeaseS.l0 k l x (i : Int)) (l.map cvLease)) ?_ ?_
  · unfold laws_toLeaseS.f
    refine ev_pos (by omega) (ev_pos (by omega) ?_)
    exact key 0 (Nat.zero_le _) _ (by simp) (fun j h => by omega)
  · intro x hx hj
    refine Ev.step (fun k => by rw [laws_toLeaseS.l0]) ?_
    refine ev_neg (by omega) (ev_some ?_)
    apply List.ext_getElem?
    intro j
    rcases Nat.lt_or_ge j l.length with h | h
    · exact hj j h
    · rw [List.getElem?_eq_none (by omega), List.getElem?_eq_none (by simpa using h)]
  · intro i hi ih x hx hj
    refine Ev.step (fun k => by rw [laws_toLeaseS.l0]) ?_
    refine ev_pos (by omega) (ev_pos (by omega) (ev_b rfl (ev_pos (by omega) ?_)))
    rw [wsucc hi (by omega), rdILease l i hi]
    refine ih _ (by simp [hx]) ?_
    intro j hj2
    by_cases e : j = i
    · subst e
      simp [hx, hi, cvLease]
    · simp only [Int.toNat_natCast]
      rw [List.getElem?_set_ne (by omega)]
      exact hj j (by omega)
theorem eqLeaseS (l : List S63) (hl : l.length ≤ 100000000) : Ev (fun k => laws_eqLeaseS.f k l l) true := by
  unfold laws_eqLeaseS.f
  refine ev_pos rfl ?_
  refine idx_ind l (fun i => Ev (fun k => laws_eqLeaseS.l0 k l l (i : Int)) true) ?_ ?_ 0 (Nat.zero_le _)
  · refine Ev.step (fun k => by rw [laws_eqLeaseS.l0]) ?_
    exact ev_neg (by omega) (Ev.now _)
  · intro i hi ih
    refine Ev.step (fun k => by rw [laws_eqLeaseS.l0]) ?_
    refine ev_pos (by omega) (ev_pos (by omega) (ev_pos (by omega) (ev_b (a := true) (by simp [laws_eqLease.f]) (ev_pos rfl ?_))))
    rw [wsucc hi (by omega)]
    exact ih

theorem markLeaseS (l : List S63) (m : Nat) (hl : l.length ≤ 10000000) (hm : m ≤ 100000000) : ∃ l2 : List S63, Ev (fun k => laws_markLeaseS.f k l (m : Int)) (((m + 2 * l.length : Nat) : Int), l2) ∧ l2.length = l.length ∧ ∀ j, j < l.length → l2[j]? = some (⟨((m + 2 * j : Nat) : Int), ((m + 2 * j + 1 : Nat) : Int)⟩ : S63) := by
  have key := idx_ind l (fun i => ∀ x : List S63, x.length = l.length → (∀ j, j < i → x[j]? = some (⟨((m + 2 * j : Nat) : Int), ((m + 2 * j + 1 : Nat) : Int)⟩ : S63)) → ∃ l2 : List S63, Ev (fun k => laws_markLeaseS.l0 k x ((m + 2 * i : Nat) : Int) (i : Int)) (((m + 2 * l.length : Nat) : Int), l2) ∧ l2.length = l.length ∧ ∀ j, j < l.length → l2[j]? = some (⟨((m + 2 * j : Nat) : Int), ((m + 2 * j + 1 : Nat) : Int)⟩ : S63)) ?_ ?_
  · obtain ⟨l2, h1, h2⟩ := key 0 (Nat.zero_le _) l rfl (fun j h => by omega)
    exact ⟨l2, h1, h2⟩
  · intro x hx hj
    refine ⟨x, ?_, hx, hj⟩
    refine Ev.step (fun k => by rw [laws_markLeaseS.l0]) ?_
    exact ev_neg (by omega) (Ev.now _)
  · intro i hi ih x hx hj
    obtain ⟨l2, h1, h2⟩ := ih (x.set i (⟨((m + 2 * i : Nat) : Int), ((m + 2 * i + 1 : Nat) : Int)⟩ : S63)) (by simp [hx]) (by
      intro j hj2
      by_cases e : j = i
      · subst e
        simp [hx, hi]
      · rw [List.getElem?_set_ne (by omega)]
        exact hj j (by omega))
    refine ⟨l2, ?_, h2⟩
    refine Ev.step (fun k => by rw [laws_markLeaseS.l0]) ?_
    refine ev_pos (by omega) (ev_pos (by omega) ?_)
    have hix : i < x.length := by omega
    have a0 : wrap64 (((m + 2 * i : Nat) : Int) + 1) = ((m + 2 * i + 1 : Nat) : Int) := by rw [w64 (by omega) (by omega)]; omega
    have a1 : wrap64 (((m + 2 * i + 1 : Nat) : Int) + 1) = ((m + 2 * (i + 1) : Nat) : Int) := by rw [w64 (by omega) (by omega)]; omega
    have e2 : wrap64 ((i : Int) + 1) = ((i + 1 : Nat) : Int) := wsucc hi (by omega)
    simp only [Option.bind_some, Int.toNat_natCast, e2, a0, a1, List.set_set, rdSLease x i _ hix]
    exact h1
theorem heldLeaseS (l : List S63) (m : Nat) (hl : l.length ≤ 10000000) (hm : m ≤ 100000000) (hj : ∀ j, j < l.length → l[j]? = some (⟨((m + 2 * j : Nat) : Int), ((m + 2 * j + 1 : Nat) : Int)⟩ : S63)) : Ev (fun k => laws_heldLeaseS.f k l (m : Int)) ((m + 2 * l.length : Nat) : Int) := by
  refine idx_ind l (fun i => Ev (fun k => laws_heldLeaseS.l0 k l ((m + 2 * i : Nat) : Int) (i : Int)) ((m + 2 * l.length : Nat) : Int)) ?_ ?_ 0 (Nat.zero_le _)
  · refine Ev.step (fun k => by rw [laws_heldLeaseS.l0]) ?_
    exact ev_neg (by omega) (Ev.now _)
  · intro i hi ih
    have hv : l[i] = (⟨((m + 2 * i : Nat) : Int), ((m + 2 * i + 1 : Nat) : Int)⟩ : S63) := by
      have := hj i hi
      rw [List.getElem?_eq_getElem hi] at this
      exact Option.some.inj this
    refine Ev.step (fun k => by rw [laws_heldLeaseS.l0]) ?_
    refine ev_pos (by omega) (ev_pos (by omega) ?_)
    have a0 : wrap64 (((m + 2 * i : Nat) : Int) + 1) = ((m + 2 * i + 1 : Nat) : Int) := by rw [w64 (by omega) (by omega)]; omega
    have a1 : wrap64 (((m + 2 * i + 1 : Nat) : Int) + 1) = ((m + 2 * (i + 1) : Nat) : Int) := by rw [w64 (by omega) (by omega)]; omega
    have e2 : wrap64 ((i : Int) + 1) = ((i + 1 : Nat) : Int) := wsucc hi (by omega)
    simp only [rdOLease l i hi, hv, e2, a0, a1]
    exact ev_pos (by first | rfl | trivial) (ev_pos (by first | rfl | trivial) (ih))

theorem szMarkS (l : List S110) (hl : l.length ≤ 9223372036854775807) : laws_szMarkS.f l 1048576 = some (if l.length ≤ 1048576 then 1048576 - (l.length : Int) else -1) := by
  unfold laws_szMarkS.f
  rw [w64 (by omega) (by omega)]
  by_cases h : l.length ≤ 1048576
  · rw [if_pos h, if_neg (by omega)]
  · rw [if_neg h, if_pos (by omega)]
theorem szAtMarkS (l : List S110) (a : Int) (h0 : 0 ≤ a) (ha : a ≤ 1048576) (hl : l.length ≤ 9223372036854775807) : laws_szMarkS.f l a = some (if (l.length : Int) ≤ a then a - (l.length : Int) else -1) := by
  unfold laws_szMarkS.f
  rw [w64 (by omega) (by omega)]
  by_cases h : (l.length : Int) ≤ a
  · rw [if_pos h, if_neg (by omega)]
  · rw [if_neg h, if_pos (by omega)]
/-- An element, taken over. -/
def cvMark (x : S110) : S73 := ⟨x.f0, x.f1⟩
theorem rdIMark (l : List S110) (i : Nat) (h : i < l.length) : rd_T110 l (i : Int) = l[i] := by
  simp [rd_T110, List.getD, h]
theorem rdOMark (l : List S73) (i : Nat) (h : i < l.length) : rd_T73 l (i : Int) = l[i] := by
  simp [rd_T73, List.getD, h]
theorem rdSMark (l : List S73) (i : Nat) (v : S73) (h : i < l.length) : rd_T73 (l.set i v) (i : Int) = v := by
  simp [rd_T73, List.getD, h]
theorem toMarkS (l : List S110) (hl : l.length ≤ 100000000) : Ev (fun k => laws_toMarkS.f k l) (l.map cvMark) := by
  have key := idx_ind l (fun i => ∀ x : List S73, x.length = l.length → (∀ j, j < i → x[j]? = (l.map cvMark)[j]?) → Ev (fun k => laws_toMarkS.l0 k l x (i : Int)) (l.map cvMark)) ?_ ?_
  · unfold laws_toMarkS.f
    refine ev_pos (by omega) (ev_pos (by omega) ?_)
    exact key 0 (Nat.zero_le _) _ (by simp) (fun j h => by omega)
  · intro x hx hj
    refine Ev.step (fun k => by rw [laws_toMarkS.l0]) ?_
    refine ev_neg (by omega) (ev_some ?_)
    apply List.ext_getElem?
    intro j
    rcases Nat.lt_or_ge j l.length with h | h
    · exact hj j h
    · rw [List.getElem?_eq_none (by omega), List.getElem?_eq_none (by simpa using h)]
  · intro i hi ih x hx hj
    refine Ev.step (fun k => by rw [laws_toMarkS.l0]) ?_
    refine ev_pos (by omega) (ev_pos (by omega) (ev_b rfl (ev_pos (by omega) ?_)))
    rw [wsucc hi (by omega), rdIMark l i hi]
    refine ih _ (by simp [hx]) ?_
    intro j hj2
    by_cases e : j = i
    · subst e
      simp [hx, hi, cvMark]
    · simp only [Int.toNat_natCast]
      rw [List.getElem?_set_ne (by omega)]
      exact hj j (by omega)
theorem eqMarkS (l : List S73) (hl : l.length ≤ 100000000) : Ev (fun k => laws_eqMarkS.f k l l) true := by
  unfold laws_eqMarkS.f
  refine ev_pos rfl ?_
  refine idx_ind l (fun i => Ev (fun k => laws_eqMarkS.l0 k l l (i : Int)) true) ?_ ?_ 0 (Nat.zero_le _)
  · refine Ev.step (fun k => by rw [laws_eqMarkS.l0]) ?_
    exact ev_neg (by omega) (Ev.now _)
  · intro i hi ih
    refine Ev.step (fun k => by rw [laws_eqMarkS.l0]) ?_
    refine ev_pos (by omega) (ev_pos (by omega) (ev_pos (by omega) (ev_b (a := true) (by simp [laws_eqMark.f]) (ev_pos rfl ?_))))
    rw [wsucc hi (by omega)]
    exact ih

theorem markMarkS (l : List S73) (m : Nat) (hl : l.length ≤ 10000000) (hm : m ≤ 100000000) : ∃ l2 : List S73, Ev (fun k => laws_markMarkS.f k l (m : Int)) (((m + 2 * l.length : Nat) : Int), l2) ∧ l2.length = l.length ∧ ∀ j, j < l.length → l2[j]? = some (⟨((m + 2 * j : Nat) : Int), ((m + 2 * j + 1 : Nat) : Int)⟩ : S73) := by
  have key := idx_ind l (fun i => ∀ x : List S73, x.length = l.length → (∀ j, j < i → x[j]? = some (⟨((m + 2 * j : Nat) : Int), ((m + 2 * j + 1 : Nat) : Int)⟩ : S73)) → ∃ l2 : List S73, Ev (fun k => laws_markMarkS.l0 k x ((m + 2 * i : Nat) : Int) (i : Int)) (((m + 2 * l.length : Nat) : Int), l2) ∧ l2.length = l.length ∧ ∀ j, j < l.length → l2[j]? = some (⟨((m + 2 * j : Nat) : Int), ((m + 2 * j + 1 : Nat) : Int)⟩ : S73)) ?_ ?_
  · obtain ⟨l2, h1, h2⟩ := key 0 (Nat.zero_le _) l rfl (fun j h => by omega)
    exact ⟨l2, h1, h2⟩
  · intro x hx hj
    refine ⟨x, ?_, hx, hj⟩
    refine Ev.step (fun k => by rw [laws_markMarkS.l0]) ?_
    exact ev_neg (by omega) (Ev.now _)
  · intro i hi ih x hx hj
    obtain ⟨l2, h1, h2⟩ := ih (x.set i (⟨((m + 2 * i : Nat) : Int), ((m + 2 * i + 1 : Nat) : Int)⟩ : S73)) (by simp [hx]) (by
      intro j hj2
      by_cases e : j = i
      · subst e
        simp [hx, hi]
      · rw [List.getElem?_set_ne (by omega)]
        exact hj j (by omega))
    refine ⟨l2, ?_, h2⟩
    refine Ev.step (fun k => by rw [laws_markMarkS.l0]) ?_
    refine ev_pos (by omega) (ev_pos (by omega) ?_)
    have hix : i < x.length := by omega
    have a0 : wrap64 (((m + 2 * i : Nat) : Int) + 1) = ((m + 2 * i + 1 : Nat) : Int) := by rw [w64 (by omega) (by omega)]; omega
    have a1 : wrap64 (((m + 2 * i + 1 : Nat) : Int) + 1) = ((m + 2 * (i + 1) : Nat) : Int) := by rw [w64 (by omega) (by omega)]; omega
    have e2 : wrap64 ((i : Int) + 1) = ((i + 1 : Nat) : Int) := wsucc hi (by omega)
    simp only [Option.bind_some, Int.toNat_natCast, e2, a0, a1, List.set_set, rdSMark x i _ hix]
    exact h1
theorem heldMarkS (l : List S73) (m : Nat) (hl : l.length ≤ 10000000) (hm : m ≤ 100000000) (hj : ∀ j, j < l.length → l[j]? = some (⟨((m + 2 * j : Nat) : Int), ((m + 2 * j + 1 : Nat) : Int)⟩ : S73)) : Ev (fun k => laws_heldMarkS.f k l (m : Int)) ((m + 2 * l.length : Nat) : Int) := by
  refine idx_ind l (fun i => Ev (fun k => laws_heldMarkS.l0 k l ((m + 2 * i : Nat) : Int) (i : Int)) ((m + 2 * l.length : Nat) : Int)) ?_ ?_ 0 (Nat.zero_le _)
  · refine Ev.step (fun k => by rw [laws_heldMarkS.l0]) ?_
    exact ev_neg (by omega) (Ev.now _)
  · intro i hi ih
    have hv : l[i] = (⟨((m + 2 * i : Nat) : Int), ((m + 2 * i + 1 : Nat) : Int)⟩ : S73) := by
      have := hj i hi
      rw [List.getElem?_eq_getElem hi] at this
      exact Option.some.inj this
    refine Ev.step (fun k => by rw [laws_heldMarkS.l0]) ?_
    refine ev_pos (by omega) (ev_pos (by omega) ?_)
    have a0 : wrap64 (((m + 2 * i : Nat) : Int) + 1) = ((m + 2 * i + 1 : Nat) : Int) := by rw [w64 (by omega) (by omega)]; omega
    have a1 : wrap64 (((m + 2 * i + 1 : Nat) : Int) + 1) = ((m + 2 * (i + 1) : Nat) : Int) := by rw [w64 (by omega) (by omega)]; omega
    have e2 : wrap64 ((i : Int) + 1) = ((i + 1 : Nat) : Int) := wsucc hi (by omega)
    simp only [rdOMark l i hi, hv, e2, a0, a1]
    exact ev_pos (by first | rfl | trivial) (ev_pos (by first | rfl | trivial) (ih))

abbrev TL := S63
abbrev TM := S73
/-- A lease in order. -/
def LOk (x : TL) : Prop := (1 ≤ x.f0 ∧ x.f0 ≤ 1000) ∧ (0 ≤ x.f1 ∧ x.f1 ≤ 1000000)
instance (x : TL) : Decidable (LOk x) := by unfold LOk; infer_instance
def MOk (x : TM) : Prop := (1 ≤ x.f0 ∧ x.f0 ≤ 1000) ∧ (0 ≤ x.f1 ∧ x.f1 ≤ 1000000000)
instance (x : TM) : Decidable (MOk x) := by unfold MOk; infer_instance
/-- Leases in order, behind a member. -/
def lOk (p : Int) : List TL → Bool
  | [] => true
  | x :: r => decide (LOk x ∧ p < x.f0) && lOk x.f0 r
def mOk (p : Int) : List TM → Bool
  | [] => true
  | x :: r => decide (MOk x ∧ p < x.f0) && mOk x.f0 r
theorem iMember (a : Int) : impl_isMember.f a = some (decide (1 ≤ a ∧ a ≤ 1000)) := by
  unfold impl_isMember.f
  rw [implIn]; rfl
theorem iTick (a : Int) : impl_isTick.f a = some (decide (0 ≤ a ∧ a ≤ 1000000)) := by
  unfold impl_isTick.f
  rw [implIn]; rfl
theorem sMember (a : Int) : spec_l01Member.f a = some (decide (1 ≤ a ∧ a ≤ 1000)) := by
  unfold spec_l01Member.f
  rw [specIn]; rfl
theorem sTick (a : Int) : spec_l01Tick.f a = some (decide (0 ≤ a ∧ a ≤ 1000000)) := by
  unfold spec_l01Tick.f
  rw [specIn]; rfl
theorem wpred {i : Nat} (h : 0 < i) (hi : i ≤ 100000000) : wrap64 ((i : Int) - 1) = ((i - 1 : Nat) : Int) := by
  rw [w64 (by omega) (by omega)]; omega
/-- Are leases in order, and not too many? -/
def leasesV (l : List TL) : Bool := lOk 0 l && decide (l.length ≤ 30)
theorem implLeases (l : List TL) (hl : l.length ≤ 100000000) : Ev (fun k => impl_leasesOk.f k l) (leasesV l) := by
  have key := idx_ind l (fun i => ∀ p : Int, (i = 0 → p = 0) → (∀ h : 0 < i, ∀ h2 : i ≤ l.length, (l[i - 1]'(by omega)).f0 = p) → Ev (fun k => impl_leasesOk.l0 k l l (l.length : Int) (i : Int)) (lOk p (l.drop i) && decide (l.length ≤ 30))) ?_ ?_
  · exact key 0 (Nat.zero_le _) 0 (fun _ => rfl) (fun h => by omega)
  · intro p _ _
    refine Ev.step (fun k => by rw [impl_leasesOk.l0]) ?_
    refine ev_neg (by omega) (ev_some ?_)
    simp [lOk]
    omega
  · intro i hi ih p h0 hprev
    refine Ev.step (fun k => by rw [impl_leasesOk.l0]) ?_
    rw [rdOLease l i hi, drop_at l i hi]
    refine ev_pos (by omega) (ev_pos (by omega) (ev_pos (by omega) (ev_b (iMember _) ?_)))
    by_cases a1 : 1 ≤ l[i].f0 ∧ l[i].f0 ≤ 1000
    · refine ev_pos (by simpa using a1) (ev_b (iTick _) ?_)
      by_cases a2 : 0 ≤ l[i].f1 ∧ l[i].f1 ≤ 1000000
      · refine ev_pos (by simpa using a2) ?_
        have next := ih l[i].f0 (fun h => by omega) (fun _ _ => rfl)
        have ok : LOk l[i] := ⟨a1, a2⟩
        by_cases h1 : 0 < i
        · rw [wpred h1 (by omega), rdOLease l (i - 1) (by omega), hprev h1 (by omega)]
          refine ev_pos (by omega) (ev_pos (by omega) (ev_pos (by omega) ?_))
          by_cases hp2 : p < l[i].f0
          · refine ev_neg (by omega) ?_
            rw [wsucc hi (by omega)]
            refine ev_eq next ?_
            simp [lOk, ok, hp2]
          · refine ev_pos (by omega) (ev_some ?_)
            simp [lOk, hp2]
        · have hp0 := h0 (by omega)
          have hp2 : p < l[i].f0 := by omega
          refine ev_neg (by omega) ?_
          rw [wsucc hi (by omega)]
          refine ev_eq next ?_
          simp [lOk, ok, hp2]
      · refine ev_neg (by simpa using a2) (ev_some ?_)
        have : ¬ LOk l[i] := fun h => a2 h.2
        simp [lOk, this]
    · refine ev_neg (by simpa using a1) (ev_some ?_)
      have : ¬ LOk l[i] := fun h => a1 h.1
      simp [lOk, this]
theorem specLeases (l : List TL) (hl : l.length ≤ 100000000) : Ev (fun k => spec_l05Leases.f k l) (leasesV l) := by
  have key := idx_ind l (fun i => ∀ p : Int, (i = 0 → p = 0) → (∀ h : 0 < i, ∀ h2 : i ≤ l.length, (l[i - 1]'(by omega)).f0 = p) → Ev (fun k => spec_l05Leases.l0 k l (l.length : Int) (i : Int)) (lOk p (l.drop i) && decide (l.length ≤ 30))) ?_ ?_
  · exact key 0 (Nat.zero_le _) 0 (fun _ => rfl) (fun h => by omega)
  · intro p _ _
    refine Ev.step (fun k => by rw [spec_l05Leases.l0]) ?_
    refine ev_neg (by omega) (ev_some ?_)
    simp [lOk]
    omega
  · intro i hi ih p h0 hprev
    refine Ev.step (fun k => by rw [spec_l05Leases.l0]) ?_
    rw [rdOLease l i hi, drop_at l i hi]
    refine ev_pos (by omega) (ev_pos (by omega) (ev_pos (by omega) (ev_b (sMember _) ?_)))
    by_cases a1 : 1 ≤ l[i].f0 ∧ l[i].f0 ≤ 1000
    · refine ev_pos (by simpa using a1) (ev_b (sTick _) ?_)
      by_cases a2 : 0 ≤ l[i].f1 ∧ l[i].f1 ≤ 1000000
      · refine ev_pos (by simpa using a2) ?_
        have next := ih l[i].f0 (fun h => by omega) (fun _ _ => rfl)
        have ok : LOk l[i] := ⟨a1, a2⟩
        by_cases h1 : 0 < i
        · rw [wpred h1 (by omega), rdOLease l (i - 1) (by omega), hprev h1 (by omega)]
          refine ev_pos (by omega) (ev_pos (by omega) (ev_pos (by omega) ?_))
          by_cases hp2 : p < l[i].f0
          · refine ev_neg (by omega) ?_
            rw [wsucc hi (by omega)]
            refine ev_eq next ?_
            simp [lOk, ok, hp2]
          · refine ev_pos (by omega) (ev_some ?_)
            simp [lOk, hp2]
        · have hp0 := h0 (by omega)
          have hp2 : p < l[i].f0 := by omega
          refine ev_neg (by omega) ?_
          rw [wsucc hi (by omega)]
          refine ev_eq next ?_
          simp [lOk, ok, hp2]
      · refine ev_neg (by simpa using a2) (ev_some ?_)
        have : ¬ LOk l[i] := fun h => a2 h.2
        simp [lOk, this]
    · refine ev_neg (by simpa using a1) (ev_some ?_)
      have : ¬ LOk l[i] := fun h => a1 h.1
      simp [lOk, this]
/-- Is a presence in order? -/
def presV (h t : List TL) (m : List TM) : Bool := mOk 0 m && (leasesV h && (leasesV t && decide (m.length ≤ 30)))
theorem implPres (h t : List TL) (m : List TM) (hh : h.length ≤ 100000000) (ht : t.length ≤ 100000000) (hm : m.length ≤ 100000000) : Ev (fun k => impl_ValidPresence.f k h t m) (presV h t m) := by
  unfold presV
  have key := idx_ind m (fun i => ∀ p : Int, (i = 0 → p = 0) → (∀ h : 0 < i, ∀ h2 : i ≤ m.length, (m[i - 1]'(by omega)).f0 = p) → Ev (fun k => impl_ValidPresence.l0 k m (m.length : Int) (i : Int) h t m) (mOk p (m.drop i) && (leasesV h && (leasesV t && decide (m.length ≤ 30))))) ?_ ?_
  · exact key 0 (Nat.zero_le _) 0 (fun _ => rfl) (fun h => by omega)
  · intro p _ _
    refine Ev.step (fun k => by rw [impl_ValidPresence.l0]) ?_
    refine ev_neg (by omega) (Ev.bind (implLeases h hh) ?_)
    rw [List.drop_length, mOk, Bool.true_and]
    by_cases c1 : leasesV h = true
    · refine ev_pos c1 (Ev.bind (implLeases t ht) ?_)
      rw [c1, Bool.true_and]
      by_cases c2 : leasesV t = true
      · refine ev_pos c2 (ev_some ?_)
        rw [c2, Bool.true_and, decide_eq_decide]
        omega
      · refine ev_neg c2 (ev_some ?_)
        rw [(Bool.not_eq_true _).mp c2, Bool.false_and]
    · refine ev_neg c1 (ev_some ?_)
      rw [(Bool.not_eq_true _).mp c1, Bool.false_and]
  · intro i hi ih p h0 hprev
    refine Ev.step (fun k => by rw [impl_ValidPresence.l0]) ?_
    rw [rdOMark m i hi, drop_at m i hi]
    refine ev_pos (by omega) (ev_pos (by omega) (ev_pos (by omega) (ev_b (iMember _) ?_)))
    by_cases a1 : 1 ≤ m[i].f0 ∧ m[i].f0 ≤ 1000
    · refine ev_pos (by simpa using a1) (ev_b (implIn _ _ _) ?_)
      by_cases a2 : 0 ≤ m[i].f1 ∧ m[i].f1 ≤ 1000000000
      · refine ev_pos (by simpa using a2) ?_
        have next := ih m[i].f0 (fun h => by omega) (fun _ _ => rfl)
        have ok : MOk m[i] := ⟨a1, a2⟩
        by_cases h1 : 0 < i
        · rw [wpred h1 (by omega), rdOMark m (i - 1) (by omega), hprev h1 (by omega)]
          refine ev_pos (by omega) (ev_pos (by omega) (ev_pos (by omega) ?_))
          by_cases hp2 : p < m[i].f0
          · refine ev_neg (by omega) ?_
            rw [wsucc hi (by omega)]
            refine ev_eq next ?_
            simp [mOk, ok, hp2]
          · refine ev_pos (by omega) (ev_some ?_)
            simp [mOk, hp2]
        · have hp0 := h0 (by omega)
          have hp2 : p < m[i].f0 := by omega
          refine ev_neg (by omega) ?_
          rw [wsucc hi (by omega)]
          refine ev_eq next ?_
          simp [mOk, ok, hp2]
      · refine ev_neg (by simpa using a2) (ev_some ?_)
        have : ¬ MOk m[i] := fun h => a2 h.2
        simp [mOk, this]
    · refine ev_neg (by simpa using a1) (ev_some ?_)
      have : ¬ MOk m[i] := fun h => a1 h.1
      simp [mOk, this]
theorem specPres (h t : List TL) (m : List TM) (hh : h.length ≤ 100000000) (ht : t.length ≤ 100000000) (hm : m.length ≤ 100000000) : Ev (fun k => spec_l05Is.f k h t m) (presV h t m) := by
  unfold presV
  have key := idx_ind m (fun i => ∀ p : Int, (i = 0 → p = 0) → (∀ h : 0 < i, ∀ h2 : i ≤ m.length, (m[i - 1]'(by omega)).f0 = p) → Ev (fun k => spec_l05Is.l0 k (m.length : Int) (i : Int) h t m) (mOk p (m.drop i) && (leasesV h && (leasesV t && decide (m.length ≤ 30))))) ?_ ?_
  · exact key 0 (Nat.zero_le _) 0 (fun _ => rfl) (fun h => by omega)
  · intro p _ _
    refine Ev.step (fun k => by rw [spec_l05Is.l0]) ?_
    rw [List.drop_length, mOk, Bool.true_and]
    refine ev_neg (by omega) ?_
    by_cases c3 : m.length ≤ 30
    · refine ev_pos (by omega) (Ev.bind (specLeases h hh) ?_)
      by_cases c1 : leasesV h = true
      · refine ev_pos c1 (Ev.bind (specLeases t ht) (ev_some ?_))
        rw [c1, Bool.true_and, decide_eq_true c3, Bool.and_true]
      · refine ev_neg c1 (ev_some ?_)
        rw [(Bool.not_eq_true _).mp c1, Bool.false_and]
    · refine ev_neg (by omega) (ev_some ?_)
      rw [decide_eq_false c3, Bool.and_false, Bool.and_false]
  · intro i hi ih p h0 hprev
    refine Ev.step (fun k => by rw [spec_l05Is.l0]) ?_
    rw [rdOMark m i hi, drop_at m i hi]
    refine ev_pos (by omega) (ev_pos (by omega) (ev_pos (by omega) (ev_b (sMember _) ?_)))
    by_cases a1 : 1 ≤ m[i].f0 ∧ m[i].f0 ≤ 1000
    · refine ev_pos (by simpa using a1) (ev_b (specIn _ _ _) ?_)
      by_cases a2 : 0 ≤ m[i].f1 ∧ m[i].f1 ≤ 1000000000
      · refine ev_pos (by simpa using a2) ?_
        have next := ih m[i].f0 (fun h => by omega) (fun _ _ => rfl)
        have ok : MOk m[i] := ⟨a1, a2⟩
        by_cases h1 : 0 < i
        · rw [wpred h1 (by omega), rdOMark m (i - 1) (by omega), hprev h1 (by omega)]
          refine ev_pos (by omega) (ev_pos (by omega) (ev_pos (by omega) ?_))
          by_cases hp2 : p < m[i].f0
          · refine ev_neg (by omega) ?_
            rw [wsucc hi (by omega)]
            refine ev_eq next ?_
            simp [mOk, ok, hp2]
          · refine ev_pos (by omega) (ev_some ?_)
            simp [mOk, hp2]
        · have hp0 := h0 (by omega)
          have hp2 : p < m[i].f0 := by omega
          refine ev_neg (by omega) ?_
          rw [wsucc hi (by omega)]
          refine ev_eq next ?_
          simp [mOk, ok, hp2]
      · refine ev_neg (by simpa using a2) (ev_some ?_)
        have : ¬ MOk m[i] := fun h => a2 h.2
        simp [mOk, this]
    · refine ev_neg (by simpa using a1) (ev_some ?_)
      have : ¬ MOk m[i] := fun h => a1 h.1
      simp [mOk, this]
theorem presV_len {h t : List TL} {m : List TM} (c : presV h t m = true) : h.length ≤ 30 ∧ t.length ≤ 30 ∧ m.length ≤ 30 := by
  unfold presV leasesV at c
  simp only [Bool.and_eq_true, decide_eq_true_eq] at c
  exact ⟨c.2.1.2, c.2.2.1.2, c.2.2.2⟩

theorem toPres (h t : List S108) (m : List S110) (hh : h.length ≤ 100000000) (ht : t.length ≤ 100000000) (hm : m.length ≤ 100000000) : Ev (fun k => laws_toPresence.f k h t m) (h.map cvLease, t.map cvLease, m.map cvMark) := by
  unfold laws_toPresence.f
  exact Ev.bind (toLeaseS h hh) (Ev.bind (toLeaseS t ht) (Ev.bind (toMarkS m hm) (Ev.now _)))
theorem szPres (h t : List S108) (m : List S110) (hh : h.length ≤ 9223372036854775807) (ht : t.length ≤ 9223372036854775807) (hm : m.length ≤ 9223372036854775807) : ∃ v, laws_szPresence.f h t m 1048576 = some v ∧ (0 ≤ v → h.length ≤ 1048576 ∧ t.length ≤ 1048576 ∧ m.length ≤ 1048576) := by
  unfold laws_szPresence.f
  rw [szLeaseS h hh]
  by_cases c1 : h.length ≤ 1048576
  · rw [if_pos c1, Option.bind_some, if_neg (by omega), szAtLeaseS t _ (by omega) (by omega) ht]
    by_cases c2 : (t.length : Int) ≤ 1048576 - (h.length : Int)
    · rw [if_pos c2, Option.bind_some, if_neg (by omega), szAtMarkS m _ (by omega) (by omega) hm]
      by_cases c3 : (m.length : Int) ≤ 1048576 - (h.length : Int) - (t.length : Int)
      · rw [if_pos c3, Option.bind_some, if_neg (by omega)]
        exact ⟨_, rfl, fun _ => by omega⟩
      · rw [if_neg c3, Option.bind_some, if_pos (by omega)]
        exact ⟨_, rfl, fun h => by omega⟩
    · rw [if_neg c2, Option.bind_some, if_pos (by omega)]
      exact ⟨_, rfl, fun h => by omega⟩
  · rw [if_neg c1, Option.bind_some, if_pos (by omega)]
    exact ⟨_, rfl, fun h => by omega⟩
theorem eqPres (h t : List TL) (m : List TM) (hh : h.length ≤ 100000000) (ht : t.length ≤ 100000000) (hm : m.length ≤ 100000000) : Ev (fun k => laws_eqPresence.f k h t m h t m) true := by
  unfold laws_eqPresence.f
  exact Ev.bind (eqLeaseS h hh) (ev_pos rfl (Ev.bind (eqLeaseS t ht) (ev_pos rfl (Ev.bind (eqMarkS m hm) (ev_pos rfl (Ev.now _))))))
theorem markPres (h t : List TL) (m : List TM) (hh : h.length ≤ 1048576) (ht : t.length ≤ 1048576) (hm : m.length ≤ 1048576) : ∃ v h2 t2 m2, Ev (fun k => laws_markPresence.f k h t m 1) (v, h2, t2, m2) ∧ 0 ≤ v ∧ Ev (fun k => laws_heldPresence.f k h2 t2 m2 1) v := by
  obtain ⟨h2, a1, a2, a3⟩ := markLeaseS h 1 (by omega) (by omega)
  obtain ⟨t2, b1, b2, b3⟩ := markLeaseS t (1 + 2 * h.length) (by omega) (by omega)
  obtain ⟨m2, c1, c2, c3⟩ := markMarkS m (1 + 2 * h.length + 2 * t.length) (by omega) (by omega)
  have d1 := heldLeaseS h2 1 (by omega) (by omega) (fun j hj => a3 j (by omega))
  have d2 := heldLeaseS t2 (1 + 2 * h.length) (by omega) (by omega) (fun j hj => b3 j (by omega))
  have d3 := heldMarkS m2 (1 + 2 * h.length + 2 * t.length) (by omega) (by omega) (fun j hj => c3 j (by omega))
  rw [a2] at d1
  rw [b2] at d2
  rw [c2] at d3
  refine ⟨((1 + 2 * h.length + 2 * t.length + 2 * m.length : Nat) : Int), h2, t2, m2, ?_, ?_, ?_⟩
  · unfold laws_markPresence.f
    exact Ev.bind a1 (Ev.bind b1 (Ev.bind c1 (Ev.now _)))
  · show (0 : Int) ≤ ((1 + 2 * h.length + 2 * t.length + 2 * m.length : Nat) : Int)
    omega
  · unfold laws_heldPresence.f
    exact Ev.bind d1 (ev_neg (by omega) (Ev.bind d2 (ev_neg (by omega) (Ev.bind d3 (ev_neg (by omega) (Ev.now _))))))
theorem cloneP (h t : List TL) (m : List TM) (hh : h.length ≤ 1048576) (ht : t.length ≤ 1048576) (hm : m.length ≤ 1048576) : impl_clonePresence.f h t m = some (h, t, m) := by
  unfold impl_clonePresence.f impl_Lease.f impl_Mark.f
  rw [if_pos (by omega), if_pos (by omega), if_pos (by omega)]; rfl

def mx (a b : Int) : Int := if a > b then a else b

theorem u64w {n : Int} (h : 0 ≤ n) (h2 : n < 18446744073709551616) : IntKind.u64.wrap n = n := by
  simp [IntKind.wrap, IntKind.signed, IntKind.bits]
  omega
theorem half {i j : Nat} (h : i + j ≤ 100000000) : wrap64 ((IntKind.u64.wrap (wrap64 ((i : Int) + (j : Int)))) / 2) = (((i + j) / 2 : Nat) : Int) := by
  rw [w64 (n := (i : Int) + (j : Int)) (by omega) (by omega), u64w (by omega) (by omega), w64 (by omega) (by omega)]
  omega

/-- Leases with one of a member that lasts at least until a tick. -/
def putL (a v : Int) : List TL → List TL
  | [] => [⟨a, v⟩]
  | x :: r => if x.f0 < a then x :: putL a v r else if x.f0 = a then ⟨x.f0, mx x.f1 v⟩ :: r else ⟨a, v⟩ :: x :: r
theorem putL_len (a v : Int) : ∀ l, (putL a v l).length ≤ l.length + 1
  | [] => by simp [putL]
  | x :: r => by
    have := putL_len a v r
    unfold putL
    split
    · simp; omega
    · split
      · simp
      · simp
theorem putL_has (a v : Int) : ∀ l, ∃ y ∈ putL a v l, y.f0 = a ∧ v ≤ y.f1
  | [] => ⟨⟨a, v⟩, by simp [putL], rfl, Int.le_refl _⟩
  | x :: r => by
    unfold putL
    split
    · obtain ⟨y, hy, e⟩ := putL_has a v r
      exact ⟨y, List.mem_cons_of_mem _ hy, e⟩
    · split
      · rename_i c
        refine ⟨_, List.mem_cons_self, c, ?_⟩
        show v ≤ mx x.f1 v
        unfold mx
        split <;> omega
      · exact ⟨_, List.mem_cons_self, rfl, Int.le_refl _⟩
theorem lOk_all : ∀ (l : List TL) (p : Int), lOk p l = true → ∀ x ∈ l, LOk x ∧ p < x.f0
  | [], _, _, x, hx => by cases hx
  | y :: r, p, h, x, hx => by
    unfold lOk at h
    simp only [Bool.and_eq_true, decide_eq_true_eq] at h
    rcases List.mem_cons.1 hx with e | e
    · subst e; exact h.1
    · have := lOk_all r _ h.2 x e
      exact ⟨this.1, by omega⟩
theorem lOk_up : ∀ (l : List TL) (p : Int), lOk p l = true → l.Pairwise (fun x y => x.f0 < y.f0)
  | [], _, _ => List.Pairwise.nil
  | y :: r, p, h => by
    unfold lOk at h
    simp only [Bool.and_eq_true, decide_eq_true_eq] at h
    exact List.pairwise_cons.2 ⟨fun x hx => (lOk_all r _ h.2 x hx).2, lOk_up r _ h.2⟩
theorem lOk_member {a v p : Int} {l : List TL} (h : lOk p (putL a v l) = true) : (1 ≤ a ∧ a ≤ 1000) ∧ v ≤ 1000000 := by
  obtain ⟨y, hy, e, e2⟩ := putL_has a v l
  have := (lOk_all _ _ h y hy).1
  unfold LOk at this
  rw [e] at this
  exact ⟨this.1, by omega⟩
theorem putL_skip (a v : Int) : ∀ (l : List TL) (i : Nat), i ≤ l.length → (∀ j, j < i → ∀ h : j < l.length, l[j].f0 < a) → putL a v l = l.take i ++ putL a v (l.drop i)
  | l, 0, _, _ => by simp
  | [], i + 1, h, _ => by simp at h
  | x :: r, i + 1, h, hj => by
    have h0 := hj 0 (by omega) (by simp)
    have ih := putL_skip a v r i (by simpa using h) (fun j h1 h2 => by
      have := hj (j + 1) (by omega) (by simpa using h2)
      simpa only [List.getElem_cons_succ] using this)
    rw [putL, if_pos (by simpa using h0), ih]
    simp
theorem placeL (a : Int) : ∀ (l : List TL), l.Pairwise (fun x y => x.f0 < y.f0) → ∃ p : Nat, p ≤ l.length ∧ (∀ j, j < p → ∀ h : j < l.length, l[j].f0 < a) ∧ ∀ j, p ≤ j → ∀ h : j < l.length, a ≤ l[j].f0
  | [], _ => ⟨0, by simp, fun j h => by omega, fun j _ h => by simp at h⟩
  | x :: r, up => by
    obtain ⟨u1, u2⟩ := List.pairwise_cons.1 up
    by_cases c : x.f0 < a
    · obtain ⟨p, p1, p2, p3⟩ := placeL a r u2
      refine ⟨p + 1, by simpa using p1, fun j hj h => ?_, fun j hj h => ?_⟩
      · cases j with
        | zero => simpa using c
        | succ j => simpa using p2 j (by omega) (by simpa using h)
      · cases j with
        | zero => omega
        | succ j => simpa using p3 j (by omega) (by simpa using h)
    · refine ⟨0, by simp, fun j h => by omega, fun j _ h => ?_⟩
      cases j with
      | zero => simp only [List.getElem_cons_zero]; omega
      | succ j =>
        have hr : j < r.length := by simpa using h
        have := u1 r[j] (List.getElem_mem _)
        simp only [List.getElem_cons_succ]
        omega

theorem leasesV_up {l : List TL} (c : leasesV l = true) : l.Pairwise (fun x y => x.f0 < y.f0) := by
  unfold leasesV at c
  simp only [Bool.and_eq_true] at c
  exact lOk_up l 0 c.1
theorem leasesV_member {a v : Int} {l : List TL} (c : leasesV (putL a v l) = true) : (1 ≤ a ∧ a ≤ 1000) ∧ v ≤ 1000000 := by
  unfold leasesV at c
  simp only [Bool.and_eq_true] at c
  exact lOk_member c.1
theorem presV_here {h t : List TL} {m : List TM} (c : presV h t m = true) : leasesV h = true := by
  unfold presV at c
  simp only [Bool.and_eq_true] at c
  exact c.2.1
theorem presV_typing {h t : List TL} {m : List TM} (c : presV h t m = true) : leasesV t = true := by
  unfold presV at c
  simp only [Bool.and_eq_true] at c
  exact c.2.2.1

def pL (c : Int) (x : TL) : Bool := decide (x.f1 ≤ c)
theorem pL_f (c : Int) (x : TL) : impl_SweepPresence_1_1_v3.f x.f0 x.f1 c = some (pL c x) := rfl

theorem rddL (l : List S63) (i : Nat) (h : i < l.length) : rd_T63 l (i : Int) = l[i] := by
  simp [rd_T63, List.getD, h]
theorem fndL (c : Int) (l : List S63) (hl : l.length ≤ 100000000) : ∃ r : Int, Ev (fun k => impl_Lease_v2.f k l c) r ∧ ((r = -1 ∧ ∀ j (h : j < l.length), pL c l[j] = false) ∨ ∃ i, ∃ h : i < l.length, r = (i : Int) ∧ pL c l[i] = true ∧ ∀ j (h : j < l.length), j < i → pL c l[j] = false) := by
  have key := idx_ind l (fun i => (∀ j (h : j < l.length), j < i → pL c l[j] = false) → ∃ r : Int, Ev (fun k => impl_Lease_v2.l0 k l (l.length : Int) (i : Int) c) r ∧ ((r = -1 ∧ ∀ j (h : j < l.length), pL c l[j] = false) ∨ ∃ i, ∃ h : i < l.length, r = (i : Int) ∧ pL c l[i] = true ∧ ∀ j (h : j < l.length), j < i → pL c l[j] = false)) ?_ ?_
  · exact key 0 (Nat.zero_le _) (fun j _ h => by omega)
  · intro hall
    refine ⟨-1, ?_, .inl ⟨rfl, fun j h => hall j h h⟩⟩
    refine Ev.step (fun k => by rw [impl_Lease_v2.l0]) ?_
    exact ev_neg (by omega) (Ev.now _)
  · intro i hi ih hall
    by_cases hp : pL c l[i] = true
    · refine ⟨(i : Int), ?_, .inr ⟨i, hi, rfl, hp, hall⟩⟩
      refine Ev.step (fun k => by rw [impl_Lease_v2.l0]) ?_
      refine ev_pos (by omega) (ev_pos (by omega) (ev_pos (by omega) ?_))
      rw [rddL l i hi]
      exact ev_b (pL_f _ _) (ev_pos hp (Ev.now _))
    · obtain ⟨r, h1, h2⟩ := ih (fun j h hj => by
        rcases Nat.lt_or_eq_of_le (Nat.lt_succ_iff.1 hj) with h3 | h3
        · exact hall j h h3
        · subst h3; simpa using hp)
      refine ⟨r, ?_, h2⟩
      refine Ev.step (fun k => by rw [impl_Lease_v2.l0]) ?_
      refine ev_pos (by omega) (ev_pos (by omega) (ev_pos (by omega) ?_))
      rw [rddL l i hi, wsucc hi (by omega)]
      exact ev_b (pL_f _ _) (ev_neg hp h1)
theorem dellL (c : Int) (l : List S63) (hl : l.length ≤ 100000000) : ∀ j, j ≤ l.length → ∀ (x : List S63) (i : Nat), x.length = l.length → i ≤ j → x.take i = (l.take j).filter (fun y => !pL c y) → x.drop j = l.drop j → Ev (fun k => impl_Lease_v1.l0 k x (i : Int) (j : Int) c) (l.filter (fun y => !pL c y)) := by
  refine idx_ind l _ ?_ ?_
  · intro x i hx hi ht hd
    refine Ev.step (fun k => by rw [impl_Lease_v1.l0]) ?_
    refine ev_neg (by omega) (ev_pos (by omega) (ev_pos (by omega) (ev_some ?_)))
    rw [List.take_length] at ht
    rw [← ht, Int.toNat_natCast]
    exact List.take_left' (by rw [List.length_take]; omega)
  · intro j hj ih x i hx hi ht hd
    have hxj : j < x.length := by omega
    have hv : x[j] = l[j] := by
      have h1 : (x.drop j)[0]? = (l.drop j)[0]? := by rw [hd]
      rw [List.getElem?_drop, List.getElem?_drop, Nat.add_zero, List.getElem?_eq_getElem hxj, List.getElem?_eq_getElem hj] at h1
      exact Option.some.inj h1
    have hd2 : x.drop (j + 1) = l.drop (j + 1) := by
      have h1 : (x.drop j).drop 1 = (l.drop j).drop 1 := by rw [hd]
      rwa [List.drop_drop, List.drop_drop] at h1
    have ht2 : l.take (j + 1) = l.take j ++ [l[j]] := by rw [List.take_succ_eq_append_getElem hj]
    refine Ev.step (fun k => by rw [impl_Lease_v1.l0]) ?_
    refine ev_pos (by omega) (ev_pos (by omega) ?_)
    rw [rddL x j hxj, hv, wsucc (n := l.length) (i := j) hj (by omega)]
    refine ev_b (pL_f _ _) ?_
    by_cases hp : pL c l[j] = true
    · refine ev_pos hp (ih x i hx (by omega) ?_ hd2)
      rw [ht2, List.filter_append, ht]
      simp [hp]
    · refine ev_neg hp (ev_pos (by omega) (ev_pos (by omega) ?_))
      rw [wsucc (n := l.length) (i := i) (by omega) (by omega)]
      have hset : (x.set i l[j]).take (i + 1) = (l.take (j + 1)).filter (fun y => !pL c y) := by
        rw [List.take_succ_eq_append_getElem (by rw [List.length_set]; omega), List.take_set_of_le (Nat.le_refl _), ht, ht2, List.filter_append]
        simp [hp]
      exact ih (x.set i l[j]) (i + 1) (by rw [List.length_set]; exact hx) (by omega) hset (by rw [List.drop_set_of_lt (by omega)]; exact hd2)
/-- What slices.DeleteFunc does. -/
theorem delL (c : Int) (l : List S63) (hl : l.length ≤ 100000000) : Ev (fun k => impl_Lease_v1.f k l c) (l.filter (fun y => !pL c y)) := by
  obtain ⟨r, h1, h2⟩ := fndL c l hl
  unfold impl_Lease_v1.f
  refine Ev.bind h1 ?_
  rcases h2 with ⟨rfl, hall⟩ | ⟨i, hi, rfl, hp, hall⟩
  · refine ev_pos rfl (ev_some ?_)
    exact (List.filter_eq_self.2 fun y hy => by
      obtain ⟨j, hj, rfl⟩ := List.mem_iff_getElem.1 hy
      rw [hall j hj]; rfl).symm
  · refine ev_neg (by omega) ?_
    rw [wsucc hi (by omega)]
    have ht2 : l.take (i + 1) = l.take i ++ [l[i]] := by rw [List.take_succ_eq_append_getElem hi]
    refine dellL c l hl (i + 1) (by omega) l i rfl (by omega) ?_ rfl
    rw [ht2, List.filter_append]
    have h3 : (l.take i).filter (fun y => !pL c y) = l.take i := List.filter_eq_self.2 fun y hy => by
      obtain ⟨j, hj, rfl⟩ := List.mem_iff_getElem.1 hy
      rw [List.length_take] at hj
      rw [List.getElem_take, hall j (by omega) (by omega)]; rfl
    rw [h3]
    simp [hp]

theorem lOk_lower : ∀ (l : List TL) (p q : Int), p ≤ q → lOk q l = true → lOk p l = true
  | [], _, _, _, _ => rfl
  | x :: r, p, q, hpq, h => by
    unfold lOk at h ⊢
    simp only [Bool.and_eq_true, decide_eq_true_eq] at h ⊢
    exact ⟨⟨h.1.1, by omega⟩, h.2⟩
theorem lOk_filter (f : TL → Bool) : ∀ (l : List TL) (p : Int), lOk p l = true → lOk p (l.filter f) = true
  | [], _, _ => rfl
  | x :: r, p, h => by
    unfold lOk at h
    simp only [Bool.and_eq_true, decide_eq_true_eq] at h
    have h2 := lOk_filter f r x.f0 h.2
    by_cases c : f x = true
    · rw [List.filter_cons_of_pos c]
      unfold lOk
      simp only [Bool.and_eq_true, decide_eq_true_eq]
      exact ⟨h.1, h2⟩
    · rw [List.filter_cons_of_neg c]
      exact lOk_lower _ _ _ (by omega) h2
theorem leasesV_filter (f : TL → Bool) {l : List TL} (h : leasesV l = true) : leasesV (l.filter f) = true := by
  unfold leasesV at h ⊢
  simp only [Bool.and_eq_true, decide_eq_true_eq] at h ⊢
  exact ⟨lOk_filter f l 0 h.1, Nat.le_trans (List.length_filter_le _ _) h.2⟩
theorem presV_filter (f g : TL → Bool) {h t : List TL} {m : List TM} (c : presV h t m = true) : presV (h.filter f) (t.filter g) m = true := by
  unfold presV at c ⊢
  simp only [Bool.and_eq_true] at c ⊢
  exact ⟨c.1, leasesV_filter f c.2.1, leasesV_filter g c.2.2.1, c.2.2.2⟩
theorem lOk_mem : ∀ (l : List TL) (p : Int), lOk p l = true → ∀ x ∈ l, LOk x
  | [], _, _, x, hx => by cases hx
  | y :: r, p, h, x, hx => by
    unfold lOk at h
    simp only [Bool.and_eq_true, decide_eq_true_eq] at h
    rcases List.mem_cons.1 hx with e | e
    · subst e; exact h.1.1
    · exact lOk_mem r _ h.2 x e
/-- The end of a member's lease, or -1. -/
def untilV (a : Int) : List TL → Int
  | [] => -1
  | x :: r => if x.f0 = a then x.f1 else untilV a r
theorem specUntil (l : List TL) (hl : l.length ≤ 100000000) (a : Int) : Ev (fun k => spec_l05Until.f k l a) (untilV a l) := by
  unfold spec_l05Until.f
  refine idx_ind l (fun i => Ev (fun k => spec_l05Until.l0 k l a (l.length : Int) (i : Int)) (untilV a (l.drop i))) ?_ ?_ 0 (Nat.zero_le _)
  · refine Ev.step (fun k => by rw [spec_l05Until.l0]) ?_
    exact ev_neg (by omega) (ev_some (by rw [List.drop_length, untilV]))
  · intro i hi ih
    refine Ev.step (fun k => by rw [spec_l05Until.l0]) ?_
    rw [rdOLease l i hi, wsucc hi (by omega), drop_at l i hi]
    refine ev_pos (by omega) (ev_pos (by omega) (ev_pos (by omega) ?_))
    unfold untilV
    by_cases c : l[i].f0 = a
    · exact ev_pos c (ev_some (by rw [if_pos c]))
    · rw [if_neg c]
      exact ev_neg c ih
theorem until_no (a : Int) : ∀ (l : List TL) (p : Int), lOk p l = true → (untilV a l < 0 ↔ ∀ x ∈ l, x.f0 ≠ a)
  | [], _, _ => by simp [untilV]
  | x :: r, p, h => by
    unfold lOk at h
    simp only [Bool.and_eq_true, decide_eq_true_eq] at h
    have ih := until_no a r _ h.2
    unfold untilV
    by_cases c : x.f0 = a
    · rw [if_pos c]
      have := h.1.1.2
      constructor
      · intro h2; omega
      · intro h2; exact absurd c (h2 x List.mem_cons_self)
    · rw [if_neg c, ih]
      constructor
      · intro h2 y hy
        rcases List.mem_cons.1 hy with e | e
        · subst e; exact c
        · exact h2 y e
      · intro h2 y hy; exact h2 y (List.mem_cons_of_mem _ hy)

theorem cmpU (x y a : Int) : impl_until_1_n95.f x y a = some (if x < a then -1 else if x > a then 1 else 0) := by
  have e : ∀ b : Int, cmp_isNaN_int64_n115.f b = some false := fun b => by simp [cmp_isNaN_int64_n115.f]
  unfold impl_until_1_n95.f cmp_Compare_int64_n93.f
  rw [e, e]
  simp only [Option.bind_some]
  rw [if_neg (by simp), if_neg (by simp)]
  split
  · rfl
  · split <;> rfl
/-- The place of a member. -/
theorem srchU (l : List TL) (hl : l.length ≤ 1048576) (a : Int) (p : Nat) (hp : p ≤ l.length) (h1 : ∀ j, j < p → ∀ h : j < l.length, l[j].f0 < a) (h2 : ∀ j, p ≤ j → ∀ h : j < l.length, a ≤ l[j].f0) : Ev (fun k => impl_Lease_int64_v8.f k l a) ((p : Int), decide (∃ h : p < l.length, l[p].f0 = a)) := by
  unfold impl_Lease_int64_v8.f
  have key : ∀ d i j : Nat, j - i ≤ d → i ≤ p → p ≤ j → j ≤ l.length → Ev (fun k => impl_Lease_int64_v8.l0 k l a (l.length : Int) (i : Int) (j : Int)) ((p : Int), decide (∃ h : p < l.length, l[p].f0 = a)) := by
    intro d
    induction d with
    | zero =>
      intro i j hd hi hj hn
      have e2 : i = j := by omega
      have e : i = p := by omega
      subst e2
      subst e
      refine Ev.step (fun k => by rw [impl_Lease_int64_v8.l0]) (ev_neg (by omega) ?_)
      by_cases c : i < l.length
      · rw [rdOLease l i c]
        refine ev_pos (by omega) (ev_pos (by omega) (ev_pos (by omega) (ev_b (cmpU _ _ _) (ev_some ?_))))
        have := h2 i (Nat.le_refl _) c
        by_cases c2 : l[i].f0 = a
        · rw [if_neg (by omega), if_neg (by omega), decide_eq_true (show ∃ h : i < l.length, l[i].f0 = a from ⟨c, c2⟩)]
          rfl
        · rw [if_neg (by omega), if_pos (by omega), decide_eq_false (fun z => c2 z.2)]
          rfl
      · refine ev_neg (by omega) (ev_some ?_)
        rw [decide_eq_false (fun z => c z.1)]
    | succ d ih =>
      intro i j hd hi hj hn
      by_cases e : i = j
      · exact ih i j (by omega) hi hj hn
      · refine Ev.step (fun k => by rw [impl_Lease_int64_v8.l0]) (ev_pos (by omega) ?_)
        rw [half (by omega)]
        have hm : (i + j) / 2 < l.length := by omega
        rw [rdOLease l _ hm]
        refine ev_pos (by omega) (ev_pos (by omega) (ev_b (cmpU _ _ _) ?_))
        by_cases c : l[(i + j) / 2].f0 < a
        · rw [if_pos c, wsucc hm (by omega)]
          have : (i + j) / 2 < p := by
            rcases Nat.lt_or_ge ((i + j) / 2) p with z | z
            · exact z
            · have := h2 _ z hm
              omega
          exact ev_pos (by omega) (ih _ _ (by omega) (by omega) hj hn)
        · rw [if_neg c]
          have : p ≤ (i + j) / 2 := by
            rcases Nat.lt_or_ge ((i + j) / 2) p with z | z
            · have := h1 _ z hm
              omega
            · exact z
          refine ev_neg (by split <;> omega) (ih _ _ (by omega) hi this (by omega))
  exact key l.length 0 l.length (by omega) (by omega) hp (Nat.le_refl _)
theorem until_skip (a : Int) : ∀ (l : List TL) (p : Nat), (∀ j, j < p → ∀ h : j < l.length, l[j].f0 < a) → untilV a l = untilV a (l.drop p)
  | l, 0, _ => by simp
  | [], p + 1, _ => by simp
  | x :: r, p + 1, hj => by
    have h0 := hj 0 (by omega) (by simp)
    have ih := until_skip a r p (fun j h1 h2 => by
      have := hj (j + 1) (by omega) (by simpa using h2)
      simpa only [List.getElem_cons_succ] using this)
    simp only [List.getElem_cons_zero] at h0
    rw [untilV, if_neg (by omega), ih]
    simp
theorem until_none (a : Int) : ∀ l : List TL, (∀ x ∈ l, x.f0 ≠ a) → untilV a l = -1
  | [], _ => rfl
  | x :: r, h => by
    rw [untilV, if_neg (h x List.mem_cons_self)]
    exact until_none a r fun y hy => h y (List.mem_cons_of_mem _ hy)
theorem untilL (l : List TL) (hl : l.length ≤ 1048576) (a : Int) (up : l.Pairwise (fun x y => x.f0 < y.f0)) : Ev (fun k => impl_until_n49.f k l a) (untilV a l) := by
  unfold impl_until_n49.f
  obtain ⟨p, hp, h1, h2⟩ := placeL a l up
  refine Ev.bind (srchU l hl a p hp h1 h2) ?_
  have sk := until_skip a l p h1
  by_cases c : ∃ h : p < l.length, l[p].f0 = a
  · obtain ⟨c1, c2⟩ := c
    simp only []
    rw [rdOLease l p c1]
    refine ev_pos (decide_eq_true ⟨c1, c2⟩) (ev_pos (by omega) (ev_pos (by omega) (ev_some ?_)))
    rw [sk, drop_at l p c1, untilV, if_pos c2]
  · refine ev_neg (by simpa using c) (ev_some ?_)
    rw [sk]
    refine (until_none a _ fun x hx e => ?_).symm
    obtain ⟨j, hj, ej⟩ := List.getElem_of_mem hx
    rw [List.getElem_drop] at ej
    have hj2 : p + j < l.length := by simp at hj; omega
    have b1 : p < l.length := by omega
    have b2 := h2 p (Nat.le_refl _) b1
    have b3 : l[p].f0 ≠ a := fun z => c ⟨b1, z⟩
    cases j with
    | zero => 
      simp only [Nat.add_zero] at ej
      rw [ej] at b3
      exact b3 e
    | succ j =>
      have := List.pairwise_iff_getElem.1 up p (p + (j + 1)) b1 hj2 (by omega)
      rw [ej] at this
      omega

/-- Is a lease of typing one that goes? -/
def pT (n : Int) (h : List TL) (x : TL) : Bool := decide (x.f1 ≤ n) || decide (untilV x.f0 h < 0)
theorem pT_f (n : Int) (h t : List TL) (m : List TM) (hh : h.length ≤ 1048576) (up : h.Pairwise (fun x y => x.f0 < y.f0)) (x : TL) : Ev (fun k => impl_SweepPresence_1_2_v7.f k x.f0 x.f1 n h t m) (pT n h x) := by
  unfold impl_SweepPresence_1_2_v7.f pT
  by_cases c : x.f1 ≤ n
  · exact ev_pos c (ev_some (by rw [decide_eq_true c, Bool.true_or]))
  · refine ev_neg c (Ev.bind (untilL h hh x.f0 up) (ev_some ?_))
    rw [decide_eq_false c, Bool.false_or]
theorem fndT (n : Int) (h t : List TL) (m : List TM) (hh : h.length ≤ 1048576) (up : h.Pairwise (fun x y => x.f0 < y.f0)) (l : List TL) (hl : l.length ≤ 100000000) : ∃ r : Int, Ev (fun k => impl_Lease_v6.f k l n h t m) r ∧ ((r = -1 ∧ ∀ j (hj : j < l.length), pT n h l[j] = false) ∨ ∃ i, ∃ hi : i < l.length, r = (i : Int) ∧ pT n h l[i] = true ∧ ∀ j (hj : j < l.length), j < i → pT n h l[j] = false) := by
  have key := idx_ind l (fun i => (∀ j (hj : j < l.length), j < i → pT n h l[j] = false) → ∃ r : Int, Ev (fun k => impl_Lease_v6.l0 k l (l.length : Int) (i : Int) n h t m) r ∧ ((r = -1 ∧ ∀ j (hj : j < l.length), pT n h l[j] = false) ∨ ∃ i, ∃ hi : i < l.length, r = (i : Int) ∧ pT n h l[i] = true ∧ ∀ j (hj : j < l.length), j < i → pT n h l[j] = false)) ?_ ?_
  · exact key 0 (Nat.zero_le _) (fun j _ h => by omega)
  · intro hall
    refine ⟨-1, ?_, .inl ⟨rfl, fun j h => hall j h h⟩⟩
    refine Ev.step (fun k => by rw [impl_Lease_v6.l0]) ?_
    exact ev_neg (by omega) (Ev.now _)
  · intro i hi ih hall
    by_cases hp : pT n h l[i] = true
    · refine ⟨(i : Int), ?_, .inr ⟨i, hi, rfl, hp, hall⟩⟩
      refine Ev.step (fun k => by rw [impl_Lease_v6.l0]) ?_
      refine ev_pos (by omega) (ev_pos (by omega) (ev_pos (by omega) ?_))
      rw [rddL l i hi]
      exact Ev.bind (pT_f n h t m hh up _) (ev_pos hp (Ev.now _))
    · obtain ⟨r, h1, h2⟩ := ih (fun j h hj => by
        rcases Nat.lt_or_eq_of_le (Nat.lt_succ_iff.1 hj) with h3 | h3
        · exact hall j h h3
        · subst h3; simpa using hp)
      refine ⟨r, ?_, h2⟩
      refine Ev.step (fun k => by rw [impl_Lease_v6.l0]) ?_
      refine ev_pos (by omega) (ev_pos (by omega) (ev_pos (by omega) ?_))
      rw [rddL l i hi, wsucc hi (by omega)]
      exact Ev.bind (pT_f n h t m hh up _) (ev_neg hp h1)
theorem dellT (n : Int) (h t : List TL) (m : List TM) (hh : h.length ≤ 1048576) (up : h.Pairwise (fun x y => x.f0 < y.f0)) (l : List TL) (hl : l.length ≤ 100000000) : ∀ j, j ≤ l.length → ∀ (x : List TL) (i : Nat), x.length = l.length → i ≤ j → x.take i = (l.take j).filter (fun y => !pT n h y) → x.drop j = l.drop j → Ev (fun k => impl_Lease_v5.l0 k x (i : Int) (j : Int) n h t m) (l.filter (fun y => !pT n h y)) := by
  refine idx_ind l _ ?_ ?_
  · intro x i hx hi ht hd
    refine Ev.step (fun k => by rw [impl_Lease_v5.l0]) ?_
    refine ev_neg (by omega) (ev_pos (by omega) (ev_pos (by omega) (ev_some ?_)))
    rw [List.take_length] at ht
    rw [← ht, Int.toNat_natCast]
    exact List.take_left' (by rw [List.length_take]; omega)
  · intro j hj ih x i hx hi ht hd
    have hxj : j < x.length := by omega
    have hv : x[j] = l[j] := by
      have h1 : (x.drop j)[0]? = (l.drop j)[0]? := by rw [hd]
      rw [List.getElem?_drop, List.getElem?_drop, Nat.add_zero, List.getElem?_eq_getElem hxj, List.getElem?_eq_getElem hj] at h1
      exact Option.some.inj h1
    have hd2 : x.drop (j + 1) = l.drop (j + 1) := by
      have h1 : (x.drop j).drop 1 = (l.drop j).drop 1 := by rw [hd]
      rwa [List.drop_drop, List.drop_drop] at h1
    have ht2 : l.take (j + 1) = l.take j ++ [l[j]] := by rw [List.take_succ_eq_append_getElem hj]
    refine Ev.step (fun k => by rw [impl_Lease_v5.l0]) ?_
    refine ev_pos (by omega) (ev_pos (by omega) ?_)
    rw [rddL x j hxj, hv, wsucc (n := l.length) (i := j) hj (by omega)]
    refine Ev.bind (pT_f n h t m hh up _) ?_
    by_cases hp : pT n h l[j] = true
    · refine ev_pos hp (ih x i hx (by omega) ?_ hd2)
      rw [ht2, List.filter_append, ht]
      simp [hp]
    · refine ev_neg hp (ev_pos (by omega) (ev_pos (by omega) ?_))
      rw [wsucc (n := l.length) (i := i) (by omega) (by omega)]
      have hset : (x.set i l[j]).take (i + 1) = (l.take (j + 1)).filter (fun y => !pT n h y) := by
        rw [List.take_succ_eq_append_getElem (by rw [List.length_set]; omega), List.take_set_of_le (Nat.le_refl _), ht, ht2, List.filter_append]
        simp [hp]
      exact ih (x.set i l[j]) (i + 1) (by rw [List.length_set]; exact hx) (by omega) hset (by rw [List.drop_set_of_lt (by omega)]; exact hd2)
theorem delT (n : Int) (h t : List TL) (m : List TM) (hh : h.length ≤ 1048576) (up : h.Pairwise (fun x y => x.f0 < y.f0)) (l : List TL) (hl : l.length ≤ 100000000) : Ev (fun k => impl_Lease_v5.f k l n h t m) (l.filter (fun y => !pT n h y)) := by
  obtain ⟨r, h1, h2⟩ := fndT n h t m hh up l hl
  unfold impl_Lease_v5.f
  refine Ev.bind h1 ?_
  rcases h2 with ⟨rfl, hall⟩ | ⟨i, hi, rfl, hp, hall⟩
  · refine ev_pos rfl (ev_some ?_)
    exact (List.filter_eq_self.2 fun y hy => by
      obtain ⟨j, hj, rfl⟩ := List.mem_iff_getElem.1 hy
      rw [hall j hj]; rfl).symm
  · refine ev_neg (by omega) ?_
    rw [wsucc hi (by omega)]
    have ht2 : l.take (i + 1) = l.take i ++ [l[i]] := by rw [List.take_succ_eq_append_getElem hi]
    refine dellT n h t m hh up l hl (i + 1) (by omega) l i rfl (by omega) ?_ rfl
    rw [ht2, List.filter_append]
    have h3 : (l.take i).filter (fun y => !pT n h y) = l.take i := List.filter_eq_self.2 fun y hy => by
      obtain ⟨j, hj, rfl⟩ := List.mem_iff_getElem.1 hy
      rw [List.length_take] at hj
      rw [List.getElem_take, hall j (by omega) (by omega)]; rfl
    rw [h3]
    simp [hp]
theorem until_filter (a n : Int) (hn : 0 ≤ n) : ∀ (l : List TL) (p : Int), lOk p l = true → (untilV a (l.filter fun y => !pL n y) < 0 ↔ untilV a l ≤ n)
  | [], _, _ => by
    show (-1 : Int) < 0 ↔ (-1 : Int) ≤ n
    omega
  | x :: r, p, h => by
    have h' := h
    unfold lOk at h
    simp only [Bool.and_eq_true, decide_eq_true_eq] at h
    have ih := until_filter a n hn r _ h.2
    by_cases d : x.f1 ≤ n
    · rw [List.filter_cons_of_neg (by simp [pL, d])]
      by_cases c : x.f0 = a
      · rw [untilV, if_pos c, until_no a _ x.f0 (lOk_filter _ r _ h.2)]
        refine ⟨fun _ => d, fun _ y hy e => ?_⟩
        have := (lOk_all r _ h.2 y ((List.mem_filter.1 hy).1)).2
        omega
      · rw [untilV, if_neg c]; exact ih
    · rw [List.filter_cons_of_pos (by simp [pL, d]), untilV, untilV]
      by_cases c : x.f0 = a
      · rw [if_pos c, if_pos c]
        omega
      · rw [if_neg c, if_neg c]; exact ih

/-- What both answer. -/
def sweepAns (h t : List TL) (m : List TM) (n : Int) : List TL × List TL × List TM × Bool := if presV h t m = true ∧ (0 ≤ n ∧ n ≤ 1000000) then (h.filter (fun y => !pL n y), t.filter (fun y => !pT n (h.filter fun y => !pL n y) y), m, true) else ([], [], [], false)
theorem sweepLen (h t : List TL) (m : List TM) (n : Int) : (sweepAns h t m n).1.length ≤ 30 ∧ (sweepAns h t m n).2.1.length ≤ 30 ∧ (sweepAns h t m n).2.2.1.length ≤ 30 := by
  unfold sweepAns
  split
  · rename_i c
    obtain ⟨h1, h2, h3⟩ := presV_len c.1
    exact ⟨Nat.le_trans (List.length_filter_le _ _) h1, Nat.le_trans (List.length_filter_le _ _) h2, h3⟩
  · simp
theorem implSweep (h t : List TL) (m : List TM) (hh : h.length ≤ 1048576) (ht : t.length ≤ 1048576) (hm : m.length ≤ 1048576) (n : Int) : Ev (fun k => impl_SweepPresence.f k h t m n) (sweepAns h t m n) := by
  unfold impl_SweepPresence.f sweepAns
  refine Ev.bind (implPres h t m (by omega) (by omega) (by omega)) ?_
  by_cases c : presV h t m = true
  · have l1 := List.length_filter_le (fun y => !pL n y) h
    have l2 := List.length_filter_le (fun y => !pT n (h.filter fun y => !pL n y) y) t
    have pv := presV_filter (fun y => !pL n y) (fun y => !pT n (h.filter fun y => !pL n y) y) c
    have up := leasesV_up (presV_here pv)
    have ip := implPres (h.filter fun y => !pL n y) (t.filter fun y => !pT n (h.filter fun y => !pL n y) y) m (by omega) (by omega) (by omega)
    rw [pv] at ip
    refine ev_pos c (ev_b (cloneP h t m hh ht hm) (Ev.bind (Ev.bind (delL n h (by omega)) (Ev.now _)) (Ev.bind (Ev.bind (delT n (h.filter fun y => !pL n y) t m (by omega) up t (by omega)) (Ev.now _)) (ev_b (iTick n) ?_))))
    by_cases d : 0 ≤ n ∧ n ≤ 1000000
    · rw [if_pos ⟨c, d⟩]
      exact ev_pos (by simpa using d) (Ev.bind ip (ev_pos rfl (Ev.now _)))
    · rw [if_neg (fun z => d z.2)]
      exact ev_neg (by simpa using d) (Ev.now _)
  · rw [if_neg (fun z => c z.1)]
    exact ev_neg c (Ev.now _)
theorem specSweep (h t : List TL) (m : List TM) (hh : h.length ≤ 1048576) (ht : t.length ≤ 1048576) (hm : m.length ≤ 1048576) (n : Int) : Ev (fun k => spec_SweepPresence.f k h t m n) (sweepAns h t m n) := by
  unfold spec_SweepPresence.f
  have no : ¬ (presV h t m = true ∧ (0 ≤ n ∧ n ≤ 1000000)) → Ev (fun k => spec_SweepPresence.j0 k n true h t m) (sweepAns h t m n) := fun q => by
    unfold sweepAns
    rw [if_neg q]
    exact Ev.step (fun k => by rw [spec_SweepPresence.j0]) (ev_pos rfl (Ev.now _))
  refine Ev.bind (specPres h t m (by omega) (by omega) (by omega)) ?_
  by_cases c : presV h t m = true
  · refine ev_pos c (ev_b (sTick n) ?_)
    by_cases d : 0 ≤ n ∧ n ≤ 1000000
    · rw [decide_eq_true d]
      have cl := presV_here c
      unfold leasesV at cl
      simp only [Bool.and_eq_true] at cl
      have loop1 : ∀ (hq : List TL) (mq : List TM), Ev (fun k => spec_SweepPresence.l1 k n (t.length : Int) 0 h t m hq [] mq) (hq, t.filter (fun y => !pT n (h.filter fun y => !pL n y) y), mq, true) := by
        intro hq mq
        have key := idx_ind t (fun i => ∀ out : List TL, out.length ≤ i → Ev (fun k => spec_SweepPresence.l1 k n (t.length : Int) (i : Int) h t m hq out mq) (hq, out ++ (t.drop i).filter (fun y => !pT n (h.filter fun y => !pL n y) y), mq, true)) ?_ ?_ 0 (Nat.zero_le _) [] (Nat.le_refl _)
        · simpa using key
        · intro out _
          refine Ev.step (fun k => by rw [spec_SweepPresence.l1]) ?_
          exact ev_neg (by omega) (ev_some (by simp))
        · intro i hi ih out ho
          have uf := until_filter t[i].f0 n d.1 h 0 cl.1
          refine Ev.step (fun k => by rw [spec_SweepPresence.l1]) ?_
          rw [rdOLease t i hi, wsucc hi (by omega), drop_at t i hi]
          refine ev_pos (by omega) (ev_pos (by omega) (ev_pos (by omega) ?_))
          by_cases e : t[i].f1 > n
          · refine ev_pos e (Ev.bind (specUntil h (by omega) t[i].f0) ?_)
            by_cases e2 : untilV t[i].f0 h > n
            · rw [List.filter_cons_of_pos (by simp [pT]; omega)]
              exact ev_pos e2 (ev_pos (by omega) (ev_eq (ih _ (by simp; omega)) (by simp)))
            · rw [List.filter_cons_of_neg (by simp [pT]; omega)]
              exact ev_neg e2 (ih out (by omega))
          · rw [List.filter_cons_of_neg (by simp [pT]; omega)]
            exact ev_neg e (ih out (by omega))
      unfold sweepAns
      rw [if_pos ⟨c, d⟩]
      refine Ev.step (fun k => by rw [spec_SweepPresence.j0]) ?_
      refine ev_neg (by simp) ?_
      refine ev_b rfl ?_
      refine ev_pos (by simp only [List.length_nil]; omega) ?_
      have key := idx_ind h (fun i => ∀ out : List TL, out.length ≤ i → Ev (fun k => spec_SweepPresence.l0 k n (h.length : Int) (i : Int) h t m out m) (out ++ (h.drop i).filter (fun y => !pL n y), t.filter (fun y => !pT n (h.filter fun y => !pL n y) y), m, true)) ?_ ?_ 0 (Nat.zero_le _) [] (Nat.le_refl _)
      · simpa using key
      · intro out _
        refine Ev.step (fun k => by rw [spec_SweepPresence.l0]) ?_
        exact ev_neg (by omega) (ev_eq (loop1 out m) (by simp))
      · intro i hi ih out ho
        refine Ev.step (fun k => by rw [spec_SweepPresence.l0]) ?_
        rw [rdOLease h i hi, wsucc hi (by omega), drop_at h i hi]
        refine ev_pos (by omega) (ev_pos (by omega) (ev_pos (by omega) ?_))
        by_cases e : h[i].f1 > n
        · rw [List.filter_cons_of_pos (by simp [pL]; omega)]
          exact ev_pos e (ev_pos (by omega) (ev_eq (ih _ (by simp; omega)) (by simp)))
        · rw [List.filter_cons_of_neg (by simp [pL]; omega)]
          exact ev_neg e (ih out (by omega))
    · rw [decide_eq_false d]
      exact no (fun z => d z.2)
  · exact ev_neg c (no (fun z => c z.1))
theorem FnExactSweepPresence : laws_FnExactSweepPresence.Pure := by
  intro h0 t0 m0 a fh ft fm _
  refine Ev.rounds ?_
  unfold laws_FnExactSweepPresence.f
  obtain ⟨v, hv, hv2⟩ := szPres h0 t0 m0 (by have := fh.1; unfold maxLen at this; omega) (by have := ft.1; unfold maxLen at this; omega) (by have := fm.1; unfold maxLen at this; omega)
  refine ev_b hv ?_
  by_cases c2 : v < 0
  · exact ev_pos c2 (Ev.now _)
  · obtain ⟨b1, b2, b3⟩ := hv2 (by omega)
    have ts := toPres h0 t0 m0 (by omega) (by omega) (by omega)
    have g1 : (h0.map cvLease).length ≤ 1048576 := by simpa using b1
    have g2 : (t0.map cvLease).length ≤ 1048576 := by simpa using b2
    have g3 : (m0.map cvMark).length ≤ 1048576 := by simpa using b3
    generalize h0.map cvLease = h at ts g1
    generalize t0.map cvLease = t at ts g2
    generalize m0.map cvMark = m at ts g3
    have sp := specSweep h t m g1 g2 g3 a
    have im := implSweep h t m g1 g2 g3 a
    have len := sweepLen h t m a
    generalize sweepAns h t m a = r at sp im len
    obtain ⟨rh, rt, rm, rb⟩ := r
    have n1 : rh.length ≤ 30 := len.1
    have n2 : rt.length ≤ 30 := len.2.1
    have n3 : rm.length ≤ 30 := len.2.2
    have er := eqPres rh rt rm (by omega) (by omega) (by omega)
    have ex := eqPres h t m (by omega) (by omega) (by omega)
    obtain ⟨v1, h1, t1, m1, e1, e2, e3⟩ := markPres h t m g1 g2 g3
    obtain ⟨v2, h2, t2, m2, f1, f2, f3⟩ := markPres rh rt rm (by omega) (by omega) (by omega)
    have hne : (rb != rb) = false := by simp
    refine ev_neg c2 (Ev.bind ts (Ev.bind sp (Ev.bind ts (Ev.bind im (Ev.bind er (ev_pos rfl ?_))))))
    simp only [hne]
    refine Ev.step (fun k => by rw [laws_FnExactSweepPresence.j0]) ?_
    refine ev_neg (by simp) (Ev.bind ts (Ev.bind ex (ev_pos rfl (Ev.bind e1 (ev_neg (by simp only []; omega) (Ev.bind er (ev_pos rfl ?_)))))))
    simp only [hne]
    refine Ev.step (fun k => by rw [laws_FnExactSweepPresence.j1]) ?_
    refine ev_neg (by simp) (Ev.bind f1 (Ev.bind f3 (ev_neg (by omega) (ev_pos rfl (Ev.bind ts (Ev.bind im (Ev.bind er (ev_pos rfl ?_))))))))
    simp only [hne]
    refine Ev.step (fun k => by rw [laws_FnExactSweepPresence.j2]) ?_
    exact ev_neg (by simp) (Ev.bind f3 (ev_neg (by omega) (ev_pos rfl (Ev.now _))))

end Go.Proofs.Ytgfilednbllkmaa.Pure
