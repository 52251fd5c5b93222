/- JoinPresence: the program and the reference answer alike and leave memory alone, for every two presences. -/
import Derived.Test.YtgfilednbllkmaaQFnExactJoinPresencex13
namespace Go.Proofs.Ytgfilednbllkmaa.Pure
open Go.RowKit Go.Proofs.Ytgfilednbllkmaa.QFnExactJoinPresence Go.Proofs.YtgfilednbllkmaaW.PrintWords Go.Proofs.YtgfilednbllkmaaW.PrintLast Go.Proofs.YtgfilednbllkmaaW.PrintMore
set_option linter.unusedVariables false

theorem w64 {n : Int} (h1 : -9223372036854775808 ≤ n) (h2 : n ≤ 9223372036854775807) : wrap64 n = n := by
  unfold wrap64
  omega
theorem wf64 {n : Int} (h : (Lit.int .i64 n).wf = true) : -9223372036854775808 ≤ n ∧ n ≤ 9223372036854775807 := by
  simp [Lit.wf, IntKind.min, IntKind.max, IntKind.signed, IntKind.bits] at h
  omega

theorem ev_pos {α : Type} {c : Prop} [Decidable c] {g f : Nat → Option α} {r : α} (h : c) (e : Ev g r) : Ev (fun k => if c then g k else f k) r := Ev.congr (fun _ => if_pos h) e
theorem ev_neg {α : Type} {c : Prop} [Decidable c] {g f : Nat → Option α} {r : α} (h : ¬ c) (e : Ev f r) : Ev (fun k => if c then g k else f k) r := Ev.congr (fun _ => if_neg h) e
theorem ev_b {α β : Type} {o : Option α} {a : α} {f : Nat → α → Option β} {r : β} (h : o = some a) (e : Ev (fun k => f k a) r) : Ev (fun k => o.bind (f k)) r := by subst h; exact e
theorem ev_eq {α : Type} {g : Nat → Option α} {r q : α} (e : Ev g r) (h : r = q) : Ev g q := h ▸ e
theorem ev_some {α : Type} {r q : α} (h : r = q) : Ev (fun _ => some r) q := h ▸ Ev.now r
/-- Down from a list's end. -/
theorem idx_ind {α : Type} (l : List α) (P : Nat → Prop) (hend : P l.length) (hstep : ∀ i, i < l.length → P (i + 1) → P i) : ∀ i, i ≤ l.length → P i := by
  have key : ∀ d i, i + d = l.length → P i := by
    intro d
    induction d with
    | zero => intro i h; have : i = l.length := by omega
              rw [this]; exact hend
    | succ d ih => intro i h; exact hstep i (by omega) (ih (i + 1) (by omega))
  intro i h
  exact key (l.length - i) i (by omega)
theorem rdOf_at {α : Type} (d : α) (l : List α) (i : Nat) (h : i < l.length) : rdOf d l (i : Int) = l[i] := by
  simp [rdOf, List.getD, h]
theorem drop_at {α : Type} (l : List α) (i : Nat) (h : i < l.length) : l.drop i = l[i] :: l.drop (i + 1) := List.drop_eq_getElem_cons h
theorem wsucc {i n : Nat} (h : i < n) (hn : n ≤ 9223372036854775807) : wrap64 ((i : Int) + 1) = ((i + 1 : Nat) : Int) := by
  rw [w64 (by omega) (by omega)]; rfl

theorem implIn (a b c : Int) : impl_in.f a b c = some (decide (b ≤ a ∧ a ≤ c)) := by
  unfold impl_in.f
  by_cases h : a ≥ b
  · rw [if_pos h]; simp [h]
  · rw [if_neg h]; simp; intro h2; omega

theorem specIn (a b c : Int) : spec_l00In.f a b c = some (decide (b ≤ a ∧ a ≤ c)) := by
  unfold spec_l00In.f
  by_cases h : a ≥ b
  · rw [if_pos h]; simp [h]
  · rw [if_neg h]; simp; intro h2; omega

theorem szLeaseS (l : List S108) (hl : l.length ≤ 9223372036854775807) : laws_szLeaseS.f l 1048576 = some (if l.length ≤ 1048576 then 1048576 - (l.length : Int) else -1) := by
  unfold laws_szLeaseS.f
  rw [w64 (by omega) (by omega)]
  by_cases h : l.length ≤ 1048576
  · rw [if_pos h, if_neg (by omega)]
  · rw [if_neg h, if_pos (by omega)]
theorem szAtLeaseS (l : List S108) (a : Int) (h0 : 0 ≤ a) (ha : a ≤ 1048576) (hl : l.length ≤ 9223372036854775807) : laws_szLeaseS.f l a = some (if (l.length : Int) ≤ a then a - (l.length : Int) else -1) := by
  unfold laws_szLeaseS.f
  rw [w64 (by omega) (by omega)]
  by_cases h : (l.length : Int) ≤ a
  · rw [if_pos h, if_neg (by omega)]
  · rw [if_neg h, if_pos (by omega)]
/-- An element, taken over. -/
def cvLease (x : S108) : S63 := ⟨x.f0, x.f1⟩
theorem rdILease (l : List S108) (i : Nat) (h : i < l.length) : rd_T108 l (i : Int) = l[i] := by
  simp [rd_T108, List.getD, h]
theorem rdOLease (l : List S63) (i : Nat) (h : i < l.length) : rd_T63 l (i : Int) = l[i] := by
  simp [rd_T63, List.getD, h]
theorem rdSLease (l : List S63) (i : Nat) (v : S63) (h : i < l.length) : rd_T63 (l.set i v) (i : Int) = v := by
  simp [rd_T63, List.getD, h]
theorem toLeaseS (l : List S108) (hl : l.length ≤ 100000000) : Ev (fun k => laws_toLeaseS.f k l) (l.map cvLease) := by
  have key := idx_ind l (fun i => ∀ x : List S63, x.length = l.length → (∀ j, j < i → x[j]? = (l.map cvLease)[j]?) → Ev (fun k => laws_toLeaseS.l0 k l x (i : Int)) (l.map cvLease)) ?_ ?_
  · unfold laws_toLeaseS.f
    refine ev_pos (by omega) (ev_pos (by omega) ?_)
    exact key 0 (Nat.zero_le _) _ (by simp) (fun j h => by omega)
  · intro x hx hj
    refine Ev.step (fun k => by rw [laws_toLeaseS.l0]) ?_
    refine ev_neg (by omega) (ev_some ?_)
    apply List.ext_getElem?
    intro j
    rcases Nat.lt_or_ge j l.length with h | h
    · exact hj j h
    · rw [List.getElem?_eq_none (by omega), List.getElem?_eq_none (by simpa using h)]
  · intro i hi ih x hx hj
    refine Ev.step (fun k => by rw [laws_toLeaseS.l0]) ?_
    refine ev_pos (by omega) (ev_pos (by omega) (ev_b rfl (ev_pos (by omega) ?_)))
    rw [wsucc hi (by omega), rdILease l i hi]
    refine ih _ (by simp [hx]) ?_
    intro j hj2
    by_cases e : j = i
    · subst e
      simp [hx, hi, cvLease]
    · simp only [Int.toNat_natCast]
      rw [List.getElem?_set_ne (by omega)]
      exact hj j (by omega)
theorem eqLeaseS (l : List S63) (hl : l.length ≤ 100000000) : Ev (fun k => laws_eqLeaseS.f k l l) true := by
  unfold laws_eqLeaseS.f
  refine ev_pos rfl ?_
  refine idx_ind l (fun i => Ev (fun k => laws_eqLeaseS.l0 k l l (i : Int)) true) ?_ ?_ 0 (Nat.zero_le _)
  · refine Ev.step (fun k => by rw [laws_eqLeaseS.l0]) ?_
    exact ev_neg (by omega) (Ev.now _)
  · intro i hi ih
    refine Ev.step (fun k => by rw [laws_eqLeaseS.l0]) ?_
    refine ev_pos (by omega) (ev_pos (by omega) (ev_pos (by omega) (ev_b (a := true) (by simp [laws_eqLease.f]) (ev_pos rfl ?_))))
    rw [wsucc hi (by omega)]
    exact ih

theorem markLeaseS (l : List S63) (m : Nat) (hl : l.length ≤ 10000000) (hm : m ≤ 100000000) : ∃ l2 : List S63, Ev (fun k => laws_markLeaseS.f k l (m : Int)) (((m + 2 * l.length : Nat) : Int), l2) ∧ l2.length = l.length ∧ ∀ j, j < l.length → l2[j]? = some (⟨((m + 2 * j : Nat) : Int), ((m + 2 * j + 1 : Nat) : Int)⟩ : S63) := by
  have key := idx_ind l (fun i => ∀ x : List S63, x.length = l.length → (∀ j, j < i → x[j]? = some (⟨((m + 2 * j : Nat) : Int), ((m + 2 * j + 1 : Nat) : Int)⟩ : S63)) → ∃ l2 : List S63, Ev (fun k => laws_markLeaseS.l0 k x ((m + 2 * i : Nat) : Int) (i : Int)) (((m + 2 * l.length : Nat) : Int), l2) ∧ l2.length = l.length ∧ ∀ j, j < l.length → l2[j]? = some (⟨((m + 2 * j : Nat) : Int), ((m + 2 * j + 1 : Nat) : Int)⟩ : S63)) ?_ ?_
  · obtain ⟨l2, h1, h2⟩ := key 0 (Nat.zero_le _) l rfl (fun j h => by omega)
    exact ⟨l2, h1, h2⟩
  · intro x hx hj
    refine ⟨x, ?_, hx, hj⟩
    refine Ev.step (fun k => by rw [laws_markLeaseS.l0]) ?_
    exact ev_neg (by omega) (Ev.now _)
  · intro i hi ih x hx hj
    obtain ⟨l2, h1, h2⟩ := ih (x.set i (⟨((m + 2 * i : Nat) : Int), ((m + 2 * i + 1 : Nat) : Int)⟩ : S63)) (by simp [hx]) (by
      intro j hj2
      by_cases e : j = i
      · subst e
        simp [hx, hi]
      · rw [List.getElem?_set_ne (by omega)]
        exact hj j (by omega))
    refine ⟨l2, ?_, h2⟩
    refine Ev.step (fun k => by rw [laws_markLeaseS.l0]) ?_
    refine ev_pos (by omega) (ev_pos (by omega) ?_)
    have hix : i < x.length := by omega
    have a0 : wrap64 (((m + 2 * i : Nat) : Int) + 1) = ((m + 2 * i + 1 : Nat) : Int) := by rw [w64 (by omega) (by omega)]; omega
    have a1 : wrap64 (((m + 2 * i + 1 : Nat) : Int) + 1) = ((m + 2 * (i + 1) : Nat) : Int) := by rw [w64 (by omega) (by omega)]; omega
    have e2 : wrap64 ((i : Int) + 1) = ((i + 1 : Nat) : Int) := wsucc hi (by omega)
    simp only [Option.bind_some, Int.toNat_natCast, e2, a0, a1, List.set_set, rdSLease x i _ hix]
    exact h1
theorem heldLeaseS (l : List S63) (m : Nat) (hl : l.length ≤ 10000000) (hm : m ≤ 100000000) (hj : ∀ j, j < l.length → l[j]? = some (⟨((m + 2 * j : Nat) : Int), ((m + 2 * j + 1 : Nat) : Int)⟩ : S63)) : Ev (fun k => laws_heldLeaseS.f k l (m : Int)) ((m + 2 * l.length : Nat) : Int) := by
  refine idx_ind l (fun i => Ev (fun k => laws_heldLeaseS.l0 k l ((m + 2 * i : Nat) : Int) (i : Int)) ((m + 2 * l.length : Nat) : Int)) ?_ ?_ 0 (Nat.zero_le _)
  · refine Ev.step (fun k => by rw [laws_heldLeaseS.l0]) ?_
    exact ev_neg (by omega) (Ev.now _)
  · intro i hi ih
    have hv : l[i] = (⟨((m + 2 * i : Nat) : Int), ((m + 2 * i + 1 : Nat) : Int)⟩ : S63) := by
      have := hj i hi
      rw [List.getElem?_eq_getElem hi] at this
      exact Option.some.inj this
    refine Ev.step (fun k => by rw [laws_heldLeaseS.l0]) ?_
    refine ev_pos (by omega) (ev_pos (by omega) ?_)
    have a0 : wrap64 (((m + 2 * i : Nat) : Int) + 1) = ((m + 2 * i + 1 : Nat) : Int) := by rw [w64 (by omega) (by omega)]; omega
    have a1 : wrap64 (((m + 2 * i + 1 : Nat) : Int) + 1) = ((m + 2 * (i + 1) : Nat) : Int) := by rw [w64 (by omega) (by omega)]; omega
    have e2 : wrap64 ((i : Int) + 1) = ((i + 1 : Nat) : Int) := wsucc hi (by omega)
    simp only [rdOLease l i hi, hv, e2, a0, a1]
    exact ev_pos (by first | rfl | trivial) (ev_pos (by first | rfl | trivial) (ih))

theorem szMarkS (l : List S110) (hl : l.length ≤ 9223372036854775807) : laws_szMarkS.f l 1048576 = some (if l.length ≤ 1048576 then 1048576 - (l.length : Int) else -1) := by
  unfold laws_szMarkS.f
  rw [w64 (by omega) (by omega)]
  by_cases h : l.length ≤ 1048576
  · rw [if_pos h, if_neg (by omega)]
  · rw [if_neg h, if_pos (by omega)]
theorem szAtMarkS (l : List S110) (a : Int) (h0 : 0 ≤ a) (ha : a ≤ 1048576) (hl : l.length ≤ 9223372036854775807) : laws_szMarkS.f l a = some (if (l.length : Int) ≤ a then a - (l.length : Int) else -1) := by
  unfold laws_szMarkS.f
  rw [w64 (by omega) (by omega)]
  by_cases h : (l.length : Int) ≤ a
  · rw [if_pos h, if_neg (by omega)]
  · rw [if_neg h, if_pos (by omega)]
/-- An element, taken over. -/
def cvMark (x : S110) : S73 := ⟨x.f0, x.f1⟩
theorem rdIMark (l : List S110) (i : Nat) (h : i < l.length) : rd_T110 l (i : Int) = l[i] := by
  simp [rd_T110, List.getD, h]
theorem rdOMark (l : List S73) (i : Nat) (h : i < l.length) : rd_T73 l (i : Int) = l[i] := by
  simp [rd_T73, List.getD, h]
theorem rdSMark (l : List S73) (i : Nat) (v : S73) (h : i < l.length) : rd_T73 (l.set i v) (i : Int) = v := by
  simp [rd_T73, List.getD, h]
theorem toMarkS (l : List S110) (hl : l.length ≤ 100000000) : Ev (fun k => laws_toMarkS.f k l) (l.map cvMark) := by
  have key := idx_ind l (fun i => ∀ x : List S73, x.length = l.length → (∀ j, j < i → x[j]? = (l.map cvMark)[j]?) → Ev (fun k => laws_toMarkS.l0 k l x (i : Int)) (l.map cvMark)) ?_ ?_
  · unfold laws_toMarkS.f
    refine ev_pos (by omega) (ev_pos (by omega) ?_)
    exact key 0 (Nat.zero_le _) _ (by simp) (fun j h => by omega)
  · intro x hx hj
    refine Ev.step (fun k => by rw [laws_toMarkS.l0]) ?_
    refine ev_neg (by omega) (ev_some ?_)
    apply List.ext_getElem?
    intro j
    rcases Nat.lt_or_ge j l.length with h | h
    · exact hj j h
    · rw [List.getElem?_eq_none (by omega), List.getElem?_eq_none (by simpa using h)]
  · intro i hi ih x hx hj
    refine Ev.step (fun k => by rw [laws_toMarkS.l0]) ?_
    refine ev_pos (by omega) (ev_pos (by omega) (ev_b rfl (ev_pos (by omega) ?_)))
    rw [wsucc hi (by omega), rdIMark l i hi]
    refine ih _ (by simp [hx]) ?_
    intro j hj2
    by_cases e : j = i
    · subst e
      simp [hx, hi, cvMark]
    · simp only [Int.toNat_natCast]
      rw [List.getElem?_set_ne (by omega)]
      exact hj j (by omega)
theorem eqMarkS (l : List S73) (hl : l.length ≤ 100000000) : Ev (fun k => laws_eqMarkS.f k l l) true := by
  unfold laws_eqMarkS.f
  refine ev_pos rfl ?_
  refine idx_ind l (fun i => Ev (fun k => laws_eqMarkS.l0 k l l (i : Int)) true) ?_ ?_ 0 (Nat.zero_le _)
  · refine Ev.step (fun k => by rw [laws_eqMarkS.l0]) ?_
    exact ev_neg (by omega) (Ev.now _)
  · intro i hi ih
    refine Ev.step (fun k => by rw [laws_eqMarkS.l0]) ?_
    refine ev_pos (by omega) (ev_pos (by omega) (ev_pos (by omega) (ev_b (a := true) (by simp [laws_eqMark.f]) (ev_pos rfl ?_))))
    rw [wsucc hi (by omega)]
    exact ih

theorem markMarkS (l : List S73) (m : Nat) (hl : l.length ≤ 10000000) (hm : m ≤ 100000000) : ∃ l2 : List S73, Ev (fun k => laws_markMarkS.f k l (m : Int)) (((m + 2 * l.length : Nat) : Int), l2) ∧ l2.length = l.length ∧ ∀ j, j < l.length → l2[j]? = some (⟨((m + 2 * j : Nat) : Int), ((m + 2 * j + 1 : Nat) : Int)⟩ : S73) := by
  have key := idx_ind l (fun i => ∀ x : List S73, x.length = l.length → (∀ j, j < i → x[j]? = some (⟨((m + 2 * j : Nat) : Int), ((m + 2 * j + 1 : Nat) : Int)⟩ : S73)) → ∃ l2 : List S73, Ev (fun k => laws_markMarkS.l0 k x ((m + 2 * i : Nat) : Int) (i : Int)) (((m + 2 * l.length : Nat) : Int), l2) ∧ l2.length = l.length ∧ ∀ j, j < l.length → l2[j]? = some (⟨((m + 2 * j : Nat) : Int), ((m + 2 * j + 1 : Nat) : Int)⟩ : S73)) ?_ ?_
  · obtain ⟨l2, h1, h2⟩ := key 0 (Nat.zero_le _) l rfl (fun j h => by omega)
    exact ⟨l2, h1, h2⟩
  · intro x hx hj
    refine ⟨x, ?_, hx, hj⟩
    refine Ev.step (fun k => by rw [laws_markMarkS.l0]) ?_
    exact ev_neg (by omega) (Ev.now _)
  · intro i hi ih x hx hj
    obtain ⟨l2, h1, h2⟩ := ih (x.set i (⟨((m + 2 * i : Nat) : Int), ((m + 2 * i + 1 : Nat) : Int)⟩ : S73)) (by simp [hx]) (by
      intro j hj2
      by_cases e : j = i
      · subst e
        simp [hx, hi]
      · rw [List.getElem?_set_ne (by omega)]
        exact hj j (by omega))
    refine ⟨l2, ?_, h2⟩
    refine Ev.step (fun k => by rw [laws_markMarkS.l0]) ?_
    refine ev_pos (by omega) (ev_pos (by omega) ?_)
    have hix : i < x.length := by omega
    have a0 : wrap64 (((m + 2 * i : Nat) : Int) + 1) = ((m + 2 * i + 1 : Nat) : Int) := by rw [w64 (by omega) (by omega)]; omega
    have a1 : wrap64 (((m + 2 * i + 1 : Nat) : Int) + 1) = ((m + 2 * (i + 1) : Nat) : Int) := by rw [w64 (by omega) (by omega)]; omega
    have e2 : wrap64 ((i : Int) + 1) = ((i + 1 : Nat) : Int) := wsucc hi (by omega)
    simp only [Option.bind_some, Int.toNat_natCast, e2, a0, a1, List.set_set, rdSMark x i _ hix]
    exact h1
theorem heldMarkS (l : List S73) (m : Nat) (hl : l.length ≤ 10000000) (hm : m ≤ 100000000) (hj : ∀ j, j < l.length → l[j]? = some (⟨((m + 2 * j : Nat) : Int), ((m + 2 * j + 1 : Nat) : Int)⟩ : S73)) : Ev (fun k => laws_heldMarkS.f k l (m : Int)) ((m + 2 * l.length : Nat) : Int) := by
  refine idx_ind l (fun i => Ev (fun k => laws_heldMarkS.l0 k l ((m + 2 * i : Nat) : Int) (i : Int)) ((m + 2 * l.length : Nat) : Int)) ?_ ?_ 0 (Nat.zero_le _)
  · refine Ev.step (fun k => by rw [laws_heldMarkS.l0]) ?_
    exact ev_neg (by omega) (Ev.now _)
  · intro i hi ih
    have hv : l[i] = (⟨((m + 2 * i : Nat) : Int), ((m + 2 * i + 1 : Nat) : Int)⟩ : S73) := by
      have := hj i hi
      rw [List.getElem?_eq_getElem hi] at this
      exact Option.some.inj this
    refine Ev.step (fun k => by rw [laws_heldMarkS.l0]) ?_
    refine ev_pos (by omega) (ev_pos (by omega) ?_)
    have a0 : wrap64 (((m + 2 * i : Nat) : Int) + 1) = ((m + 2 * i + 1 : Nat) : Int) := by rw [w64 (by omega) (by omega)]; omega
    have a1 : wrap64 (((m + 2 * i + 1 : Nat) : Int) + 1) = ((m + 2 * (i + 1) : Nat) : Int) := by rw [w64 (by omega) (by omega)]; omega
    have e2 : wrap64 ((i : Int) + 1) = ((i + 1 : Nat) : Int) := wsucc hi (by omega)
    simp only [rdOMark l i hi, hv, e2, a0, a1]
    exact ev_pos (by first | rfl | trivial) (ev_pos (by first | rfl | trivial) (ih))

abbrev TL := S63
abbrev TM := S73
/-- A lease in order. -/
def LOk (x : TL) : Prop := (1 ≤ x.f0 ∧ x.f0 ≤ 1000) ∧ (0 ≤ x.f1 ∧ x.f1 ≤ 1000000)
instance (x : TL) : Decidable (LOk x) := by unfold LOk; infer_instance
def MOk (x : TM) : Prop := (1 ≤ x.f0 ∧ x.f0 ≤ 1000) ∧ (0 ≤ x.f1 ∧ x.f1 ≤ 1000000000)
instance (x : TM) : Decidable (MOk x) := by unfold MOk; infer_instance
/-- Leases in order, behind a member. -/
def lOk (p : Int) : List TL → Bool
  | [] => true
  | x :: r => decide (LOk x ∧ p < x.f0) && lOk x.f0 r
def mOk (p : Int) : List TM → Bool
  | [] => true
  | x :: r => decide (MOk x ∧ p < x.f0) && mOk x.f0 r
theorem iMember (a : Int) : impl_isMember.f a = some (decide (1 ≤ a ∧ a ≤ 1000)) := by
  unfold impl_isMember.f
  rw [implIn]; rfl
theorem iTick (a : Int) : impl_isTick.f a = some (decide (0 ≤ a ∧ a ≤ 1000000)) := by
  unfold impl_isTick.f
  rw [implIn]; rfl
theorem sMember (a : Int) : spec_l01Member.f a = some (decide (1 ≤ a ∧ a ≤ 1000)) := by
  unfold spec_l01Member.f
  rw [specIn]; rfl
theorem sTick (a : Int) : spec_l01Tick.f a = some (decide (0 ≤ a ∧ a ≤ 1000000)) := by
  unfold spec_l01Tick.f
  rw [specIn]; rfl
theorem wpred {i : Nat} (h : 0 < i) (hi : i ≤ 100000000) : wrap64 ((i : Int) - 1) = ((i - 1 : Nat) : Int) := by
  rw [w64 (by omega) (by omega)]; omega
/-- Are leases in order, and not too many? -/
def leasesV (l : List TL) : Bool := lOk 0 l && decide (l.length ≤ 30)
theorem implLeases (l : List TL) (hl : l.length ≤ 100000000) : Ev (fun k => impl_leasesOk.f k l) (leasesV l) := by
  have key := idx_ind l (fun i => ∀ p : Int, (i = 0 → p = 0) → (∀ h : 0 < i, ∀ h2 : i ≤ l.length, (l[i - 1]'(by omega)).f0 = p) → Ev (fun k => impl_leasesOk.l0 k l l (l.length : Int) (i : Int)) (lOk p (l.drop i) && decide (l.length ≤ 30))) ?_ ?_
  · exact key 0 (Nat.zero_le _) 0 (fun _ => rfl) (fun h => by omega)
  · intro p _ _
    refine Ev.step (fun k => by rw [impl_leasesOk.l0]) ?_
    refine ev_neg (by omega) (ev_some ?_)
    simp [lOk]
    omega
  · intro i hi ih p h0 hprev
    refine Ev.step (fun k => by rw [impl_leasesOk.l0]) ?_
    rw [rdOLease l i hi, drop_at l i hi]
    refine ev_pos (by omega) (ev_pos (by omega) (ev_pos (by omega) (ev_b (iMember _) ?_)))
    by_cases a1 : 1 ≤ l[i].f0 ∧ l[i].f0 ≤ 1000
    · refine ev_pos (by simpa using a1) (ev_b (iTick _) ?_)
      by_cases a2 : 0 ≤ l[i].f1 ∧ l[i].f1 ≤ 1000000
      · refine ev_pos (by simpa using a2) ?_
        have next := ih l[i].f0 (fun h => by omega) (fun _ _ => rfl)
        have ok : LOk l[i] := ⟨a1, a2⟩
        by_cases h1 : 0 < i
        · rw [wpred h1 (by omega), rdOLease l (i - 1) (by omega), hprev h1 (by omega)]
          refine ev_pos (by omega) (ev_pos (by omega) (ev_pos (by omega) ?_))
          by_cases hp2 : p < l[i].f0
          · refine ev_neg (by omega) ?_
            rw [wsucc hi (by omega)]
            refine ev_eq next ?_
            simp [lOk, ok, hp2]
          · refine ev_pos (by omega) (ev_some ?_)
            simp [lOk, hp2]
        · have hp0 := h0 (by omega)
          have hp2 : p < l[i].f0 := by omega
          refine ev_neg (by omega) ?_
          rw [wsucc hi (by omega)]
          refine ev_eq next ?_
          simp [lOk, ok, hp2]
      · refine ev_neg (by simpa using a2) (ev_some ?_)
        have : ¬ LOk l[i] := fun h => a2 h.2
        simp [lOk, this]
    · refine ev_neg (by simpa using a1) (ev_some ?_)
      have : ¬ LOk l[i] := fun h => a1 h.1
      simp [lOk, this]
theorem specLeases (l : List TL) (hl : l.length ≤ 100000000) : Ev (fun k => spec_l05Leases.f k l) (leasesV l) := by
  have key := idx_ind l (fun i => ∀ p : Int, (i = 0 → p = 0) → (∀ h : 0 < i, ∀ h2 : i ≤ l.length, (l[i - 1]'(by omega)).f0 = p) → Ev (fun k => spec_l05Leases.l0 k l (l.length : Int) (i : Int)) (lOk p (l.drop i) && decide (l.length ≤ 30))) ?_ ?_
  · exact key 0 (Nat.zero_le _) 0 (fun _ => rfl) (fun h => by omega)
  · intro p _ _
    refine Ev.step (fun k => by rw [spec_l05Leases.l0]) ?_
    refine ev_neg (by omega) (ev_some ?_)
    simp [lOk]
    omega
  · intro i hi ih p h0 hprev
    refine Ev.step (fun k => by rw [spec_l05Leases.l0]) ?_
    rw [rdOLease l i hi, drop_at l i hi]
    refine ev_pos (by omega) (ev_pos (by omega) (ev_pos (by omega) (ev_b (sMember _) ?_)))
    by_cases a1 : 1 ≤ l[i].f0 ∧ l[i].f0 ≤ 1000
    · refine ev_pos (by simpa using a1) (ev_b (sTick _) ?_)
      by_cases a2 : 0 ≤ l[i].f1 ∧ l[i].f1 ≤ 1000000
      · refine ev_pos (by simpa using a2) ?_
        have next := ih l[i].f0 (fun h => by omega) (fun _ _ => rfl)
        have ok : LOk l[i] := ⟨a1, a2⟩
        by_cases h1 : 0 < i
        · rw [wpred h1 (by omega), rdOLease l (i - 1) (by omega), hprev h1 (by omega)]
          refine ev_pos (by omega) (ev_pos (by omega) (ev_pos (by omega) ?_))
          by_cases hp2 : p < l[i].f0
          · refine ev_neg (by omega) ?_
            rw [wsucc hi (by omega)]
            refine ev_eq next ?_
            simp [lOk, ok, hp2]
          · refine ev_pos (by omega) (ev_some ?_)
            simp [lOk, hp2]
        · have hp0 := h0 (by omega)
          have hp2 : p < l[i].f0 := by omega
          refine ev_neg (by omega) ?_
          rw [wsucc hi (by omega)]
          refine ev_eq next ?_
          simp [lOk, ok, hp2]
      · refine ev_neg (by simpa using a2) (ev_some ?_)
        have : ¬ LOk l[i] := fun h => a2 h.2
        simp [lOk, this]
    · refine ev_neg (by simpa using a1) (ev_some ?_)
      have : ¬ LOk l[i] := fun h => a1 h.1
      simp [lOk, this]
/-- Is a presence in order? -/
def presV (h t : List TL) (m : List TM) : Bool := mOk 0 m && (leasesV h && (leasesV t && decide (m.length ≤ 30)))
theorem implPres (h t : List TL) (m : List TM) (hh : h.length ≤ 100000000) (ht : t.length ≤ 100000000) (hm : m.length ≤ 100000000) : Ev (fun k => impl_ValidPresence.f k h t m) (presV h t m) := by
  unfold presV
  have key := idx_ind m (fun i => ∀ p : Int, (i = 0 → p = 0) → (∀ h : 0 < i, ∀ h2 : i ≤ m.length, (m[i - 1]'(by omega)).f0 = p) → Ev (fun k => impl_ValidPresence.l0 k m (m.length : Int) (i : Int) h t m) (mOk p (m.drop i) && (leasesV h && (leasesV t && decide (m.length ≤ 30))))) ?_ ?_
  · exact key 0 (Nat.zero_le _) 0 (fun _ => rfl) (fun h => by omega)
  · intro p _ _
    refine Ev.step (fun k => by rw [impl_ValidPresence.l0]) ?_
    refine ev_neg (by omega) (Ev.bind (implLeases h hh) ?_)
    rw [List.drop_length, mOk, Bool.true_and]
    by_cases c1 : leasesV h = true
    · refine ev_pos c1 (Ev.bind (implLeases t ht) ?_)
      rw [c1, Bool.true_and]
      by_cases c2 : leasesV t = true
      · refine ev_pos c2 (ev_some ?_)
        rw [c2, Bool.true_and, decide_eq_decide]
        omega
      · refine ev_neg c2 (ev_some ?_)
        rw [(Bool.not_eq_true _).mp c2, Bool.false_and]
    · refine ev_neg c1 (ev_some ?_)
      rw [(Bool.not_eq_true _).mp c1, Bool.false_and]
  · intro i hi ih p h0 hprev
    refine Ev.step (fun k => by rw [impl_ValidPresence.l0]) ?_
    rw [rdOMark m i hi, drop_at m i hi]
    refine ev_pos (by omega) (ev_pos (by omega) (ev_pos (by omega) (ev_b (iMember _) ?_)))
    by_cases a1 : 1 ≤ m[i].f0 ∧ m[i].f0 ≤ 1000
    · refine ev_pos (by simpa using a1) (ev_b (implIn _ _ _) ?_)
      by_cases a2 : 0 ≤ m[i].f1 ∧ m[i].f1 ≤ 1000000000
      · refine ev_pos (by simpa using a2) ?_
        have next := ih m[i].f0 (fun h => by omega) (fun _ _ => rfl)
        have ok : MOk m[i] := ⟨a1, a2⟩
        by_cases h1 : 0 < i
        · rw [wpred h1 (by omega), rdOMark m (i - 1) (by omega), hprev h1 (by omega)]
          refine ev_pos (by omega) (ev_pos (by omega) (ev_pos (by omega) ?_))
          by_cases hp2 : p < m[i].f0
          · refine ev_neg (by omega) ?_
            rw [wsucc hi (by omega)]
            refine ev_eq next ?_
            simp [mOk, ok, hp2]
          · refine ev_pos (by omega) (ev_some ?_)
            simp [mOk, hp2]
        · have hp0 := h0 (by omega)
          have hp2 : p < m[i].f0 := by omega
          refine ev_neg (by omega) ?_
          rw [wsucc hi (by omega)]
          refine ev_eq next ?_
          simp [mOk, ok, hp2]
      · refine ev_neg (by simpa using a2) (ev_some ?_)
        have : ¬ MOk m[i] := fun h => a2 h.2
        simp [mOk, this]
    · refine ev_neg (by simpa using a1) (ev_some ?_)
      have : ¬ MOk m[i] := fun h => a1 h.1
      simp [mOk, this]
theorem specPres (h t : List TL) (m : List TM) (hh : h.length ≤ 100000000) (ht : t.length ≤ 100000000) (hm : m.length ≤ 100000000) : Ev (fun k => spec_l05Is.f k h t m) (presV h t m) := by
  unfold presV
  have key := idx_ind m (fun i => ∀ p : Int, (i = 0 → p = 0) → (∀ h : 0 < i, ∀ h2 : i ≤ m.length, (m[i - 1]'(by omega)).f0 = p) → Ev (fun k => spec_l05Is.l0 k (m.length : Int) (i : Int) h t m) (mOk p (m.drop i) && (leasesV h && (leasesV t && decide (m.length ≤ 30))))) ?_ ?_
  · exact key 0 (Nat.zero_le _) 0 (fun _ => rfl) (fun h => by omega)
  · intro p _ _
    refine Ev.step (fun k => by rw [spec_l05Is.l0]) ?_
    rw [List.drop_length, mOk, Bool.true_and]
    refine ev_neg (by omega) ?_
    by_cases c3 : m.length ≤ 30
    · refine ev_pos (by omega) (Ev.bind (specLeases h hh) ?_)
      by_cases c1 : leasesV h = true
      · refine ev_pos c1 (Ev.bind (specLeases t ht) (ev_some ?_))
        rw [c1, Bool.true_and, decide_eq_true c3, Bool.and_true]
      · refine ev_neg c1 (ev_some ?_)
        rw [(Bool.not_eq_true _).mp c1, Bool.false_and]
    · refine ev_neg (by omega) (ev_some ?_)
      rw [decide_eq_false c3, Bool.and_false, Bool.and_false]
  · intro i hi ih p h0 hprev
    refine Ev.step (fun k => by rw [spec_l05Is.l0]) ?_
    rw [rdOMark m i hi, drop_at m i hi]
    refine ev_pos (by omega) (ev_pos (by omega) (ev_pos (by omega) (ev_b (sMember _) ?_)))
    by_cases a1 : 1 ≤ m[i].f0 ∧ m[i].f0 ≤ 1000
    · refine ev_pos (by simpa using a1) (ev_b (specIn _ _ _) ?_)
      by_cases a2 : 0 ≤ m[i].f1 ∧ m[i].f1 ≤ 1000000000
      · refine ev_pos (by simpa using a2) ?_
        have next := ih m[i].f0 (fun h => by omega) (fun _ _ => rfl)
        have ok : MOk m[i] := ⟨a1, a2⟩
        by_cases h1 : 0 < i
        · rw [wpred h1 (by omega), rdOMark m (i - 1) (by omega), hprev h1 (by omega)]
          refine ev_pos (by omega) (ev_pos (by omega) (ev_pos (by omega) ?_))
          by_cases hp2 : p < m[i].f0
          · refine ev_neg (by omega) ?_
            rw [wsucc hi (by omega)]
            refine ev_eq next ?_
            simp [mOk, ok, hp2]
          · refine ev_pos (by omega) (ev_some ?_)
            simp [mOk, hp2]
        · have hp0 := h0 (by omega)
          have hp2 : p < m[i].f0 := by omega
          refine ev_neg (by omega) ?_
          rw [wsucc hi (by omega)]
          refine ev_eq next ?_
          simp [mOk, ok, hp2]
      · refine ev_neg (by simpa using a2) (ev_some ?_)
        have : ¬ MOk m[i] := fun h => a2 h.2
        simp [mOk, this]
    · refine ev_neg (by simpa using a1) (ev_some ?_)
      have : ¬ MOk m[i] := fun h => a1 h.1
      simp [mOk, this]
theorem presV_len {h t : List TL} {m : List TM} (c : presV h t m = true) : h.length ≤ 30 ∧ t.length ≤ 30 ∧ m.length ≤ 30 := by
  unfold presV leasesV at c
  simp only [Bool.and_eq_true, decide_eq_true_eq] at c
  exact ⟨c.2.1.2, c.2.2.1.2, c.2.2.2⟩

theorem toPres (h t : List S108) (m : List S110) (hh : h.length ≤ 100000000) (ht : t.length ≤ 100000000) (hm : m.length ≤ 100000000) : Ev (fun k => laws_toPresence.f k h t m) (h.map cvLease, t.map cvLease, m.map cvMark) := by
  unfold laws_toPresence.f
  exact Ev.bind (toLeaseS h hh) (Ev.bind (toLeaseS t ht) (Ev.bind (toMarkS m hm) (Ev.now _)))
theorem szPres (h t : List S108) (m : List S110) (hh : h.length ≤ 9223372036854775807) (ht : t.length ≤ 9223372036854775807) (hm : m.length ≤ 9223372036854775807) : ∃ v, laws_szPresence.f h t m 1048576 = some v ∧ (0 ≤ v → h.length ≤ 1048576 ∧ t.length ≤ 1048576 ∧ m.length ≤ 1048576) := by
  unfold laws_szPresence.f
  rw [szLeaseS h hh]
  by_cases c1 : h.length ≤ 1048576
  · rw [if_pos c1, Option.bind_some, if_neg (by omega), szAtLeaseS t _ (by omega) (by omega) ht]
    by_cases c2 : (t.length : Int) ≤ 1048576 - (h.length : Int)
    · rw [if_pos c2, Option.bind_some, if_neg (by omega), szAtMarkS m _ (by omega) (by omega) hm]
      by_cases c3 : (m.length : Int) ≤ 1048576 - (h.length : Int) - (t.length : Int)
      · rw [if_pos c3, Option.bind_some, if_neg (by omega)]
        exact ⟨_, rfl, fun _ => by omega⟩
      · rw [if_neg c3, Option.bind_some, if_pos (by omega)]
        exact ⟨_, rfl, fun h => by omega⟩
    · rw [if_neg c2, Option.bind_some, if_pos (by omega)]
      exact ⟨_, rfl, fun h => by omega⟩
  · rw [if_neg c1, Option.bind_some, if_pos (by omega)]
    exact ⟨_, rfl, fun h => by omega⟩
theorem eqPres (h t : List TL) (m : List TM) (hh : h.length ≤ 100000000) (ht : t.length ≤ 100000000) (hm : m.length ≤ 100000000) : Ev (fun k => laws_eqPresence.f k h t m h t m) true := by
  unfold laws_eqPresence.f
  exact Ev.bind (eqLeaseS h hh) (ev_pos rfl (Ev.bind (eqLeaseS t ht) (ev_pos rfl (Ev.bind (eqMarkS m hm) (ev_pos rfl (Ev.now _))))))
theorem markPres (h t : List TL) (m : List TM) (hh : h.length ≤ 1048576) (ht : t.length ≤ 1048576) (hm : m.length ≤ 1048576) : ∃ v h2 t2 m2, Ev (fun k => laws_markPresence.f k h t m 1) (v, h2, t2, m2) ∧ 0 ≤ v ∧ Ev (fun k => laws_heldPresence.f k h2 t2 m2 1) v := by
  obtain ⟨h2, a1, a2, a3⟩ := markLeaseS h 1 (by omega) (by omega)
  obtain ⟨t2, b1, b2, b3⟩ := markLeaseS t (1 + 2 * h.length) (by omega) (by omega)
  obtain ⟨m2, c1, c2, c3⟩ := markMarkS m (1 + 2 * h.length + 2 * t.length) (by omega) (by omega)
  have d1 := heldLeaseS h2 1 (by omega) (by omega) (fun j hj => a3 j (by omega))
  have d2 := heldLeaseS t2 (1 + 2 * h.length) (by omega) (by omega) (fun j hj => b3 j (by omega))
  have d3 := heldMarkS m2 (1 + 2 * h.length + 2 * t.length) (by omega) (by omega) (fun j hj => c3 j (by omega))
  rw [a2] at d1
  rw [b2] at d2
  rw [c2] at d3
  refine ⟨((1 + 2 * h.length + 2 * t.length + 2 * m.length : Nat) : Int), h2, t2, m2, ?_, ?_, ?_⟩
  · unfold laws_markPresence.f
    exact Ev.bind a1 (Ev.bind b1 (Ev.bind c1 (Ev.now _)))
  · show (0 : Int) ≤ ((1 + 2 * h.length + 2 * t.length + 2 * m.length : Nat) : Int)
    omega
  · unfold laws_heldPresence.f
    exact Ev.bind d1 (ev_neg (by omega) (Ev.bind d2 (ev_neg (by omega) (Ev.bind d3 (ev_neg (by omega) (Ev.now _))))))
theorem cloneP (h t : List TL) (m : List TM) (hh : h.length ≤ 1048576) (ht : t.length ≤ 1048576) (hm : m.length ≤ 1048576) : impl_clonePresence.f h t m = some (h, t, m) := by
  unfold impl_clonePresence.f impl_Lease.f impl_Mark.f
  rw [if_pos (by omega), if_pos (by omega), if_pos (by omega)]; rfl
theorem ownP (h t : List TL) (m : List TM) (hh : h.length ≤ 1048576) (ht : t.length ≤ 1048576) (hm : m.length ≤ 1048576) : spec_l05Own.f h t m = some (h, t, m) := by
  unfold spec_l05Own.f
  simp only [Option.bind_some, List.length_nil, List.nil_append]
  rw [if_pos (by omega), if_pos (by omega), if_pos (by omega)]

theorem u64w {n : Int} (h : 0 ≤ n) (h2 : n < 18446744073709551616) : IntKind.u64.wrap n = n := by
  simp [IntKind.wrap, IntKind.signed, IntKind.bits]
  omega
theorem half {i j : Nat} (h : i + j ≤ 100000000) : wrap64 ((IntKind.u64.wrap (wrap64 ((i : Int) + (j : Int)))) / 2) = (((i + j) / 2 : Nat) : Int) := by
  rw [w64 (n := (i : Int) + (j : Int)) (by omega) (by omega), u64w (by omega) (by omega), w64 (by omega) (by omega)]
  omega
theorem specMax (a b : Int) : spec_l00Max.f a b = some (mx a b) := by
  unfold spec_l00Max.f mx
  by_cases c : a > b
  · rw [if_pos c, if_neg (by omega)]
  · rw [if_neg c]
    congr 1
    by_cases d : a < b
    · rw [if_pos d]
    · rw [if_neg d]; omega

/-- Leases with one of a member that lasts at least until a tick. -/
def putL (a v : Int) : List TL → List TL
  | [] => [⟨a, v⟩]
  | x :: r => if x.f0 < a then x :: putL a v r else if x.f0 = a then ⟨x.f0, mx x.f1 v⟩ :: r else ⟨a, v⟩ :: x :: r
theorem putL_len (a v : Int) : ∀ l, (putL a v l).length ≤ l.length + 1
  | [] => by simp [putL]
  | x :: r => by
    have := putL_len a v r
    unfold putL
    split
    · simp; omega
    · split
      · simp
      · simp
theorem putL_has (a v : Int) : ∀ l, ∃ y ∈ putL a v l, y.f0 = a ∧ v ≤ y.f1
  | [] => ⟨⟨a, v⟩, by simp [putL], rfl, Int.le_refl _⟩
  | x :: r => by
    unfold putL
    split
    · obtain ⟨y, hy, e⟩ := putL_has a v r
      exact ⟨y, List.mem_cons_of_mem _ hy, e⟩
    · split
      · rename_i c
        refine ⟨_, List.mem_cons_self, c, ?_⟩
        show v ≤ mx x.f1 v
        unfold mx
        split <;> omega
      · exact ⟨_, List.mem_cons_self, rfl, Int.le_refl _⟩
theorem lOk_all : ∀ (l : List TL) (p : Int), lOk p l = true → ∀ x ∈ l, LOk x ∧ p < x.f0
  | [], _, _, x, hx => by cases hx
  | y :: r, p, h, x, hx => by
    unfold lOk at h
    simp only [Bool.and_eq_true, decide_eq_true_eq] at h
    rcases List.mem_cons.1 hx with e | e
    · subst e; exact h.1
    · have := lOk_all r _ h.2 x e
      exact ⟨this.1, by omega⟩
theorem lOk_up : ∀ (l : List TL) (p : Int), lOk p l = true → l.Pairwise (fun x y => x.f0 < y.f0)
  | [], _, _ => List.Pairwise.nil
  | y :: r, p, h => by
    unfold lOk at h
    simp only [Bool.and_eq_true, decide_eq_true_eq] at h
    exact List.pairwise_cons.2 ⟨fun x hx => (lOk_all r _ h.2 x hx).2, lOk_up r _ h.2⟩
theorem lOk_member {a v p : Int} {l : List TL} (h : lOk p (putL a v l) = true) : (1 ≤ a ∧ a ≤ 1000) ∧ v ≤ 1000000 := by
  obtain ⟨y, hy, e, e2⟩ := putL_has a v l
  have := (lOk_all _ _ h y hy).1
  unfold LOk at this
  rw [e] at this
  exact ⟨this.1, by omega⟩
theorem putL_skip (a v : Int) : ∀ (l : List TL) (i : Nat), i ≤ l.length → (∀ j, j < i → ∀ h : j < l.length, l[j].f0 < a) → putL a v l = l.take i ++ putL a v (l.drop i)
  | l, 0, _, _ => by simp
  | [], i + 1, h, _ => by simp at h
  | x :: r, i + 1, h, hj => by
    have h0 := hj 0 (by omega) (by simp)
    have ih := putL_skip a v r i (by simpa using h) (fun j h1 h2 => by
      have := hj (j + 1) (by omega) (by simpa using h2)
      simpa only [List.getElem_cons_succ] using this)
    rw [putL, if_pos (by simpa using h0), ih]
    simp
theorem cmpL (x y a : Int) : impl_leased_1_n92.f x y a = some (if x < a then -1 else if x > a then 1 else 0) := by
  have e : ∀ b : Int, cmp_isNaN_int64_n115.f b = some false := fun b => by simp [cmp_isNaN_int64_n115.f]
  unfold impl_leased_1_n92.f cmp_Compare_int64_n93.f
  rw [e, e]
  simp only [Option.bind_some]
  rw [if_neg (by simp), if_neg (by simp)]
  split
  · rfl
  · split <;> rfl
theorem placeL (a : Int) : ∀ (l : List TL), l.Pairwise (fun x y => x.f0 < y.f0) → ∃ p : Nat, p ≤ l.length ∧ (∀ j, j < p → ∀ h : j < l.length, l[j].f0 < a) ∧ ∀ j, p ≤ j → ∀ h : j < l.length, a ≤ l[j].f0
  | [], _ => ⟨0, by simp, fun j h => by omega, fun j _ h => by simp at h⟩
  | x :: r, up => by
    obtain ⟨u1, u2⟩ := List.pairwise_cons.1 up
    by_cases c : x.f0 < a
    · obtain ⟨p, p1, p2, p3⟩ := placeL a r u2
      refine ⟨p + 1, by simpa using p1, fun j hj h => ?_, fun j hj h => ?_⟩
      · cases j with
        | zero => simpa using c
        | succ j => simpa using p2 j (by omega) (by simpa using h)
      · cases j with
        | zero => omega
        | succ j => simpa using p3 j (by omega) (by simpa using h)
    · refine ⟨0, by simp, fun j h => by omega, fun j _ h => ?_⟩
      cases j with
      | zero => simp only [List.getElem_cons_zero]; omega
      | succ j =>
        have hr : j < r.length := by simpa using h
        have := u1 r[j] (List.getElem_mem _)
        simp only [List.getElem_cons_succ]
        omega
/-- The place of a member. -/
theorem srchL (l : List TL) (hl : l.length ≤ 1048576) (a : Int) (p : Nat) (hp : p ≤ l.length) (h1 : ∀ j, j < p → ∀ h : j < l.length, l[j].f0 < a) (h2 : ∀ j, p ≤ j → ∀ h : j < l.length, a ≤ l[j].f0) : Ev (fun k => impl_Lease_int64_v0.f k l a) ((p : Int), decide (∃ h : p < l.length, l[p].f0 = a)) := by
  unfold impl_Lease_int64_v0.f
  have key : ∀ d i j : Nat, j - i ≤ d → i ≤ p → p ≤ j → j ≤ l.length → Ev (fun k => impl_Lease_int64_v0.l0 k l a (l.length : Int) (i : Int) (j : Int)) ((p : Int), decide (∃ h : p < l.length, l[p].f0 = a)) := by
    intro d
    induction d with
    | zero =>
      intro i j hd hi hj hn
      have e2 : i = j := by omega
      have e : i = p := by omega
      subst e2
      subst e
      refine Ev.step (fun k => by rw [impl_Lease_int64_v0.l0]) (ev_neg (by omega) ?_)
      by_cases c : i < l.length
      · rw [rdOLease l i c]
        refine ev_pos (by omega) (ev_pos (by omega) (ev_pos (by omega) (ev_b (cmpL _ _ _) (ev_some ?_))))
        have := h2 i (Nat.le_refl _) c
        by_cases c2 : l[i].f0 = a
        · rw [if_neg (by omega), if_neg (by omega), decide_eq_true (show ∃ h : i < l.length, l[i].f0 = a from ⟨c, c2⟩)]
          rfl
        · rw [if_neg (by omega), if_pos (by omega), decide_eq_false (fun z => c2 z.2)]
          rfl
      · refine ev_neg (by omega) (ev_some ?_)
        rw [decide_eq_false (fun z => c z.1)]
    | succ d ih =>
      intro i j hd hi hj hn
      by_cases e : i = j
      · exact ih i j (by omega) hi hj hn
      · refine Ev.step (fun k => by rw [impl_Lease_int64_v0.l0]) (ev_pos (by omega) ?_)
        rw [half (by omega)]
        have hm : (i + j) / 2 < l.length := by omega
        rw [rdOLease l _ hm]
        refine ev_pos (by omega) (ev_pos (by omega) (ev_b (cmpL _ _ _) ?_))
        by_cases c : l[(i + j) / 2].f0 < a
        · rw [if_pos c, wsucc hm (by omega)]
          have : (i + j) / 2 < p := by
            rcases Nat.lt_or_ge ((i + j) / 2) p with z | z
            · exact z
            · have := h2 _ z hm
              omega
          exact ev_pos (by omega) (ih _ _ (by omega) (by omega) hj hn)
        · rw [if_neg c]
          have : p ≤ (i + j) / 2 := by
            rcases Nat.lt_or_ge ((i + j) / 2) p with z | z
            · have := h1 _ z hm
              omega
            · exact z
          refine ev_neg (by split <;> omega) (ih _ _ (by omega) hi this (by omega))
  exact key l.length 0 l.length (by omega) (by omega) hp (Nat.le_refl _)
theorem leasedL (l : List TL) (hl : l.length ≤ 1048576) (a v : Int) (up : l.Pairwise (fun x y => x.f0 < y.f0)) : Ev (fun k => impl_leased_n44.f k l a v) (putL a v l) := by
  unfold impl_leased_n44.f
  obtain ⟨p, hp, h1, h2⟩ := placeL a l up
  refine Ev.bind (srchL l hl a p hp h1 h2) ?_
  have sk := putL_skip a v l p hp h1
  by_cases c : ∃ h : p < l.length, l[p].f0 = a
  · obtain ⟨c1, c2⟩ := c
    simp only []
    rw [rdOLease l p c1]
    refine ev_pos (decide_eq_true ⟨c1, c2⟩) (ev_pos (by omega) (ev_pos (by omega) (ev_some ?_)))
    rw [sk, drop_at l p c1, putL, if_neg (by omega), if_pos c2, Int.toNat_natCast, List.set_eq_take_append_cons_drop, if_pos c1]
  · refine ev_neg (by simpa using c) (ev_b ?_ (Ev.now _))
    unfold impl_Lease_n94.f
    rw [if_pos ⟨by omega, by simpa using hp, by simp, by simp; omega⟩, sk, Int.toNat_natCast]
    congr 1
    by_cases c1 : p < l.length
    · have := h2 p (Nat.le_refl _) c1
      rw [drop_at l p c1, putL, if_neg (by omega), if_neg (fun z => c ⟨c1, z⟩)]
      simp
    · rw [List.drop_eq_nil_of_le (by omega)]
      simp [putL]
theorem specPut (l : List TL) (hl : l.length ≤ 1048576) (a v : Int) : Ev (fun k => spec_l05Put.f k l a v) (putL a v l) := by
  unfold spec_l05Put.f
  have key := idx_ind l (fun i => (∀ out : List TL, out.length ≤ i + 1 → Ev (fun k => spec_l05Put.l0 k l a v out true (l.length : Int) (i : Int)) (out ++ l.drop i)) ∧ ∀ out : List TL, out.length ≤ i → Ev (fun k => spec_l05Put.l0 k l a v out false (l.length : Int) (i : Int)) (out ++ putL a v (l.drop i))) ?_ ?_ 0 (Nat.zero_le _)
  · simpa using key.2 [] (Nat.zero_le _)
  · constructor
    · intro out ho
      refine Ev.step (fun k => by rw [spec_l05Put.l0]) ?_
      exact ev_neg (by omega) (ev_pos rfl (ev_some (by simp)))
    · intro out ho
      refine Ev.step (fun k => by rw [spec_l05Put.l0]) ?_
      exact ev_neg (by omega) (ev_neg (by simp) (ev_pos (by omega) (ev_some (by simp [putL]))))
  · intro i hi ih
    constructor
    · intro out ho
      refine Ev.step (fun k => by rw [spec_l05Put.l0]) ?_
      rw [rdOLease l i hi]
      refine ev_pos (by omega) (ev_pos (by omega) (ev_pos (by omega) (ev_pos rfl ?_)))
      refine Ev.step (fun k => by rw [spec_l05Put.j1]) (ev_neg (by simp) (ev_pos (by omega) ?_))
      rw [wsucc hi (by omega), drop_at l i hi]
      exact ev_eq (ih.1 (out ++ [l[i]]) (by simp; omega)) (by simp)
    · intro out ho
      refine Ev.step (fun k => by rw [spec_l05Put.l0]) ?_
      rw [rdOLease l i hi]
      refine ev_pos (by omega) (ev_pos (by omega) (ev_pos (by omega) (ev_neg (by simp) ?_)))
      refine Ev.step (fun k => by rw [spec_l05Put.j1]) ?_
      rw [wsucc hi (by omega)]
      by_cases c : l[i].f0 < a
      · refine ev_neg (by simp; omega) (ev_pos (by omega) ?_)
        refine ev_eq (ih.2 (out ++ [l[i]]) (by simp; omega)) ?_
        rw [drop_at l i hi, putL, if_pos c]
        simp
      · refine ev_pos (by simp; omega) ?_
        rw [drop_at l i hi, putL, if_neg c]
        by_cases d : l[i].f0 = a
        · rw [if_pos d]
          refine ev_pos d (ev_b (specMax _ _) (ev_pos (by omega) ?_))
          exact ev_eq (ih.1 (out ++ [⟨l[i].f0, mx l[i].f1 v⟩]) (by simp; omega)) (by simp)
        · rw [if_neg d]
          refine ev_neg d (ev_pos (by omega) (ev_b rfl (ev_pos (by simp; omega) ?_)))
          exact ev_eq (ih.1 (out ++ [⟨a, v⟩] ++ [l[i]]) (by simp; omega)) (by simp)

/-- Marks with one of a member that is at least a number. -/
def putM (a v : Int) : List TM → List TM
  | [] => [⟨a, v⟩]
  | x :: r => if x.f0 < a then x :: putM a v r else if x.f0 = a then ⟨x.f0, mx x.f1 v⟩ :: r else ⟨a, v⟩ :: x :: r
theorem putM_len (a v : Int) : ∀ l, (putM a v l).length ≤ l.length + 1
  | [] => by simp [putM]
  | x :: r => by
    have := putM_len a v r
    unfold putM
    split
    · simp; omega
    · split
      · simp
      · simp
theorem putM_has (a v : Int) : ∀ l, ∃ y ∈ putM a v l, y.f0 = a
  | [] => ⟨⟨a, v⟩, by simp [putM], rfl⟩
  | x :: r => by
    unfold putM
    split
    · obtain ⟨y, hy, e⟩ := putM_has a v r
      exact ⟨y, List.mem_cons_of_mem _ hy, e⟩
    · split
      · rename_i c
        exact ⟨_, List.mem_cons_self, c⟩
      · exact ⟨_, List.mem_cons_self, rfl⟩
theorem mOk_mem : ∀ (l : List TM) (p : Int), mOk p l = true → ∀ x ∈ l, MOk x ∧ p < x.f0
  | [], _, _, x, hx => by cases hx
  | y :: r, p, h, x, hx => by
    unfold mOk at h
    simp only [Bool.and_eq_true, decide_eq_true_eq] at h
    rcases List.mem_cons.1 hx with e | e
    · subst e; exact h.1
    · have := mOk_mem r _ h.2 x e
      exact ⟨this.1, by omega⟩
theorem mOk_up : ∀ (l : List TM) (p : Int), mOk p l = true → l.Pairwise (fun x y => x.f0 < y.f0)
  | [], _, _ => List.Pairwise.nil
  | y :: r, p, h => by
    unfold mOk at h
    simp only [Bool.and_eq_true, decide_eq_true_eq] at h
    exact List.pairwise_cons.2 ⟨fun x hx => (mOk_mem r _ h.2 x hx).2, mOk_up r _ h.2⟩
theorem mOk_member {a v p : Int} {l : List TM} (h : mOk p (putM a v l) = true) : 1 ≤ a ∧ a ≤ 1000 := by
  obtain ⟨y, hy, e⟩ := putM_has a v l
  have := (mOk_mem _ _ h y hy).1.1
  rw [e] at this
  exact this
theorem putM_skip (a v : Int) : ∀ (l : List TM) (i : Nat), i ≤ l.length → (∀ j, j < i → ∀ h : j < l.length, l[j].f0 < a) → putM a v l = l.take i ++ putM a v (l.drop i)
  | l, 0, _, _ => by simp
  | [], i + 1, h, _ => by simp at h
  | x :: r, i + 1, h, hj => by
    have h0 := hj 0 (by omega) (by simp)
    have ih := putM_skip a v r i (by simpa using h) (fun j h1 h2 => by
      have := hj (j + 1) (by omega) (by simpa using h2)
      simpa only [List.getElem_cons_succ] using this)
    rw [putM, if_pos (by simpa using h0), ih]
    simp
theorem cmpM (x y a : Int) : impl_marked_1_n106.f x y a = some (if x < a then -1 else if x > a then 1 else 0) := by
  have e : ∀ b : Int, cmp_isNaN_int64_n115.f b = some false := fun b => by simp [cmp_isNaN_int64_n115.f]
  unfold impl_marked_1_n106.f cmp_Compare_int64_n93.f
  rw [e, e]
  simp only [Option.bind_some]
  rw [if_neg (by simp), if_neg (by simp)]
  split
  · rfl
  · split <;> rfl
theorem placeM (a : Int) : ∀ (l : List TM), l.Pairwise (fun x y => x.f0 < y.f0) → ∃ p : Nat, p ≤ l.length ∧ (∀ j, j < p → ∀ h : j < l.length, l[j].f0 < a) ∧ ∀ j, p ≤ j → ∀ h : j < l.length, a ≤ l[j].f0
  | [], _ => ⟨0, by simp, fun j h => by omega, fun j _ h => by simp at h⟩
  | x :: r, up => by
    obtain ⟨u1, u2⟩ := List.pairwise_cons.1 up
    by_cases c : x.f0 < a
    · obtain ⟨p, p1, p2, p3⟩ := placeM a r u2
      refine ⟨p + 1, by simpa using p1, fun j hj h => ?_, fun j hj h => ?_⟩
      · cases j with
        | zero => simpa using c
        | succ j => simpa using p2 j (by omega) (by simpa using h)
      · cases j with
        | zero => omega
        | succ j => simpa using p3 j (by omega) (by simpa using h)
    · refine ⟨0, by simp, fun j h => by omega, fun j _ h => ?_⟩
      cases j with
      | zero => simp only [List.getElem_cons_zero]; omega
      | succ j =>
        have hr : j < r.length := by simpa using h
        have := u1 r[j] (List.getElem_mem _)
        simp only [List.getElem_cons_succ]
        omega
/-- The place of a member. -/
theorem srchM (l : List TM) (hl : l.length ≤ 1048576) (a : Int) (p : Nat) (hp : p ≤ l.length) (h1 : ∀ j, j < p → ∀ h : j < l.length, l[j].f0 < a) (h2 : ∀ j, p ≤ j → ∀ h : j < l.length, a ≤ l[j].f0) : Ev (fun k => impl_Mark_int64_v1.f k l a) ((p : Int), decide (∃ h : p < l.length, l[p].f0 = a)) := by
  unfold impl_Mark_int64_v1.f
  have key : ∀ d i j : Nat, j - i ≤ d → i ≤ p → p ≤ j → j ≤ l.length → Ev (fun k => impl_Mark_int64_v1.l0 k l a (l.length : Int) (i : Int) (j : Int)) ((p : Int), decide (∃ h : p < l.length, l[p].f0 = a)) := by
    intro d
    induction d with
    | zero =>
      intro i j hd hi hj hn
      have e2 : i = j := by omega
      have e : i = p := by omega
      subst e2
      subst e
      refine Ev.step (fun k => by rw [impl_Mark_int64_v1.l0]) (ev_neg (by omega) ?_)
      by_cases c : i < l.length
      · rw [rdOMark l i c]
        refine ev_pos (by omega) (ev_pos (by omega) (ev_pos (by omega) (ev_b (cmpM _ _ _) (ev_some ?_))))
        have := h2 i (Nat.le_refl _) c
        by_cases c2 : l[i].f0 = a
        · rw [if_neg (by omega), if_neg (by omega), decide_eq_true (show ∃ h : i < l.length, l[i].f0 = a from ⟨c, c2⟩)]
          rfl
        · rw [if_neg (by omega), if_pos (by omega), decide_eq_false (fun z => c2 z.2)]
          rfl
      · refine ev_neg (by omega) (ev_some ?_)
        rw [decide_eq_false (fun z => c z.1)]
    | succ d ih =>
      intro i j hd hi hj hn
      by_cases e : i = j
      · exact ih i j (by omega) hi hj hn
      · refine Ev.step (fun k => by rw [impl_Mark_int64_v1.l0]) (ev_pos (by omega) ?_)
        rw [half (by omega)]
        have hm : (i + j) / 2 < l.length := by omega
        rw [rdOMark l _ hm]
        refine ev_pos (by omega) (ev_pos (by omega) (ev_b (cmpM _ _ _) ?_))
        by_cases c : l[(i + j) / 2].f0 < a
        · rw [if_pos c, wsucc hm (by omega)]
          have : (i + j) / 2 < p := by
            rcases Nat.lt_or_ge ((i + j) / 2) p with z | z
            · exact z
            · have := h2 _ z hm
              omega
          exact ev_pos (by omega) (ih _ _ (by omega) (by omega) hj hn)
        · rw [if_neg c]
          have : p ≤ (i + j) / 2 := by
            rcases Nat.lt_or_ge ((i + j) / 2) p with z | z
            · have := h1 _ z hm
              omega
            · exact z
          refine ev_neg (by split <;> omega) (ih _ _ (by omega) hi this (by omega))
  exact key l.length 0 l.length (by omega) (by omega) hp (Nat.le_refl _)
theorem markedM (l : List TM) (hl : l.length ≤ 1048576) (a v : Int) (up : l.Pairwise (fun x y => x.f0 < y.f0)) : Ev (fun k => impl_marked_n78.f k l a v) (putM a v l) := by
  unfold impl_marked_n78.f
  obtain ⟨p, hp, h1, h2⟩ := placeM a l up
  refine Ev.bind (srchM l hl a p hp h1 h2) ?_
  have sk := putM_skip a v l p hp h1
  by_cases c : ∃ h : p < l.length, l[p].f0 = a
  · obtain ⟨c1, c2⟩ := c
    simp only []
    rw [rdOMark l p c1]
    refine ev_pos (decide_eq_true ⟨c1, c2⟩) (ev_pos (by omega) (ev_pos (by omega) (ev_some ?_)))
    rw [sk, drop_at l p c1, putM, if_neg (by omega), if_pos c2, Int.toNat_natCast, List.set_eq_take_append_cons_drop, if_pos c1]
  · refine ev_neg (by simpa using c) (ev_b ?_ (Ev.now _))
    unfold impl_Mark_n107.f
    rw [if_pos ⟨by omega, by simpa using hp, by simp, by simp; omega⟩, sk, Int.toNat_natCast]
    congr 1
    by_cases c1 : p < l.length
    · have := h2 p (Nat.le_refl _) c1
      rw [drop_at l p c1, putM, if_neg (by omega), if_neg (fun z => c ⟨c1, z⟩)]
      simp
    · rw [List.drop_eq_nil_of_le (by omega)]
      simp [putM]
theorem specRead (l : List TM) (hl : l.length ≤ 1048576) (a v : Int) : Ev (fun k => spec_l05Read.f k l a v) (putM a v l) := by
  unfold spec_l05Read.f
  have key := idx_ind l (fun i => (∀ out : List TM, out.length ≤ i + 1 → Ev (fun k => spec_l05Read.l0 k l a v out true (l.length : Int) (i : Int)) (out ++ l.drop i)) ∧ ∀ out : List TM, out.length ≤ i → Ev (fun k => spec_l05Read.l0 k l a v out false (l.length : Int) (i : Int)) (out ++ putM a v (l.drop i))) ?_ ?_ 0 (Nat.zero_le _)
  · simpa using key.2 [] (Nat.zero_le _)
  · constructor
    · intro out ho
      refine Ev.step (fun k => by rw [spec_l05Read.l0]) ?_
      exact ev_neg (by omega) (ev_pos rfl (ev_some (by simp)))
    · intro out ho
      refine Ev.step (fun k => by rw [spec_l05Read.l0]) ?_
      exact ev_neg (by omega) (ev_neg (by simp) (ev_pos (by omega) (ev_some (by simp [putM]))))
  · intro i hi ih
    constructor
    · intro out ho
      refine Ev.step (fun k => by rw [spec_l05Read.l0]) ?_
      rw [rdOMark l i hi]
      refine ev_pos (by omega) (ev_pos (by omega) (ev_pos (by omega) (ev_pos rfl ?_)))
      refine Ev.step (fun k => by rw [spec_l05Read.j1]) (ev_neg (by simp) (ev_pos (by omega) ?_))
      rw [wsucc hi (by omega), drop_at l i hi]
      exact ev_eq (ih.1 (out ++ [l[i]]) (by simp; omega)) (by simp)
    · intro out ho
      refine Ev.step (fun k => by rw [spec_l05Read.l0]) ?_
      rw [rdOMark l i hi]
      refine ev_pos (by omega) (ev_pos (by omega) (ev_pos (by omega) (ev_neg (by simp) ?_)))
      refine Ev.step (fun k => by rw [spec_l05Read.j1]) ?_
      rw [wsucc hi (by omega)]
      by_cases c : l[i].f0 < a
      · refine ev_neg (by simp; omega) (ev_pos (by omega) ?_)
        refine ev_eq (ih.2 (out ++ [l[i]]) (by simp; omega)) ?_
        rw [drop_at l i hi, putM, if_pos c]
        simp
      · refine ev_pos (by simp; omega) ?_
        rw [drop_at l i hi, putM, if_neg c]
        by_cases d : l[i].f0 = a
        · rw [if_pos d]
          refine ev_pos d (ev_b (specMax _ _) (ev_pos (by omega) ?_))
          exact ev_eq (ih.1 (out ++ [⟨l[i].f0, mx l[i].f1 v⟩]) (by simp; omega)) (by simp)
        · rw [if_neg d]
          refine ev_neg d (ev_pos (by omega) (ev_b rfl (ev_pos (by simp; omega) ?_)))
          exact ev_eq (ih.1 (out ++ [⟨a, v⟩] ++ [l[i]]) (by simp; omega)) (by simp)

theorem leasesV_up {l : List TL} (c : leasesV l = true) : l.Pairwise (fun x y => x.f0 < y.f0) := by
  unfold leasesV at c
  simp only [Bool.and_eq_true] at c
  exact lOk_up l 0 c.1
theorem leasesV_member {a v : Int} {l : List TL} (c : leasesV (putL a v l) = true) : (1 ≤ a ∧ a ≤ 1000) ∧ v ≤ 1000000 := by
  unfold leasesV at c
  simp only [Bool.and_eq_true] at c
  exact lOk_member c.1
theorem presV_here {h t : List TL} {m : List TM} (c : presV h t m = true) : leasesV h = true := by
  unfold presV at c
  simp only [Bool.and_eq_true] at c
  exact c.2.1
theorem presV_typing {h t : List TL} {m : List TM} (c : presV h t m = true) : leasesV t = true := by
  unfold presV at c
  simp only [Bool.and_eq_true] at c
  exact c.2.2.1

theorem putL_from (a v : Int) : ∀ l, ∀ y ∈ putL a v l, y.f0 = a ∨ ∃ x ∈ l, x.f0 = y.f0
  | [], y, hy => by
    simp [putL] at hy
    exact .inl (by rw [hy])
  | x :: r, y, hy => by
    unfold putL at hy
    split at hy
    · rcases List.mem_cons.mp hy with rfl | hy
      · exact .inr ⟨_, List.mem_cons_self, rfl⟩
      · rcases putL_from a v r y hy with h | ⟨z, hz, e⟩
        · exact .inl h
        · exact .inr ⟨z, List.mem_cons_of_mem _ hz, e⟩
    · split at hy
      · rcases List.mem_cons.mp hy with rfl | hy
        · exact .inr ⟨x, List.mem_cons_self, rfl⟩
        · exact .inr ⟨y, List.mem_cons_of_mem _ hy, rfl⟩
      · rcases List.mem_cons.mp hy with rfl | hy
        · exact .inl rfl
        · exact .inr ⟨y, hy, rfl⟩
theorem putL_up (a v : Int) : ∀ l, l.Pairwise (fun x y => x.f0 < y.f0) → (putL a v l).Pairwise (fun x y => x.f0 < y.f0)
  | [], _ => by simp [putL]
  | x :: r, h => by
    obtain ⟨h1, h2⟩ := List.pairwise_cons.mp h
    unfold putL
    split
    · rename_i c
      refine List.pairwise_cons.mpr ⟨fun y hy => ?_, putL_up a v r h2⟩
      rcases putL_from a v r y hy with e | ⟨z, hz, e⟩
      · rw [e]; exact c
      · rw [← e]; exact h1 z hz
    · split
      · exact List.pairwise_cons.mpr ⟨fun y hy => h1 y hy, h2⟩
      · refine List.pairwise_cons.mpr ⟨fun y hy => ?_, h⟩
        rcases List.mem_cons.mp hy with rfl | hy
        · show a < _
          omega
        · have := h1 y hy
          show a < _
          omega
theorem putM_from (a v : Int) : ∀ l, ∀ y ∈ putM a v l, y.f0 = a ∨ ∃ x ∈ l, x.f0 = y.f0
  | [], y, hy => by
    simp [putM] at hy
    exact .inl (by rw [hy])
  | x :: r, y, hy => by
    unfold putM at hy
    split at hy
    · rcases List.mem_cons.mp hy with rfl | hy
      · exact .inr ⟨_, List.mem_cons_self, rfl⟩
      · rcases putM_from a v r y hy with h | ⟨z, hz, e⟩
        · exact .inl h
        · exact .inr ⟨z, List.mem_cons_of_mem _ hz, e⟩
    · split at hy
      · rcases List.mem_cons.mp hy with rfl | hy
        · exact .inr ⟨x, List.mem_cons_self, rfl⟩
        · exact .inr ⟨y, List.mem_cons_of_mem _ hy, rfl⟩
      · rcases List.mem_cons.mp hy with rfl | hy
        · exact .inl rfl
        · exact .inr ⟨y, hy, rfl⟩
theorem putM_up (a v : Int) : ∀ l, l.Pairwise (fun x y => x.f0 < y.f0) → (putM a v l).Pairwise (fun x y => x.f0 < y.f0)
  | [], _ => by simp [putM]
  | x :: r, h => by
    obtain ⟨h1, h2⟩ := List.pairwise_cons.mp h
    unfold putM
    split
    · rename_i c
      refine List.pairwise_cons.mpr ⟨fun y hy => ?_, putM_up a v r h2⟩
      rcases putM_from a v r y hy with e | ⟨z, hz, e⟩
      · rw [e]; exact c
      · rw [← e]; exact h1 z hz
    · split
      · exact List.pairwise_cons.mpr ⟨fun y hy => h1 y hy, h2⟩
      · refine List.pairwise_cons.mpr ⟨fun y hy => ?_, h⟩
        rcases List.mem_cons.mp hy with rfl | hy
        · show a < _
          omega
        · have := h1 y hy
          show a < _
          omega
/-- Leases joined. -/
def joinL (h r : List TL) : List TL := r.foldl (fun z x => putL x.f0 x.f1 z) h
def joinM (h r : List TM) : List TM := r.foldl (fun z x => putM x.f0 x.f1 z) h
theorem joinL_len : ∀ (r h : List TL), (joinL h r).length ≤ h.length + r.length
  | [], h => by simp [joinL]
  | x :: r, h => by
    have := joinL_len r (putL x.f0 x.f1 h)
    have := putL_len x.f0 x.f1 h
    show (joinL (putL x.f0 x.f1 h) r).length ≤ _
    simp
    omega
theorem joinM_len : ∀ (r h : List TM), (joinM h r).length ≤ h.length + r.length
  | [], h => by simp [joinM]
  | x :: r, h => by
    have := joinM_len r (putM x.f0 x.f1 h)
    have := putM_len x.f0 x.f1 h
    show (joinM (putM x.f0 x.f1 h) r).length ≤ _
    simp
    omega
/-- A presence, if it is valid. -/
def give (h t : List TL) (m : List TM) : List TL × List TL × List TM × Bool := if presV h t m = true then (h, t, m, true) else ([], [], [], false)
/-- What joining answers. -/
def joinAns (h t : List TL) (m : List TM) (x y : List TL) (z : List TM) : List TL × List TL × List TM × Bool := if presV h t m = true ∧ presV x y z = true then give (joinL h x) (joinL t y) (joinM m z) else ([], [], [], false)
theorem giveLen (h t : List TL) (m : List TM) : (give h t m).1.length ≤ 30 ∧ (give h t m).2.1.length ≤ 30 ∧ (give h t m).2.2.1.length ≤ 30 := by
  unfold give
  split
  · rename_i c
    exact presV_len c
  · simp
theorem joinLen (h t : List TL) (m : List TM) (x y : List TL) (z : List TM) : (joinAns h t m x y z).1.length ≤ 30 ∧ (joinAns h t m x y z).2.1.length ≤ 30 ∧ (joinAns h t m x y z).2.2.1.length ≤ 30 := by
  unfold joinAns
  split
  · exact giveLen _ _ _
  · simp
theorem presV_upT {h t : List TL} {m : List TM} (c : presV h t m = true) : t.Pairwise (fun x y => x.f0 < y.f0) := by
  unfold presV at c
  simp only [Bool.and_eq_true] at c
  exact leasesV_up c.2.2.1
theorem presV_upM {h t : List TL} {m : List TM} (c : presV h t m = true) : m.Pairwise (fun x y => x.f0 < y.f0) := by
  unfold presV at c
  simp only [Bool.and_eq_true] at c
  exact mOk_up m 0 c.1
theorem putAllM (z : List TM) (hz : z.length ≤ 10000) : ∀ i, i ≤ z.length → ∀ m : List TM, m.Pairwise (fun x y => x.f0 < y.f0) → m.length + (z.length - i) ≤ 10000 → Ev (fun k => impl_JoinPresence.l2 k z (i : Int) m) (joinM m (z.drop i)) := by
  refine idx_ind z _ ?_ ?_
  · intro m up hm
    refine Ev.step (fun k => by rw [impl_JoinPresence.l2]) ?_
    refine ev_neg (by omega) ?_
    rw [List.drop_length]
    exact Ev.now _
  · intro i hi ih m up hm
    refine Ev.step (fun k => by rw [impl_JoinPresence.l2]) ?_
    rw [rdOMark z i hi, drop_at z i hi]
    have lp := putM_len z[i].f0 z[i].f1 m
    refine ev_pos (by omega) (ev_pos (by omega) (Ev.bind (markedM m (by omega) _ _ up) ?_))
    rw [wsucc hi (by omega)]
    exact ih _ (putM_up _ _ m up) (by omega)
theorem putAllL (x : List TL) (hx : x.length ≤ 10000) : ∀ i, i ≤ x.length → ∀ h : List TL, h.Pairwise (fun x y => x.f0 < y.f0) → h.length + (x.length - i) ≤ 10000 → Ev (fun k => impl_JoinPresence.l0 k x (i : Int) h) (joinL h (x.drop i)) := by
  refine idx_ind x _ ?_ ?_
  · intro h up hh
    refine Ev.step (fun k => by rw [impl_JoinPresence.l0]) ?_
    refine ev_neg (by omega) ?_
    rw [List.drop_length]
    exact Ev.now _
  · intro i hi ih h up hh
    refine Ev.step (fun k => by rw [impl_JoinPresence.l0]) ?_
    rw [rdOLease x i hi, drop_at x i hi]
    have lp := putL_len x[i].f0 x[i].f1 h
    refine ev_pos (by omega) (ev_pos (by omega) (Ev.bind (leasedL h (by omega) _ _ up) ?_))
    rw [wsucc hi (by omega)]
    exact ih _ (putL_up _ _ h up) (by omega)
theorem implJoin (h t : List TL) (m : List TM) (x y : List TL) (z : List TM) (hh : h.length ≤ 1048576) (ht : t.length ≤ 1048576) (hm : m.length ≤ 1048576) (hx : x.length ≤ 1048576) (hy : y.length ≤ 1048576) (hz : z.length ≤ 1048576) : Ev (fun k => impl_JoinPresence.f k h t m x y z) (joinAns h t m x y z) := by
  unfold impl_JoinPresence.f joinAns
  refine Ev.bind (implPres x y z (by omega) (by omega) (by omega)) ?_
  by_cases c : presV x y z = true
  · refine ev_pos c (Ev.bind (implPres h t m (by omega) (by omega) (by omega)) ?_)
    by_cases d : presV h t m = true
    · rw [if_pos ⟨d, c⟩]
      obtain ⟨l1, l2, l3⟩ := presV_len c
      obtain ⟨n1, n2, n3⟩ := presV_len d
      refine ev_pos d (ev_b (cloneP h t m hh ht hm) ?_)
      have j1 := joinL_len x h
      have j2 := joinL_len y t
      have j3 := joinM_len z m
      refine Ev.bind (putAllL x (by omega) 0 (Nat.zero_le _) h (leasesV_up (presV_here d)) (by omega)) (Ev.bind (putAllL y (by omega) 0 (Nat.zero_le _) t (presV_upT d) (by omega)) (Ev.bind (putAllM z (by omega) 0 (Nat.zero_le _) m (presV_upM d) (by omega)) ?_))
      rw [List.drop_zero, List.drop_zero, List.drop_zero]
      refine Ev.bind (implPres (joinL h x) (joinL t y) (joinM m z) (by omega) (by omega) (by omega)) ?_
      unfold give
      by_cases e : presV (joinL h x) (joinL t y) (joinM m z) = true
      · exact ev_eq (ev_pos e (Ev.now _)) (if_pos e).symm
      · exact ev_eq (ev_neg e (Ev.now _)) (if_neg e).symm
    · rw [if_neg (fun q => d q.1)]
      exact ev_neg d (Ev.now _)
  · rw [if_neg (fun q => c q.2)]
    exact ev_neg c (Ev.now _)

theorem sjoin2 (h t : List TL) (x y : List TL) (z : List TM) (hz : z.length ≤ 10000) (hh : h.length ≤ 10000) (ht : t.length ≤ 10000) : ∀ i, i ≤ z.length → ∀ m : List TM, m.length + (z.length - i) ≤ 10000 → Ev (fun k => spec_JoinPresence.l2 k (z.length : Int) (i : Int) x y z h t m) (give h t (joinM m (z.drop i))) := by
  refine idx_ind z _ ?_ ?_
  · intro m hm
    refine Ev.step (fun k => by rw [spec_JoinPresence.l2]) ?_
    refine ev_neg (by omega) ?_
    rw [List.drop_length]
    refine Ev.bind (a := give h t m) ?_ (Ev.now _)
    unfold spec_l05Give.f give
    refine Ev.bind (specPres h t m (by omega) (by omega) (by omega)) ?_
    by_cases e : presV h t m = true
    · exact ev_eq (ev_pos e (Ev.now _)) (if_pos e).symm
    · exact ev_eq (ev_neg e (Ev.now _)) (if_neg e).symm
  · intro i hi ih m hm
    refine Ev.step (fun k => by rw [spec_JoinPresence.l2]) ?_
    rw [rdOMark z i hi, drop_at z i hi]
    have lp := putM_len z[i].f0 z[i].f1 m
    refine ev_pos (by omega) (ev_pos (by omega) (ev_pos (by omega) (Ev.bind (specRead m (by omega) _ _) ?_)))
    rw [wsucc hi (by omega)]
    exact ih _ (by omega)
theorem sjoin1 (h : List TL) (m : List TM) (x y : List TL) (z : List TM) (hy : y.length ≤ 10000) (hh : h.length ≤ 10000) (hm : m.length + z.length ≤ 10000) : ∀ i, i ≤ y.length → ∀ t : List TL, t.length + (y.length - i) ≤ 10000 → Ev (fun k => spec_JoinPresence.l1 k (y.length : Int) (i : Int) x y z h t m) (give h (joinL t (y.drop i)) (joinM m z)) := by
  refine idx_ind y _ ?_ ?_
  · intro t ht
    refine Ev.step (fun k => by rw [spec_JoinPresence.l1]) ?_
    refine ev_neg (by omega) ?_
    rw [List.drop_length]
    exact sjoin2 h t x y z (by omega) hh (by omega) 0 (Nat.zero_le _) m (by omega)
  · intro i hi ih t ht
    refine Ev.step (fun k => by rw [spec_JoinPresence.l1]) ?_
    rw [rdOLease y i hi, drop_at y i hi]
    have lp := putL_len y[i].f0 y[i].f1 t
    refine ev_pos (by omega) (ev_pos (by omega) (ev_pos (by omega) (Ev.bind (specPut t (by omega) _ _) ?_)))
    rw [wsucc hi (by omega)]
    exact ih _ (by omega)
theorem sjoin0 (t : List TL) (m : List TM) (x y : List TL) (z : List TM) (hx : x.length ≤ 10000) (ht : t.length + y.length ≤ 10000) (hm : m.length + z.length ≤ 10000) : ∀ i, i ≤ x.length → ∀ h : List TL, h.length + (x.length - i) ≤ 10000 → Ev (fun k => spec_JoinPresence.l0 k (x.length : Int) (i : Int) x y z h t m) (give (joinL h (x.drop i)) (joinL t y) (joinM m z)) := by
  refine idx_ind x _ ?_ ?_
  · intro h hh
    refine Ev.step (fun k => by rw [spec_JoinPresence.l0]) ?_
    refine ev_neg (by omega) ?_
    rw [List.drop_length]
    exact sjoin1 h m x y z (by omega) (by omega) hm 0 (Nat.zero_le _) t (by omega)
  · intro i hi ih h hh
    refine Ev.step (fun k => by rw [spec_JoinPresence.l0]) ?_
    rw [rdOLease x i hi, drop_at x i hi]
    have lp := putL_len x[i].f0 x[i].f1 h
    refine ev_pos (by omega) (ev_pos (by omega) (ev_pos (by omega) (Ev.bind (specPut h (by omega) _ _) ?_)))
    rw [wsucc hi (by omega)]
    exact ih _ (by omega)
theorem specJoin (h t : List TL) (m : List TM) (x y : List TL) (z : List TM) (hh : h.length ≤ 1048576) (ht : t.length ≤ 1048576) (hm : m.length ≤ 1048576) (hx : x.length ≤ 1048576) (hy : y.length ≤ 1048576) (hz : z.length ≤ 1048576) : Ev (fun k => spec_JoinPresence.f k h t m x y z) (joinAns h t m x y z) := by
  unfold spec_JoinPresence.f joinAns
  refine Ev.bind (specPres h t m (by omega) (by omega) (by omega)) ?_
  by_cases d : presV h t m = true
  · refine ev_pos d (Ev.bind (specPres x y z (by omega) (by omega) (by omega)) ?_)
    by_cases c : presV x y z = true
    · rw [if_pos ⟨d, c⟩, c]
      obtain ⟨l1, l2, l3⟩ := presV_len c
      obtain ⟨n1, n2, n3⟩ := presV_len d
      refine Ev.step (fun k => by rw [spec_JoinPresence.j0]) (ev_neg (by simp) (ev_b (ownP h t m hh ht hm) ?_))
      exact sjoin0 t m x y z (by omega) (by omega) (by omega) 0 (Nat.zero_le _) h (by omega)
    · rw [if_neg (fun q => c q.2), (Bool.not_eq_true _).mp c]
      exact Ev.step (fun k => by rw [spec_JoinPresence.j0]) (ev_pos (by simp) (Ev.now _))
  · rw [if_neg (fun q => d q.1)]
    exact ev_neg d (Ev.step (fun k => by rw [spec_JoinPresence.j0]) (ev_pos rfl (Ev.now _)))
theorem szPresAt (h t : List S108) (m : List S110) (q : Int) (h0 : 0 ≤ q) (h1 : q ≤ 1048576) (hh : h.length ≤ 9223372036854775807) (ht : t.length ≤ 9223372036854775807) (hm : m.length ≤ 9223372036854775807) : ∃ v, laws_szPresence.f h t m q = some v ∧ v ≤ q ∧ (0 ≤ v → h.length ≤ 1048576 ∧ t.length ≤ 1048576 ∧ m.length ≤ 1048576) := by
  unfold laws_szPresence.f
  rw [szAtLeaseS h q (by omega) (by omega) hh]
  by_cases c1 : (h.length : Int) ≤ q
  · rw [if_pos c1, Option.bind_some, if_neg (by omega), szAtLeaseS t _ (by omega) (by omega) ht]
    by_cases c2 : (t.length : Int) ≤ q - (h.length : Int)
    · rw [if_pos c2, Option.bind_some, if_neg (by omega), szAtMarkS m _ (by omega) (by omega) hm]
      by_cases c3 : (m.length : Int) ≤ q - (h.length : Int) - (t.length : Int)
      · rw [if_pos c3, Option.bind_some, if_neg (by omega)]
        exact ⟨_, rfl, by omega, fun _ => by omega⟩
      · rw [if_neg c3, Option.bind_some, if_pos (by omega)]
        exact ⟨_, rfl, by omega, fun h => by omega⟩
    · rw [if_neg c2, Option.bind_some, if_pos (by omega)]
      exact ⟨_, rfl, by omega, fun h => by omega⟩
  · rw [if_neg c1, Option.bind_some, if_pos (by omega)]
    exact ⟨_, rfl, by omega, fun h => by omega⟩
theorem markPresAt (h t : List TL) (m : List TM) (q : Nat) (hq : q ≤ 50000000) (hh : h.length ≤ 1048576) (ht : t.length ≤ 1048576) (hm : m.length ≤ 1048576) : ∃ (v : Nat) (h2 t2 : List TL) (m2 : List TM), Ev (fun k => laws_markPresence.f k h t m (q : Int)) ((v : Int), h2, t2, m2) ∧ v ≤ q + 10000000 := by
  obtain ⟨h2, a1, a2, a3⟩ := markLeaseS h q (by omega) (by omega)
  obtain ⟨t2, b1, b2, b3⟩ := markLeaseS t (q + 2 * h.length) (by omega) (by omega)
  obtain ⟨m2, c1, c2, c3⟩ := markMarkS m (q + 2 * h.length + 2 * t.length) (by omega) (by omega)
  refine ⟨q + 2 * h.length + 2 * t.length + 2 * m.length, h2, t2, m2, ?_, by omega⟩
  unfold laws_markPresence.f
  exact Ev.bind a1 (Ev.bind b1 (Ev.bind c1 (Ev.now _)))
theorem Ev.both {α : Type} {g : Nat → Option α} {a : α} {p : Nat → Prop} (h : Ev g a) (e : ∃ K, ∀ k, K ≤ k → p k) : ∃ K, ∀ k, K ≤ k → g k = some a ∧ p k := by
  obtain ⟨K, hK⟩ := h
  obtain ⟨K2, hK2⟩ := e
  exact ⟨K + K2, fun k hk => ⟨hK k (by omega), hK2 k (by omega)⟩⟩

theorem FnExactJoinPresence : laws_FnExactJoinPresence.Pure := by
  intro h0 t0 m0 x0 y0 z0 fh ft fm fx fy fz
  have mx_ : maxLen ≤ 9223372036854775807 := by unfold maxLen; omega
  obtain ⟨v, hv, hv1, hv2⟩ := szPresAt h0 t0 m0 1048576 (by omega) (by omega) (by have := fh.1; omega) (by have := ft.1; omega) (by have := fm.1; omega)
  by_cases c1 : v < 0
  · exact ⟨0, v, hv, .inl c1⟩
  obtain ⟨u, hu, hu1, hu2⟩ := szPresAt x0 y0 z0 v (by omega) (by omega) (by have := fx.1; omega) (by have := fy.1; omega) (by have := fz.1; omega)
  by_cases c2 : u < 0
  · exact ⟨0, v, hv, .inr ⟨c1, u, hu, .inl c2⟩⟩
  obtain ⟨b1, b2, b3⟩ := hv2 (by omega)
  obtain ⟨d1, d2, d3⟩ := hu2 (by omega)
  have ta := toPres h0 t0 m0 (by omega) (by omega) (by omega)
  have tb := toPres x0 y0 z0 (by omega) (by omega) (by omega)
  have g1 : (h0.map cvLease).length ≤ 1048576 := by simpa using b1
  have g2 : (t0.map cvLease).length ≤ 1048576 := by simpa using b2
  have g3 : (m0.map cvMark).length ≤ 1048576 := by simpa using b3
  have e1 : (x0.map cvLease).length ≤ 1048576 := by simpa using d1
  have e2 : (y0.map cvLease).length ≤ 1048576 := by simpa using d2
  have e3 : (z0.map cvMark).length ≤ 1048576 := by simpa using d3
  generalize h0.map cvLease = h at ta g1
  generalize t0.map cvLease = t at ta g2
  generalize m0.map cvMark = m at ta g3
  generalize x0.map cvLease = x at tb e1
  generalize y0.map cvLease = y at tb e2
  generalize z0.map cvMark = z at tb e3
  have sp := specJoin h t m x y z g1 g2 g3 e1 e2 e3
  have im := implJoin h t m x y z g1 g2 g3 e1 e2 e3
  have len := joinLen h t m x y z
  generalize joinAns h t m x y z = r at sp im len
  obtain ⟨rh, rt, rm, rb⟩ := r
  have n1 : rh.length ≤ 30 := len.1
  have n2 : rt.length ≤ 30 := len.2.1
  have n3 : rm.length ≤ 30 := len.2.2
  have er := eqPres rh rt rm (by omega) (by omega) (by omega)
  have ea := eqPres h t m (by omega) (by omega) (by omega)
  have eb := eqPres x y z (by omega) (by omega) (by omega)
  obtain ⟨s, h1, t1, m1, mk1, ms⟩ := markPresAt h t m 1 (by omega) g1 g2 g3
  obtain ⟨w, x1, y1, z1, mk2, mw⟩ := markPresAt x y z s (by omega) e1 e2 e3
  obtain ⟨q, h2, t2, m2, mk3, hq, hd⟩ := markPres rh rt rm (by omega) (by omega) (by omega)
  have all : ∃ K, ∀ k, K ≤ k → True := ⟨0, fun _ _ => trivial⟩
  obtain ⟨K, hK⟩ := Ev.both ta (Ev.both tb (Ev.both sp (Ev.both im (Ev.both er (Ev.both ea (Ev.both eb (Ev.both mk1 (Ev.both mk2 (Ev.both mk3 (Ev.both hd all))))))))))
  obtain ⟨k1, k2, k3, k4, k5, k6, k7, k8, k9, k10, k11, -⟩ := hK K (Nat.le_refl _)
  exact ⟨K, v, hv, .inr ⟨c1, u, hu, .inr ⟨c2, h, t, m, x, y, z, rh, rt, rm, rb, s, h1, t1, m1, w, x1, y1, z1, q, h2, t2, m2, k1, k2, k3, k4, k5, k6, k7, k8, k9, by omega, k10, k11, by omega⟩⟩⟩

end Go.Proofs.Ytgfilednbllkmaa.Pure
