/- Leases: a heartbeat keeps a member until its tick and not longer, who types is here, and the next change is the first tick at which somebody is not here or does not type any more; for every pair of byte strings. -/
import Derived.Test.YtgfilednbllkmaaQFnLeasesx7
import Derived.Laws.BitsLemmas
namespace Go.Proofs.Ytgfilednbllkmaa.Pure
open Go.RowKit Go.Proofs.Ytgfilednbllkmaa.QFnJoinedPresence Go.Proofs.YtgfilednbllkmaaW.PrintWords Go.Proofs.YtgfilednbllkmaaW.PrintLast Go.Proofs.YtgfilednbllkmaaW.PrintMore
set_option linter.unusedVariables false

theorem w64 {n : Int} (h1 : -9223372036854775808 ≤ n) (h2 : n ≤ 9223372036854775807) : wrap64 n = n := by
  unfold wrap64
  omega
theorem wf64 {n : Int} (h : (Lit.int .i64 n).wf = true) : -9223372036854775808 ≤ n ∧ n ≤ 9223372036854775807 := by
  simp [Lit.wf, IntKind.min, IntKind.max, IntKind.signed, IntKind.bits] at h
  omega

theorem ev_pos {α : Type} {c : Prop} [Decidable c] {g f : Nat → Option α} {r : α} (h : c) (e : Ev g r) : Ev (fun k => if c then g k else f k) r := Ev.congr (fun _ => if_pos h) e
theorem ev_neg {α : Type} {c : Prop} [Decidable c] {g f : Nat → Option α} {r : α} (h : ¬ c) (e : Ev f r) : Ev (fun k => if c then g k else f k) r := Ev.congr (fun _ => if_neg h) e
theorem ev_b {α β : Type} {o : Option α} {a : α} {f : Nat → α → Option β} {r : β} (h : o = some a) (e : Ev (fun k => f k a) r) : Ev (fun k => o.bind (f k)) r := by subst h; exact e
theorem ev_eq {α : Type} {g : Nat → Option α} {r q : α} (e : Ev g r) (h : r = q) : Ev g q := h ▸ e
theorem ev_some {α : Type} {r q : α} (h : r = q) : Ev (fun _ => some r) q := h ▸ Ev.now r
/-- Down from a list's end. -/
theorem idx_ind {α : Type} (l : List α) (P : Nat → Prop) (hend : P l.length) (hstep : ∀ i, i < l.length → P (i + 1) → P i) : ∀ i, i ≤ l.length → P i := by
  have key : ∀ d i, i + d = l.length → P i := by
    intro d
    induction d with
    | zero => intro i h; have : i = l.length := by omega
              rw [this]; exact hend
    | succ d ih => intro i h; exact hstep i (by omega) (ih (i + 1) (by omega))
  intro i h
  exact key (l.length - i) i (by omega)
theorem rdOf_at {α : Type} (d : α) (l : List α) (i : Nat) (h : i < l.length) : rdOf d l (i : Int) = l[i] := by
  simp [rdOf, List.getD, h]
theorem drop_at {α : Type} (l : List α) (i : Nat) (h : i < l.length) : l.drop i = l[i] :: l.drop (i + 1) := List.drop_eq_getElem_cons h
theorem wsucc {i n : Nat} (h : i < n) (hn : n ≤ 9223372036854775807) : wrap64 ((i : Int) + 1) = ((i + 1 : Nat) : Int) := by
  rw [w64 (by omega) (by omega)]; rfl

theorem implIn (a b c : Int) : impl_in.f a b c = some (decide (b ≤ a ∧ a ≤ c)) := by
  unfold impl_in.f
  by_cases h : a ≥ b
  · rw [if_pos h]; simp [h]
  · rw [if_neg h]; simp; intro h2; omega

theorem specIn (a b c : Int) : spec_l00In.f a b c = some (decide (b ≤ a ∧ a ≤ c)) := by
  unfold spec_l00In.f
  by_cases h : a ≥ b
  · rw [if_pos h]; simp [h]
  · rw [if_neg h]; simp; intro h2; omega

/-- An element, taken over. -/
def cvLease (x : S63) : S63 := ⟨x.f0, x.f1⟩
theorem rdILease (l : List S63) (i : Nat) (h : i < l.length) : rd_T63 l (i : Int) = l[i] := by
  simp [rd_T63, List.getD, h]
theorem rdOLease (l : List S63) (i : Nat) (h : i < l.length) : rd_T63 l (i : Int) = l[i] := by
  simp [rd_T63, List.getD, h]
theorem rdSLease (l : List S63) (i : Nat) (v : S63) (h : i < l.length) : rd_T63 (l.set i v) (i : Int) = v := by
  simp [rd_T63, List.getD, h]

/-- An element, taken over. -/
def cvMark (x : S73) : S73 := ⟨x.f0, x.f1⟩
theorem rdIMark (l : List S73) (i : Nat) (h : i < l.length) : rd_T73 l (i : Int) = l[i] := by
  simp [rd_T73, List.getD, h]
theorem rdOMark (l : List S73) (i : Nat) (h : i < l.length) : rd_T73 l (i : Int) = l[i] := by
  simp [rd_T73, List.getD, h]
theorem rdSMark (l : List S73) (i : Nat) (v : S73) (h : i < l.length) : rd_T73 (l.set i v) (i : Int) = v := by
  simp [rd_T73, List.getD, h]

abbrev TL := S63
abbrev TM := S73
/-- A lease in order. -/
def LOk (x : TL) : Prop := (1 ≤ x.f0 ∧ x.f0 ≤ 1000) ∧ (0 ≤ x.f1 ∧ x.f1 ≤ 1000000)
instance (x : TL) : Decidable (LOk x) := by unfold LOk; infer_instance
def MOk (x : TM) : Prop := (1 ≤ x.f0 ∧ x.f0 ≤ 1000) ∧ (0 ≤ x.f1 ∧ x.f1 ≤ 1000000000)
instance (x : TM) : Decidable (MOk x) := by unfold MOk; infer_instance
/-- Leases in order, behind a member. -/
def lOk (p : Int) : List TL → Bool
  | [] => true
  | x :: r => decide (LOk x ∧ p < x.f0) && lOk x.f0 r
def mOk (p : Int) : List TM → Bool
  | [] => true
  | x :: r => decide (MOk x ∧ p < x.f0) && mOk x.f0 r
theorem iMember (a : Int) : impl_isMember.f a = some (decide (1 ≤ a ∧ a ≤ 1000)) := by
  unfold impl_isMember.f
  rw [implIn]; rfl
theorem iTick (a : Int) : impl_isTick.f a = some (decide (0 ≤ a ∧ a ≤ 1000000)) := by
  unfold impl_isTick.f
  rw [implIn]; rfl
theorem sMember (a : Int) : spec_l01Member.f a = some (decide (1 ≤ a ∧ a ≤ 1000)) := by
  unfold spec_l01Member.f
  rw [specIn]; rfl
theorem sTick (a : Int) : spec_l01Tick.f a = some (decide (0 ≤ a ∧ a ≤ 1000000)) := by
  unfold spec_l01Tick.f
  rw [specIn]; rfl
theorem wpred {i : Nat} (h : 0 < i) (hi : i ≤ 100000000) : wrap64 ((i : Int) - 1) = ((i - 1 : Nat) : Int) := by
  rw [w64 (by omega) (by omega)]; omega
/-- Are leases in order, and not too many? -/
def leasesV (l : List TL) : Bool := lOk 0 l && decide (l.length ≤ 30)
theorem implLeases (l : List TL) (hl : l.length ≤ 100000000) : Ev (fun k => impl_leasesOk.f k l) (leasesV l) := by
  have key := idx_ind l (fun i => ∀ p : Int, (i = 0 → p = 0) → (∀ h : 0 < i, ∀ h2 : i ≤ l.length, (l[i - 1]'(by omega)).f0 = p) → Ev (fun k => impl_leasesOk.l0 k l l (l.length : Int) (i : Int)) (lOk p (l.drop i) && decide (l.length ≤ 30))) ?_ ?_
  · exact key 0 (Nat.zero_le _) 0 (fun _ => rfl) (fun h => by omega)
  · intro p _ _
    refine Ev.step (fun k => by rw [impl_leasesOk.l0]) ?_
    refine ev_neg (by omega) (ev_some ?_)
    simp [lOk]
    omega
  · intro i hi ih p h0 hprev
    refine Ev.step (fun k => by rw [impl_leasesOk.l0]) ?_
    rw [rdOLease l i hi, drop_at l i hi]
    refine ev_pos (by omega) (ev_pos (by omega) (ev_pos (by omega) (ev_b (iMember _) ?_)))
    by_cases a1 : 1 ≤ l[i].f0 ∧ l[i].f0 ≤ 1000
    · refine ev_pos (by simpa using a1) (ev_b (iTick _) ?_)
      by_cases a2 : 0 ≤ l[i].f1 ∧ l[i].f1 ≤ 1000000
      · refine ev_pos (by simpa using a2) ?_
        have next := ih l[i].f0 (fun h => by omega) (fun _ _ => rfl)
        have ok : LOk l[i] := ⟨a1, a2⟩
        by_cases h1 : 0 < i
        · rw [wpred h1 (by omega), rdOLease l (i - 1) (by omega), hprev h1 (by omega)]
          refine ev_pos (by omega) (ev_pos (by omega) (ev_pos (by omega) ?_))
          by_cases hp2 : p < l[i].f0
          · refine ev_neg (by omega) ?_
            rw [wsucc hi (by omega)]
            refine ev_eq next ?_
            simp [lOk, ok, hp2]
          · refine ev_pos (by omega) (ev_some ?_)
            simp [lOk, hp2]
        · have hp0 := h0 (by omega)
          have hp2 : p < l[i].f0 := by omega
          refine ev_neg (by omega) ?_
          rw [wsucc hi (by omega)]
          refine ev_eq next ?_
          simp [lOk, ok, hp2]
      · refine ev_neg (by simpa using a2) (ev_some ?_)
        have : ¬ LOk l[i] := fun h => a2 h.2
        simp [lOk, this]
    · refine ev_neg (by simpa using a1) (ev_some ?_)
      have : ¬ LOk l[i] := fun h => a1 h.1
      simp [lOk, this]
theorem specLeases (l : List TL) (hl : l.length ≤ 100000000) : Ev (fun k => spec_l05Leases.f k l) (leasesV l) := by
  have key := idx_ind l (fun i => ∀ p : Int, (i = 0 → p = 0) → (∀ h : 0 < i, ∀ h2 : i ≤ l.length, (l[i - 1]'(by omega)).f0 = p) → Ev (fun k => spec_l05Leases.l0 k l (l.length : Int) (i : Int)) (lOk p (l.drop i) && decide (l.length ≤ 30))) ?_ ?_
  · exact key 0 (Nat.zero_le _) 0 (fun _ => rfl) (fun h => by omega)
  · intro p _ _
    refine Ev.step (fun k => by rw [spec_l05Leases.l0]) ?_
    refine ev_neg (by omega) (ev_some ?_)
    simp [lOk]
    omega
  · intro i hi ih p h0 hprev
    refine Ev.step (fun k => by rw [spec_l05Leases.l0]) ?_
    rw [rdOLease l i hi, drop_at l i hi]
    refine ev_pos (by omega) (ev_pos (by omega) (ev_pos (by omega) (ev_b (sMember _) ?_)))
    by_cases a1 : 1 ≤ l[i].f0 ∧ l[i].f0 ≤ 1000
    · refine ev_pos (by simpa using a1) (ev_b (sTick _) ?_)
      by_cases a2 : 0 ≤ l[i].f1 ∧ l[i].f1 ≤ 1000000
      · refine ev_pos (by simpa using a2) ?_
        have next := ih l[i].f0 (fun h => by omega) (fun _ _ => rfl)
        have ok : LOk l[i] := ⟨a1, a2⟩
        by_cases h1 : 0 < i
        · rw [wpred h1 (by omega), rdOLease l (i - 1) (by omega), hprev h1 (by omega)]
          refine ev_pos (by omega) (ev_pos (by omega) (ev_pos (by omega) ?_))
          by_cases hp2 : p < l[i].f0
          · refine ev_neg (by omega) ?_
            rw [wsucc hi (by omega)]
            refine ev_eq next ?_
            simp [lOk, ok, hp2]
          · refine ev_pos (by omega) (ev_some ?_)
            simp [lOk, hp2]
        · have hp0 := h0 (by omega)
          have hp2 : p < l[i].f0 := by omega
          refine ev_neg (by omega) ?_
          rw [wsucc hi (by omega)]
          refine ev_eq next ?_
          simp [lOk, ok, hp2]
      · refine ev_neg (by simpa using a2) (ev_some ?_)
        have : ¬ LOk l[i] := fun h => a2 h.2
        simp [lOk, this]
    · refine ev_neg (by simpa using a1) (ev_some ?_)
      have : ¬ LOk l[i] := fun h => a1 h.1
      simp [lOk, this]
/-- Is a presence in order? -/
def presV (h t : List TL) (m : List TM) : Bool := mOk 0 m && (leasesV h && (leasesV t && decide (m.length ≤ 30)))
theorem implPres (h t : List TL) (m : List TM) (hh : h.length ≤ 100000000) (ht : t.length ≤ 100000000) (hm : m.length ≤ 100000000) : Ev (fun k => impl_ValidPresence.f k h t m) (presV h t m) := by
  unfold presV
  have key := idx_ind m (fun i => ∀ p : Int, (i = 0 → p = 0) → (∀ h : 0 < i, ∀ h2 : i ≤ m.length, (m[i - 1]'(by omega)).f0 = p) → Ev (fun k => impl_ValidPresence.l0 k m (m.length : Int) (i : Int) h t m) (mOk p (m.drop i) && (leasesV h && (leasesV t && decide (m.length ≤ 30))))) ?_ ?_
  · exact key 0 (Nat.zero_le _) 0 (fun _ => rfl) (fun h => by omega)
  · intro p _ _
    refine Ev.step (fun k => by rw [impl_ValidPresence.l0]) ?_
    refine ev_neg (by omega) (Ev.bind (implLeases h hh) ?_)
    rw [List.drop_length, mOk, Bool.true_and]
    by_cases c1 : leasesV h = true
    · refine ev_pos c1 (Ev.bind (implLeases t ht) ?_)
      rw [c1, Bool.true_and]
      by_cases c2 : leasesV t = true
      · refine ev_pos c2 (ev_some ?_)
        rw [c2, Bool.true_and, decide_eq_decide]
        omega
      · refine ev_neg c2 (ev_some ?_)
        rw [(Bool.not_eq_true _).mp c2, Bool.false_and]
    · refine ev_neg c1 (ev_some ?_)
      rw [(Bool.not_eq_true _).mp c1, Bool.false_and]
  · intro i hi ih p h0 hprev
    refine Ev.step (fun k => by rw [impl_ValidPresence.l0]) ?_
    rw [rdOMark m i hi, drop_at m i hi]
    refine ev_pos (by omega) (ev_pos (by omega) (ev_pos (by omega) (ev_b (iMember _) ?_)))
    by_cases a1 : 1 ≤ m[i].f0 ∧ m[i].f0 ≤ 1000
    · refine ev_pos (by simpa using a1) (ev_b (implIn _ _ _) ?_)
      by_cases a2 : 0 ≤ m[i].f1 ∧ m[i].f1 ≤ 1000000000
      · refine ev_pos (by simpa using a2) ?_
        have next := ih m[i].f0 (fun h => by omega) (fun _ _ => rfl)
        have ok : MOk m[i] := ⟨a1, a2⟩
        by_cases h1 : 0 < i
        · rw [wpred h1 (by omega), rdOMark m (i - 1) (by omega), hprev h1 (by omega)]
          refine ev_pos (by omega) (ev_pos (by omega) (ev_pos (by omega) ?_))
          by_cases hp2 : p < m[i].f0
          · refine ev_neg (by omega) ?_
            rw [wsucc hi (by omega)]
            refine ev_eq next ?_
            simp [mOk, ok, hp2]
          · refine ev_pos (by omega) (ev_some ?_)
            simp [mOk, hp2]
        · have hp0 := h0 (by omega)
          have hp2 : p < m[i].f0 := by omega
          refine ev_neg (by omega) ?_
          rw [wsucc hi (by omega)]
          refine ev_eq next ?_
          simp [mOk, ok, hp2]
      · refine ev_neg (by simpa using a2) (ev_some ?_)
        have : ¬ MOk m[i] := fun h => a2 h.2
        simp [mOk, this]
    · refine ev_neg (by simpa using a1) (ev_some ?_)
      have : ¬ MOk m[i] := fun h => a1 h.1
      simp [mOk, this]
theorem specPres (h t : List TL) (m : List TM) (hh : h.length ≤ 100000000) (ht : t.length ≤ 100000000) (hm : m.length ≤ 100000000) : Ev (fun k => spec_l05Is.f k h t m) (presV h t m) := by
  unfold presV
  have key := idx_ind m (fun i => ∀ p : Int, (i = 0 → p = 0) → (∀ h : 0 < i, ∀ h2 : i ≤ m.length, (m[i - 1]'(by omega)).f0 = p) → Ev (fun k => spec_l05Is.l0 k (m.length : Int) (i : Int) h t m) (mOk p (m.drop i) && (leasesV h && (leasesV t && decide (m.length ≤ 30))))) ?_ ?_
  · exact key 0 (Nat.zero_le _) 0 (fun _ => rfl) (fun h => by omega)
  · intro p _ _
    refine Ev.step (fun k => by rw [spec_l05Is.l0]) ?_
    rw [List.drop_length, mOk, Bool.true_and]
    refine ev_neg (by omega) ?_
    by_cases c3 : m.length ≤ 30
    · refine ev_pos (by omega) (Ev.bind (specLeases h hh) ?_)
      by_cases c1 : leasesV h = true
      · refine ev_pos c1 (Ev.bind (specLeases t ht) (ev_some ?_))
        rw [c1, Bool.true_and, decide_eq_true c3, Bool.and_true]
      · refine ev_neg c1 (ev_some ?_)
        rw [(Bool.not_eq_true _).mp c1, Bool.false_and]
    · refine ev_neg (by omega) (ev_some ?_)
      rw [decide_eq_false c3, Bool.and_false, Bool.and_false]
  · intro i hi ih p h0 hprev
    refine Ev.step (fun k => by rw [spec_l05Is.l0]) ?_
    rw [rdOMark m i hi, drop_at m i hi]
    refine ev_pos (by omega) (ev_pos (by omega) (ev_pos (by omega) (ev_b (sMember _) ?_)))
    by_cases a1 : 1 ≤ m[i].f0 ∧ m[i].f0 ≤ 1000
    · refine ev_pos (by simpa using a1) (ev_b (specIn _ _ _) ?_)
      by_cases a2 : 0 ≤ m[i].f1 ∧ m[i].f1 ≤ 1000000000
      · refine ev_pos (by simpa using a2) ?_
        have next := ih m[i].f0 (fun h => by omega) (fun _ _ => rfl)
        have ok : MOk m[i] := ⟨a1, a2⟩
        by_cases h1 : 0 < i
        · rw [wpred h1 (by omega), rdOMark m (i - 1) (by omega), hprev h1 (by omega)]
          refine ev_pos (by omega) (ev_pos (by omega) (ev_pos (by omega) ?_))
          by_cases hp2 : p < m[i].f0
          · refine ev_neg (by omega) ?_
            rw [wsucc hi (by omega)]
            refine ev_eq next ?_
            simp [mOk, ok, hp2]
          · refine ev_pos (by omega) (ev_some ?_)
            simp [mOk, hp2]
        · have hp0 := h0 (by omega)
          have hp2 : p < m[i].f0 := by omega
          refine ev_neg (by omega) ?_
          rw [wsucc hi (by omega)]
          refine ev_eq next ?_
          simp [mOk, ok, hp2]
      · refine ev_neg (by simpa using a2) (ev_some ?_)
        have : ¬ MOk m[i] := fun h => a2 h.2
        simp [mOk, this]
    · refine ev_neg (by simpa using a1) (ev_some ?_)
      have : ¬ MOk m[i] := fun h => a1 h.1
      simp [mOk, this]
theorem presV_len {h t : List TL} {m : List TM} (c : presV h t m = true) : h.length ≤ 30 ∧ t.length ≤ 30 ∧ m.length ≤ 30 := by
  unfold presV leasesV at c
  simp only [Bool.and_eq_true, decide_eq_true_eq] at c
  exact ⟨c.2.1.2, c.2.2.1.2, c.2.2.2⟩

theorem cloneP (h t : List TL) (m : List TM) (hh : h.length ≤ 1048576) (ht : t.length ≤ 1048576) (hm : m.length ≤ 1048576) : impl_clonePresence.f h t m = some (h, t, m) := by
  unfold impl_clonePresence.f impl_Lease_113.f impl_Mark_114.f
  rw [if_pos (by omega), if_pos (by omega), if_pos (by omega)]; rfl
theorem ownP (h t : List TL) (m : List TM) (hh : h.length ≤ 1048576) (ht : t.length ≤ 1048576) (hm : m.length ≤ 1048576) : spec_l05Own.f h t m = some (h, t, m) := by
  unfold spec_l05Own.f
  simp only [Option.bind_some, List.length_nil, List.nil_append]
  rw [if_pos (by omega), if_pos (by omega), if_pos (by omega)]

theorem u64w {n : Int} (h : 0 ≤ n) (h2 : n < 18446744073709551616) : IntKind.u64.wrap n = n := by
  simp [IntKind.wrap, IntKind.signed, IntKind.bits]
  omega
theorem half {i j : Nat} (h : i + j ≤ 100000000) : wrap64 ((IntKind.u64.wrap (wrap64 ((i : Int) + (j : Int)))) / 2) = (((i + j) / 2 : Nat) : Int) := by
  rw [w64 (n := (i : Int) + (j : Int)) (by omega) (by omega), u64w (by omega) (by omega), w64 (by omega) (by omega)]
  omega
theorem specMax (a b : Int) : spec_l00Max.f a b = some (mx a b) := by
  unfold spec_l00Max.f mx
  by_cases c : a > b
  · rw [if_pos c, if_neg (by omega)]
  · rw [if_neg c]
    congr 1
    by_cases d : a < b
    · rw [if_pos d]
    · rw [if_neg d]; omega

/-- Leases with one of a member that lasts at least until a tick. -/
def putL (a v : Int) : List TL → List TL
  | [] => [⟨a, v⟩]
  | x :: r => if x.f0 < a then x :: putL a v r else if x.f0 = a then ⟨x.f0, mx x.f1 v⟩ :: r else ⟨a, v⟩ :: x :: r
theorem putL_len (a v : Int) : ∀ l, (putL a v l).length ≤ l.length + 1
  | [] => by simp [putL]
  | x :: r => by
    have := putL_len a v r
    unfold putL
    split
    · simp; omega
    · split
      · simp
      · simp
theorem putL_has (a v : Int) : ∀ l, ∃ y ∈ putL a v l, y.f0 = a ∧ v ≤ y.f1
  | [] => ⟨⟨a, v⟩, by simp [putL], rfl, Int.le_refl _⟩
  | x :: r => by
    unfold putL
    split
    · obtain ⟨y, hy, e⟩ := putL_has a v r
      exact ⟨y, List.mem_cons_of_mem _ hy, e⟩
    · split
      · rename_i c
        refine ⟨_, List.mem_cons_self, c, ?_⟩
        show v ≤ mx x.f1 v
        unfold mx
        split <;> omega
      · exact ⟨_, List.mem_cons_self, rfl, Int.le_refl _⟩
theorem lOk_all : ∀ (l : List TL) (p : Int), lOk p l = true → ∀ x ∈ l, LOk x ∧ p < x.f0
  | [], _, _, x, hx => by cases hx
  | y :: r, p, h, x, hx => by
    unfold lOk at h
    simp only [Bool.and_eq_true, decide_eq_true_eq] at h
    rcases List.mem_cons.1 hx with e | e
    · subst e; exact h.1
    · have := lOk_all r _ h.2 x e
      exact ⟨this.1, by omega⟩
theorem lOk_up : ∀ (l : List TL) (p : Int), lOk p l = true → l.Pairwise (fun x y => x.f0 < y.f0)
  | [], _, _ => List.Pairwise.nil
  | y :: r, p, h => by
    unfold lOk at h
    simp only [Bool.and_eq_true, decide_eq_true_eq] at h
    exact List.pairwise_cons.2 ⟨fun x hx => (lOk_all r _ h.2 x hx).2, lOk_up r _ h.2⟩
theorem lOk_member {a v p : Int} {l : List TL} (h : lOk p (putL a v l) = true) : (1 ≤ a ∧ a ≤ 1000) ∧ v ≤ 1000000 := by
  obtain ⟨y, hy, e, e2⟩ := putL_has a v l
  have := (lOk_all _ _ h y hy).1
  unfold LOk at this
  rw [e] at this
  exact ⟨this.1, by omega⟩
theorem putL_skip (a v : Int) : ∀ (l : List TL) (i : Nat), i ≤ l.length → (∀ j, j < i → ∀ h : j < l.length, l[j].f0 < a) → putL a v l = l.take i ++ putL a v (l.drop i)
  | l, 0, _, _ => by simp
  | [], i + 1, h, _ => by simp at h
  | x :: r, i + 1, h, hj => by
    have h0 := hj 0 (by omega) (by simp)
    have ih := putL_skip a v r i (by simpa using h) (fun j h1 h2 => by
      have := hj (j + 1) (by omega) (by simpa using h2)
      simpa only [List.getElem_cons_succ] using this)
    rw [putL, if_pos (by simpa using h0), ih]
    simp
theorem cmpL (x y a : Int) : impl_leased_1_n92.f x y a = some (if x < a then -1 else if x > a then 1 else 0) := by
  have e : ∀ b : Int, cmp_isNaN_int64_n115.f b = some false := fun b => by simp [cmp_isNaN_int64_n115.f]
  unfold impl_leased_1_n92.f cmp_Compare_int64_n93.f
  rw [e, e]
  simp only [Option.bind_some]
  rw [if_neg (by simp), if_neg (by simp)]
  split
  · rfl
  · split <;> rfl
theorem placeL (a : Int) : ∀ (l : List TL), l.Pairwise (fun x y => x.f0 < y.f0) → ∃ p : Nat, p ≤ l.length ∧ (∀ j, j < p → ∀ h : j < l.length, l[j].f0 < a) ∧ ∀ j, p ≤ j → ∀ h : j < l.length, a ≤ l[j].f0
  | [], _ => ⟨0, by simp, fun j h => by omega, fun j _ h => by simp at h⟩
  | x :: r, up => by
    obtain ⟨u1, u2⟩ := List.pairwise_cons.1 up
    by_cases c : x.f0 < a
    · obtain ⟨p, p1, p2, p3⟩ := placeL a r u2
      refine ⟨p + 1, by simpa using p1, fun j hj h => ?_, fun j hj h => ?_⟩
      · cases j with
        | zero => simpa using c
        | succ j => simpa using p2 j (by omega) (by simpa using h)
      · cases j with
        | zero => omega
        | succ j => simpa using p3 j (by omega) (by simpa using h)
    · refine ⟨0, by simp, fun j h => by omega, fun j _ h => ?_⟩
      cases j with
      | zero => simp only [List.getElem_cons_zero]; omega
      | succ j =>
        have hr : j < r.length := by simpa using h
        have := u1 r[j] (List.getElem_mem _)
        simp only [List.getElem_cons_succ]
        omega
/-- The place of a member. -/
theorem srchL (l : List TL) (hl : l.length ≤ 1048576) (a : Int) (p : Nat) (hp : p ≤ l.length) (h1 : ∀ j, j < p → ∀ h : j < l.length, l[j].f0 < a) (h2 : ∀ j, p ≤ j → ∀ h : j < l.length, a ≤ l[j].f0) : Ev (fun k => impl_Lease_int64_v1.f k l a) ((p : Int), decide (∃ h : p < l.length, l[p].f0 = a)) := by
  unfold impl_Lease_int64_v1.f
  have key : ∀ d i j : Nat, j - i ≤ d → i ≤ p → p ≤ j → j ≤ l.length → Ev (fun k => impl_Lease_int64_v1.l0 k l a (l.length : Int) (i : Int) (j : Int)) ((p : Int), decide (∃ h : p < l.length, l[p].f0 = a)) := by
    intro d
    induction d with
    | zero =>
      intro i j hd hi hj hn
      have e2 : i = j := by omega
      have e : i = p := by omega
      subst e2
      subst e
      refine Ev.step (fun k => by rw [impl_Lease_int64_v1.l0]) (ev_neg (by omega) ?_)
      by_cases c : i < l.length
      · rw [rdOLease l i c]
        refine ev_pos (by omega) (ev_pos (by omega) (ev_pos (by omega) (ev_b (cmpL _ _ _) (ev_some ?_))))
        have := h2 i (Nat.le_refl _) c
        by_cases c2 : l[i].f0 = a
        · rw [if_neg (by omega), if_neg (by omega), decide_eq_true (show ∃ h : i < l.length, l[i].f0 = a from ⟨c, c2⟩)]
          rfl
        · rw [if_neg (by omega), if_pos (by omega), decide_eq_false (fun z => c2 z.2)]
          rfl
      · refine ev_neg (by omega) (ev_some ?_)
        rw [decide_eq_false (fun z => c z.1)]
    | succ d ih =>
      intro i j hd hi hj hn
      by_cases e : i = j
      · exact ih i j (by omega) hi hj hn
      · refine Ev.step (fun k => by rw [impl_Lease_int64_v1.l0]) (ev_pos (by omega) ?_)
        rw [half (by omega)]
        have hm : (i + j) / 2 < l.length := by omega
        rw [rdOLease l _ hm]
        refine ev_pos (by omega) (ev_pos (by omega) (ev_b (cmpL _ _ _) ?_))
        by_cases c : l[(i + j) / 2].f0 < a
        · rw [if_pos c, wsucc hm (by omega)]
          have : (i + j) / 2 < p := by
            rcases Nat.lt_or_ge ((i + j) / 2) p with z | z
            · exact z
            · have := h2 _ z hm
              omega
          exact ev_pos (by omega) (ih _ _ (by omega) (by omega) hj hn)
        · rw [if_neg c]
          have : p ≤ (i + j) / 2 := by
            rcases Nat.lt_or_ge ((i + j) / 2) p with z | z
            · have := h1 _ z hm
              omega
            · exact z
          refine ev_neg (by split <;> omega) (ih _ _ (by omega) hi this (by omega))
  exact key l.length 0 l.length (by omega) (by omega) hp (Nat.le_refl _)
theorem leasedL (l : List TL) (hl : l.length ≤ 1048576) (a v : Int) (up : l.Pairwise (fun x y => x.f0 < y.f0)) : Ev (fun k => impl_leased_n44.f k l a v) (putL a v l) := by
  unfold impl_leased_n44.f
  obtain ⟨p, hp, h1, h2⟩ := placeL a l up
  refine Ev.bind (srchL l hl a p hp h1 h2) ?_
  have sk := putL_skip a v l p hp h1
  by_cases c : ∃ h : p < l.length, l[p].f0 = a
  · obtain ⟨c1, c2⟩ := c
    simp only []
    rw [rdOLease l p c1]
    refine ev_pos (decide_eq_true ⟨c1, c2⟩) (ev_pos (by omega) (ev_pos (by omega) (ev_some ?_)))
    rw [sk, drop_at l p c1, putL, if_neg (by omega), if_pos c2, Int.toNat_natCast, List.set_eq_take_append_cons_drop, if_pos c1]
  · refine ev_neg (by simpa using c) (ev_b ?_ (Ev.now _))
    unfold impl_Lease_n94.f
    rw [if_pos ⟨by omega, by simpa using hp, by simp, by simp; omega⟩, sk, Int.toNat_natCast]
    congr 1
    by_cases c1 : p < l.length
    · have := h2 p (Nat.le_refl _) c1
      rw [drop_at l p c1, putL, if_neg (by omega), if_neg (fun z => c ⟨c1, z⟩)]
      simp
    · rw [List.drop_eq_nil_of_le (by omega)]
      simp [putL]
theorem specPut (l : List TL) (hl : l.length ≤ 1048576) (a v : Int) : Ev (fun k => spec_l05Put.f k l a v) (putL a v l) := by
  unfold spec_l05Put.f
  have key := idx_ind l (fun i => (∀ out : List TL, out.length ≤ i + 1 → Ev (fun k => spec_l05Put.l0 k l a v out true (l.length : Int) (i : Int)) (out ++ l.drop i)) ∧ ∀ out : List TL, out.length ≤ i → Ev (fun k => spec_l05Put.l0 k l a v out false (l.length : Int) (i : Int)) (out ++ putL a v (l.drop i))) ?_ ?_ 0 (Nat.zero_le _)
  · simpa using key.2 [] (Nat.zero_le _)
  · constructor
    · intro out ho
      refine Ev.step (fun k => by rw [spec_l05Put.l0]) ?_
      exact ev_neg (by omega) (ev_pos rfl (ev_some (by simp)))
    · intro out ho
      refine Ev.step (fun k => by rw [spec_l05Put.l0]) ?_
      exact ev_neg (by omega) (ev_neg (by simp) (ev_pos (by omega) (ev_some (by simp [putL]))))
  · intro i hi ih
    constructor
    · intro out ho
      refine Ev.step (fun k => by rw [spec_l05Put.l0]) ?_
      rw [rdOLease l i hi]
      refine ev_pos (by omega) (ev_pos (by omega) (ev_pos (by omega) (ev_pos rfl ?_)))
      refine Ev.step (fun k => by rw [spec_l05Put.j1]) (ev_neg (by simp) (ev_pos (by omega) ?_))
      rw [wsucc hi (by omega), drop_at l i hi]
      exact ev_eq (ih.1 (out ++ [l[i]]) (by simp; omega)) (by simp)
    · intro out ho
      refine Ev.step (fun k => by rw [spec_l05Put.l0]) ?_
      rw [rdOLease l i hi]
      refine ev_pos (by omega) (ev_pos (by omega) (ev_pos (by omega) (ev_neg (by simp) ?_)))
      refine Ev.step (fun k => by rw [spec_l05Put.j1]) ?_
      rw [wsucc hi (by omega)]
      by_cases c : l[i].f0 < a
      · refine ev_neg (by simp; omega) (ev_pos (by omega) ?_)
        refine ev_eq (ih.2 (out ++ [l[i]]) (by simp; omega)) ?_
        rw [drop_at l i hi, putL, if_pos c]
        simp
      · refine ev_pos (by simp; omega) ?_
        rw [drop_at l i hi, putL, if_neg c]
        by_cases d : l[i].f0 = a
        · rw [if_pos d]
          refine ev_pos d (ev_b (specMax _ _) (ev_pos (by omega) ?_))
          exact ev_eq (ih.1 (out ++ [⟨l[i].f0, mx l[i].f1 v⟩]) (by simp; omega)) (by simp)
        · rw [if_neg d]
          refine ev_neg d (ev_pos (by omega) (ev_b rfl (ev_pos (by simp; omega) ?_)))
          exact ev_eq (ih.1 (out ++ [⟨a, v⟩] ++ [l[i]]) (by simp; omega)) (by simp)

/-- Marks with one of a member that is at least a number. -/
def putM (a v : Int) : List TM → List TM
  | [] => [⟨a, v⟩]
  | x :: r => if x.f0 < a then x :: putM a v r else if x.f0 = a then ⟨x.f0, mx x.f1 v⟩ :: r else ⟨a, v⟩ :: x :: r
theorem putM_len (a v : Int) : ∀ l, (putM a v l).length ≤ l.length + 1
  | [] => by simp [putM]
  | x :: r => by
    have := putM_len a v r
    unfold putM
    split
    · simp; omega
    · split
      · simp
      · simp
theorem putM_has (a v : Int) : ∀ l, ∃ y ∈ putM a v l, y.f0 = a
  | [] => ⟨⟨a, v⟩, by simp [putM], rfl⟩
  | x :: r => by
    unfold putM
    split
    · obtain ⟨y, hy, e⟩ := putM_has a v r
      exact ⟨y, List.mem_cons_of_mem _ hy, e⟩
    · split
      · rename_i c
        exact ⟨_, List.mem_cons_self, c⟩
      · exact ⟨_, List.mem_cons_self, rfl⟩
theorem mOk_mem : ∀ (l : List TM) (p : Int), mOk p l = true → ∀ x ∈ l, MOk x ∧ p < x.f0
  | [], _, _, x, hx => by cases hx
  | y :: r, p, h, x, hx => by
    unfold mOk at h
    simp only [Bool.and_eq_true, decide_eq_true_eq] at h
    rcases List.mem_cons.1 hx with e | e
    · subst e; exact h.1
    · have := mOk_mem r _ h.2 x e
      exact ⟨this.1, by omega⟩
theorem mOk_up : ∀ (l : List TM) (p : Int), mOk p l = true → l.Pairwise (fun x y => x.f0 < y.f0)
  | [], _, _ => List.Pairwise.nil
  | y :: r, p, h => by
    unfold mOk at h
    simp only [Bool.and_eq_true, decide_eq_true_eq] at h
    exact List.pairwise_cons.2 ⟨fun x hx => (mOk_mem r _ h.2 x hx).2, mOk_up r _ h.2⟩
theorem mOk_member {a v p : Int} {l : List TM} (h : mOk p (putM a v l) = true) : 1 ≤ a ∧ a ≤ 1000 := by
  obtain ⟨y, hy, e⟩ := putM_has a v l
  have := (mOk_mem _ _ h y hy).1.1
  rw [e] at this
  exact this
theorem putM_skip (a v : Int) : ∀ (l : List TM) (i : Nat), i ≤ l.length → (∀ j, j < i → ∀ h : j < l.length, l[j].f0 < a) → putM a v l = l.take i ++ putM a v (l.drop i)
  | l, 0, _, _ => by simp
  | [], i + 1, h, _ => by simp at h
  | x :: r, i + 1, h, hj => by
    have h0 := hj 0 (by omega) (by simp)
    have ih := putM_skip a v r i (by simpa using h) (fun j h1 h2 => by
      have := hj (j + 1) (by omega) (by simpa using h2)
      simpa only [List.getElem_cons_succ] using this)
    rw [putM, if_pos (by simpa using h0), ih]
    simp
theorem cmpM (x y a : Int) : impl_marked_1_n106.f x y a = some (if x < a then -1 else if x > a then 1 else 0) := by
  have e : ∀ b : Int, cmp_isNaN_int64_n115.f b = some false := fun b => by simp [cmp_isNaN_int64_n115.f]
  unfold impl_marked_1_n106.f cmp_Compare_int64_n93.f
  rw [e, e]
  simp only [Option.bind_some]
  rw [if_neg (by simp), if_neg (by simp)]
  split
  · rfl
  · split <;> rfl
theorem placeM (a : Int) : ∀ (l : List TM), l.Pairwise (fun x y => x.f0 < y.f0) → ∃ p : Nat, p ≤ l.length ∧ (∀ j, j < p → ∀ h : j < l.length, l[j].f0 < a) ∧ ∀ j, p ≤ j → ∀ h : j < l.length, a ≤ l[j].f0
  | [], _ => ⟨0, by simp, fun j h => by omega, fun j _ h => by simp at h⟩
  | x :: r, up => by
    obtain ⟨u1, u2⟩ := List.pairwise_cons.1 up
    by_cases c : x.f0 < a
    · obtain ⟨p, p1, p2, p3⟩ := placeM a r u2
      refine ⟨p + 1, by simpa using p1, fun j hj h => ?_, fun j hj h => ?_⟩
      · cases j with
        | zero => simpa using c
        | succ j => simpa using p2 j (by omega) (by simpa using h)
      · cases j with
        | zero => omega
        | succ j => simpa using p3 j (by omega) (by simpa using h)
    · refine ⟨0, by simp, fun j h => by omega, fun j _ h => ?_⟩
      cases j with
      | zero => simp only [List.getElem_cons_zero]; omega
      | succ j =>
        have hr : j < r.length := by simpa using h
        have := u1 r[j] (List.getElem_mem _)
        simp only [List.getElem_cons_succ]
        omega
/-- The place of a member. -/
theorem srchM (l : List TM) (hl : l.length ≤ 1048576) (a : Int) (p : Nat) (hp : p ≤ l.length) (h1 : ∀ j, j < p → ∀ h : j < l.length, l[j].f0 < a) (h2 : ∀ j, p ≤ j → ∀ h : j < l.length, a ≤ l[j].f0) : Ev (fun k => impl_Mark_int64_v2.f k l a) ((p : Int), decide (∃ h : p < l.length, l[p].f0 = a)) := by
  unfold impl_Mark_int64_v2.f
  have key : ∀ d i j : Nat, j - i ≤ d → i ≤ p → p ≤ j → j ≤ l.length → Ev (fun k => impl_Mark_int64_v2.l0 k l a (l.length : Int) (i : Int) (j : Int)) ((p : Int), decide (∃ h : p < l.length, l[p].f0 = a)) := by
    intro d
    induction d with
    | zero =>
      intro i j hd hi hj hn
      have e2 : i = j := by omega
      have e : i = p := by omega
      subst e2
      subst e
      refine Ev.step (fun k => by rw [impl_Mark_int64_v2.l0]) (ev_neg (by omega) ?_)
      by_cases c : i < l.length
      · rw [rdOMark l i c]
        refine ev_pos (by omega) (ev_pos (by omega) (ev_pos (by omega) (ev_b (cmpM _ _ _) (ev_some ?_))))
        have := h2 i (Nat.le_refl _) c
        by_cases c2 : l[i].f0 = a
        · rw [if_neg (by omega), if_neg (by omega), decide_eq_true (show ∃ h : i < l.length, l[i].f0 = a from ⟨c, c2⟩)]
          rfl
        · rw [if_neg (by omega), if_pos (by omega), decide_eq_false (fun z => c2 z.2)]
          rfl
      · refine ev_neg (by omega) (ev_some ?_)
        rw [decide_eq_false (fun z => c z.1)]
    | succ d ih =>
      intro i j hd hi hj hn
      by_cases e : i = j
      · exact ih i j (by omega) hi hj hn
      · refine Ev.step (fun k => by rw [impl_Mark_int64_v2.l0]) (ev_pos (by omega) ?_)
        rw [half (by omega)]
        have hm : (i + j) / 2 < l.length := by omega
        rw [rdOMark l _ hm]
        refine ev_pos (by omega) (ev_pos (by omega) (ev_b (cmpM _ _ _) ?_))
        by_cases c : l[(i + j) / 2].f0 < a
        · rw [if_pos c, wsucc hm (by omega)]
          have : (i + j) / 2 < p := by
            rcases Nat.lt_or_ge ((i + j) / 2) p with z | z
            · exact z
            · have := h2 _ z hm
              omega
          exact ev_pos (by omega) (ih _ _ (by omega) (by omega) hj hn)
        · rw [if_neg c]
          have : p ≤ (i + j) / 2 := by
            rcases Nat.lt_or_ge ((i + j) / 2) p with z | z
            · have := h1 _ z hm
              omega
            · exact z
          refine ev_neg (by split <;> omega) (ih _ _ (by omega) hi this (by omega))
  exact key l.length 0 l.length (by omega) (by omega) hp (Nat.le_refl _)
theorem specRead (l : List TM) (hl : l.length ≤ 1048576) (a v : Int) : Ev (fun k => spec_l05Read.f k l a v) (putM a v l) := by
  unfold spec_l05Read.f
  have key := idx_ind l (fun i => (∀ out : List TM, out.length ≤ i + 1 → Ev (fun k => spec_l05Read.l0 k l a v out true (l.length : Int) (i : Int)) (out ++ l.drop i)) ∧ ∀ out : List TM, out.length ≤ i → Ev (fun k => spec_l05Read.l0 k l a v out false (l.length : Int) (i : Int)) (out ++ putM a v (l.drop i))) ?_ ?_ 0 (Nat.zero_le _)
  · simpa using key.2 [] (Nat.zero_le _)
  · constructor
    · intro out ho
      refine Ev.step (fun k => by rw [spec_l05Read.l0]) ?_
      exact ev_neg (by omega) (ev_pos rfl (ev_some (by simp)))
    · intro out ho
      refine Ev.step (fun k => by rw [spec_l05Read.l0]) ?_
      exact ev_neg (by omega) (ev_neg (by simp) (ev_pos (by omega) (ev_some (by simp [putM]))))
  · intro i hi ih
    constructor
    · intro out ho
      refine Ev.step (fun k => by rw [spec_l05Read.l0]) ?_
      rw [rdOMark l i hi]
      refine ev_pos (by omega) (ev_pos (by omega) (ev_pos (by omega) (ev_pos rfl ?_)))
      refine Ev.step (fun k => by rw [spec_l05Read.j1]) (ev_neg (by simp) (ev_pos (by omega) ?_))
      rw [wsucc hi (by omega), drop_at l i hi]
      exact ev_eq (ih.1 (out ++ [l[i]]) (by simp; omega)) (by simp)
    · intro out ho
      refine Ev.step (fun k => by rw [spec_l05Read.l0]) ?_
      rw [rdOMark l i hi]
      refine ev_pos (by omega) (ev_pos (by omega) (ev_pos (by omega) (ev_neg (by simp) ?_)))
      refine Ev.step (fun k => by rw [spec_l05Read.j1]) ?_
      rw [wsucc hi (by omega)]
      by_cases c : l[i].f0 < a
      · refine ev_neg (by simp; omega) (ev_pos (by omega) ?_)
        refine ev_eq (ih.2 (out ++ [l[i]]) (by simp; omega)) ?_
        rw [drop_at l i hi, putM, if_pos c]
        simp
      · refine ev_pos (by simp; omega) ?_
        rw [drop_at l i hi, putM, if_neg c]
        by_cases d : l[i].f0 = a
        · rw [if_pos d]
          refine ev_pos d (ev_b (specMax _ _) (ev_pos (by omega) ?_))
          exact ev_eq (ih.1 (out ++ [⟨l[i].f0, mx l[i].f1 v⟩]) (by simp; omega)) (by simp)
        · rw [if_neg d]
          refine ev_neg d (ev_pos (by omega) (ev_b rfl (ev_pos (by simp; omega) ?_)))
          exact ev_eq (ih.1 (out ++ [⟨a, v⟩] ++ [l[i]]) (by simp; omega)) (by simp)

theorem leasesV_up {l : List TL} (c : leasesV l = true) : l.Pairwise (fun x y => x.f0 < y.f0) := by
  unfold leasesV at c
  simp only [Bool.and_eq_true] at c
  exact lOk_up l 0 c.1
theorem leasesV_member {a v : Int} {l : List TL} (c : leasesV (putL a v l) = true) : (1 ≤ a ∧ a ≤ 1000) ∧ v ≤ 1000000 := by
  unfold leasesV at c
  simp only [Bool.and_eq_true] at c
  exact lOk_member c.1
theorem presV_here {h t : List TL} {m : List TM} (c : presV h t m = true) : leasesV h = true := by
  unfold presV at c
  simp only [Bool.and_eq_true] at c
  exact c.2.1
theorem presV_typing {h t : List TL} {m : List TM} (c : presV h t m = true) : leasesV t = true := by
  unfold presV at c
  simp only [Bool.and_eq_true] at c
  exact c.2.2.1

theorem putL_from (a v : Int) : ∀ l, ∀ y ∈ putL a v l, y.f0 = a ∨ ∃ x ∈ l, x.f0 = y.f0
  | [], y, hy => by
    simp [putL] at hy
    exact .inl (by rw [hy])
  | x :: r, y, hy => by
    unfold putL at hy
    split at hy
    · rcases List.mem_cons.mp hy with rfl | hy
      · exact .inr ⟨_, List.mem_cons_self, rfl⟩
      · rcases putL_from a v r y hy with h | ⟨z, hz, e⟩
        · exact .inl h
        · exact .inr ⟨z, List.mem_cons_of_mem _ hz, e⟩
    · split at hy
      · rcases List.mem_cons.mp hy with rfl | hy
        · exact .inr ⟨x, List.mem_cons_self, rfl⟩
        · exact .inr ⟨y, List.mem_cons_of_mem _ hy, rfl⟩
      · rcases List.mem_cons.mp hy with rfl | hy
        · exact .inl rfl
        · exact .inr ⟨y, hy, rfl⟩
theorem putL_up (a v : Int) : ∀ l, l.Pairwise (fun x y => x.f0 < y.f0) → (putL a v l).Pairwise (fun x y => x.f0 < y.f0)
  | [], _ => by simp [putL]
  | x :: r, h => by
    obtain ⟨h1, h2⟩ := List.pairwise_cons.mp h
    unfold putL
    split
    · rename_i c
      refine List.pairwise_cons.mpr ⟨fun y hy => ?_, putL_up a v r h2⟩
      rcases putL_from a v r y hy with e | ⟨z, hz, e⟩
      · rw [e]; exact c
      · rw [← e]; exact h1 z hz
    · split
      · exact List.pairwise_cons.mpr ⟨fun y hy => h1 y hy, h2⟩
      · refine List.pairwise_cons.mpr ⟨fun y hy => ?_, h⟩
        rcases List.mem_cons.mp hy with rfl | hy
        · show a < _
          omega
        · have := h1 y hy
          show a < _
          omega
theorem putM_from (a v : Int) : ∀ l, ∀ y ∈ putM a v l, y.f0 = a ∨ ∃ x ∈ l, x.f0 = y.f0
  | [], y, hy => by
    simp [putM] at hy
    exact .inl (by rw [hy])
  | x :: r, y, hy => by
    unfold putM at hy
    split at hy
    · rcases List.mem_cons.mp hy with rfl | hy
      · exact .inr ⟨_, List.mem_cons_self, rfl⟩
      · rcases putM_from a v r y hy with h | ⟨z, hz, e⟩
        · exact .inl h
        · exact .inr ⟨z, List.mem_cons_of_mem _ hz, e⟩
    · split at hy
      · rcases List.mem_cons.mp hy with rfl | hy
        · exact .inr ⟨x, List.mem_cons_self, rfl⟩
        · exact .inr ⟨y, List.mem_cons_of_mem _ hy, rfl⟩
      · rcases List.mem_cons.mp hy with rfl | hy
        · exact .inl rfl
        · exact .inr ⟨y, hy, rfl⟩
theorem putM_up (a v : Int) : ∀ l, l.Pairwise (fun x y => x.f0 < y.f0) → (putM a v l).Pairwise (fun x y => x.f0 < y.f0)
  | [], _ => by simp [putM]
  | x :: r, h => by
    obtain ⟨h1, h2⟩ := List.pairwise_cons.mp h
    unfold putM
    split
    · rename_i c
      refine List.pairwise_cons.mpr ⟨fun y hy => ?_, putM_up a v r h2⟩
      rcases putM_from a v r y hy with e | ⟨z, hz, e⟩
      · rw [e]; exact c
      · rw [← e]; exact h1 z hz
    · split
      · exact List.pairwise_cons.mpr ⟨fun y hy => h1 y hy, h2⟩
      · refine List.pairwise_cons.mpr ⟨fun y hy => ?_, h⟩
        rcases List.mem_cons.mp hy with rfl | hy
        · show a < _
          omega
        · have := h1 y hy
          show a < _
          omega
/-- Leases joined. -/
def joinL (h r : List TL) : List TL := r.foldl (fun z x => putL x.f0 x.f1 z) h
def joinM (h r : List TM) : List TM := r.foldl (fun z x => putM x.f0 x.f1 z) h
theorem joinL_len : ∀ (r h : List TL), (joinL h r).length ≤ h.length + r.length
  | [], h => by simp [joinL]
  | x :: r, h => by
    have := joinL_len r (putL x.f0 x.f1 h)
    have := putL_len x.f0 x.f1 h
    show (joinL (putL x.f0 x.f1 h) r).length ≤ _
    simp
    omega
theorem joinM_len : ∀ (r h : List TM), (joinM h r).length ≤ h.length + r.length
  | [], h => by simp [joinM]
  | x :: r, h => by
    have := joinM_len r (putM x.f0 x.f1 h)
    have := putM_len x.f0 x.f1 h
    show (joinM (putM x.f0 x.f1 h) r).length ≤ _
    simp
    omega
/-- A presence, if it is valid. -/
def give (h t : List TL) (m : List TM) : List TL × List TL × List TM × Bool := if presV h t m = true then (h, t, m, true) else ([], [], [], false)
/-- What joining answers. -/
def joinAns (h t : List TL) (m : List TM) (x y : List TL) (z : List TM) : List TL × List TL × List TM × Bool := if presV h t m = true ∧ presV x y z = true then give (joinL h x) (joinL t y) (joinM m z) else ([], [], [], false)
theorem giveLen (h t : List TL) (m : List TM) : (give h t m).1.length ≤ 30 ∧ (give h t m).2.1.length ≤ 30 ∧ (give h t m).2.2.1.length ≤ 30 := by
  unfold give
  split
  · rename_i c
    exact presV_len c
  · simp
theorem joinLen (h t : List TL) (m : List TM) (x y : List TL) (z : List TM) : (joinAns h t m x y z).1.length ≤ 30 ∧ (joinAns h t m x y z).2.1.length ≤ 30 ∧ (joinAns h t m x y z).2.2.1.length ≤ 30 := by
  unfold joinAns
  split
  · exact giveLen _ _ _
  · simp
theorem presV_upT {h t : List TL} {m : List TM} (c : presV h t m = true) : t.Pairwise (fun x y => x.f0 < y.f0) := by
  unfold presV at c
  simp only [Bool.and_eq_true] at c
  exact leasesV_up c.2.2.1
theorem presV_upM {h t : List TL} {m : List TM} (c : presV h t m = true) : m.Pairwise (fun x y => x.f0 < y.f0) := by
  unfold presV at c
  simp only [Bool.and_eq_true] at c
  exact mOk_up m 0 c.1

def pL (c : Int) (x : TL) : Bool := x.f0 == c
theorem pL_f (c : Int) (x : TL) : impl_LeaveNow_1_1_v5.f x.f0 x.f1 c = some (pL c x) := rfl

theorem rddL (l : List S63) (i : Nat) (h : i < l.length) : rd_T63 l (i : Int) = l[i] := by
  simp [rd_T63, List.getD, h]
theorem fndL (c : Int) (l : List S63) (hl : l.length ≤ 100000000) : ∃ r : Int, Ev (fun k => impl_Lease_v4.f k l c) r ∧ ((r = -1 ∧ ∀ j (h : j < l.length), pL c l[j] = false) ∨ ∃ i, ∃ h : i < l.length, r = (i : Int) ∧ pL c l[i] = true ∧ ∀ j (h : j < l.length), j < i → pL c l[j] = false) := by
  have key := idx_ind l (fun i => (∀ j (h : j < l.length), j < i → pL c l[j] = false) → ∃ r : Int, Ev (fun k => impl_Lease_v4.l0 k l (l.length : Int) (i : Int) c) r ∧ ((r = -1 ∧ ∀ j (h : j < l.length), pL c l[j] = false) ∨ ∃ i, ∃ h : i < l.length, r = (i : Int) ∧ pL c l[i] = true ∧ ∀ j (h : j < l.length), j < i → pL c l[j] = false)) ?_ ?_
  · exact key 0 (Nat.zero_le _) (fun j _ h => by omega)
  · intro hall
    refine ⟨-1, ?_, .inl ⟨rfl, fun j h => hall j h h⟩⟩
    refine Ev.step (fun k => by rw [impl_Lease_v4.l0]) ?_
    exact ev_neg (by omega) (Ev.now _)
  · intro i hi ih hall
    by_cases hp : pL c l[i] = true
    · refine ⟨(i : Int), ?_, .inr ⟨i, hi, rfl, hp, hall⟩⟩
      refine Ev.step (fun k => by rw [impl_Lease_v4.l0]) ?_
      refine ev_pos (by omega) (ev_pos (by omega) (ev_pos (by omega) ?_))
      rw [rddL l i hi]
      exact ev_b (pL_f _ _) (ev_pos hp (Ev.now _))
    · obtain ⟨r, h1, h2⟩ := ih (fun j h hj => by
        rcases Nat.lt_or_eq_of_le (Nat.lt_succ_iff.1 hj) with h3 | h3
        · exact hall j h h3
        · subst h3; simpa using hp)
      refine ⟨r, ?_, h2⟩
      refine Ev.step (fun k => by rw [impl_Lease_v4.l0]) ?_
      refine ev_pos (by omega) (ev_pos (by omega) (ev_pos (by omega) ?_))
      rw [rddL l i hi, wsucc hi (by omega)]
      exact ev_b (pL_f _ _) (ev_neg hp h1)
theorem dellL (c : Int) (l : List S63) (hl : l.length ≤ 100000000) : ∀ j, j ≤ l.length → ∀ (x : List S63) (i : Nat), x.length = l.length → i ≤ j → x.take i = (l.take j).filter (fun y => !pL c y) → x.drop j = l.drop j → Ev (fun k => impl_Lease_v3.l0 k x (i : Int) (j : Int) c) (l.filter (fun y => !pL c y)) := by
  refine idx_ind l _ ?_ ?_
  · intro x i hx hi ht hd
    refine Ev.step (fun k => by rw [impl_Lease_v3.l0]) ?_
    refine ev_neg (by omega) (ev_pos (by omega) (ev_pos (by omega) (ev_some ?_)))
    rw [List.take_length] at ht
    rw [← ht, Int.toNat_natCast]
    exact List.take_left' (by rw [List.length_take]; omega)
  · intro j hj ih x i hx hi ht hd
    have hxj : j < x.length := by omega
    have hv : x[j] = l[j] := by
      have h1 : (x.drop j)[0]? = (l.drop j)[0]? := by rw [hd]
      rw [List.getElem?_drop, List.getElem?_drop, Nat.add_zero, List.getElem?_eq_getElem hxj, List.getElem?_eq_getElem hj] at h1
      exact Option.some.inj h1
    have hd2 : x.drop (j + 1) = l.drop (j + 1) := by
      have h1 : (x.drop j).drop 1 = (l.drop j).drop 1 := by rw [hd]
      rwa [List.drop_drop, List.drop_drop] at h1
    have ht2 : l.take (j + 1) = l.take j ++ [l[j]] := by rw [List.take_succ_eq_append_getElem hj]
    refine Ev.step (fun k => by rw [impl_Lease_v3.l0]) ?_
    refine ev_pos (by omega) (ev_pos (by omega) ?_)
    rw [rddL x j hxj, hv, wsucc (n := l.length) (i := j) hj (by omega)]
    refine ev_b (pL_f _ _) ?_
    by_cases hp : pL c l[j] = true
    · refine ev_pos hp (ih x i hx (by omega) ?_ hd2)
      rw [ht2, List.filter_append, ht]
      simp [hp]
    · refine ev_neg hp (ev_pos (by omega) (ev_pos (by omega) ?_))
      rw [wsucc (n := l.length) (i := i) (by omega) (by omega)]
      have hset : (x.set i l[j]).take (i + 1) = (l.take (j + 1)).filter (fun y => !pL c y) := by
        rw [List.take_succ_eq_append_getElem (by rw [List.length_set]; omega), List.take_set_of_le (Nat.le_refl _), ht, ht2, List.filter_append]
        simp [hp]
      exact ih (x.set i l[j]) (i + 1) (by rw [List.length_set]; exact hx) (by omega) hset (by rw [List.drop_set_of_lt (by omega)]; exact hd2)
/-- What slices.DeleteFunc does. -/
theorem delL (c : Int) (l : List S63) (hl : l.length ≤ 100000000) : Ev (fun k => impl_Lease_v3.f k l c) (l.filter (fun y => !pL c y)) := by
  obtain ⟨r, h1, h2⟩ := fndL c l hl
  unfold impl_Lease_v3.f
  refine Ev.bind h1 ?_
  rcases h2 with ⟨rfl, hall⟩ | ⟨i, hi, rfl, hp, hall⟩
  · refine ev_pos rfl (ev_some ?_)
    exact (List.filter_eq_self.2 fun y hy => by
      obtain ⟨j, hj, rfl⟩ := List.mem_iff_getElem.1 hy
      rw [hall j hj]; rfl).symm
  · refine ev_neg (by omega) ?_
    rw [wsucc hi (by omega)]
    have ht2 : l.take (i + 1) = l.take i ++ [l[i]] := by rw [List.take_succ_eq_append_getElem hi]
    refine dellL c l hl (i + 1) (by omega) l i rfl (by omega) ?_ rfl
    rw [ht2, List.filter_append]
    have h3 : (l.take i).filter (fun y => !pL c y) = l.take i := List.filter_eq_self.2 fun y hy => by
      obtain ⟨j, hj, rfl⟩ := List.mem_iff_getElem.1 hy
      rw [List.length_take] at hj
      rw [List.getElem_take, hall j (by omega) (by omega)]; rfl
    rw [h3]
    simp [hp]

theorem lOk_lower : ∀ (l : List TL) (p q : Int), p ≤ q → lOk q l = true → lOk p l = true
  | [], _, _, _, _ => rfl
  | x :: r, p, q, hpq, h => by
    unfold lOk at h ⊢
    simp only [Bool.and_eq_true, decide_eq_true_eq] at h ⊢
    exact ⟨⟨h.1.1, by omega⟩, h.2⟩
theorem lOk_filter (f : TL → Bool) : ∀ (l : List TL) (p : Int), lOk p l = true → lOk p (l.filter f) = true
  | [], _, _ => rfl
  | x :: r, p, h => by
    unfold lOk at h
    simp only [Bool.and_eq_true, decide_eq_true_eq] at h
    have h2 := lOk_filter f r x.f0 h.2
    by_cases c : f x = true
    · rw [List.filter_cons_of_pos c]
      unfold lOk
      simp only [Bool.and_eq_true, decide_eq_true_eq]
      exact ⟨h.1, h2⟩
    · rw [List.filter_cons_of_neg c]
      exact lOk_lower _ _ _ (by omega) h2
theorem leasesV_filter (f : TL → Bool) {l : List TL} (h : leasesV l = true) : leasesV (l.filter f) = true := by
  unfold leasesV at h ⊢
  simp only [Bool.and_eq_true, decide_eq_true_eq] at h ⊢
  exact ⟨lOk_filter f l 0 h.1, Nat.le_trans (List.length_filter_le _ _) h.2⟩
theorem presV_filter (f g : TL → Bool) {h t : List TL} {m : List TM} (c : presV h t m = true) : presV (h.filter f) (t.filter g) m = true := by
  unfold presV at c ⊢
  simp only [Bool.and_eq_true] at c ⊢
  exact ⟨c.1, leasesV_filter f c.2.1, leasesV_filter g c.2.2.1, c.2.2.2⟩
theorem lOk_mem : ∀ (l : List TL) (p : Int), lOk p l = true → ∀ x ∈ l, LOk x
  | [], _, _, x, hx => by cases hx
  | y :: r, p, h, x, hx => by
    unfold lOk at h
    simp only [Bool.and_eq_true, decide_eq_true_eq] at h
    rcases List.mem_cons.1 hx with e | e
    · subst e; exact h.1.1
    · exact lOk_mem r _ h.2 x e
/-- The end of a member's lease, or -1. -/
def untilV (a : Int) : List TL → Int
  | [] => -1
  | x :: r => if x.f0 = a then x.f1 else untilV a r
theorem specUntil (l : List TL) (hl : l.length ≤ 100000000) (a : Int) : Ev (fun k => spec_l05Until.f k l a) (untilV a l) := by
  unfold spec_l05Until.f
  refine idx_ind l (fun i => Ev (fun k => spec_l05Until.l0 k l a (l.length : Int) (i : Int)) (untilV a (l.drop i))) ?_ ?_ 0 (Nat.zero_le _)
  · refine Ev.step (fun k => by rw [spec_l05Until.l0]) ?_
    exact ev_neg (by omega) (ev_some (by rw [List.drop_length, untilV]))
  · intro i hi ih
    refine Ev.step (fun k => by rw [spec_l05Until.l0]) ?_
    rw [rdOLease l i hi, wsucc hi (by omega), drop_at l i hi]
    refine ev_pos (by omega) (ev_pos (by omega) (ev_pos (by omega) ?_))
    unfold untilV
    by_cases c : l[i].f0 = a
    · exact ev_pos c (ev_some (by rw [if_pos c]))
    · rw [if_neg c]
      exact ev_neg c ih
theorem until_no (a : Int) : ∀ (l : List TL) (p : Int), lOk p l = true → (untilV a l < 0 ↔ ∀ x ∈ l, x.f0 ≠ a)
  | [], _, _ => by simp [untilV]
  | x :: r, p, h => by
    unfold lOk at h
    simp only [Bool.and_eq_true, decide_eq_true_eq] at h
    have ih := until_no a r _ h.2
    unfold untilV
    by_cases c : x.f0 = a
    · rw [if_pos c]
      have := h.1.1.2
      constructor
      · intro h2; omega
      · intro h2; exact absurd c (h2 x List.mem_cons_self)
    · rw [if_neg c, ih]
      constructor
      · intro h2 y hy
        rcases List.mem_cons.1 hy with e | e
        · subst e; exact c
        · exact h2 y e
      · intro h2 y hy; exact h2 y (List.mem_cons_of_mem _ hy)

theorem cmpU (x y a : Int) : impl_until_1_n95.f x y a = some (if x < a then -1 else if x > a then 1 else 0) := by
  have e : ∀ b : Int, cmp_isNaN_int64_n115.f b = some false := fun b => by simp [cmp_isNaN_int64_n115.f]
  unfold impl_until_1_n95.f cmp_Compare_int64_n93.f
  rw [e, e]
  simp only [Option.bind_some]
  rw [if_neg (by simp), if_neg (by simp)]
  split
  · rfl
  · split <;> rfl
/-- The place of a member. -/
theorem srchU (l : List TL) (hl : l.length ≤ 1048576) (a : Int) (p : Nat) (hp : p ≤ l.length) (h1 : ∀ j, j < p → ∀ h : j < l.length, l[j].f0 < a) (h2 : ∀ j, p ≤ j → ∀ h : j < l.length, a ≤ l[j].f0) : Ev (fun k => impl_Lease_int64_v0.f k l a) ((p : Int), decide (∃ h : p < l.length, l[p].f0 = a)) := by
  unfold impl_Lease_int64_v0.f
  have key : ∀ d i j : Nat, j - i ≤ d → i ≤ p → p ≤ j → j ≤ l.length → Ev (fun k => impl_Lease_int64_v0.l0 k l a (l.length : Int) (i : Int) (j : Int)) ((p : Int), decide (∃ h : p < l.length, l[p].f0 = a)) := by
    intro d
    induction d with
    | zero =>
      intro i j hd hi hj hn
      have e2 : i = j := by omega
      have e : i = p := by omega
      subst e2
      subst e
      refine Ev.step (fun k => by rw [impl_Lease_int64_v0.l0]) (ev_neg (by omega) ?_)
      by_cases c : i < l.length
      · rw [rdOLease l i c]
        refine ev_pos (by omega) (ev_pos (by omega) (ev_pos (by omega) (ev_b (cmpU _ _ _) (ev_some ?_))))
        have := h2 i (Nat.le_refl _) c
        by_cases c2 : l[i].f0 = a
        · rw [if_neg (by omega), if_neg (by omega), decide_eq_true (show ∃ h : i < l.length, l[i].f0 = a from ⟨c, c2⟩)]
          rfl
        · rw [if_neg (by omega), if_pos (by omega), decide_eq_false (fun z => c2 z.2)]
          rfl
      · refine ev_neg (by omega) (ev_some ?_)
        rw [decide_eq_false (fun z => c z.1)]
    | succ d ih =>
      intro i j hd hi hj hn
      by_cases e : i = j
      · exact ih i j (by omega) hi hj hn
      · refine Ev.step (fun k => by rw [impl_Lease_int64_v0.l0]) (ev_pos (by omega) ?_)
        rw [half (by omega)]
        have hm : (i + j) / 2 < l.length := by omega
        rw [rdOLease l _ hm]
        refine ev_pos (by omega) (ev_pos (by omega) (ev_b (cmpU _ _ _) ?_))
        by_cases c : l[(i + j) / 2].f0 < a
        · rw [if_pos c, wsucc hm (by omega)]
          have : (i + j) / 2 < p := by
            rcases Nat.lt_or_ge ((i + j) / 2) p with z | z
            · exact z
            · have := h2 _ z hm
              omega
          exact ev_pos (by omega) (ih _ _ (by omega) (by omega) hj hn)
        · rw [if_neg c]
          have : p ≤ (i + j) / 2 := by
            rcases Nat.lt_or_ge ((i + j) / 2) p with z | z
            · have := h1 _ z hm
              omega
            · exact z
          refine ev_neg (by split <;> omega) (ih _ _ (by omega) hi this (by omega))
  exact key l.length 0 l.length (by omega) (by omega) hp (Nat.le_refl _)
theorem until_skip (a : Int) : ∀ (l : List TL) (p : Nat), (∀ j, j < p → ∀ h : j < l.length, l[j].f0 < a) → untilV a l = untilV a (l.drop p)
  | l, 0, _ => by simp
  | [], p + 1, _ => by simp
  | x :: r, p + 1, hj => by
    have h0 := hj 0 (by omega) (by simp)
    have ih := until_skip a r p (fun j h1 h2 => by
      have := hj (j + 1) (by omega) (by simpa using h2)
      simpa only [List.getElem_cons_succ] using this)
    simp only [List.getElem_cons_zero] at h0
    rw [untilV, if_neg (by omega), ih]
    simp
theorem until_none (a : Int) : ∀ l : List TL, (∀ x ∈ l, x.f0 ≠ a) → untilV a l = -1
  | [], _ => rfl
  | x :: r, h => by
    rw [untilV, if_neg (h x List.mem_cons_self)]
    exact until_none a r fun y hy => h y (List.mem_cons_of_mem _ hy)
theorem untilL (l : List TL) (hl : l.length ≤ 1048576) (a : Int) (up : l.Pairwise (fun x y => x.f0 < y.f0)) : Ev (fun k => impl_until.f k l a) (untilV a l) := by
  unfold impl_until.f
  obtain ⟨p, hp, h1, h2⟩ := placeL a l up
  refine Ev.bind (srchU l hl a p hp h1 h2) ?_
  have sk := until_skip a l p h1
  by_cases c : ∃ h : p < l.length, l[p].f0 = a
  · obtain ⟨c1, c2⟩ := c
    simp only []
    rw [rdOLease l p c1]
    refine ev_pos (decide_eq_true ⟨c1, c2⟩) (ev_pos (by omega) (ev_pos (by omega) (ev_some ?_)))
    rw [sk, drop_at l p c1, untilV, if_pos c2]
  · refine ev_neg (by simpa using c) (ev_some ?_)
    rw [sk]
    refine (until_none a _ fun x hx e => ?_).symm
    obtain ⟨j, hj, ej⟩ := List.getElem_of_mem hx
    rw [List.getElem_drop] at ej
    have hj2 : p + j < l.length := by simp at hj; omega
    have b1 : p < l.length := by omega
    have b2 := h2 p (Nat.le_refl _) b1
    have b3 : l[p].f0 ≠ a := fun z => c ⟨b1, z⟩
    cases j with
    | zero => 
      simp only [Nat.add_zero] at ej
      rw [ej] at b3
      exact b3 e
    | succ j =>
      have := List.pairwise_iff_getElem.1 up p (p + (j + 1)) b1 hj2 (by omega)
      rw [ej] at this
      omega

theorem u64_range (n : Int) : 0 ≤ IntKind.u64.wrap n ∧ IntKind.u64.wrap n < 18446744073709551616 := by
  simp only [IntKind.wrap, IntKind.bits, IntKind.signed]
  constructor
  · exact Int.emod_nonneg _ (by decide)
  · exact Int.emod_lt_of_pos _ (by decide)
theorem u64_small (n : Int) (h0 : 0 ≤ n) (h1 : n < 2 ^ 24) : IntKind.u64.wrap n = n := by
  simp only [IntKind.wrap, IntKind.bits, IntKind.signed]
  have h1' : n < 16777216 := h1
  show n % 18446744073709551616 = n
  omega
/-- A byte that is drawn lies between 0 and 255. -/
theorem and255 (n : Int) : 0 ≤ Go.bits .and .u64 (IntKind.u64.wrap n / 1099511627776) 255 ∧ Go.bits .and .u64 (IntKind.u64.wrap n / 1099511627776) 255 ≤ 255 := by
  have h := u64_range n
  have e := bits_mask .u64 24 (by decide) u64_small 8 (by decide) (IntKind.u64.wrap n / 1099511627776) (by omega) (by show _ < (16777216 : Int); omega)
  have e2 : Go.bits .and .u64 (IntKind.u64.wrap n / 1099511627776) 255 = IntKind.u64.wrap n / 1099511627776 % 256 := e
  rw [e2]
  omega
def U8s (l : List Int) : Prop := ∀ x ∈ l, (Lit.int .u8 x).wf = true
theorem u8_rd {l : List Int} (h : U8s l) (i : Int) : 0 ≤ rd l i ∧ rd l i ≤ 255 := by
  unfold rd
  rcases Nat.lt_or_ge i.toNat l.length with hi | hi
  · have := h l[i.toNat] (List.getElem_mem hi)
    simp [Lit.wf, IntKind.min, IntKind.max, IntKind.signed, IntKind.bits] at this
    simp [List.getD, hi]
    omega
  · simp [List.getD, hi]
theorem nextOk {l : List Int} (h : U8s l) (i s : Int) (h0 : 0 ≤ i) (h1 : i ≤ 1000000000) : ∃ v s', spec_l00Src_next.f l i s = some (v, i + 1, s') ∧ 0 ≤ v ∧ v ≤ 255 := by
  have hr := u8_rd h i
  have e1 : wrap64 (i + 1) = i + 1 := w64 (by omega) (by omega)
  have e2 : wrap64 (rd l i) = rd l i := w64 (by omega) (by omega)
  unfold spec_l00Src_next.f
  rw [e1, e2]
  have big : ∀ n : Int, wrap64 (Go.bits .and .u64 (IntKind.u64.wrap n / 1099511627776) 255) = Go.bits .and .u64 (IntKind.u64.wrap n / 1099511627776) 255 := fun n => w64 (by have := and255 n; omega) (by have := and255 n; omega)
  by_cases c1 : i < (l.length : Int)
  · rw [if_pos c1, if_pos h0]
    by_cases c2 : i + 1 ≤ (l.length : Int)
    · rw [if_pos c2]; exact ⟨_, _, rfl, hr.1, hr.2⟩
    · rw [if_neg c2, big]; exact ⟨_, _, rfl, (and255 _).1, (and255 _).2⟩
  · rw [if_neg c1]
    by_cases c2 : i + 1 ≤ (l.length : Int)
    · rw [if_pos c2]; exact ⟨_, _, rfl, by omega, by omega⟩
    · rw [if_neg c2, big]; exact ⟨_, _, rfl, (and255 _).1, (and255 _).2⟩
theorem pickOk {l : List Int} (h : U8s l) (i s n : Int) (h0 : 0 ≤ i) (h1 : i ≤ 900000000) : ∃ v i' s', spec_l00Src_pick.f l i s n = some (v, i', s') ∧ 0 ≤ v ∧ (1 ≤ n → v < n) ∧ (n ≤ 1 → v = 0) ∧ i ≤ i' ∧ i' ≤ i + 2 := by
  unfold spec_l00Src_pick.f
  by_cases c : n ≤ 1
  · rw [if_pos c]; exact ⟨_, _, _, rfl, by omega, by omega, by omega, by omega, by omega⟩
  · rw [if_neg c]
    obtain ⟨v, s', e, v0, v1⟩ := nextOk h i s h0 (by omega)
    rw [e]
    simp only [Option.bind_some]
    by_cases c2 : n > 200
    · rw [if_pos c2]
      obtain ⟨v2, s2, e2, w0, w1⟩ := nextOk h (i + 1) s' (by omega) (by omega)
      rw [e2]
      simp only [Option.bind_some]
      rw [if_neg (by omega), w64 (n := v * 256) (by omega) (by omega), w64 (by omega) (by omega), Int.tmod_eq_emod_of_nonneg (by omega)]
      exact ⟨_, _, _, rfl, Int.emod_nonneg _ (by omega), fun _ => Int.emod_lt_of_pos _ (by omega), by omega, by omega, by omega⟩
    · rw [if_neg c2, if_neg (by omega), Int.tmod_eq_emod_of_nonneg (by omega)]
      exact ⟨_, _, _, rfl, Int.emod_nonneg _ (by omega), fun _ => Int.emod_lt_of_pos _ (by omega), by omega, by omega, by omega⟩

def til : List TL → Int → Option Int
  | [], _ => none
  | x :: r, m => if x.f0 = m then some x.f1 else til r m
theorem til_none (m : Int) : ∀ l : List TL, (∀ x ∈ l, m < x.f0) → til l m = none
  | [], _ => rfl
  | x :: r, h => by
    have h1 := h x List.mem_cons_self
    rw [til, if_neg (by omega)]
    exact til_none m r (fun y hy => h y (List.mem_cons_of_mem _ hy))
theorem til_put (a v m : Int) : ∀ l : List TL, l.Pairwise (fun x y => x.f0 < y.f0) → til (putL a v l) m = if m = a then some (match til l a with | some u => mx u v | none => v) else til l m
  | [], _ => by
    simp only [putL, til]
    by_cases h : m = a
    · subst h; simp
    · rw [if_neg (fun e => h e.symm), if_neg h]
  | x :: r, h => by
    have hh := List.pairwise_cons.1 h
    by_cases c1 : x.f0 < a
    · rw [putL, if_pos c1, til, til_put a v m r hh.2]
      simp only [til]
      rw [if_neg (show ¬ x.f0 = a by omega)]
      by_cases c2 : x.f0 = m
      · rw [if_pos c2, if_neg (by omega), if_pos c2]
      · rw [if_neg c2, if_neg c2]
    · by_cases c2 : x.f0 = a
      · rw [putL, if_neg c1, if_pos c2]
        simp only [til]
        rw [if_pos c2]
        by_cases c3 : m = a
        · rw [if_pos (by omega), if_pos c3]
        · rw [if_neg (by omega), if_neg c3, if_neg (by omega)]
      · have hn : til (x :: r) a = none := til_none a _ (fun y hy => by
          rcases List.mem_cons.1 hy with rfl | hy
          · omega
          · have := hh.1 y hy; omega)
        rw [putL, if_neg c1, if_neg c2, hn]
        by_cases c3 : m = a
        · rw [til, if_pos (by simpa using c3.symm), if_pos c3]
        · rw [til, if_neg (by simpa using fun e => c3 e.symm), if_neg c3]
theorem til_ext : ∀ l r : List TL, l.Pairwise (fun x y => x.f0 < y.f0) → r.Pairwise (fun x y => x.f0 < y.f0) → (∀ m, til l m = til r m) → l = r
  | [], [], _, _, _ => rfl
  | [], y :: r, _, _, h => by have := h y.f0; simp [til] at this
  | x :: l, [], _, _, h => by have := h x.f0; simp [til] at this
  | x :: l, y :: r, hl, hr, h => by
    have hl' := List.pairwise_cons.1 hl
    have hr' := List.pairwise_cons.1 hr
    have e0 : x.f0 = y.f0 := by
      by_cases c1 : x.f0 < y.f0
      · have := h x.f0
        rw [til_none x.f0 (y :: r) (fun z hz => by
          rcases List.mem_cons.1 hz with rfl | hz
          · exact c1
          · have := hr'.1 z hz; omega)] at this
        simp [til] at this
      · by_cases c2 : y.f0 < x.f0
        · have := h y.f0
          rw [til_none y.f0 (x :: l) (fun z hz => by
            rcases List.mem_cons.1 hz with rfl | hz
            · exact c2
            · have := hl'.1 z hz; omega)] at this
          simp [til] at this
        · omega
    have e1 : x.f1 = y.f1 := by
      have := h x.f0
      simp only [til, if_true] at this
      rw [if_pos e0.symm] at this
      exact Option.some.inj this
    have e2 : l = r := til_ext l r hl'.2 hr'.2 (fun m => by
      have := h m
      simp only [til] at this
      by_cases c : x.f0 = m
      · rw [til_none m l (fun z hz => by have := hl'.1 z hz; omega), til_none m r (fun z hz => by have := hr'.1 z hz; omega)]
      · rw [if_neg c, if_neg (by omega)] at this
        exact this)
    cases x; cases y; simp_all

def mxo : Option Int → Option Int → Option Int
  | none, b => b
  | a, none => a
  | some a, some b => some (mx a b)
theorem mxo_comm : ∀ a b, mxo a b = mxo b a
  | none, none => rfl
  | none, some _ => rfl
  | some _, none => rfl
  | some a, some b => by simp only [mxo, mx]; congr 1; split <;> split <;> omega
theorem mxo_self : ∀ a, mxo a a = a
  | none => rfl
  | some a => by simp only [mxo, mx]; congr 1; split <;> omega
theorem joinL_up : ∀ (r h : List TL), h.Pairwise (fun x y => x.f0 < y.f0) → (joinL h r).Pairwise (fun x y => x.f0 < y.f0)
  | [], h, hh => hh
  | x :: r, h, hh => joinL_up r _ (putL_up _ _ _ hh)
theorem til_join (m : Int) : ∀ (r h : List TL), h.Pairwise (fun x y => x.f0 < y.f0) → r.Pairwise (fun x y => x.f0 < y.f0) → til (joinL h r) m = mxo (til h m) (til r m)
  | [], h, hh, _ => by
    show til h m = mxo (til h m) none
    cases til h m <;> rfl
  | x :: r, h, hh, hr => by
    have hr' := List.pairwise_cons.1 hr
    show til (joinL (putL x.f0 x.f1 h) r) m = _
    rw [til_join m r _ (putL_up _ _ _ hh) hr'.2, til_put _ _ _ _ hh]
    simp only [til]
    by_cases c : m = x.f0
    · subst c
      rw [if_pos rfl, if_pos rfl, til_none x.f0 r hr'.1]
      cases til h x.f0 <;> rfl
    · rw [if_neg c, if_neg (fun e => c e.symm)]
theorem joinL_comm (h r : List TL) (hh : h.Pairwise (fun x y => x.f0 < y.f0)) (hr : r.Pairwise (fun x y => x.f0 < y.f0)) : joinL h r = joinL r h :=
  til_ext _ _ (joinL_up _ _ hh) (joinL_up _ _ hr) (fun m => by rw [til_join m r h hh hr, til_join m h r hr hh, mxo_comm])
theorem joinL_self (h : List TL) (hh : h.Pairwise (fun x y => x.f0 < y.f0)) : joinL h h = h :=
  til_ext _ _ (joinL_up _ _ hh) hh (fun m => by rw [til_join m h h hh hh, mxo_self])

def tim : List TM → Int → Option Int
  | [], _ => none
  | x :: r, m => if x.f0 = m then some x.f1 else tim r m
theorem tim_none (m : Int) : ∀ l : List TM, (∀ x ∈ l, m < x.f0) → tim l m = none
  | [], _ => rfl
  | x :: r, h => by
    have h1 := h x List.mem_cons_self
    rw [tim, if_neg (by omega)]
    exact tim_none m r (fun y hy => h y (List.mem_cons_of_mem _ hy))
theorem tim_put (a v m : Int) : ∀ l : List TM, l.Pairwise (fun x y => x.f0 < y.f0) → tim (putM a v l) m = if m = a then some (match tim l a with | some u => mx u v | none => v) else tim l m
  | [], _ => by
    simp only [putM, tim]
    by_cases h : m = a
    · subst h; simp
    · rw [if_neg (fun e => h e.symm), if_neg h]
  | x :: r, h => by
    have hh := List.pairwise_cons.1 h
    by_cases c1 : x.f0 < a
    · rw [putM, if_pos c1, tim, tim_put a v m r hh.2]
      simp only [tim]
      rw [if_neg (show ¬ x.f0 = a by omega)]
      by_cases c2 : x.f0 = m
      · rw [if_pos c2, if_neg (by omega), if_pos c2]
      · rw [if_neg c2, if_neg c2]
    · by_cases c2 : x.f0 = a
      · rw [putM, if_neg c1, if_pos c2]
        simp only [tim]
        rw [if_pos c2]
        by_cases c3 : m = a
        · rw [if_pos (by omega), if_pos c3]
        · rw [if_neg (by omega), if_neg c3, if_neg (by omega)]
      · have hn : tim (x :: r) a = none := tim_none a _ (fun y hy => by
          rcases List.mem_cons.1 hy with rfl | hy
          · omega
          · have := hh.1 y hy; omega)
        rw [putM, if_neg c1, if_neg c2, hn]
        by_cases c3 : m = a
        · rw [tim, if_pos (by simpa using c3.symm), if_pos c3]
        · rw [tim, if_neg (by simpa using fun e => c3 e.symm), if_neg c3]
theorem tim_ext : ∀ l r : List TM, l.Pairwise (fun x y => x.f0 < y.f0) → r.Pairwise (fun x y => x.f0 < y.f0) → (∀ m, tim l m = tim r m) → l = r
  | [], [], _, _, _ => rfl
  | [], y :: r, _, _, h => by have := h y.f0; simp [tim] at this
  | x :: l, [], _, _, h => by have := h x.f0; simp [tim] at this
  | x :: l, y :: r, hl, hr, h => by
    have hl' := List.pairwise_cons.1 hl
    have hr' := List.pairwise_cons.1 hr
    have e0 : x.f0 = y.f0 := by
      by_cases c1 : x.f0 < y.f0
      · have := h x.f0
        rw [tim_none x.f0 (y :: r) (fun z hz => by
          rcases List.mem_cons.1 hz with rfl | hz
          · exact c1
          · have := hr'.1 z hz; omega)] at this
        simp [tim] at this
      · by_cases c2 : y.f0 < x.f0
        · have := h y.f0
          rw [tim_none y.f0 (x :: l) (fun z hz => by
            rcases List.mem_cons.1 hz with rfl | hz
            · exact c2
            · have := hl'.1 z hz; omega)] at this
          simp [tim] at this
        · omega
    have e1 : x.f1 = y.f1 := by
      have := h x.f0
      simp only [tim, if_true] at this
      rw [if_pos e0.symm] at this
      exact Option.some.inj this
    have e2 : l = r := tim_ext l r hl'.2 hr'.2 (fun m => by
      have := h m
      simp only [tim] at this
      by_cases c : x.f0 = m
      · rw [tim_none m l (fun z hz => by have := hl'.1 z hz; omega), tim_none m r (fun z hz => by have := hr'.1 z hz; omega)]
      · rw [if_neg c, if_neg (by omega)] at this
        exact this)
    cases x; cases y; simp_all

theorem joinM_up : ∀ (r h : List TM), h.Pairwise (fun x y => x.f0 < y.f0) → (joinM h r).Pairwise (fun x y => x.f0 < y.f0)
  | [], h, hh => hh
  | x :: r, h, hh => joinM_up r _ (putM_up _ _ _ hh)
theorem tim_join (m : Int) : ∀ (r h : List TM), h.Pairwise (fun x y => x.f0 < y.f0) → r.Pairwise (fun x y => x.f0 < y.f0) → tim (joinM h r) m = mxo (tim h m) (tim r m)
  | [], h, hh, _ => by
    show tim h m = mxo (tim h m) none
    cases tim h m <;> rfl
  | x :: r, h, hh, hr => by
    have hr' := List.pairwise_cons.1 hr
    show tim (joinM (putM x.f0 x.f1 h) r) m = _
    rw [tim_join m r _ (putM_up _ _ _ hh) hr'.2, tim_put _ _ _ _ hh]
    simp only [tim]
    by_cases c : m = x.f0
    · subst c
      rw [if_pos rfl, if_pos rfl, tim_none x.f0 r hr'.1]
      cases tim h x.f0 <;> rfl
    · rw [if_neg c, if_neg (fun e => c e.symm)]
theorem joinM_comm (h r : List TM) (hh : h.Pairwise (fun x y => x.f0 < y.f0)) (hr : r.Pairwise (fun x y => x.f0 < y.f0)) : joinM h r = joinM r h :=
  tim_ext _ _ (joinM_up _ _ hh) (joinM_up _ _ hr) (fun m => by rw [tim_join m r h hh hr, tim_join m h r hr hh, mxo_comm])
theorem joinM_self (h : List TM) (hh : h.Pairwise (fun x y => x.f0 < y.f0)) : joinM h h = h :=
  tim_ext _ _ (joinM_up _ _ hh) hh (fun m => by rw [tim_join m h h hh hh, mxo_self])

def live (l : List TL) (t : Int) : List Int := (l.filter (fun x => decide (t < x.f1))).map (fun x => x.f0)
theorem asc_ext : ∀ l r : List Int, l.Pairwise (· < ·) → r.Pairwise (· < ·) → (∀ m, m ∈ l ↔ m ∈ r) → l = r
  | [], [], _, _, _ => rfl
  | [], y :: r, _, _, h => absurd ((h y).2 List.mem_cons_self) (by simp)
  | x :: l, [], _, _, h => absurd ((h x).1 List.mem_cons_self) (by simp)
  | x :: l, y :: r, hl, hr, h => by
    have hl' := List.pairwise_cons.1 hl
    have hr' := List.pairwise_cons.1 hr
    have e : x = y := by
      rcases List.mem_cons.1 ((h x).1 List.mem_cons_self) with c | c
      · exact c
      · rcases List.mem_cons.1 ((h y).2 List.mem_cons_self) with d | d
        · exact d.symm
        · have := hr'.1 x c; have := hl'.1 y d; omega
    subst e
    rw [asc_ext l r hl'.2 hr'.2 (fun m => ⟨fun hm => by
      rcases List.mem_cons.1 ((h m).1 (List.mem_cons_of_mem _ hm)) with c | c
      · have := hl'.1 m hm; omega
      · exact c, fun hm => by
      rcases List.mem_cons.1 ((h m).2 (List.mem_cons_of_mem _ hm)) with c | c
      · have := hr'.1 m hm; omega
      · exact c⟩)]
theorem live_up (t : Int) (l : List TL) (h : l.Pairwise (fun x y => x.f0 < y.f0)) : (live l t).Pairwise (· < ·) :=
  List.pairwise_map.2 (h.filter _)
theorem live_mem (t m : Int) : ∀ l : List TL, l.Pairwise (fun x y => x.f0 < y.f0) → (m ∈ live l t ↔ ∃ u, til l m = some u ∧ t < u)
  | [], _ => by simp [live, til]
  | x :: l, h => by
    have h' := List.pairwise_cons.1 h
    have ih := live_mem t m l h'.2
    have e : m ∈ live (x :: l) t ↔ (t < x.f1 ∧ m = x.f0) ∨ m ∈ live l t := by
      simp only [live, List.filter_cons]
      by_cases c : t < x.f1
      · simp [c]
      · simp [c]
    rw [e, ih]
    simp only [til]
    by_cases c : x.f0 = m
    · subst c
      rw [til_none x.f0 l h'.1, if_pos rfl]
      simp
    · rw [if_neg c]
      exact ⟨fun h => h.elim (fun h => absurd h.2.symm c) id, Or.inr⟩
theorem live_join (t m : Int) (h r : List TL) (hh : h.Pairwise (fun x y => x.f0 < y.f0)) (hr : r.Pairwise (fun x y => x.f0 < y.f0)) : m ∈ live (joinL h r) t ↔ m ∈ live h t ∨ m ∈ live r t := by
  rw [live_mem t m _ (joinL_up _ _ hh), live_mem t m _ hh, live_mem t m _ hr, til_join m r h hh hr]
  cases til h m with
  | none => cases til r m <;> simp [mxo]
  | some a => cases til r m with
    | none => simp [mxo]
    | some b =>
      simp only [mxo, Option.some.injEq, exists_eq_left', mx]
      split <;> omega
theorem live_drop (now t : Int) (h : now ≤ t) (l : List TL) : live (l.filter (fun x => decide (now < x.f1))) t = live l t := by
  unfold live
  rw [List.filter_filter]
  congr 1
  apply List.filter_congr
  intro x _
  by_cases c : t < x.f1
  · simp [c]; omega
  · simp [c]

theorem til_drop (now m : Int) : ∀ l : List TL, l.Pairwise (fun x y => x.f0 < y.f0) → til (l.filter (fun x => decide (now < x.f1))) m = (til l m).filter (fun u => decide (now < u))
  | [], _ => rfl
  | x :: l, h => by
    have h' := List.pairwise_cons.1 h
    have ih := til_drop now m l h'.2
    rw [List.filter_cons]
    by_cases c : x.f0 = m
    · by_cases c2 : now < x.f1
      · simp [til, c, c2, Option.filter]
      · rw [if_neg (by simpa using c2), ih, til_none m l (fun y hy => by have := h'.1 y hy; omega)]
        simp [til, c, c2, Option.filter]
    · by_cases c2 : now < x.f1
      · rw [if_pos (by simpa using c2)]
        simp only [til]
        rw [if_neg c, if_neg c, ih]
      · rw [if_neg (by simpa using c2), ih]
        simp only [til]
        rw [if_neg c]
def types (h ty : List TL) (t : Int) : List Int := (ty.filter (fun x => decide (t < x.f1) && decide (t < (til h x.f0).getD (-1)))).map (fun x => x.f0)
theorem types_sweep (now t : Int) (hn : 0 ≤ now) (ht : now ≤ t) (h ty : List TL) (hh : h.Pairwise (fun x y => x.f0 < y.f0)) :
    types (h.filter (fun x => decide (now < x.f1))) (ty.filter (fun x => decide (now < x.f1) && decide (now < (til h x.f0).getD (-1)))) t = types h ty t := by
  unfold types
  rw [List.filter_filter]
  congr 1
  apply List.filter_congr
  intro x _
  rw [til_drop now x.f0 h hh]
  cases til h x.f0 with
  | none => simp [Option.filter]; try omega
  | some u =>
    by_cases c : now < u
    · by_cases c2 : t < u
      · by_cases c3 : t < x.f1
        · simp [Option.filter, c, c2, c3]; try omega
        · simp [Option.filter, c, c2, c3]
      · simp [Option.filter, c, c2]
    · simp [Option.filter, c]; try omega

/-- A presence that is drawn in some steps. -/
def Good (n : Nat) (h t : List TL) (m : List TM) : Prop := presV h t m = true ∧ h.length ≤ n ∧ t.length ≤ n ∧ m.length ≤ n
theorem Good.up {n q : Nat} {h t : List TL} {m : List TM} (g : Good n h t m) (hq : n ≤ q) : Good q h t m := ⟨g.1, by have := g.2.1; omega, by have := g.2.2.1; omega, by have := g.2.2.2; omega⟩
theorem giveP (h t : List TL) (m : List TM) (hh : h.length ≤ 1048576) (ht : t.length ≤ 1048576) (hm : m.length ≤ 1048576) : Ev (fun k => spec_l05Give.f k h t m) (give h t m) := by
  unfold spec_l05Give.f give
  refine Ev.bind (specPres h t m (by omega) (by omega) (by omega)) ?_
  by_cases e : presV h t m = true
  · exact ev_eq (ev_pos e (Ev.now _)) (if_pos e).symm
  · exact ev_eq (ev_neg e (Ev.now _)) (if_neg e).symm
/-- No lease ends late. -/
def Sm (h : List TL) : Prop := ∀ x ∈ h, x.f1 ≤ 60
theorem sm_put {a v : Int} (hv : v ≤ 60) : ∀ l : List TL, Sm l → Sm (putL a v l)
  | [], _ => by
    intro x hx
    simp only [putL, List.mem_singleton] at hx
    rw [hx]; exact hv
  | y :: r, h => by
    have h1 := h y List.mem_cons_self
    have h2 : Sm r := fun x hx => h x (List.mem_cons_of_mem _ hx)
    have ih := sm_put hv r h2 (a := a)
    unfold putL
    split
    · intro x hx
      rcases List.mem_cons.1 hx with rfl | hx
      · exact h1
      · exact ih x hx
    · split
      · intro x hx
        rcases List.mem_cons.1 hx with rfl | hx
        · show mx y.f1 v ≤ 60
          unfold mx
          split <;> omega
        · exact h2 x hx
      · intro x hx
        rcases List.mem_cons.1 hx with rfl | hx
        · exact hv
        · exact h x hx
theorem give_good {n : Nat} {h t : List TL} {m : List TM} (hh : h.length ≤ n) (ht : t.length ≤ n) (hm : m.length ≤ n) (sm : Sm h) (c : (give h t m).2.2.2 = true) : Good n (give h t m).1 (give h t m).2.1 (give h t m).2.2.1 ∧ Sm (give h t m).1 := by
  unfold give at c ⊢
  by_cases e : presV h t m = true
  · rw [if_pos e]; exact ⟨⟨e, hh, ht, hm⟩, sm⟩
  · rw [if_neg e] at c; cases c
theorem typeP {n : Nat} {h t : List TL} {m : List TM} (g : Good n h t m) (sm : Sm h) (hn : n ≤ 100) (a now : Int) : ∃ r : List TL × List TL × List TM × Bool, Ev (fun k => spec_l05Type.f k h t m a now) r ∧ (r.2.2.2 = true → Good (n + 1) r.1 r.2.1 r.2.2.1 ∧ Sm r.1) := by
  obtain ⟨g1, g2, g3, g4⟩ := g
  have lp := putL_len a (wrap64 (now + 6)) t
  have no : Ev (fun k => spec_l05Type.j0 k a now true h t m) ([], [], [], false) := Ev.step (fun k => by rw [spec_l05Type.j0]) (ev_pos rfl (Ev.now _))
  unfold spec_l05Type.f
  by_cases c1 : 1 ≤ a ∧ a ≤ 1000
  · by_cases c2 : 0 ≤ now ∧ now ≤ 1000000
    · by_cases c3 : untilV a h ≤ now
      · refine ⟨([], [], [], false), ev_b (sMember a) (ev_pos (decide_eq_true c1) (ev_b (sTick now) (ev_pos (decide_eq_true c2) (Ev.bind (specUntil h (by omega) a) ?_)))), fun e => by cases e⟩
        rw [decide_eq_true c3]; exact no
      · refine ⟨give h (putL a (wrap64 (now + 6)) t) m, ev_b (sMember a) (ev_pos (decide_eq_true c1) (ev_b (sTick now) (ev_pos (decide_eq_true c2) (Ev.bind (specUntil h (by omega) a) ?_)))), fun e => give_good (by omega) (by omega) (by omega) sm e⟩
        rw [decide_eq_false c3]
        exact Ev.step (fun k => by rw [spec_l05Type.j0]) (ev_neg (by simp) (ev_b (ownP h t m (by omega) (by omega) (by omega)) (Ev.bind (specPut t (by omega) _ _) (Ev.bind (giveP h (putL a (wrap64 (now + 6)) t) m (by omega) (by omega) (by omega)) (Ev.now _)))))
    · exact ⟨([], [], [], false), ev_b (sMember a) (ev_pos (decide_eq_true c1) (ev_b (sTick now) (ev_neg (by simpa using c2) no))), fun e => by cases e⟩
  · exact ⟨([], [], [], false), ev_b (sMember a) (ev_neg (by simpa using c1) no), fun e => by cases e⟩
theorem readP {n : Nat} {h t : List TL} {m : List TM} (g : Good n h t m) (sm : Sm h) (hn : n ≤ 100) (a v : Int) : ∃ r : List TL × List TL × List TM × Bool, Ev (fun k => spec_l05ReadUp.f k h t m a v) r ∧ (r.2.2.2 = true → Good (n + 1) r.1 r.2.1 r.2.2.1 ∧ Sm r.1) := by
  obtain ⟨g1, g2, g3, g4⟩ := g
  have lp := putM_len a v m
  have no : Ev (fun k => spec_l05ReadUp.j0 k a v true h t m) ([], [], [], false) := Ev.step (fun k => by rw [spec_l05ReadUp.j0]) (ev_pos rfl (Ev.now _))
  unfold spec_l05ReadUp.f
  by_cases c1 : 1 ≤ a ∧ a ≤ 1000
  · by_cases c2 : 0 ≤ v ∧ v ≤ 1000000000
    · refine ⟨give h t (putM a v m), ev_b (sMember a) (ev_pos (decide_eq_true c1) (ev_b (specIn v 0 1000000000) ?_)), fun e => give_good (by omega) (by omega) (by omega) sm e⟩
      rw [decide_eq_true c2]
      exact Ev.step (fun k => by rw [spec_l05ReadUp.j0]) (ev_neg (by simp) (ev_b (ownP h t m (by omega) (by omega) (by omega)) (Ev.bind (specRead m (by omega) _ _) (Ev.bind (giveP h t (putM a v m) (by omega) (by omega) (by omega)) (Ev.now _)))))
    · refine ⟨([], [], [], false), ev_b (sMember a) (ev_pos (decide_eq_true c1) (ev_b (specIn v 0 1000000000) ?_)), fun e => by cases e⟩
      rw [decide_eq_false c2]; exact no
  · exact ⟨([], [], [], false), ev_b (sMember a) (ev_neg (by simpa using c1) no), fun e => by cases e⟩
theorem beatP {n : Nat} {h t : List TL} {m : List TM} (g : Good n h t m) (sm : Sm h) (hn : n ≤ 100) (a now v : Int) (hw : wrap64 (now + v) ≤ 60) : ∃ r : List TL × List TL × List TM × Bool, Ev (fun k => spec_l05Beat.f k h t m a now v) r ∧ (r.2.2.2 = true → Good (n + 1) r.1 r.2.1 r.2.2.1 ∧ Sm r.1) := by
  obtain ⟨g1, g2, g3, g4⟩ := g
  have lp := putL_len a (wrap64 (now + v)) h
  have no : Ev (fun k => spec_l05Beat.j0 k a now v true h t m) ([], [], [], false) := Ev.step (fun k => by rw [spec_l05Beat.j0]) (ev_pos rfl (Ev.now _))
  unfold spec_l05Beat.f
  by_cases c1 : 1 ≤ a ∧ a ≤ 1000
  · by_cases c2 : 0 ≤ now ∧ now ≤ 1000000
    · by_cases c3 : 1 ≤ v ∧ v ≤ 1000
      · refine ⟨give (putL a (wrap64 (now + v)) h) t m, ev_b (sMember a) (ev_pos (decide_eq_true c1) (ev_b (sTick now) (ev_pos (decide_eq_true c2) (ev_b (specIn v 1 1000) ?_)))), fun e => give_good (by omega) (by omega) (by omega) (sm_put hw _ sm) e⟩
        rw [decide_eq_true c3]
        exact Ev.step (fun k => by rw [spec_l05Beat.j0]) (ev_neg (by simp) (ev_b (ownP h t m (by omega) (by omega) (by omega)) (Ev.bind (specPut h (by omega) _ _) (Ev.bind (giveP (putL a (wrap64 (now + v)) h) t m (by omega) (by omega) (by omega)) (Ev.now _)))))
      · refine ⟨([], [], [], false), ev_b (sMember a) (ev_pos (decide_eq_true c1) (ev_b (sTick now) (ev_pos (decide_eq_true c2) (ev_b (specIn v 1 1000) ?_)))), fun e => by cases e⟩
        rw [decide_eq_false c3]; exact no
    · exact ⟨([], [], [], false), ev_b (sMember a) (ev_pos (decide_eq_true c1) (ev_b (sTick now) (ev_neg (by simpa using c2) no))), fun e => by cases e⟩
  · exact ⟨([], [], [], false), ev_b (sMember a) (ev_neg (by simpa using c1) no), fun e => by cases e⟩
theorem drawMember {l : List Int} (hl : U8s l) (i s : Int) (h0 : 0 ≤ i) (h1 : i ≤ 1000000) : ∃ a i' s', spec_l01DrawMember.f l i s = some (a, i', s') ∧ i ≤ i' ∧ i' ≤ i + 2 := by
  unfold spec_l01DrawMember.f
  obtain ⟨v, i', s', e, _, _, _, p, q⟩ := pickOk hl i s 5 h0 (by omega)
  rw [e]
  exact ⟨_, _, _, rfl, p, q⟩
theorem drawL {l : List Int} (hl : U8s l) : ∀ (d n : Nat) (now i s : Int) (h t : List TL) (m : List TM), d + n ≤ 9 → Good n h t m → Sm h → 0 ≤ now → now ≤ 9 + 2 * n → 0 ≤ i → i ≤ 100 + 10 * n →
    ∃ (h' t' : List TL) (m' : List TM) (i' s' : Int), Ev (fun k => spec_l05DrawOk.l0 k now (d : Int) l i s h t m) (h', t', m', i', s') ∧ Good 9 h' t' m' ∧ Sm h'
  | 0, n, now, i, s, h, t, m, hn, g, sm, t0, t1, h0, h1 => by
    refine ⟨h, t, m, i, s, ?_, g.up (by omega), sm⟩
    refine Ev.step (fun k => by rw [spec_l05DrawOk.l0]) ?_
    exact ev_neg (by omega) (Ev.now _)
  | d + 1, n, now, i, s, h, t, m, hn, g, sm, t0, t1, h0, h1 => by
    have w2 : wrap64 (((d + 1 : Nat) : Int) - 1) = (d : Int) := by rw [w64 (by omega) (by omega)]; omega
    obtain ⟨a, i1, s1, e1, p1, q1⟩ := drawMember hl i s h0 (by omega)
    obtain ⟨c, i2, s2, e2, _, _, _, p2, q2⟩ := pickOk hl i1 s1 4 (by omega) (by omega)
    by_cases c0 : c = 0
    · obtain ⟨r, er, gr⟩ := typeP g sm (by omega) a now
      obtain ⟨v, i4, s4, e4, v0, v1, _, p4, q4⟩ := pickOk hl i2 s2 3 (by omega) (by omega)
      have v1' := v1 (by omega)
      have wv : wrap64 (now + v) = now + v := w64 (by omega) (by omega)
      by_cases ok : r.2.2.2 = true
      · obtain ⟨h', t', m', i', s', E, G⟩ := drawL hl d (n + 1) (wrap64 (now + v)) i4 s4 r.1 r.2.1 r.2.2.1 (by omega) (gr ok).1 (gr ok).2 (by rw [wv]; omega) (by rw [wv]; omega) (by omega) (by omega)
        refine ⟨h', t', m', i', s', ?_, G⟩
        refine Ev.step (fun k => by rw [spec_l05DrawOk.l0]) ?_
        rw [w2]
        exact ev_pos (by omega) (ev_b e1 (ev_b e2 (ev_pos c0 (Ev.bind er (ev_pos ok (ev_b e4 E))))))
      · obtain ⟨h', t', m', i', s', E, G⟩ := drawL hl d (n + 1) (wrap64 (now + v)) i4 s4 h t m (by omega) (g.up (by omega)) sm (by rw [wv]; omega) (by rw [wv]; omega) (by omega) (by omega)
        refine ⟨h', t', m', i', s', ?_, G⟩
        refine Ev.step (fun k => by rw [spec_l05DrawOk.l0]) ?_
        rw [w2]
        exact ev_pos (by omega) (ev_b e1 (ev_b e2 (ev_pos c0 (Ev.bind er (ev_neg ok (ev_b e4 E))))))
    · obtain ⟨u, i3, s3, e3, u0, u1, _, p3, q3⟩ := pickOk hl i2 s2 12 (by omega) (by omega)
      have u1' := u1 (by omega)
      obtain ⟨v, i4, s4, e4, v0, v1, _, p4, q4⟩ := pickOk hl i3 s3 3 (by omega) (by omega)
      have v1' := v1 (by omega)
      have wv : wrap64 (now + v) = now + v := w64 (by omega) (by omega)
      by_cases c1 : c = 1
      · obtain ⟨r, er, gr⟩ := readP g sm (by omega) a u
        by_cases ok : r.2.2.2 = true
        · obtain ⟨h', t', m', i', s', E, G⟩ := drawL hl d (n + 1) (wrap64 (now + v)) i4 s4 r.1 r.2.1 r.2.2.1 (by omega) (gr ok).1 (gr ok).2 (by rw [wv]; omega) (by rw [wv]; omega) (by omega) (by omega)
          refine ⟨h', t', m', i', s', ?_, G⟩
          refine Ev.step (fun k => by rw [spec_l05DrawOk.l0]) ?_
          rw [w2]
          exact ev_pos (by omega) (ev_b e1 (ev_b e2 (ev_neg c0 (ev_pos c1 (ev_b e3 (Ev.bind er (ev_pos ok (ev_b e4 E))))))))
        · obtain ⟨h', t', m', i', s', E, G⟩ := drawL hl d (n + 1) (wrap64 (now + v)) i4 s4 h t m (by omega) (g.up (by omega)) sm (by rw [wv]; omega) (by rw [wv]; omega) (by omega) (by omega)
          refine ⟨h', t', m', i', s', ?_, G⟩
          refine Ev.step (fun k => by rw [spec_l05DrawOk.l0]) ?_
          rw [w2]
          exact ev_pos (by omega) (ev_b e1 (ev_b e2 (ev_neg c0 (ev_pos c1 (ev_b e3 (Ev.bind er (ev_neg ok (ev_b e4 E))))))))
      · obtain ⟨r, er, gr⟩ := beatP g sm (by omega) a now (wrap64 (1 + u)) (by rw [w64 (n := 1 + u) (by omega) (by omega), w64 (by omega) (by omega)]; omega)
        by_cases ok : r.2.2.2 = true
        · obtain ⟨h', t', m', i', s', E, G⟩ := drawL hl d (n + 1) (wrap64 (now + v)) i4 s4 r.1 r.2.1 r.2.2.1 (by omega) (gr ok).1 (gr ok).2 (by rw [wv]; omega) (by rw [wv]; omega) (by omega) (by omega)
          refine ⟨h', t', m', i', s', ?_, G⟩
          refine Ev.step (fun k => by rw [spec_l05DrawOk.l0]) ?_
          rw [w2]
          exact ev_pos (by omega) (ev_b e1 (ev_b e2 (ev_neg c0 (ev_neg c1 (ev_b e3 (Ev.bind er (ev_pos ok (ev_b e4 E))))))))
        · obtain ⟨h', t', m', i', s', E, G⟩ := drawL hl d (n + 1) (wrap64 (now + v)) i4 s4 h t m (by omega) (g.up (by omega)) sm (by rw [wv]; omega) (by rw [wv]; omega) (by omega) (by omega)
          refine ⟨h', t', m', i', s', ?_, G⟩
          refine Ev.step (fun k => by rw [spec_l05DrawOk.l0]) ?_
          rw [w2]
          exact ev_pos (by omega) (ev_b e1 (ev_b e2 (ev_neg c0 (ev_neg c1 (ev_b e3 (Ev.bind er (ev_neg ok (ev_b e4 E))))))))
/-- What is drawn as a presence is one, of few entries. -/
theorem drawP {l : List Int} (hl : U8s l) : ∃ (h t : List TL) (m : List TM), Ev (fun k => spec_B10Presence.f k l) (h, t, m) ∧ Good 9 h t m ∧ Sm h := by
  obtain ⟨now, i1, s1, e1, n0, n1, _, p1, q1⟩ := pickOk hl 0 0 10 (by omega) (by omega)
  obtain ⟨d, i2, s2, e2, d0, d1, _, p2, q2⟩ := pickOk hl i1 s1 10 (by omega) (by omega)
  obtain ⟨d, rfl⟩ := Int.eq_ofNat_of_zero_le d0
  have d1' := d1 (by omega)
  have n1' := n1 (by omega)
  obtain ⟨h, t, m, i', s', E, G⟩ := drawL hl d 0 now i2 s2 [] [] [] (by omega) ⟨rfl, Nat.le_refl _, Nat.le_refl _, Nat.le_refl _⟩ (fun x hx => by cases hx) n0 (by omega) (by omega) (by omega)
  refine ⟨h, t, m, ?_, G⟩
  unfold spec_B10Presence.f spec_l00From.f spec_l05DrawOk.f
  exact ev_b rfl (Ev.bind (a := (h, t, m, i', s')) (ev_b e1 (ev_b e2 E)) (Ev.now _))
theorem lOk_put {a v : Int} (ha : 1 ≤ a ∧ a ≤ 1000) (hv : 0 ≤ v ∧ v ≤ 1000000) : ∀ (l : List TL) (p : Int), p < a → lOk p l = true → lOk p (putL a v l) = true
  | [], p, hp, _ => by
    simp only [putL, lOk, Bool.and_true, decide_eq_true_eq]
    exact ⟨⟨ha, hv⟩, hp⟩
  | x :: r, p, hp, h => by
    have h' := h
    unfold lOk at h
    simp only [Bool.and_eq_true, decide_eq_true_eq] at h
    obtain ⟨⟨⟨h1, h2⟩, h3⟩, h4⟩ := h
    by_cases c1 : x.f0 < a
    · rw [putL, if_pos c1]
      unfold lOk
      simp only [Bool.and_eq_true, decide_eq_true_eq]
      exact ⟨⟨⟨h1, h2⟩, h3⟩, lOk_put ha hv r _ c1 h4⟩
    · by_cases c2 : x.f0 = a
      · rw [putL, if_neg c1, if_pos c2]
        unfold lOk
        simp only [Bool.and_eq_true, decide_eq_true_eq]
        refine ⟨⟨⟨h1, ?_⟩, h3⟩, h4⟩
        show 0 ≤ mx x.f1 v ∧ mx x.f1 v ≤ 1000000
        unfold mx
        split <;> omega
      · rw [putL, if_neg c1, if_neg c2]
        unfold lOk
        simp only [Bool.and_eq_true, decide_eq_true_eq]
        refine ⟨⟨⟨ha, hv⟩, hp⟩, ?_⟩
        unfold lOk
        simp only [Bool.and_eq_true, decide_eq_true_eq]
        exact ⟨⟨⟨h1, h2⟩, show a < x.f0 by omega⟩, h4⟩
theorem good_parts {n : Nat} {h t : List TL} {m : List TM} (g : Good n h t m) : lOk 0 h = true ∧ lOk 0 t = true ∧ mOk 0 m = true := by
  have c := g.1
  unfold presV leasesV at c
  simp only [Bool.and_eq_true] at c
  exact ⟨c.2.1.1, c.2.2.1.1, c.1⟩
theorem membersOf (l : List TL) (hl : l.length ≤ 100000000) (n : Int) : Ev (fun k => impl_membersOf.f k l n) (live l n) := by
  unfold impl_membersOf.f
  have key := idx_ind l (fun i => ∀ out : List Int, out.length ≤ i → Ev (fun k => impl_membersOf.l0 k n out l (l.length : Int) (i : Int)) (out ++ live (l.drop i) n)) ?_ ?_ 0 (Nat.zero_le _) [] (Nat.le_refl _)
  · simpa using key
  · intro out _
    refine Ev.step (fun k => by rw [impl_membersOf.l0]) ?_
    exact ev_neg (by omega) (ev_some (by simp [live]))
  · intro i hi ih out ho
    refine Ev.step (fun k => by rw [impl_membersOf.l0]) ?_
    rw [rdOLease l i hi, wsucc hi (by omega), drop_at l i hi]
    refine ev_pos (by omega) (ev_pos (by omega) (ev_pos (by omega) ?_))
    by_cases e : l[i].f1 > n
    · refine ev_pos e (ev_pos (by omega) (ev_eq (ih _ (by simp; omega)) ?_))
      simp only [live]
      rw [List.filter_cons, if_pos (by simpa using e)]
      simp
    · refine ev_neg e (ev_eq (ih out (by omega)) ?_)
      simp only [live]
      rw [List.filter_cons, if_neg (by simpa using e)]
theorem presentAt {q : Nat} {h t : List TL} {m : List TM} (g : Good q h t m) (hq : q ≤ 100) (n : Int) (h0 : 0 ≤ n) (h1 : n ≤ 1000000) : Ev (fun k => impl_PresentAt.f k h t m n) (live h n, true) := by
  have v := implPres h t m (by have := g.2.1; omega) (by have := g.2.2.1; omega) (by have := g.2.2.2; omega)
  rw [g.1] at v
  unfold impl_PresentAt.f
  exact Ev.bind v (ev_pos rfl (ev_b (iTick n) (ev_pos (decide_eq_true ⟨h0, h1⟩) (Ev.bind (membersOf h (by have := g.2.1; omega) n) (Ev.now _)))))
theorem until_til (a : Int) : ∀ l : List TL, untilV a l = (til l a).getD (-1)
  | [] => rfl
  | x :: r => by
    rw [untilV, til]
    by_cases c : x.f0 = a
    · rw [if_pos c, if_pos c]; rfl
    · rw [if_neg c, if_neg c]; exact until_til a r
/-- The leases of typing, as long as their members are here. -/
def typistsV (h t : List TL) : List TL := t.map (fun x => ⟨x.f0, mn x.f1 (untilV x.f0 h)⟩)
theorem typistsE (h t : List TL) (m : List TM) (hh : h.length ≤ 1048576) (ht : t.length ≤ 1048576) (up : h.Pairwise (fun x y => x.f0 < y.f0)) : Ev (fun k => impl_Presence_typists.f k h t m) (typistsV h t) := by
  unfold impl_Presence_typists.f
  have key := idx_ind t (fun i => ∀ out : List TL, out.length ≤ i → Ev (fun k => impl_Presence_typists.l0 k out t (t.length : Int) (i : Int) h t m) (out ++ typistsV h (t.drop i))) ?_ ?_ 0 (Nat.zero_le _) [] (Nat.le_refl _)
  · simpa using key
  · intro out _
    refine Ev.step (fun k => by rw [impl_Presence_typists.l0]) ?_
    exact ev_neg (by omega) (ev_some (by simp [typistsV]))
  · intro i hi ih out ho
    refine Ev.step (fun k => by rw [impl_Presence_typists.l0]) ?_
    rw [rdOLease t i hi, wsucc hi (by omega), drop_at t i hi]
    refine ev_pos (by omega) (ev_pos (by omega) (ev_pos (by omega) (Ev.bind (untilL h hh _ up) (ev_pos (by omega) (ev_eq (ih _ (by simp; omega)) ?_)))))
    rw [List.append_assoc]
    rfl
theorem live_typists (h t : List TL) (n : Int) : live (typistsV h t) n = types h t n := by
  unfold live typistsV types
  rw [List.filter_map, List.map_map]
  congr 1
  apply List.filter_congr
  intro x _
  show decide (n < mn x.f1 (untilV x.f0 h)) = _
  rw [until_til]
  generalize (til h x.f0).getD (-1) = u
  unfold mn
  by_cases c : n < x.f1
  · by_cases d : n < u
    · rw [decide_eq_true c, decide_eq_true d, decide_eq_true (by split <;> omega)]; rfl
    · rw [decide_eq_false d, Bool.and_false, decide_eq_false (by split <;> omega)]
  · rw [decide_eq_false c, Bool.false_and, decide_eq_false (by split <;> omega)]
theorem typingAt {q : Nat} {h t : List TL} {m : List TM} (g : Good q h t m) (hq : q ≤ 100) (n : Int) (h0 : 0 ≤ n) (h1 : n ≤ 1000000) : Ev (fun k => impl_TypingAt.f k h t m n) (types h t n, true) := by
  have l1 := g.2.1
  have l2 := g.2.2.1
  have v := implPres h t m (by omega) (by omega) (by have := g.2.2.2; omega)
  rw [g.1] at v
  have up := leasesV_up (presV_here g.1)
  have tt := typistsE h t m (by omega) (by omega) up
  have ml := membersOf (typistsV h t) (by simp [typistsV]; omega) n
  rw [live_typists] at ml
  unfold impl_TypingAt.f
  refine Ev.bind v (ev_pos rfl (ev_b (iTick n) ?_))
  rw [decide_eq_true (show 0 ≤ n ∧ n ≤ 1000000 from ⟨h0, h1⟩)]
  refine Ev.step (fun k => by rw [impl_TypingAt.j0]) ?_
  exact ev_neg (by simp) (Ev.bind tt (Ev.bind ml (Ev.now _)))
theorem rd_at (l : List Int) (i : Nat) (h : i < l.length) : rd l (i : Int) = l[i] := by
  simp [rd, List.getD, h]
theorem live_len (l : List TL) (n : Int) : (live l n).length ≤ l.length := by
  unfold live
  rw [List.length_map]
  exact List.length_filter_le _ _
theorem nums2 (a b : List Int) (ha : a.length ≤ 1048576) (hb : b.length ≤ 1048576) : Ev (fun k => laws_b10Nums.f k a b) (decide (a = b)) := by
  unfold laws_b10Nums.f
  by_cases c : a.length = b.length
  · refine ev_pos (by omega) ?_
    have key := idx_ind a (fun i => Ev (fun k => laws_b10Nums.l0 k a b (i : Int)) (decide (a.drop i = b.drop i))) ?_ ?_ 0 (Nat.zero_le _)
    · simpa using key
    · refine Ev.step (fun k => by rw [laws_b10Nums.l0]) ?_
      have e : b.drop a.length = [] := by rw [c, List.drop_length]
      refine ev_neg (by omega) (ev_some ?_)
      rw [List.drop_length, e]
      rfl
    · intro i hi ih
      refine Ev.step (fun k => by rw [laws_b10Nums.l0]) ?_
      have hi2 : i < b.length := by omega
      rw [rd_at a i hi, rd_at b i hi2, wsucc hi (by omega), drop_at a i hi, drop_at b i hi2]
      refine ev_pos (by omega) (ev_pos (by omega) (ev_pos (by omega) ?_))
      by_cases e : a[i] = b[i]
      · refine ev_pos e (ev_eq ih ?_)
        rw [decide_eq_decide, List.cons.injEq]
        exact ⟨fun h => ⟨e, h⟩, fun h => h.2⟩
      · refine ev_neg e (ev_some ?_)
        rw [decide_eq_false (fun h => e (List.cons.inj h).1)]
  · refine ev_neg (by omega) (ev_some ?_)
    rw [decide_eq_false (fun e => c (by rw [e]))]
theorem hasE (l : List Int) (hl : l.length ≤ 1048576) (a : Int) : Ev (fun k => laws_b10Has.f k l a) (decide (a ∈ l)) := by
  unfold laws_b10Has.f
  have key := idx_ind l (fun i => Ev (fun k => laws_b10Has.l0 k l a (l.length : Int) (i : Int)) (decide (a ∈ l.drop i))) ?_ ?_ 0 (Nat.zero_le _)
  · simpa using key
  · refine Ev.step (fun k => by rw [laws_b10Has.l0]) ?_
    exact ev_neg (by omega) (ev_some (by simp))
  · intro i hi ih
    refine Ev.step (fun k => by rw [laws_b10Has.l0]) ?_
    rw [rd_at l i hi, wsucc hi (by omega), drop_at l i hi]
    refine ev_pos (by omega) (ev_pos (by omega) (ev_pos (by omega) ?_))
    by_cases e : l[i] = a
    · exact ev_pos e (ev_some (by simp [e]))
    · refine ev_neg e (ev_eq ih ?_)
      rw [decide_eq_decide, List.mem_cons]
      exact ⟨.inr, fun h => h.elim (fun h => absurd h.symm e) id⟩
theorem b10At {l : List Int} (h : U8s l) (i n : Int) (h0 : 0 ≤ i) (h1 : i ≤ 1000) (hn : 2 ≤ n) : ∃ v, laws_b10At.f l i n = some v ∧ 0 ≤ v ∧ v < n := by
  unfold laws_b10At.f
  rw [if_neg (by omega)]
  by_cases c1 : i < (l.length : Int)
  · have hr := u8_rd h i
    rw [if_pos c1, if_pos h0, if_neg (by omega), w64 (by omega) (by omega), Int.tmod_eq_emod_of_nonneg (by omega)]
    exact ⟨_, rfl, Int.emod_nonneg _ (by omega), Int.emod_lt_of_pos _ (by omega)⟩
  · rw [if_neg c1, if_neg (by omega), w64 (n := i * 37) (by omega) (by omega), w64 (by omega) (by omega), Int.tmod_eq_emod_of_nonneg (by omega)]
    exact ⟨_, rfl, Int.emod_nonneg _ (by omega), Int.emod_lt_of_pos _ (by omega)⟩
theorem dropE (c : Int) (l : List TL) (hl : l.length ≤ 100000000) : Ev (fun k => impl_dropLeases_v2.f k l c) (l.filter (fun y => !pL c y)) := by
  unfold impl_dropLeases_v2.f
  exact Ev.bind (delL c l hl) (Ev.now _)
theorem til_mem : ∀ l : List TL, l.Pairwise (fun x y => x.f0 < y.f0) → ∀ x ∈ l, til l x.f0 = some x.f1
  | [], _, x, hx => by cases hx
  | y :: r, h, x, hx => by
    have h' := List.pairwise_cons.1 h
    rcases List.mem_cons.1 hx with rfl | hx
    · simp [til]
    · have := h'.1 x hx
      rw [til, if_neg (by omega)]
      exact til_mem r h'.2 x hx
theorem til_some (m u : Int) : ∀ l : List TL, til l m = some u → ∃ x ∈ l, x.f0 = m ∧ x.f1 = u
  | [], h => by cases h
  | y :: r, h => by
    rw [til] at h
    by_cases c : y.f0 = m
    · rw [if_pos c] at h
      exact ⟨y, List.mem_cons_self, c, Option.some.inj h⟩
    · rw [if_neg c] at h
      obtain ⟨x, hx, e⟩ := til_some m u r h
      exact ⟨x, List.mem_cons_of_mem _ hx, e⟩
theorem til_beat (a v : Int) (l : List TL) (up : l.Pairwise (fun x y => x.f0 < y.f0)) : ∃ u, til (putL a v l) a = some u ∧ v ≤ u := by
  rw [til_put a v a l up, if_pos rfl]
  cases til l a with
  | none => exact ⟨v, rfl, Int.le_refl _⟩
  | some u => exact ⟨mx u v, rfl, by unfold mx; split <;> omega⟩
theorem live_beat (a v : Int) (l : List TL) (up : l.Pairwise (fun x y => x.f0 < y.f0)) : a ∈ live (putL a v l) v ↔ a ∈ live l v := by
  rw [live_mem v a _ (putL_up a v l up), live_mem v a _ up, til_put a v a l up, if_pos rfl]
  cases til l a with
  | none => simp
  | some u =>
    simp only [Option.some.injEq, exists_eq_left', mx]
    split <;> omega
theorem live_nil {l : List TL} {t : Int} (h : ∀ x ∈ l, x.f1 ≤ t) : live l t = [] := by
  unfold live
  rw [List.filter_eq_nil_iff.2 (fun x hx => by have := h x hx; simp; omega)]
  rfl
theorem live_same {l : List TL} {now t : Int} (hn : now ≤ t) (h : ∀ x ∈ l, now < x.f1 → t < x.f1) : live l now = live l t := by
  unfold live
  congr 1
  apply List.filter_congr
  intro x hx
  have := h x hx
  rw [decide_eq_decide]
  omega
theorem live_diff {l : List TL} (up : l.Pairwise (fun x y => x.f0 < y.f0)) {now t : Int} {x : TL} (hx : x ∈ l) (h1 : now < x.f1) (h2 : x.f1 = t) : live l now ≠ live l t := by
  intro e
  have a := (live_mem now x.f0 l up).2 ⟨x.f1, til_mem l up x hx, h1⟩
  rw [e] at a
  obtain ⟨u, hu, hlt⟩ := (live_mem t x.f0 l up).1 a
  rw [til_mem l up x hx] at hu
  have := Option.some.inj hu
  omega
theorem typists_up (h : List TL) {t : List TL} (up : t.Pairwise (fun x y => x.f0 < y.f0)) : (typistsV h t).Pairwise (fun x y => x.f0 < y.f0) := by
  unfold typistsV
  exact List.pairwise_map.2 up
theorem until_le (a n : Int) (hn : -1 ≤ n) : ∀ l : List TL, (∀ x ∈ l, x.f1 ≤ n) → untilV a l ≤ n
  | [], _ => hn
  | x :: r, h => by
    rw [untilV]
    split
    · exact h x List.mem_cons_self
    · exact until_le a n hn r (fun y hy => h y (List.mem_cons_of_mem _ hy))
theorem typists_le {h t : List TL} {n : Int} (hn : -1 ≤ n) (hh : ∀ x ∈ h, x.f1 ≤ n) : ∀ x ∈ typistsV h t, x.f1 ≤ n := by
  intro x hx
  unfold typistsV at hx
  obtain ⟨y, hy, rfl⟩ := List.mem_map.1 hx
  have := until_le y.f0 n hn h hh
  show mn y.f1 (untilV y.f0 h) ≤ n
  unfold mn
  split <;> omega
theorem types_in {h t : List TL} (up : h.Pairwise (fun x y => x.f0 < y.f0)) {now : Int} (hn : 0 ≤ now) : ∀ q ∈ types h t now, q ∈ live h now := by
  intro q hq
  unfold types at hq
  obtain ⟨x, hx, rfl⟩ := List.mem_map.1 hq
  have h2 := (List.mem_filter.1 hx).2
  simp only [Bool.and_eq_true, decide_eq_true_eq] at h2
  rw [live_mem now x.f0 h up]
  cases e : til h x.f0 with
  | none =>
    rw [e] at h2
    have h3 : now < -1 := h2.2
    omega
  | some u =>
    rw [e] at h2
    exact ⟨u, rfl, h2.2⟩
theorem best_pos (now : Int) (h0 : 0 ≤ now) : ∀ (l : List TL) (b : Int), 0 ≤ b → 0 ≤ bestV now l b
  | [], b, h => h
  | x :: r, b, h => by
    rw [bestV]
    refine best_pos now h0 r _ ?_
    unfold nx
    split
    · split
      · omega
      · split <;> omega
    · omega
theorem best_neg (now : Int) (h0 : 0 ≤ now) : ∀ (l : List TL) (b : Int), b < 0 → (bestV now l b < 0 ↔ ∀ x ∈ l, x.f1 ≤ now)
  | [], b, h => ⟨fun _ x hx => (by cases hx), fun _ => h⟩
  | x :: r, b, h => by
    rw [bestV]
    by_cases c : x.f1 > now
    · have e : nx now x.f1 b = x.f1 := by unfold nx; rw [if_pos c, if_pos h]
      rw [e]
      have := best_pos now h0 r x.f1 (by omega)
      constructor
      · intro h2; omega
      · intro h2; have := h2 x List.mem_cons_self; omega
    · have e : nx now x.f1 b = b := by unfold nx; rw [if_neg c]
      rw [e, best_neg now h0 r b h]
      constructor
      · intro h2 y hy
        rcases List.mem_cons.1 hy with rfl | hy
        · omega
        · exact h2 y hy
      · intro h2 y hy; exact h2 y (List.mem_cons_of_mem _ hy)
theorem best_append (now : Int) (r : List TL) : ∀ (l : List TL) (b : Int), bestV now (l ++ r) b = bestV now r (bestV now l b)
  | [], _ => rfl
  | x :: l, b => by
    rw [List.cons_append, bestV, bestV, best_append now r l]
theorem best_min (now : Int) (h0 : 0 ≤ now) : ∀ (l : List TL) (b r : Int), bestV now l b = r → 0 ≤ r → (b < 0 ∨ now < b) → now < r ∧ (0 ≤ b → r ≤ b) ∧ (∀ x ∈ l, now < x.f1 → r ≤ x.f1) ∧ ((∃ x ∈ l, x.f1 = r) ∨ b = r)
  | [], b, r, h, hr, hb => by
    rw [bestV] at h
    subst h
    exact ⟨by omega, fun _ => Int.le_refl _, fun x hx => (by cases hx), .inr rfl⟩
  | x :: l, b, r, h, hr, hb => by
    rw [bestV] at h
    by_cases c : x.f1 > now
    · by_cases d : b < 0 ∨ x.f1 < b
      · have e : nx now x.f1 b = x.f1 := by
          unfold nx
          rw [if_pos c]
          split
          · rfl
          · rw [if_pos (by omega)]
        rw [e] at h
        obtain ⟨h1, h2, h3, h4⟩ := best_min now h0 l x.f1 r h hr (.inr c)
        have h2' := h2 (by omega)
        refine ⟨h1, fun _ => by omega, fun y hy hy2 => ?_, .inl ?_⟩
        · rcases List.mem_cons.1 hy with rfl | hy
          · exact h2'
          · exact h3 y hy hy2
        · rcases h4 with ⟨y, hy, e2⟩ | e2
          · exact ⟨y, List.mem_cons_of_mem _ hy, e2⟩
          · exact ⟨x, List.mem_cons_self, e2⟩
      · have e : nx now x.f1 b = b := by
          unfold nx
          rw [if_pos c, if_neg (by omega), if_neg (by omega)]
        rw [e] at h
        obtain ⟨h1, h2, h3, h4⟩ := best_min now h0 l b r h hr hb
        have h2' := h2 (by omega)
        refine ⟨h1, h2, fun y hy hy2 => ?_, ?_⟩
        · rcases List.mem_cons.1 hy with rfl | hy
          · omega
          · exact h3 y hy hy2
        · rcases h4 with ⟨y, hy, e2⟩ | e2
          · exact .inl ⟨y, List.mem_cons_of_mem _ hy, e2⟩
          · exact .inr e2
    · have e : nx now x.f1 b = b := by unfold nx; rw [if_neg c]
      rw [e] at h
      obtain ⟨h1, h2, h3, h4⟩ := best_min now h0 l b r h hr hb
      refine ⟨h1, h2, fun y hy hy2 => ?_, ?_⟩
      · rcases List.mem_cons.1 hy with rfl | hy
        · omega
        · exact h3 y hy hy2
      · rcases h4 with ⟨y, hy, e2⟩ | e2
        · exact .inl ⟨y, List.mem_cons_of_mem _ hy, e2⟩
        · exact .inr e2
/-- The reference's reading of who types. -/
def bestS (now : Int) (h : List TL) : List TL → Int → Int
  | [], b => b
  | x :: r, b => bestS now h r (if x.f1 > now then (if untilV x.f0 h ≥ x.f1 then (if b < 0 then x.f1 else if x.f1 < b then x.f1 else b) else b) else b)
theorem bestS_pos (now : Int) (h0 : 0 ≤ now) (h : List TL) : ∀ (l : List TL) (b : Int), 0 ≤ b → 0 ≤ bestS now h l b
  | [], b, hb => hb
  | x :: r, b, hb => by
    rw [bestS]
    refine bestS_pos now h0 h r _ ?_
    split
    · split
      · split
        · omega
        · split <;> omega
      · omega
    · omega
theorem bestS_neg (now : Int) (h0 : 0 ≤ now) (h : List TL) (hh : ∀ x ∈ h, x.f1 ≤ now) : ∀ (l : List TL) (b : Int), b < 0 → bestS now h l b < 0
  | [], b, hb => hb
  | x :: r, b, hb => by
    have := until_le x.f0 now (by omega) h hh
    rw [bestS]
    refine bestS_neg now h0 h hh r _ ?_
    split
    · rw [if_neg (by omega)]; exact hb
    · exact hb
theorem specNext {q : Nat} {h t : List TL} {m : List TM} (g : Good q h t m) (hq : q ≤ 100) (now : Int) (h0 : 0 ≤ now) (h1 : now ≤ 1000000) : ∃ s, Ev (fun k => spec_NextChange.f k h t m now) (s, decide (¬ bestV now h (-1) < 0)) := by
  have l1 := g.2.1
  have l2 := g.2.2.1
  have v := specPres h t m (by omega) (by omega) (by have := g.2.2.2; omega)
  rw [g.1] at v
  have loop1 : ∀ b : Int, Ev (fun k => spec_NextChange.l1 k now b (t.length : Int) 0 h t m) (if bestS now h t b < 0 then (0, false) else (bestS now h t b, true)) := by
    have key := idx_ind t (fun i => ∀ b : Int, Ev (fun k => spec_NextChange.l1 k now b (t.length : Int) (i : Int) h t m) (if bestS now h (t.drop i) b < 0 then (0, false) else (bestS now h (t.drop i) b, true))) ?_ ?_ 0 (Nat.zero_le _)
    · simpa using key
    · intro b
      refine Ev.step (fun k => by rw [spec_NextChange.l1]) ?_
      rw [List.drop_length, bestS]
      refine ev_neg (by omega) ?_
      by_cases c : b < 0
      · exact ev_eq (ev_pos c (Ev.now _)) (if_pos c).symm
      · exact ev_eq (ev_neg c (Ev.now _)) (if_neg c).symm
    · intro i hi ih b
      refine Ev.step (fun k => by rw [spec_NextChange.l1]) ?_
      rw [rdOLease t i hi, wsucc hi (by omega), drop_at t i hi, bestS]
      refine ev_pos (by omega) (ev_pos (by omega) (ev_pos (by omega) ?_))
      by_cases c : t[i].f1 > now
      · rw [if_pos c]
        refine ev_pos c (Ev.bind (specUntil h (by omega) _) ?_)
        by_cases c2 : untilV t[i].f0 h ≥ t[i].f1
        · rw [if_pos c2]
          refine ev_pos c2 ?_
          by_cases c3 : b < 0
          · rw [if_pos c3]; exact ev_pos c3 (ih _)
          · rw [if_neg c3]
            refine ev_neg c3 ?_
            by_cases c4 : t[i].f1 < b
            · rw [if_pos c4]; exact ev_pos c4 (ih _)
            · rw [if_neg c4]; exact ev_neg c4 (ih _)
        · rw [if_neg c2]; exact ev_neg c2 (ih _)
      · rw [if_neg c]; exact ev_neg c (ih _)
  have loop0 : Ev (fun k => spec_NextChange.l0 k now (-1) (h.length : Int) 0 h t m) (if bestS now h t (bestV now h (-1)) < 0 then (0, false) else (bestS now h t (bestV now h (-1)), true)) := by
    have key := idx_ind h (fun i => ∀ b : Int, Ev (fun k => spec_NextChange.l0 k now b (h.length : Int) (i : Int) h t m) (if bestS now h t (bestV now (h.drop i) b) < 0 then (0, false) else (bestS now h t (bestV now (h.drop i) b), true))) ?_ ?_ 0 (Nat.zero_le _) (-1)
    · simpa using key
    · intro b
      refine Ev.step (fun k => by rw [spec_NextChange.l0]) ?_
      rw [List.drop_length, bestV]
      exact ev_neg (by omega) (loop1 b)
    · intro i hi ih b
      refine Ev.step (fun k => by rw [spec_NextChange.l0]) ?_
      rw [rdOLease h i hi, wsucc hi (by omega), drop_at h i hi, bestV]
      refine ev_pos (by omega) (ev_pos (by omega) (ev_pos (by omega) ?_))
      unfold nx
      by_cases c : h[i].f1 > now
      · rw [if_pos c]
        refine ev_pos c ?_
        by_cases c3 : b < 0
        · rw [if_pos c3]; exact ev_pos c3 (ih _)
        · rw [if_neg c3]
          refine ev_neg c3 ?_
          by_cases c4 : h[i].f1 < b
          · rw [if_pos c4]; exact ev_pos c4 (ih _)
          · rw [if_neg c4]; exact ev_neg c4 (ih _)
      · rw [if_neg c]; exact ev_neg c (ih _)
  have all : Ev (fun k => spec_NextChange.f k h t m now) (if bestS now h t (bestV now h (-1)) < 0 then (0, false) else (bestS now h t (bestV now h (-1)), true)) := by
    unfold spec_NextChange.f
    refine Ev.bind v (ev_pos rfl (ev_b (sTick now) ?_))
    rw [decide_eq_true (show 0 ≤ now ∧ now ≤ 1000000 from ⟨h0, h1⟩)]
    exact Ev.step (fun k => by rw [spec_NextChange.j0]) (ev_neg (by simp) loop0)
  by_cases c : bestV now h (-1) < 0
  · have := bestS_neg now h0 h ((best_neg now h0 h (-1) (by omega)).1 c) t _ c
    rw [if_pos this] at all
    exact ⟨0, by rw [decide_eq_false (fun z => z c)]; exact all⟩
  · have := bestS_pos now h0 h t _ (show 0 ≤ bestV now h (-1) by omega)
    rw [if_neg (by omega)] at all
    exact ⟨_, by rw [decide_eq_true c]; exact all⟩
theorem Ev.both {α : Type} {g : Nat → Option α} {a : α} {p : Nat → Prop} (h : Ev g a) (e : ∃ K, ∀ k, K ≤ k → p k) : ∃ K, ∀ k, K ≤ k → g k = some a ∧ p k := by
  obtain ⟨K, hK⟩ := h
  obtain ⟨K2, hK2⟩ := e
  exact ⟨K + K2, fun k hk => ⟨hK k (by omega), hK2 k (by omega)⟩⟩
/-- One bound for some moments. -/
theorem span {p : Nat → Int → Prop} (a : Int) : ∀ n : Nat, (∀ t : Int, a ≤ t → t < a + n → ∃ K, ∀ k, K ≤ k → p k t) → ∃ K, ∀ k, K ≤ k → ∀ t : Int, a ≤ t → t < a + n → p k t
  | 0, _ => ⟨0, fun _ _ t h1 h2 => by omega⟩
  | n + 1, h => by
    obtain ⟨K, hK⟩ := span a n (fun t h1 h2 => h t h1 (by omega))
    obtain ⟨L, hL⟩ := h (a + n) (by omega) (by omega)
    refine ⟨K + L, fun k hk t h1 h2 => ?_⟩
    by_cases e : t = a + n
    · rw [e]; exact hL k (by omega)
    · exact hK k (by omega) t h1 (by omega)
theorem types_len (h t : List TL) (n : Int) : (types h t n).length ≤ t.length := by
  unfold types
  rw [List.length_map]
  exact List.length_filter_le _ _
theorem tailE {h t : List TL} {m : List TM} (g : Good 9 h t m) (now : Int) (h0 : 0 ≤ now) (h1 : now < 20) (ten : Bool) (nx : Int) (c1 : now < nx) (c2 : nx ≤ now + 100)
    (same : ∀ x : Int, now < x → x ≤ nx → (decide (live h now = live h x) && decide (types h t now = types h t x)) = !(ten && decide (x = nx))) : ∃ K, ∀ k, K ≤ k → laws_FnLeases.Tail k h t m now ten nx := by
  have up := lOk_up _ _ (good_parts g).1
  have l1 := live_len h now
  have l2 := types_len h t now
  have g1 := g.2.1
  have g2 := g.2.2.1
  have E1 := presentAt g (by omega) now h0 (by omega)
  have E2 := typingAt g (by omega) now h0 (by omega)
  have E3 := span (p := fun k i => laws_b10Has.f k (live h now) (rd (types h t now) i) = some true) 0 (types h t now).length (fun i a1 a2 => by
    obtain ⟨j, rfl⟩ := Int.eq_ofNat_of_zero_le a1
    have hj : j < (types h t now).length := by omega
    have := hasE (live h now) (by omega) (types h t now)[j]
    rw [decide_eq_true (types_in up h0 _ (List.getElem_mem hj)), ← rd_at _ j hj] at this
    exact this)
  have E4 := span (p := fun k x => x ≤ nx → laws_FnLeases.At k h t m (live h now) (types h t now) ten nx x) (now + 1) 100 (fun x a1 a2 => by
    by_cases c : x ≤ nx
    · have F1 := presentAt g (by omega) x (by omega) (by omega)
      have F2 := typingAt g (by omega) x (by omega) (by omega)
      have F3 := nums2 (live h now) (live h x) (by omega) (by have := live_len h x; omega)
      have F4 := nums2 (types h t now) (types h t x) (by omega) (by have := types_len h t x; omega)
      obtain ⟨K, hK⟩ := Ev.both F1 (Ev.both F2 (Ev.both F3 (Ev.both F4 ⟨0, fun _ _ => trivial⟩)))
      refine ⟨K, fun k hk _ => ?_⟩
      obtain ⟨k1, k2, k3, k4, -⟩ := hK k hk
      exact ⟨_, _, _, _, k1, k2, k3, k4, same x (by omega) c⟩
    · exact ⟨0, fun _ _ h => absurd h c⟩)
  obtain ⟨K3, hK3⟩ := E3
  obtain ⟨K4, hK4⟩ := E4
  obtain ⟨K, hK⟩ := Ev.both E1 (Ev.both E2 ⟨0, fun _ _ => trivial⟩)
  refine ⟨K + K3 + K4, fun k hk => ?_⟩
  obtain ⟨k1, k2, -⟩ := hK k (by omega)
  refine ⟨by omega, by rw [w64 (n := now + 100) (by omega) (by omega)]; omega, live h now, types h t now, k1, k2, by omega, fun i a1 a2 => hK3 k (by omega) i a1 (by omega), fun x a1 a2 => hK4 k (by omega) x (by omega) (by omega) a2⟩
theorem FnLeases : laws_FnLeases.Pure := by
  intro l0 l1 _ _ u0 _ _ u1
  by_cases c0 : (l0.length : Int) > 1048576
  · exact ⟨0, .inl (by unfold laws_b10Long.f; rw [if_pos c0])⟩
  by_cases c1 : (l1.length : Int) > 1048576
  · exact ⟨0, .inl (by unfold laws_b10Long.f; rw [if_neg c0, decide_eq_true c1])⟩
  have hb : laws_b10Long.f l0 l1 = some false := by unfold laws_b10Long.f; rw [if_neg c0, decide_eq_false c1]
  obtain ⟨p0, p1, p2, E1, g, sm⟩ := drawP (l := l0) u0
  obtain ⟨m, hm, m0, m1⟩ := b10At (l := l1) u1 0 6 (by omega) (by omega) (by omega)
  obtain ⟨now, hnow, n0, n1⟩ := b10At (l := l1) u1 1 20 (by omega) (by omega) (by omega)
  obtain ⟨q, hq, q0, q1⟩ := b10At (l := l1) u1 2 10 (by omega) (by omega) (by omega)
  obtain ⟨g1, g2, g3⟩ := good_parts g
  have up0 := lOk_up _ _ g1
  have up1 := lOk_up _ _ g2
  have gl1 := g.2.1
  have gl2 := g.2.2.1
  have gl3 := g.2.2.2
  have wm : wrap64 (1 + m) = 1 + m := w64 (by omega) (by omega)
  have wq : wrap64 (1 + q) = 1 + q := w64 (by omega) (by omega)
  have we : wrap64 (now + (1 + q)) = now + (1 + q) := w64 (by omega) (by omega)
  have we1 : wrap64 (now + (1 + q) - 1) = now + (1 + q) - 1 := w64 (by omega) (by omega)
  have w6 : wrap64 (now + 6) = now + 6 := w64 (by omega) (by omega)
  have w40 : wrap64 (now + 40) = now + 40 := w64 (by omega) (by omega)
  obtain ⟨mem, hmem⟩ : ∃ x, x = 1 + m := ⟨_, rfl⟩
  obtain ⟨tk, htk⟩ : ∃ x, x = 1 + q := ⟨_, rfl⟩
  -- the heartbeat
  obtain ⟨h, hh⟩ : ∃ x, x = putL mem (now + tk) p0 := ⟨_, rfl⟩
  have hl := putL_len mem (now + tk) p0
  rw [← hh] at hl
  have uph : h.Pairwise (fun x y => x.f0 < y.f0) := by rw [hh]; exact putL_up _ _ _ up0
  have okh : lOk 0 h = true := by rw [hh]; exact lOk_put (by omega) (by omega) p0 0 (by omega) g1
  have gh : Good 10 h p1 p2 := by
    refine ⟨?_, by omega, by omega, by omega⟩
    unfold presV leasesV
    rw [okh, g2, g3, decide_eq_true (by omega), decide_eq_true (by omega), decide_eq_true (by omega)]
    rfl
  have V0 := implPres p0 p1 p2 (by omega) (by omega) (by omega)
  rw [g.1] at V0
  have C0 := cloneP p0 p1 p2 (by omega) (by omega) (by omega)
  have L0 := leasedL p0 (by omega) mem (now + tk) up0
  rw [← hh] at L0
  have V1 := implPres h p1 p2 (by omega) (by omega) (by omega)
  rw [gh.1] at V1
  have C1 := cloneP h p1 p2 (by omega) (by omega) (by omega)
  have T1 : impl_isTick.f now = some true := by rw [iTick, decide_eq_true (by omega)]
  have T2 : impl_isTick.f (now + tk) = some true := by rw [iTick, decide_eq_true (by omega)]
  have T3 : impl_isTick.f (now + 6) = some true := by rw [iTick, decide_eq_true (by omega)]
  have I1 : impl_in.f tk 1 1000 = some true := by rw [implIn, decide_eq_true (by omega)]
  have X1 := presentAt gh (by omega) (now + tk - 1) (by omega) (by omega)
  obtain ⟨u, hu, hu2⟩ := til_beat mem (now + tk) p0 up0
  rw [← hh] at hu
  have H1 := hasE (live h (now + tk - 1)) (by have := live_len h (now + tk - 1); omega) mem
  rw [decide_eq_true ((live_mem _ mem h uph).2 ⟨u, hu, by omega⟩)] at H1
  -- typing
  obtain ⟨t, ht⟩ : ∃ x, x = putL mem (now + 6) p1 := ⟨_, rfl⟩
  have tl := putL_len mem (now + 6) p1
  rw [← ht] at tl
  have upt : t.Pairwise (fun x y => x.f0 < y.f0) := by rw [ht]; exact putL_up _ _ _ up1
  have okt : lOk 0 t = true := by rw [ht]; exact lOk_put (by omega) (by omega) p1 0 (by omega) g2
  have gt : Good 10 h t p2 := by
    refine ⟨?_, by omega, by omega, by omega⟩
    unfold presV leasesV
    rw [okh, okt, g3, decide_eq_true (by omega), decide_eq_true (by omega), decide_eq_true (by omega)]
    rfl
  have U0 := untilL h (by omega) mem uph
  have hu3 : untilV mem h = u := by rw [until_til, hu]; rfl
  rw [hu3] at U0
  have L1 := leasedL p1 (by omega) mem (now + 6) up1
  rw [← ht] at L1
  have V2 := implPres h t p2 (by omega) (by omega) (by omega)
  rw [gt.1] at V2
  have C2 := cloneP h t p2 (by omega) (by omega) (by omega)
  have X2 := typingAt gt (by omega) now (by omega) (by omega)
  have hin : mem ∈ types h t now := by
    obtain ⟨y, hy, y1, y2⟩ := putL_has mem (now + 6) p1
    rw [← ht] at hy
    unfold types
    refine List.mem_map.2 ⟨y, List.mem_filter.2 ⟨hy, ?_⟩, y1⟩
    rw [y1, hu, decide_eq_true (show now < y.f1 by omega), Bool.true_and]
    exact decide_eq_true (show now < u by omega)
  have H2 := hasE (types h t now) (by have := types_len h t now; omega) mem
  rw [decide_eq_true hin] at H2
  -- leaving
  have D0 := dropE mem h (by omega)
  have D1 := dropE mem t (by omega)
  have gg : Good 10 (h.filter fun y => !pL mem y) (t.filter fun y => !pL mem y) p2 := ⟨presV_filter _ _ gt.1, Nat.le_trans (List.length_filter_le _ _) gt.2.1, Nat.le_trans (List.length_filter_le _ _) gt.2.2.1, gt.2.2.2⟩
  have hlt : (h.filter fun y => !pL mem y).length < h.length := by
    obtain ⟨y, hy, y1, -⟩ := putL_has mem (now + tk) p0
    rw [← hh] at hy
    refine List.length_filter_lt_length_iff_exists.2 ⟨y, hy, ?_⟩
    simp [pL, y1]
  have hle : (t.filter fun y => !pL mem y).length ≤ t.length := List.length_filter_le _ _
  have no : ∀ (l : List TL) (x : TL), x ∈ l.filter (fun y => !pL mem y) → x.f0 ≠ mem := fun l x hx e => by
    have := (List.mem_filter.1 hx).2
    simp [pL, e] at this
  obtain ⟨h3, e3⟩ : ∃ x, x = h.filter fun y => !pL mem y := ⟨_, rfl⟩
  obtain ⟨t3, e4⟩ : ∃ x, x = t.filter fun y => !pL mem y := ⟨_, rfl⟩
  have no1 := no h
  have no2 := no t
  rw [← e3] at D0 gg hlt no1
  rw [← e4] at D1 gg hle no2
  have V3 := implPres h3 t3 p2 (by have := gg.2.1; omega) (by have := gg.2.2.1; omega) (by have := gg.2.2.2; omega)
  rw [gg.1] at V3
  have X3 := presentAt gg (by omega) now (by omega) (by omega)
  have X4 := typingAt gg (by omega) now (by omega) (by omega)
  have H3 := hasE (live h3 now) (by have := live_len h3 now; omega) mem
  rw [decide_eq_false (fun z => by
    unfold live at z
    obtain ⟨x, hx, e⟩ := List.mem_map.1 z
    exact no1 x (List.mem_filter.1 hx).1 e)] at H3
  have H4 := hasE (types h3 t3 now) (by have := types_len h3 t3 now; omega) mem
  rw [decide_eq_false (fun z => by
    unfold types at z
    obtain ⟨x, hx, e⟩ := List.mem_map.1 z
    exact no2 x (List.mem_filter.1 hx).1 e)] at H4
  -- at its end
  have X5 := presentAt g (by omega) (now + tk) (by omega) (by omega)
  have X6 := presentAt gh (by omega) (now + tk) (by omega) (by omega)
  have H5 := hasE (live p0 (now + tk)) (by have := live_len p0 (now + tk); omega) mem
  have H6 := hasE (live h (now + tk)) (by have := live_len h (now + tk); omega) mem
  rw [show decide (mem ∈ live h (now + tk)) = decide (mem ∈ live p0 (now + tk)) by rw [hh, decide_eq_decide]; exact live_beat mem (now + tk) p0 up0] at H6
  -- the next change
  have TY := typistsE p0 p1 p2 (by omega) (by omega) up0
  have tyl : (typistsV p0 p1).length = p1.length := by unfold typistsV; simp
  obtain ⟨s, SN⟩ := specNext g (by omega) now n0 (by omega)
  obtain ⟨r, hr⟩ : ∃ x, x = bestV now (p0 ++ typistsV p0 p1) (-1) := ⟨_, rfl⟩
  have hr2 := hr
  rw [best_append] at hr2
  have tail : ∃ K, ∀ k, K ≤ k → (r < 0 ∧ spec_NextChange.f k p0 p1 p2 now = some (s, false) ∧ laws_FnLeases.Tail k p0 p1 p2 now false (wrap64 (now + 40)) ∨ ¬ r < 0 ∧ spec_NextChange.f k p0 p1 p2 now = some (s, true) ∧ laws_FnLeases.Tail k p0 p1 p2 now true r) := by
    by_cases c : bestV now p0 (-1) < 0
    · have all := (best_neg now n0 p0 (-1) (by omega)).1 c
      have all2 := typists_le (t := p1) (show (-1 : Int) ≤ now by omega) all
      have rn : r < 0 := by rw [hr2]; exact (best_neg now n0 _ _ c).2 all2
      rw [decide_eq_false (fun z => z c)] at SN
      have TT := tailE g now n0 n1 false (now + 40) (by omega) (by omega) (fun x a1 a2 => by
        rw [← live_typists, ← live_typists, live_nil all, live_nil (fun y hy => Int.le_trans (all y hy) (by omega)), live_nil all2, live_nil (fun y hy => Int.le_trans (all2 y hy) (by omega))]
        rfl)
      obtain ⟨K, hK⟩ := Ev.both SN TT
      exact ⟨K, fun k hk => .inl ⟨rn, (hK k hk).1, by rw [w40]; exact (hK k hk).2⟩⟩
    · have rp : 0 ≤ r := by rw [hr2]; exact best_pos now n0 _ _ (by omega)
      rw [decide_eq_true c] at SN
      obtain ⟨r1, -, r3, r4⟩ := best_min now n0 (p0 ++ typistsV p0 p1) (-1) r hr.symm rp (.inl (by omega))
      have big : r ≤ 60 := by
        have a2 := typists_le (t := p1) (show (-1 : Int) ≤ 60 by omega) sm
        rcases r4 with ⟨x, hx, e⟩ | e
        · rcases List.mem_append.1 hx with hx | hx
          · have := sm x hx; omega
          · have := a2 x hx; omega
        · omega
      have TT := tailE g now n0 n1 true r (by omega) (by omega) (fun x a1 a2 => by
        rw [← live_typists, ← live_typists, Bool.true_and]
        by_cases e : x = r
        · rw [decide_eq_true e]
          rcases r4 with ⟨y, hy, e2⟩ | e2
          · rcases List.mem_append.1 hy with hy | hy
            · rw [decide_eq_false (live_diff up0 hy (by omega) (by omega))]; rfl
            · rw [decide_eq_false (live_diff (typists_up p0 up1) hy (by omega) (by omega)), Bool.and_false]; rfl
          · omega
        · rw [decide_eq_false e, live_same (l := p0) (t := x) (now := now) (by omega) (fun y hy hy2 => by have := r3 y (List.mem_append_left _ hy) hy2; omega), live_same (l := typistsV p0 p1) (t := x) (now := now) (by omega) (fun y hy hy2 => by have := r3 y (List.mem_append_right _ hy) hy2; omega), decide_eq_true rfl, decide_eq_true rfl]
          rfl)
      obtain ⟨K, hK⟩ := Ev.both SN TT
      exact ⟨K, fun k hk => .inr ⟨by omega, (hK k hk).1, (hK k hk).2⟩⟩
  obtain ⟨K, hK⟩ := Ev.both E1 (Ev.both V0 (Ev.both L0 (Ev.both V1 (Ev.both X1 (Ev.both H1 (Ev.both U0 (Ev.both L1 (Ev.both V2 (Ev.both X2 (Ev.both H2 (Ev.both D0 (Ev.both D1 (Ev.both V3 (Ev.both X3 (Ev.both X4 (Ev.both H3 (Ev.both H4 (Ev.both X5 (Ev.both X6 (Ev.both H5 (Ev.both H6 (Ev.both TY tail))))))))))))))))))))))
  obtain ⟨kE1, kV0, kL0, kV1, kX1, kH1, kU0, kL1, kV2, kX2, kH2, kD0, kD1, kV3, kX3, kX4, kH3, kH4, kX5, kX6, kH5, kH6, kTY, kt⟩ := hK K (Nat.le_refl _)
  refine ⟨K, .inr ⟨hb, p0, p1, p2, m, now, q, h, u, t, h3, t3, live h (now + tk - 1), types h t now, live h3 now, types h3 t3 now, live p0 (now + tk), live h (now + tk), decide (mem ∈ live p0 (now + tk)), typistsV p0 p1, r, s, kE1, hm, hnow, hq, n0, n1, ?_⟩⟩
  rw [wm, wq, we, we1, ← hmem, ← htk]
  have glen : h3.length ≤ 10 := gg.2.1
  have glen2 : t3.length ≤ 10 := gg.2.2.1
  refine ⟨⟨kV0, C0, by rw [htk, we, ← htk]; exact kL0, T1, I1, by rw [htk, we, ← htk]; exact T2, kV1⟩, kX1, ⟨kV1, C1, kU0, decide_eq_true (show u > now by omega), by rw [w6]; exact kL1, T1, by rw [w6]; exact T3, kV2⟩, kX2, ⟨kV2, C2, kD0, kD1, decide_eq_true ?_, kV3⟩, kX3, kX4, kV1, kH1, kH2, kH3, kH4, kX5, kX6, kH6, kH5, ⟨kV0, T1, kTY, by omega, by omega, hr.symm⟩, kt⟩
  rw [w64 (by omega) (by omega), w64 (by omega) (by omega)]
  omega

end Go.Proofs.Ytgfilednbllkmaa.Pure
