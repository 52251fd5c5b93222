/- AreBadWords: the program and the reference answer alike, for every list of words. -/
import Derived.Test.YtjfaepolmllejaaQFnExactAreBadWordsx2
namespace Go.Proofs.Ytjfaepolmllejaa.Pure
open Go.RowKit Go.Proofs.Ytjfaepolmllejaa.QFnExactAreBadWords Go.Proofs.YtjfaepolmllejaaW.PrintWords Go.Proofs.YtjfaepolmllejaaW.PrintLast Go.Proofs.YtjfaepolmllejaaW.PrintMore
set_option linter.unusedVariables false

theorem w64 {n : Int} (h1 : -9223372036854775808 ≤ n) (h2 : n ≤ 9223372036854775807) : wrap64 n = n := by
  unfold wrap64
  omega
theorem wf64 {n : Int} (h : (Lit.int .i64 n).wf = true) : -9223372036854775808 ≤ n ∧ n ≤ 9223372036854775807 := by
  simp [Lit.wf, IntKind.min, IntKind.max, IntKind.signed, IntKind.bits] at h
  omega

theorem ev_pos {α : Type} {c : Prop} [Decidable c] {g f : Nat → Option α} {r : α} (h : c) (e : Ev g r) : Ev (fun k => if c then g k else f k) r := Ev.congr (fun _ => if_pos h) e
theorem ev_neg {α : Type} {c : Prop} [Decidable c] {g f : Nat → Option α} {r : α} (h : ¬ c) (e : Ev f r) : Ev (fun k => if c then g k else f k) r := Ev.congr (fun _ => if_neg h) e
theorem ev_b {α β : Type} {o : Option α} {a : α} {f : Nat → α → Option β} {r : β} (h : o = some a) (e : Ev (fun k => f k a) r) : Ev (fun k => o.bind (f k)) r := by subst h; exact e
theorem ev_eq {α : Type} {g : Nat → Option α} {r q : α} (e : Ev g r) (h : r = q) : Ev g q := h ▸ e
theorem ev_some {α : Type} {r q : α} (h : r = q) : Ev (fun _ => some r) q := h ▸ Ev.now r
/-- Down from a list's end. -/
theorem idx_ind {α : Type} (l : List α) (P : Nat → Prop) (hend : P l.length) (hstep : ∀ i, i < l.length → P (i + 1) → P i) : ∀ i, i ≤ l.length → P i := by
  have key : ∀ d i, i + d = l.length → P i := by
    intro d
    induction d with
    | zero => intro i h; have : i = l.length := by omega
              rw [this]; exact hend
    | succ d ih => intro i h; exact hstep i (by omega) (ih (i + 1) (by omega))
  intro i h
  exact key (l.length - i) i (by omega)
theorem rd_at (l : List Int) (i : Nat) (h : i < l.length) : rd l (i : Int) = l[i] := by
  simp [rd, List.getD, h]
theorem rdOf_at {α : Type} (d : α) (l : List α) (i : Nat) (h : i < l.length) : rdOf d l (i : Int) = l[i] := by
  simp [rdOf, List.getD, h]
theorem drop_at {α : Type} (l : List α) (i : Nat) (h : i < l.length) : l.drop i = l[i] :: l.drop (i + 1) := List.drop_eq_getElem_cons h
theorem wsucc {i n : Nat} (h : i < n) (hn : n ≤ 9223372036854775807) : wrap64 ((i : Int) + 1) = ((i + 1 : Nat) : Int) := by
  rw [w64 (by omega) (by omega)]; rfl

/-- Is every byte of a text from a place on between two bounds? -/
def betw (s : ByteArray) (lo hi : Int) : Nat → Nat → Bool
  | _, 0 => true
  | i, n + 1 => decide (lo ≤ bt s (i : Int) ∧ bt s (i : Int) ≤ hi) && betw s lo hi (i + 1) n
theorem nat_ind (n : Nat) (P : Nat → Prop) (hend : P n) (hstep : ∀ i, i < n → P (i + 1) → P i) : ∀ i, i ≤ n → P i := by
  have key : ∀ d i, i + d = n → P i := by
    intro d
    induction d with
    | zero => intro i h; have : i = n := by omega
              rw [this]; exact hend
    | succ d ih => intro i h; exact hstep i (by omega) (ih (i + 1) (by omega))
  intro i h
  exact key (n - i) i (by omega)
theorem betw_step (s : ByteArray) (lo hi : Int) {i n : Nat} (h : i < n) : betw s lo hi i (n - i) = (decide (lo ≤ bt s (i : Int) ∧ bt s (i : Int) ≤ hi) && betw s lo hi (i + 1) (n - (i + 1))) := by
  rw [show n - i = (n - (i + 1)) + 1 by omega, betw]
theorem betw_no (s : ByteArray) {lo hi : Int} {i n : Nat} (h : i < n) (c : ¬ (lo ≤ bt s (i : Int) ∧ bt s (i : Int) ≤ hi)) : betw s lo hi i (n - i) = false := by
  rw [betw_step s lo hi h, decide_eq_false c]; rfl
theorem betw_yes (s : ByteArray) {lo hi : Int} {i n : Nat} (h : i < n) (c : lo ≤ bt s (i : Int) ∧ bt s (i : Int) ≤ hi) : betw s lo hi i (n - i) = betw s lo hi (i + 1) (n - (i + 1)) := by
  rw [betw_step s lo hi h, decide_eq_true c]; rfl

theorem szStrs (l : List ByteArray) (hl : l.length ≤ 9223372036854775807) (hs : ∀ y ∈ l, y.size ≤ 140737488351232) : ∃ v, Ev (fun k => laws_szStringS.f k l 1048576) v ∧ (0 ≤ v → l.length ≤ 1048576) := by
  have key := idx_ind l (fun i => ∀ x : Int, 0 ≤ x → x ≤ 1048576 → ∃ v, Ev (fun k => laws_szStringS.l0 k l x (i : Int)) v) ?_ ?_ 0 (Nat.zero_le _)
  · unfold laws_szStringS.f
    rw [w64 (by omega) (by omega)]
    by_cases h : l.length ≤ 1048576
    · obtain ⟨v, hv⟩ := key (1048576 - (l.length : Int)) (by omega) (by omega)
      exact ⟨v, ev_neg (by omega) hv, fun _ => h⟩
    · exact ⟨-1, ev_pos (by omega) (Ev.now _), fun z => by omega⟩
  · intro x _ _
    exact ⟨x, Ev.step (fun k => by rw [laws_szStringS.l0]) (ev_neg (by omega) (Ev.now _))⟩
  · intro i hi ih x h0 h1
    have hz := hs l[i] (List.getElem_mem hi)
    by_cases h : x - (l[i].size : Int) < 0
    · refine ⟨-1, Ev.step (fun k => by rw [laws_szStringS.l0]) ?_⟩
      rw [rdOf_at _ l i hi, w64 (n := x - (l[i].size : Int)) (by omega) (by omega)]
      exact ev_pos (by omega) (ev_pos (by omega) (ev_pos h (Ev.now _)))
    · obtain ⟨v, hv⟩ := ih (x - (l[i].size : Int)) (by omega) (by omega)
      refine ⟨v, Ev.step (fun k => by rw [laws_szStringS.l0]) ?_⟩
      rw [rdOf_at _ l i hi, w64 (n := x - (l[i].size : Int)) (by omega) (by omega), wsucc hi hl]
      exact ev_pos (by omega) (ev_pos (by omega) (ev_neg h hv))
theorem toStrs (l : List ByteArray) (hl : l.length ≤ 100000000) : Ev (fun k => laws_toStringS.f k l) l := by
  have key := idx_ind l (fun i => ∀ x : List ByteArray, x.length = l.length → (∀ j, j < i → x[j]? = l[j]?) → Ev (fun k => laws_toStringS.l0 k l x (i : Int)) l) ?_ ?_
  · unfold laws_toStringS.f
    refine ev_pos (by omega) (ev_pos (by omega) ?_)
    exact key 0 (Nat.zero_le _) _ (by simp) (fun j h => by omega)
  · intro x hx hj
    refine Ev.step (fun k => by rw [laws_toStringS.l0]) ?_
    refine ev_neg (by omega) (ev_some ?_)
    apply List.ext_getElem?
    intro j
    rcases Nat.lt_or_ge j l.length with h | h
    · exact hj j h
    · rw [List.getElem?_eq_none (by omega), List.getElem?_eq_none (by omega)]
  · intro i hi ih x hx hj
    refine Ev.step (fun k => by rw [laws_toStringS.l0]) ?_
    refine ev_pos (by omega) (ev_pos (by omega) (ev_pos (by omega) ?_))
    rw [wsucc hi (by omega), rdOf_at _ l i hi]
    refine ih _ (by simp [hx]) ?_
    intro j hj2
    by_cases e : j = i
    · subst e
      simp [hx, hi]
    · simp only [Int.toNat_natCast]
      rw [List.getElem?_set_ne (by omega)]
      exact hj j (by omega)
theorem eqStrs (l : List ByteArray) (hl : l.length ≤ 100000000) : Ev (fun k => laws_eqStringS.f k l l) true := by
  unfold laws_eqStringS.f
  refine ev_pos rfl ?_
  refine idx_ind l (fun i => Ev (fun k => laws_eqStringS.l0 k l l (i : Int)) true) ?_ ?_ 0 (Nat.zero_le _)
  · refine Ev.step (fun k => by rw [laws_eqStringS.l0]) ?_
    exact ev_neg (by omega) (Ev.now _)
  · intro i hi ih
    refine Ev.step (fun k => by rw [laws_eqStringS.l0]) ?_
    refine ev_pos (by omega) (ev_pos (by omega) (ev_pos (by omega) (ev_pos rfl ?_)))
    rw [wsucc hi (by omega)]
    exact ih

/-- Is a text a name? -/
def okName (s : ByteArray) : Bool := betw s 97 122 0 s.size && decide (1 ≤ s.size ∧ s.size ≤ 8)
theorem implName (s : ByteArray) (hs : s.size ≤ 140737488351232) : Ev (fun k => impl_IsName.f k s) (okName s) := by
  have key := nat_ind s.size (fun i => Ev (fun k => impl_IsName.l0 k s (s.size : Int) (i : Int)) (betw s 97 122 i (s.size - i) && decide (1 ≤ s.size ∧ s.size ≤ 8))) ?_ ?_ 0 (Nat.zero_le _)
  · exact key
  · refine Ev.step (fun k => by rw [impl_IsName.l0]) ?_
    refine ev_neg (by omega) ?_
    rw [Nat.sub_self, betw, Bool.true_and]
    by_cases h : (s.size : Int) ≥ 1
    · refine ev_pos h (ev_some ?_)
      rw [decide_eq_decide]; omega
    · refine ev_neg h (ev_some ?_)
      rw [decide_eq_false (by omega)]
  · intro i hi ih
    refine Ev.step (fun k => by rw [impl_IsName.l0]) ?_
    refine ev_pos (by omega) (ev_pos (by omega) (ev_pos (by omega) ?_))
    by_cases c1 : bt s (i : Int) < 97
    · refine ev_pos c1 (ev_some ?_)
      rw [betw_no s hi (by omega)]; rfl
    · refine ev_neg c1 ?_
      by_cases c2 : bt s (i : Int) > 122
      · refine ev_pos c2 (ev_some ?_)
        rw [betw_no s hi (by omega)]; rfl
      · refine ev_neg c2 ?_
        rw [betw_yes s hi (by omega), wsucc hi (by omega)]
        exact ih
theorem specName (s : ByteArray) (hs : s.size ≤ 140737488351232) : Ev (fun k => spec_IsName.f k s) (okName s) := by
  have key := nat_ind s.size (fun i => Ev (fun k => spec_IsName.l0 k s (i : Int)) (betw s 97 122 i (s.size - i) && decide (1 ≤ s.size ∧ s.size ≤ 8))) ?_ ?_ 0 (Nat.zero_le _)
  · exact key
  · refine Ev.step (fun k => by rw [spec_IsName.l0]) ?_
    refine ev_neg (by omega) ?_
    rw [Nat.sub_self, betw, Bool.true_and]
    by_cases h : (s.size : Int) ≥ 1
    · refine ev_pos h (ev_some ?_)
      rw [decide_eq_decide]; omega
    · refine ev_neg h (ev_some ?_)
      rw [decide_eq_false (by omega)]
  · intro i hi ih
    refine Ev.step (fun k => by rw [spec_IsName.l0]) ?_
    refine ev_pos (by omega) (ev_pos (by omega) ?_)
    by_cases c1 : bt s (i : Int) < 97
    · refine ev_pos c1 (ev_some ?_)
      rw [betw_no s hi (by omega)]; rfl
    · refine ev_neg c1 ?_
      by_cases c2 : bt s (i : Int) > 122
      · refine ev_pos c2 (ev_some ?_)
        rw [betw_no s hi (by omega)]; rfl
      · refine ev_neg c2 ?_
        rw [betw_yes s hi (by omega), wsucc hi (by omega)]
        exact ih
/-- Words in order, each a name, rising. -/
def wOk (p : Option ByteArray) : List ByteArray → Bool
  | [] => true
  | x :: r => okName x && (match p with | none => true | some y => Op.bytesLess y.toList x.toList) && wOk (some x) r
def prevOf (l : List ByteArray) (i : Nat) : Option ByteArray := if i = 0 then none else l[i - 1]?
theorem prevOf_succ {l : List ByteArray} {i : Nat} (h : i < l.length) : prevOf l (i + 1) = some l[i] := by
  unfold prevOf
  rw [if_neg (by omega), Nat.add_sub_cancel, List.getElem?_eq_getElem h]
theorem implWords (l : List ByteArray) (hl : l.length ≤ 100000000) (hs : ∀ y ∈ l, y.size ≤ 140737488351232) : Ev (fun k => impl_AreBadWords.f k l) (wOk none l && decide (l.length ≤ 64)) := by
  have key := idx_ind l (fun i => Ev (fun k => impl_AreBadWords.l0 k l l (l.length : Int) (i : Int)) (wOk (prevOf l i) (l.drop i) && decide (l.length ≤ 64))) ?_ ?_ 0 (Nat.zero_le _)
  · exact key
  · refine Ev.step (fun k => by rw [impl_AreBadWords.l0]) ?_
    refine ev_neg (by omega) (ev_some ?_)
    simp [wOk]; omega
  · intro i hi ih
    refine Ev.step (fun k => by rw [impl_AreBadWords.l0]) ?_
    rw [rdOf_at _ l i hi, drop_at l i hi, wsucc hi (by omega)]
    refine ev_pos (by omega) (ev_pos (by omega) (ev_pos (by omega) (Ev.bind (implName l[i] (hs _ (List.getElem_mem hi))) ?_)))
    rw [prevOf_succ hi] at ih
    simp only [wOk]
    by_cases c : okName l[i] = true
    · refine ev_pos c ?_
      rw [c, Bool.true_and]
      by_cases h0 : 0 < i
      · have e1 : wrap64 ((i : Int) - 1) = ((i - 1 : Nat) : Int) := by rw [w64 (by omega) (by omega)]; omega
        have e2 : prevOf l i = some (l[i - 1]'(by omega)) := by unfold prevOf; rw [if_neg (by omega), List.getElem?_eq_getElem (by omega)]
        rw [e1, e2, rdOf_at _ l (i - 1) (by omega)]
        refine ev_pos (by omega) (ev_pos (by omega) (ev_pos (by omega) ?_))
        by_cases g : Op.bytesLess (l[i - 1]'(by omega)).toList l[i].toList = true
        · refine ev_pos g ?_
          simp only [g, Bool.true_and]; exact ih
        · refine ev_neg g (ev_some ?_)
          rw [Bool.not_eq_true] at g
          simp only [g, Bool.false_and]
      · have e2 : prevOf l i = none := by unfold prevOf; rw [if_pos (by omega)]
        rw [e2]
        refine ev_neg (by omega) ?_
        simp only [Bool.true_and]; exact ih
    · refine ev_neg c (ev_some ?_)
      rw [Bool.not_eq_true] at c
      rw [c]; rfl
theorem specWords (l : List ByteArray) (hs : ∀ y ∈ l, y.size ≤ 140737488351232) : Ev (fun k => spec_l06Words.f k l) (wOk none l && decide (l.length ≤ 64)) := by
  unfold spec_l06Words.f
  by_cases hlen : (l.length : Int) > 64
  · refine ev_pos hlen (ev_some ?_)
    have : ¬ l.length ≤ 64 := by omega
    simp [this]
  · refine ev_neg hlen ?_
    have hl : l.length ≤ 64 := by omega
    have key := idx_ind l (fun i => Ev (fun k => spec_l06Words.l0 k l (i : Int)) (wOk (prevOf l i) (l.drop i) && decide (l.length ≤ 64))) ?_ ?_ 0 (Nat.zero_le _)
    · exact key
    · refine Ev.step (fun k => by rw [spec_l06Words.l0]) ?_
      refine ev_neg (by omega) (ev_some ?_)
      simp [wOk, hl]
    · intro i hi ih
      refine Ev.step (fun k => by rw [spec_l06Words.l0]) ?_
      rw [rdOf_at _ l i hi, drop_at l i hi, wsucc hi (by omega)]
      refine ev_pos (by omega) (ev_pos (by omega) (Ev.bind (specName l[i] (hs _ (List.getElem_mem hi))) ?_))
      rw [prevOf_succ hi] at ih
      simp only [wOk]
      by_cases c : okName l[i] = true
      · refine ev_pos c ?_
        rw [c, Bool.true_and]
        by_cases h0 : 0 < i
        · have e1 : wrap64 ((i : Int) - 1) = ((i - 1 : Nat) : Int) := by rw [w64 (by omega) (by omega)]; omega
          have e2 : prevOf l i = some (l[i - 1]'(by omega)) := by unfold prevOf; rw [if_neg (by omega), List.getElem?_eq_getElem (by omega)]
          rw [e1, e2, rdOf_at _ l (i - 1) (by omega)]
          refine ev_pos (by omega) (ev_pos (by omega) (ev_pos (by omega) ?_))
          by_cases g : Op.bytesLess (l[i - 1]'(by omega)).toList l[i].toList = true
          · refine ev_pos g ?_
            simp only [g, Bool.true_and]; exact ih
          · refine ev_neg g (ev_some ?_)
            rw [Bool.not_eq_true] at g
            simp only [g, Bool.false_and]
        · have e2 : prevOf l i = none := by unfold prevOf; rw [if_pos (by omega)]
          rw [e2]
          refine ev_neg (by omega) ?_
          simp only [Bool.true_and]; exact ih
      · refine ev_neg c (ev_some ?_)
        rw [Bool.not_eq_true] at c
        rw [c]; rfl

theorem FnExactAreBadWords : laws_FnExactAreBadWords.Pure := by
  intro l hl
  refine Ev.rounds ?_
  have hm : l.length ≤ 9223372036854775807 := by have := hl.1; unfold maxLen at this; omega
  have hs := hl.2.2
  obtain ⟨v, hv, hb⟩ := szStrs l hm hs
  unfold laws_FnExactAreBadWords.f
  refine Ev.bind hv ?_
  by_cases h : v < 0
  · exact ev_pos h (Ev.now _)
  · have h2 := hb (by omega)
    refine ev_neg h (Ev.bind (toStrs l (by omega)) ?_)
    unfold spec_AreBadWords.f
    refine Ev.bind (Ev.bind (specWords l hs) (Ev.now _)) (Ev.bind (toStrs l (by omega)) (Ev.bind (implWords l (by omega) hs) ?_))
    exact ev_neg (by simp) (Ev.bind (toStrs l (by omega)) (Ev.bind (eqStrs l (by omega)) (ev_pos rfl (Ev.now _))))

end Go.Proofs.Ytjfaepolmllejaa.Pure
