/- CensorText: the program and the reference answer alike, for every text and list of words; the list that came in is not changed. -/
import Derived.Test.YtjfaepolmllejaaQFnExactCensorTextx5
namespace Go.Proofs.Ytjfaepolmllejaa.Pure
open Go.RowKit Go.Proofs.Ytjfaepolmllejaa.QFnExactCensorText Go.Proofs.YtjfaepolmllejaaW.PrintWords Go.Proofs.YtjfaepolmllejaaW.PrintLast Go.Proofs.YtjfaepolmllejaaW.PrintMore
set_option linter.unusedVariables false

theorem w64 {n : Int} (h1 : -9223372036854775808 ≤ n) (h2 : n ≤ 9223372036854775807) : wrap64 n = n := by
  unfold wrap64
  omega
theorem wf64 {n : Int} (h : (Lit.int .i64 n).wf = true) : -9223372036854775808 ≤ n ∧ n ≤ 9223372036854775807 := by
  simp [Lit.wf, IntKind.min, IntKind.max, IntKind.signed, IntKind.bits] at h
  omega

theorem ev_pos {α : Type} {c : Prop} [Decidable c] {g f : Nat → Option α} {r : α} (h : c) (e : Ev g r) : Ev (fun k => if c then g k else f k) r := Ev.congr (fun _ => if_pos h) e
theorem ev_neg {α : Type} {c : Prop} [Decidable c] {g f : Nat → Option α} {r : α} (h : ¬ c) (e : Ev f r) : Ev (fun k => if c then g k else f k) r := Ev.congr (fun _ => if_neg h) e
theorem ev_b {α β : Type} {o : Option α} {a : α} {f : Nat → α → Option β} {r : β} (h : o = some a) (e : Ev (fun k => f k a) r) : Ev (fun k => o.bind (f k)) r := by subst h; exact e
theorem ev_eq {α : Type} {g : Nat → Option α} {r q : α} (e : Ev g r) (h : r = q) : Ev g q := h ▸ e
theorem ev_some {α : Type} {r q : α} (h : r = q) : Ev (fun _ => some r) q := h ▸ Ev.now r
/-- Down from a list's end. -/
theorem idx_ind {α : Type} (l : List α) (P : Nat → Prop) (hend : P l.length) (hstep : ∀ i, i < l.length → P (i + 1) → P i) : ∀ i, i ≤ l.length → P i := by
  have key : ∀ d i, i + d = l.length → P i := by
    intro d
    induction d with
    | zero => intro i h; have : i = l.length := by omega
              rw [this]; exact hend
    | succ d ih => intro i h; exact hstep i (by omega) (ih (i + 1) (by omega))
  intro i h
  exact key (l.length - i) i (by omega)
theorem rd_at (l : List Int) (i : Nat) (h : i < l.length) : rd l (i : Int) = l[i] := by
  simp [rd, List.getD, h]
theorem rdOf_at {α : Type} (d : α) (l : List α) (i : Nat) (h : i < l.length) : rdOf d l (i : Int) = l[i] := by
  simp [rdOf, List.getD, h]
theorem drop_at {α : Type} (l : List α) (i : Nat) (h : i < l.length) : l.drop i = l[i] :: l.drop (i + 1) := List.drop_eq_getElem_cons h
theorem wsucc {i n : Nat} (h : i < n) (hn : n ≤ 9223372036854775807) : wrap64 ((i : Int) + 1) = ((i + 1 : Nat) : Int) := by
  rw [w64 (by omega) (by omega)]; rfl

/-- Is every byte of a text from a place on between two bounds? -/
def betw (s : ByteArray) (lo hi : Int) : Nat → Nat → Bool
  | _, 0 => true
  | i, n + 1 => decide (lo ≤ bt s (i : Int) ∧ bt s (i : Int) ≤ hi) && betw s lo hi (i + 1) n
theorem nat_ind (n : Nat) (P : Nat → Prop) (hend : P n) (hstep : ∀ i, i < n → P (i + 1) → P i) : ∀ i, i ≤ n → P i := by
  have key : ∀ d i, i + d = n → P i := by
    intro d
    induction d with
    | zero => intro i h; have : i = n := by omega
              rw [this]; exact hend
    | succ d ih => intro i h; exact hstep i (by omega) (ih (i + 1) (by omega))
  intro i h
  exact key (n - i) i (by omega)
theorem betw_step (s : ByteArray) (lo hi : Int) {i n : Nat} (h : i < n) : betw s lo hi i (n - i) = (decide (lo ≤ bt s (i : Int) ∧ bt s (i : Int) ≤ hi) && betw s lo hi (i + 1) (n - (i + 1))) := by
  rw [show n - i = (n - (i + 1)) + 1 by omega, betw]
theorem betw_no (s : ByteArray) {lo hi : Int} {i n : Nat} (h : i < n) (c : ¬ (lo ≤ bt s (i : Int) ∧ bt s (i : Int) ≤ hi)) : betw s lo hi i (n - i) = false := by
  rw [betw_step s lo hi h, decide_eq_false c]; rfl
theorem betw_yes (s : ByteArray) {lo hi : Int} {i n : Nat} (h : i < n) (c : lo ≤ bt s (i : Int) ∧ bt s (i : Int) ≤ hi) : betw s lo hi i (n - i) = betw s lo hi (i + 1) (n - (i + 1)) := by
  rw [betw_step s lo hi h, decide_eq_true c]; rfl

theorem implText (s : ByteArray) (hs : s.size ≤ 140737488351232) : Ev (fun k => impl_IsText.f k s) (betw s 32 126 0 s.size && decide (s.size ≤ 80)) := by
  have key := nat_ind s.size (fun i => Ev (fun k => impl_IsText.l0 k s (s.size : Int) (i : Int)) (betw s 32 126 i (s.size - i) && decide (s.size ≤ 80))) ?_ ?_ 0 (Nat.zero_le _)
  · exact key
  · refine Ev.step (fun k => by rw [impl_IsText.l0]) ?_
    refine ev_neg (by omega) (ev_some ?_)
    simp [betw]; omega
  · intro i hi ih
    refine Ev.step (fun k => by rw [impl_IsText.l0]) ?_
    refine ev_pos (by omega) (ev_pos (by omega) (ev_pos (by omega) ?_))
    by_cases c1 : bt s (i : Int) < 32
    · refine ev_pos c1 (ev_some ?_)
      rw [betw_no s hi (by omega)]; rfl
    · refine ev_neg c1 ?_
      by_cases c2 : bt s (i : Int) > 126
      · refine ev_pos c2 (ev_some ?_)
        rw [betw_no s hi (by omega)]; rfl
      · refine ev_neg c2 ?_
        rw [betw_yes s hi (by omega), wsucc hi (by omega)]
        exact ih

theorem specText (s : ByteArray) (hs : s.size ≤ 140737488351232) : Ev (fun k => spec_l01IsText.f k s) (betw s 32 126 0 s.size && decide (s.size ≤ 80)) := by
  have key := nat_ind s.size (fun i => Ev (fun k => spec_l01IsText.l0 k s (i : Int)) (betw s 32 126 i (s.size - i) && decide (s.size ≤ 80))) ?_ ?_ 0 (Nat.zero_le _)
  · exact key
  · refine Ev.step (fun k => by rw [spec_l01IsText.l0]) ?_
    refine ev_neg (by omega) (ev_some ?_)
    simp [betw]; omega
  · intro i hi ih
    refine Ev.step (fun k => by rw [spec_l01IsText.l0]) ?_
    refine ev_pos (by omega) (ev_pos (by omega) ?_)
    by_cases c1 : bt s (i : Int) < 32
    · refine ev_pos c1 (ev_some ?_)
      rw [betw_no s hi (by omega)]; rfl
    · refine ev_neg c1 ?_
      by_cases c2 : bt s (i : Int) > 126
      · refine ev_pos c2 (ev_some ?_)
        rw [betw_no s hi (by omega)]; rfl
      · refine ev_neg c2 ?_
        rw [betw_yes s hi (by omega), wsucc hi (by omega)]
        exact ih

theorem bt_range (s : ByteArray) (i : Int) : 0 ≤ bt s i ∧ bt s i ≤ 255 := by
  unfold bt
  have q : ∀ u : UInt8, u.toNat < 256 := fun u => u.toNat_lt
  split
  · have := q (s[i.toNat]'(by assumption))
    omega
  · omega
/-- May a word have this byte? -/
def wb (c : Int) : Bool := decide (48 ≤ c ∧ c ≤ 57 ∨ 97 ≤ c ∧ c ≤ 122)
def allW (s : ByteArray) : Nat → Nat → Bool
  | _, 0 => true
  | i, d + 1 => wb (bt s (i : Int)) && allW s (i + 1) d
theorem allW_step (s : ByteArray) {i n : Nat} (h : i < n) : allW s i (n - i) = (wb (bt s (i : Int)) && allW s (i + 1) (n - (i + 1))) := by
  rw [show n - i = n - (i + 1) + 1 by omega, allW]
def wordV (s : ByteArray) : Bool := allW s 0 s.size && decide (1 ≤ s.size ∧ s.size ≤ 80)
theorem implByte (c : Int) : impl_wordByte.f c = some (wb c) := by
  unfold impl_wordByte.f impl_isDigit.f wb
  by_cases h1 : c ≥ 48
  · rw [if_pos h1]
    simp only [Option.bind_some]
    by_cases h2 : c ≤ 57
    · rw [if_pos (by simpa using h2), decide_eq_true (by omega)]
    · rw [if_neg (by simpa using h2)]
      by_cases h3 : c ≥ 97
      · rw [if_pos h3]; congr 1; rw [decide_eq_decide]; omega
      · rw [if_neg h3]; congr 1; rw [eq_comm, decide_eq_false_iff_not]; omega
  · rw [if_neg h1]
    simp only [Option.bind_some]
    rw [if_neg (by simp), if_neg (by omega)]; congr 1; rw [eq_comm, decide_eq_false_iff_not]; omega
/-- A byte as words have it. -/
def lowV (c : Int) : Int := if 65 ≤ c ∧ c ≤ 90 then c + 32 else if wb c = true then c else 0
theorem specLow (c : Int) (h0 : 0 ≤ c) (h1 : c ≤ 255) : Ev (fun k => spec_l06Low.f k c) (lowV c) := by
  have j1 : ∀ b, (b = true ↔ (97 ≤ c ∧ c ≤ 122)) → ¬ (65 ≤ c ∧ c ≤ 90) → Ev (fun k => spec_l06Low.j1 k c b) (lowV c) := by
    intro b hb hn
    refine Ev.step (fun k => by rw [spec_l06Low.j1]) ?_
    unfold lowV wb
    rw [if_neg hn]
    by_cases c1 : b = true
    · have := hb.mp c1
      refine ev_pos c1 (ev_some ?_)
      rw [if_pos (by simp; omega)]
    · have : ¬ (97 ≤ c ∧ c ≤ 122) := fun z => c1 (hb.mpr z)
      refine ev_neg c1 ?_
      by_cases c2 : c ≥ 48
      · refine ev_pos c2 ?_
        by_cases c3 : c ≤ 57
        · refine ev_pos c3 (ev_some ?_)
          rw [if_pos (by simp; omega)]
        · refine ev_neg c3 (ev_some ?_)
          rw [if_neg (by simp; omega)]
      · refine ev_neg c2 (ev_some ?_)
        rw [if_neg (by simp; omega)]
  have j0 : ∀ b, (b = true ↔ (65 ≤ c ∧ c ≤ 90)) → Ev (fun k => spec_l06Low.j0 k c b) (lowV c) := by
    intro b hb
    refine Ev.step (fun k => by rw [spec_l06Low.j0]) ?_
    by_cases c1 : b = true
    · have := hb.mp c1
      refine ev_pos c1 (ev_some ?_)
      unfold lowV
      rw [if_pos this]; omega
    · have hn : ¬ (65 ≤ c ∧ c ≤ 90) := fun z => c1 (hb.mpr z)
      refine ev_neg c1 ?_
      by_cases c2 : c ≥ 97
      · exact ev_pos c2 (j1 _ (by simp; omega) hn)
      · exact ev_neg c2 (j1 _ (by simp; omega) hn)
  unfold spec_l06Low.f
  by_cases c1 : c ≥ 65
  · exact ev_pos c1 (j0 _ (by simp; omega))
  · exact ev_neg c1 (j0 _ (by simp; omega))
theorem low_eq (c : Int) : (¬ c = 0 ∧ lowV c = c) ↔ wb c = true := by
  unfold lowV wb
  by_cases h : 65 ≤ c ∧ c ≤ 90
  · rw [if_pos h]; simp; omega
  · rw [if_neg h]
    by_cases h2 : (48 ≤ c ∧ c ≤ 57 ∨ 97 ≤ c ∧ c ≤ 122)
    · rw [if_pos (by simpa using h2)]; simp [h2]; omega
    · rw [if_neg (by simpa using h2)]; simp [h2]; omega

theorem szStrs (l : List ByteArray) (hl : l.length ≤ 9223372036854775807) (hs : ∀ y ∈ l, y.size ≤ 140737488351232) : ∃ v, Ev (fun k => laws_szStringS.f k l 1048576) v ∧ (0 ≤ v → l.length ≤ 1048576) := by
  have key := idx_ind l (fun i => ∀ x : Int, 0 ≤ x → x ≤ 1048576 → ∃ v, Ev (fun k => laws_szStringS.l0 k l x (i : Int)) v) ?_ ?_ 0 (Nat.zero_le _)
  · unfold laws_szStringS.f
    rw [w64 (by omega) (by omega)]
    by_cases h : l.length ≤ 1048576
    · obtain ⟨v, hv⟩ := key (1048576 - (l.length : Int)) (by omega) (by omega)
      exact ⟨v, ev_neg (by omega) hv, fun _ => h⟩
    · exact ⟨-1, ev_pos (by omega) (Ev.now _), fun z => by omega⟩
  · intro x _ _
    exact ⟨x, Ev.step (fun k => by rw [laws_szStringS.l0]) (ev_neg (by omega) (Ev.now _))⟩
  · intro i hi ih x h0 h1
    have hz := hs l[i] (List.getElem_mem hi)
    by_cases h : x - (l[i].size : Int) < 0
    · refine ⟨-1, Ev.step (fun k => by rw [laws_szStringS.l0]) ?_⟩
      rw [rdOf_at _ l i hi, w64 (n := x - (l[i].size : Int)) (by omega) (by omega)]
      exact ev_pos (by omega) (ev_pos (by omega) (ev_pos h (Ev.now _)))
    · obtain ⟨v, hv⟩ := ih (x - (l[i].size : Int)) (by omega) (by omega)
      refine ⟨v, Ev.step (fun k => by rw [laws_szStringS.l0]) ?_⟩
      rw [rdOf_at _ l i hi, w64 (n := x - (l[i].size : Int)) (by omega) (by omega), wsucc hi hl]
      exact ev_pos (by omega) (ev_pos (by omega) (ev_neg h hv))
theorem toStrs (l : List ByteArray) (hl : l.length ≤ 100000000) : Ev (fun k => laws_toStringS.f k l) l := by
  have key := idx_ind l (fun i => ∀ x : List ByteArray, x.length = l.length → (∀ j, j < i → x[j]? = l[j]?) → Ev (fun k => laws_toStringS.l0 k l x (i : Int)) l) ?_ ?_
  · unfold laws_toStringS.f
    refine ev_pos (by omega) (ev_pos (by omega) ?_)
    exact key 0 (Nat.zero_le _) _ (by simp) (fun j h => by omega)
  · intro x hx hj
    refine Ev.step (fun k => by rw [laws_toStringS.l0]) ?_
    refine ev_neg (by omega) (ev_some ?_)
    apply List.ext_getElem?
    intro j
    rcases Nat.lt_or_ge j l.length with h | h
    · exact hj j h
    · rw [List.getElem?_eq_none (by omega), List.getElem?_eq_none (by omega)]
  · intro i hi ih x hx hj
    refine Ev.step (fun k => by rw [laws_toStringS.l0]) ?_
    refine ev_pos (by omega) (ev_pos (by omega) (ev_pos (by omega) ?_))
    rw [wsucc hi (by omega), rdOf_at _ l i hi]
    refine ih _ (by simp [hx]) ?_
    intro j hj2
    by_cases e : j = i
    · subst e
      simp [hx, hi]
    · simp only [Int.toNat_natCast]
      rw [List.getElem?_set_ne (by omega)]
      exact hj j (by omega)
theorem eqStrs (l : List ByteArray) (hl : l.length ≤ 100000000) : Ev (fun k => laws_eqStringS.f k l l) true := by
  unfold laws_eqStringS.f
  refine ev_pos rfl ?_
  refine idx_ind l (fun i => Ev (fun k => laws_eqStringS.l0 k l l (i : Int)) true) ?_ ?_ 0 (Nat.zero_le _)
  · refine Ev.step (fun k => by rw [laws_eqStringS.l0]) ?_
    exact ev_neg (by omega) (Ev.now _)
  · intro i hi ih
    refine Ev.step (fun k => by rw [laws_eqStringS.l0]) ?_
    refine ev_pos (by omega) (ev_pos (by omega) (ev_pos (by omega) (ev_pos rfl ?_)))
    rw [wsucc hi (by omega)]
    exact ih

/-- Is a text a name? -/
def okName (s : ByteArray) : Bool := betw s 97 122 0 s.size && decide (1 ≤ s.size ∧ s.size ≤ 8)
theorem implName (s : ByteArray) (hs : s.size ≤ 140737488351232) : Ev (fun k => impl_IsName.f k s) (okName s) := by
  have key := nat_ind s.size (fun i => Ev (fun k => impl_IsName.l0 k s (s.size : Int) (i : Int)) (betw s 97 122 i (s.size - i) && decide (1 ≤ s.size ∧ s.size ≤ 8))) ?_ ?_ 0 (Nat.zero_le _)
  · exact key
  · refine Ev.step (fun k => by rw [impl_IsName.l0]) ?_
    refine ev_neg (by omega) ?_
    rw [Nat.sub_self, betw, Bool.true_and]
    by_cases h : (s.size : Int) ≥ 1
    · refine ev_pos h (ev_some ?_)
      rw [decide_eq_decide]; omega
    · refine ev_neg h (ev_some ?_)
      rw [decide_eq_false (by omega)]
  · intro i hi ih
    refine Ev.step (fun k => by rw [impl_IsName.l0]) ?_
    refine ev_pos (by omega) (ev_pos (by omega) (ev_pos (by omega) ?_))
    by_cases c1 : bt s (i : Int) < 97
    · refine ev_pos c1 (ev_some ?_)
      rw [betw_no s hi (by omega)]; rfl
    · refine ev_neg c1 ?_
      by_cases c2 : bt s (i : Int) > 122
      · refine ev_pos c2 (ev_some ?_)
        rw [betw_no s hi (by omega)]; rfl
      · refine ev_neg c2 ?_
        rw [betw_yes s hi (by omega), wsucc hi (by omega)]
        exact ih
theorem specName (s : ByteArray) (hs : s.size ≤ 140737488351232) : Ev (fun k => spec_IsName.f k s) (okName s) := by
  have key := nat_ind s.size (fun i => Ev (fun k => spec_IsName.l0 k s (i : Int)) (betw s 97 122 i (s.size - i) && decide (1 ≤ s.size ∧ s.size ≤ 8))) ?_ ?_ 0 (Nat.zero_le _)
  · exact key
  · refine Ev.step (fun k => by rw [spec_IsName.l0]) ?_
    refine ev_neg (by omega) ?_
    rw [Nat.sub_self, betw, Bool.true_and]
    by_cases h : (s.size : Int) ≥ 1
    · refine ev_pos h (ev_some ?_)
      rw [decide_eq_decide]; omega
    · refine ev_neg h (ev_some ?_)
      rw [decide_eq_false (by omega)]
  · intro i hi ih
    refine Ev.step (fun k => by rw [spec_IsName.l0]) ?_
    refine ev_pos (by omega) (ev_pos (by omega) ?_)
    by_cases c1 : bt s (i : Int) < 97
    · refine ev_pos c1 (ev_some ?_)
      rw [betw_no s hi (by omega)]; rfl
    · refine ev_neg c1 ?_
      by_cases c2 : bt s (i : Int) > 122
      · refine ev_pos c2 (ev_some ?_)
        rw [betw_no s hi (by omega)]; rfl
      · refine ev_neg c2 ?_
        rw [betw_yes s hi (by omega), wsucc hi (by omega)]
        exact ih
/-- Words in order, each a name, rising. -/
def wOk (p : Option ByteArray) : List ByteArray → Bool
  | [] => true
  | x :: r => okName x && (match p with | none => true | some y => Op.bytesLess y.toList x.toList) && wOk (some x) r
def prevOf (l : List ByteArray) (i : Nat) : Option ByteArray := if i = 0 then none else l[i - 1]?
theorem prevOf_succ {l : List ByteArray} {i : Nat} (h : i < l.length) : prevOf l (i + 1) = some l[i] := by
  unfold prevOf
  rw [if_neg (by omega), Nat.add_sub_cancel, List.getElem?_eq_getElem h]
theorem implWords (l : List ByteArray) (hl : l.length ≤ 100000000) (hs : ∀ y ∈ l, y.size ≤ 140737488351232) : Ev (fun k => impl_AreBadWords.f k l) (wOk none l && decide (l.length ≤ 64)) := by
  have key := idx_ind l (fun i => Ev (fun k => impl_AreBadWords.l0 k l l (l.length : Int) (i : Int)) (wOk (prevOf l i) (l.drop i) && decide (l.length ≤ 64))) ?_ ?_ 0 (Nat.zero_le _)
  · exact key
  · refine Ev.step (fun k => by rw [impl_AreBadWords.l0]) ?_
    refine ev_neg (by omega) (ev_some ?_)
    simp [wOk]; omega
  · intro i hi ih
    refine Ev.step (fun k => by rw [impl_AreBadWords.l0]) ?_
    rw [rdOf_at _ l i hi, drop_at l i hi, wsucc hi (by omega)]
    refine ev_pos (by omega) (ev_pos (by omega) (ev_pos (by omega) (Ev.bind (implName l[i] (hs _ (List.getElem_mem hi))) ?_)))
    rw [prevOf_succ hi] at ih
    simp only [wOk]
    by_cases c : okName l[i] = true
    · refine ev_pos c ?_
      rw [c, Bool.true_and]
      by_cases h0 : 0 < i
      · have e1 : wrap64 ((i : Int) - 1) = ((i - 1 : Nat) : Int) := by rw [w64 (by omega) (by omega)]; omega
        have e2 : prevOf l i = some (l[i - 1]'(by omega)) := by unfold prevOf; rw [if_neg (by omega), List.getElem?_eq_getElem (by omega)]
        rw [e1, e2, rdOf_at _ l (i - 1) (by omega)]
        refine ev_pos (by omega) (ev_pos (by omega) (ev_pos (by omega) ?_))
        by_cases g : Op.bytesLess (l[i - 1]'(by omega)).toList l[i].toList = true
        · refine ev_pos g ?_
          simp only [g, Bool.true_and]; exact ih
        · refine ev_neg g (ev_some ?_)
          rw [Bool.not_eq_true] at g
          simp only [g, Bool.false_and]
      · have e2 : prevOf l i = none := by unfold prevOf; rw [if_pos (by omega)]
        rw [e2]
        refine ev_neg (by omega) ?_
        simp only [Bool.true_and]; exact ih
    · refine ev_neg c (ev_some ?_)
      rw [Bool.not_eq_true] at c
      rw [c]; rfl
theorem specWords (l : List ByteArray) (hs : ∀ y ∈ l, y.size ≤ 140737488351232) : Ev (fun k => spec_l06Words.f k l) (wOk none l && decide (l.length ≤ 64)) := by
  unfold spec_l06Words.f
  by_cases hlen : (l.length : Int) > 64
  · refine ev_pos hlen (ev_some ?_)
    have : ¬ l.length ≤ 64 := by omega
    simp [this]
  · refine ev_neg hlen ?_
    have hl : l.length ≤ 64 := by omega
    have key := idx_ind l (fun i => Ev (fun k => spec_l06Words.l0 k l (i : Int)) (wOk (prevOf l i) (l.drop i) && decide (l.length ≤ 64))) ?_ ?_ 0 (Nat.zero_le _)
    · exact key
    · refine Ev.step (fun k => by rw [spec_l06Words.l0]) ?_
      refine ev_neg (by omega) (ev_some ?_)
      simp [wOk, hl]
    · intro i hi ih
      refine Ev.step (fun k => by rw [spec_l06Words.l0]) ?_
      rw [rdOf_at _ l i hi, drop_at l i hi, wsucc hi (by omega)]
      refine ev_pos (by omega) (ev_pos (by omega) (Ev.bind (specName l[i] (hs _ (List.getElem_mem hi))) ?_))
      rw [prevOf_succ hi] at ih
      simp only [wOk]
      by_cases c : okName l[i] = true
      · refine ev_pos c ?_
        rw [c, Bool.true_and]
        by_cases h0 : 0 < i
        · have e1 : wrap64 ((i : Int) - 1) = ((i - 1 : Nat) : Int) := by rw [w64 (by omega) (by omega)]; omega
          have e2 : prevOf l i = some (l[i - 1]'(by omega)) := by unfold prevOf; rw [if_neg (by omega), List.getElem?_eq_getElem (by omega)]
          rw [e1, e2, rdOf_at _ l (i - 1) (by omega)]
          refine ev_pos (by omega) (ev_pos (by omega) (ev_pos (by omega) ?_))
          by_cases g : Op.bytesLess (l[i - 1]'(by omega)).toList l[i].toList = true
          · refine ev_pos g ?_
            simp only [g, Bool.true_and]; exact ih
          · refine ev_neg g (ev_some ?_)
            rw [Bool.not_eq_true] at g
            simp only [g, Bool.false_and]
        · have e2 : prevOf l i = none := by unfold prevOf; rw [if_pos (by omega)]
          rw [e2]
          refine ev_neg (by omega) ?_
          simp only [Bool.true_and]; exact ih
      · refine ev_neg c (ev_some ?_)
        rw [Bool.not_eq_true] at c
        rw [c]; rfl

/-- Does a word have this byte, great or small? -/
def isW (c : Int) : Bool := decide (lowV c ≠ 0)
def lw (c : Int) : Int := if 65 ≤ c ∧ c ≤ 90 then c + 32 else c
theorem lwW (c : Int) : wb (lw c) = isW c := by
  unfold isW lowV lw wb
  by_cases h : 65 ≤ c ∧ c ≤ 90
  · rw [if_pos h, if_pos h, decide_eq_decide]; omega
  · rw [if_neg h, if_neg h]
    by_cases h2 : (48 ≤ c ∧ c ≤ 57 ∨ 97 ≤ c ∧ c ≤ 122)
    · rw [if_pos (by simpa using h2), decide_eq_decide]; omega
    · rw [if_neg (by simpa using h2), decide_eq_decide]; omega
theorem isW_lw {c : Int} (h : isW c = true) : lw c = lowV c ∧ 48 ≤ lowV c ∧ lowV c ≤ 122 := by
  unfold isW lowV wb at h
  unfold lowV lw wb
  by_cases h1 : 65 ≤ c ∧ c ≤ 90
  · rw [if_pos h1, if_pos h1]; omega
  · rw [if_neg h1] at h
    rw [if_neg h1, if_neg h1]
    by_cases h2 : (48 ≤ c ∧ c ≤ 57 ∨ 97 ≤ c ∧ c ≤ 122)
    · rw [if_pos (by simpa using h2)]; omega
    · rw [if_neg (by simpa using h2)] at h; simp at h
theorem implLower (c : Int) (h0 : 0 ≤ c) (h1 : c ≤ 255) : impl_lower.f c = some (lw c) := by
  unfold impl_lower.f lw
  by_cases h2 : c ≥ 65
  · rw [if_pos h2]
    by_cases h3 : c ≤ 90
    · rw [if_pos h3, if_pos ⟨h2, h3⟩]; congr 1; omega
    · rw [if_neg h3, if_neg (by omega)]
  · rw [if_neg h2, if_neg (by omega)]
theorem enc1 (c : Int) (h0 : 0 ≤ c) (h1 : c < 128) : Utf8.encode c = strOfNums [c] := by
  obtain ⟨n, rfl⟩ := Int.eq_ofNat_of_zero_le h0
  have hv : Utf8.valid (n : Int) = true := by simp [Utf8.valid]; omega
  unfold Utf8.encode strOfNums
  simp only [hv, if_true, Int.toNat_natCast]
  rw [if_pos (by omega)]
  rfl
theorem nums_app (l m : List Int) : strOfNums l ++ strOfNums m = strOfNums (l ++ m) := by
  apply ByteArray.ext
  simp [strOfNums]
/-- Where a run ends. -/
def rend (s : ByteArray) : Nat → Nat → Nat
  | i, 0 => i
  | i, d + 1 => if isW (bt s (i : Int)) = true then rend s (i + 1) d else i
def lows (s : ByteArray) : Nat → Nat → List Int
  | _, 0 => []
  | i, d + 1 => if isW (bt s (i : Int)) = true then lowV (bt s (i : Int)) :: lows s (i + 1) d else []
theorem rend_le (s : ByteArray) : ∀ d i, i ≤ rend s i d ∧ rend s i d ≤ i + d
  | 0, i => by simp [rend]
  | d + 1, i => by
    have := rend_le s d (i + 1)
    unfold rend
    split <;> omega
theorem rend_yes (s : ByteArray) {i n : Nat} (h : i < n) (c : isW (bt s (i : Int)) = true) : rend s i (n - i) = rend s (i + 1) (n - (i + 1)) := by
  rw [show n - i = n - (i + 1) + 1 by omega, rend, if_pos c]
theorem rend_no (s : ByteArray) {i n : Nat} (h : i < n) (c : ¬ isW (bt s (i : Int)) = true) : rend s i (n - i) = i := by
  rw [show n - i = n - (i + 1) + 1 by omega, rend, if_neg c]
theorem lows_yes (s : ByteArray) {i n : Nat} (h : i < n) (c : isW (bt s (i : Int)) = true) : lows s i (n - i) = lowV (bt s (i : Int)) :: lows s (i + 1) (n - (i + 1)) := by
  rw [show n - i = n - (i + 1) + 1 by omega, lows, if_pos c]
theorem lows_no (s : ByteArray) {i n : Nat} (h : i < n) (c : ¬ isW (bt s (i : Int)) = true) : lows s i (n - i) = [] := by
  rw [show n - i = n - (i + 1) + 1 by omega, lows, if_neg c]
theorem lows_len (s : ByteArray) : ∀ d i, (lows s i d).length ≤ d
  | 0, i => by simp [lows]
  | d + 1, i => by
    have := lows_len s d (i + 1)
    unfold lows
    split <;> simp <;> omega
abbrev TR := S87
def wordOf (s : ByteArray) (i : Nat) : ByteArray := strOfNums (lows s i (s.size - i))
/-- The runs of a text from a place on. -/
def runsF (s : ByteArray) : Nat → Nat → List TR
  | 0, _ => []
  | n + 1, i => if i < s.size then (if isW (bt s (i : Int)) = true then (⟨(i : Int), (rend s i (s.size - i) : Nat), wordOf s i⟩ : TR) :: runsF s n (rend s i (s.size - i) + 1) else runsF s n (i + 1)) else []
theorem runs_in (s : ByteArray) : ∀ n i, ∀ x ∈ runsF s n i, 0 ≤ x.f0 ∧ x.f0 ≤ x.f1 ∧ x.f1 ≤ (s.size : Int)
  | 0, i, x, h => by simp [runsF] at h
  | n + 1, i, x, h => by
    unfold runsF at h
    split at h
    · rename_i hi
      split at h
      · rcases List.mem_cons.1 h with h | h
        · have := rend_le s (s.size - i) i
          subst h
          simp only
          omega
        · exact runs_in s n _ x h
      · exact runs_in s n _ x h
    · simp at h
/-- A run is read to its end. -/
theorem implRun (s : ByteArray) (hs : s.size ≤ 1048576) (i : Nat) (x3 : List TR) (hx : x3.length ≤ 1048576) (r : List TR) (nx : Ev (fun k => impl_runsOf.l0 k s (x3 ++ [⟨(i : Int), (rend s i (s.size - i) : Nat), wordOf s i⟩]) ((rend s i (s.size - i) + 1 : Nat) : Int)) r) (hi : i ≤ s.size) : Ev (fun k => impl_runsOf.l1 k s x3 (i : Int) (i : Int) 0 (⟨#[]⟩ : ByteArray)) r := by
  have key := nat_ind s.size (fun j => i ≤ j → ∀ acc : List Int, acc.length = j - i → rend s j (s.size - j) = rend s i (s.size - i) → strOfNums (acc ++ lows s j (s.size - j)) = wordOf s i → Ev (fun k => impl_runsOf.l1 k s x3 (j : Int) (i : Int) 0 (strOfNums acc)) r) ?_ ?_ i hi (Nat.le_refl _) [] (by simp) rfl rfl
  · exact key
  · intro _ acc ha he hw
    refine Ev.step (fun k => by rw [impl_runsOf.l1]) ?_
    rw [Nat.sub_self] at he hw
    simp only [lows, List.append_nil] at hw
    simp only [rend] at he
    rw [wsucc (n := s.size + 1) (by omega) (by omega), hw]
    rw [← he] at nx
    exact ev_neg (by omega) (ev_pos (by omega) nx)
  · intro j hj ih hij acc ha he hw
    have hr := bt_range s (j : Int)
    refine Ev.step (fun k => by rw [impl_runsOf.l1]) ?_
    rw [wsucc hj (by omega)]
    refine ev_pos (by omega) (ev_pos (by omega) (ev_b (implLower _ hr.1 hr.2) (ev_b (implByte _) ?_)))
    rw [lwW]
    by_cases c : isW (bt s (j : Int)) = true
    · have hl := isW_lw c
      refine ev_pos c (ev_b (implLower _ hr.1 hr.2) ?_)
      rw [hl.1, enc1 _ (by omega) (by omega), nums_app]
      rw [lows_yes s hj c] at hw
      rw [rend_yes s hj c] at he
      refine ev_pos ?_ (ih (by omega) _ (by simp [ha]; omega) he (by simpa using hw))
      rw [strOfNums_size, strOfNums_size]; simp; omega
    · rw [lows_no s hj c, List.append_nil] at hw
      rw [rend_no s hj c] at he
      refine ev_neg c (ev_pos (by omega) ?_)
      rw [hw]
      rw [← he] at nx
      exact nx
theorem implRunsL (s : ByteArray) (hs : s.size ≤ 1048576) : ∀ (n i : Nat) (x3 : List TR), s.size ≤ i + n → i ≤ s.size + 1 → x3.length ≤ i → Ev (fun k => impl_runsOf.l0 k s x3 (i : Int)) (x3 ++ runsF s n i) := by
  intro n
  induction n with
  | zero =>
    intro i x3 h _ _
    refine Ev.step (fun k => by rw [impl_runsOf.l0]) ?_
    exact ev_neg (by omega) (ev_some (by simp [runsF]))
  | succ n ih =>
    intro i x3 h h2 hx
    refine Ev.step (fun k => by rw [impl_runsOf.l0]) ?_
    by_cases hi : i < s.size
    · have hr := bt_range s (i : Int)
      rw [wsucc hi (by omega)]
      refine ev_pos (by omega) (ev_pos (by omega) (ev_b (implLower _ hr.1 hr.2) (ev_b (implByte _) ?_)))
      rw [lwW]
      unfold runsF
      rw [if_pos hi]
      have hre := rend_le s (s.size - i) i
      by_cases c : isW (bt s (i : Int)) = true
      · rw [if_pos c]
        refine ev_pos c (implRun s hs i x3 (by omega) _ ?_ (by omega))
        refine ev_eq (ih _ _ (by omega) (by omega) (by simp; omega)) (by simp)
      · rw [if_neg c]
        exact ev_neg c (ih (i + 1) x3 (by omega) (by omega) (by omega))
    · refine ev_neg (by omega) (ev_some ?_)
      unfold runsF
      rw [if_neg hi, List.append_nil]
def runsAll (s : ByteArray) : List TR := runsF s s.size 0
theorem implRuns (s : ByteArray) (hs : s.size ≤ 1048576) : Ev (fun k => impl_runsOf.f k s) (runsAll s) := by
  have := implRunsL s hs s.size 0 [] (by omega) (by omega) (by simp)
  unfold impl_runsOf.f runsAll
  simpa using this
theorem specEnd (s : ByteArray) (hs : s.size ≤ 1048576) : ∀ i, i ≤ s.size → Ev (fun k => spec_l06End.f k s (i : Int)) ((rend s i (s.size - i) : Nat) : Int) := by
  unfold spec_l06End.f
  refine nat_ind s.size _ ?_ ?_
  · refine Ev.step (fun k => by rw [spec_l06End.l0]) ?_
    exact ev_neg (by omega) (ev_some (by simp [rend]))
  · intro i hi ih
    have hr := bt_range s (i : Int)
    refine Ev.step (fun k => by rw [spec_l06End.l0]) ?_
    rw [wsucc hi (by omega)]
    refine ev_pos (by omega) (ev_pos (by omega) (Ev.bind (specLow _ hr.1 hr.2) ?_))
    by_cases c : isW (bt s (i : Int)) = true
    · rw [rend_yes s hi c]
      exact ev_neg (by simpa [isW] using c) ih
    · rw [rend_no s hi c]
      exact ev_pos (by simpa [isW] using c) (Ev.now _)
def allL (t : ByteArray) : Nat → Nat → List Int
  | _, 0 => []
  | j, d + 1 => lowV (bt t (j : Int)) :: allL t (j + 1) d
theorem specWordL (t : ByteArray) (ht : t.size ≤ 1048576) : ∀ j, j ≤ t.size → ∀ x3 : List Int, x3.length ≤ j → Ev (fun k => spec_l06Word.l0 k t x3 (j : Int)) (strOfNums (x3 ++ allL t j (t.size - j))) := by
  refine nat_ind t.size _ ?_ ?_
  · intro x3 _
    refine Ev.step (fun k => by rw [spec_l06Word.l0]) ?_
    exact ev_neg (by omega) (ev_some (by simp [allL]))
  · intro j hj ih x3 hx
    have hr := bt_range t (j : Int)
    refine Ev.step (fun k => by rw [spec_l06Word.l0]) ?_
    rw [wsucc hj (by omega)]
    refine ev_pos (by omega) (ev_pos (by omega) (Ev.bind (specLow _ hr.1 hr.2) (ev_pos (by omega) ?_)))
    refine ev_eq (ih (x3 ++ [lowV (bt t (j : Int))]) (by simp; omega)) ?_
    rw [show t.size - j = t.size - (j + 1) + 1 by omega, allL]
    simp
theorem bt_extract (s : ByteArray) (i e j : Nat) (h : i + j < e) (he : e ≤ s.size) : bt (s.extract i e) (j : Int) = bt s ((i + j : Nat) : Int) := by
  have h1 : j < (s.extract i e).size := by rw [ByteArray.size_extract]; omega
  unfold bt
  simp only [Int.toNat_natCast]
  rw [dif_pos h1, dif_pos (show i + j < s.size by omega), ByteArray.getElem_extract]
theorem all_lows (s : ByteArray) (i e : Nat) (he : e ≤ s.size) : ∀ d j, e = i + j + d → rend s (i + j) (s.size - (i + j)) = e → allL (s.extract i e) j d = lows s (i + j) (s.size - (i + j)) := by
  intro d
  induction d with
  | zero =>
    intro j hj hr
    unfold allL
    rcases Nat.lt_or_ge (i + j) s.size with h | h
    · by_cases c : isW (bt s ((i + j : Nat) : Int)) = true
      · rw [rend_yes s h c] at hr
        have := rend_le s (s.size - (i + j + 1)) (i + j + 1)
        omega
      · rw [lows_no s h c]
    · rw [show s.size - (i + j) = 0 by omega]; rfl
  | succ d ih =>
    intro j hj hr
    have h : i + j < s.size := by omega
    by_cases c : isW (bt s ((i + j : Nat) : Int)) = true
    · rw [lows_yes s h c, allL, bt_extract s i e j (by omega) he]
      congr 1
      rw [rend_yes s h c] at hr
      have := ih (j + 1) (by omega) (by rw [← Nat.add_assoc]; exact hr)
      rw [this, ← Nat.add_assoc]
    · rw [rend_no s h c] at hr; omega
theorem specWordOf (s : ByteArray) (hs : s.size ≤ 1048576) (i : Nat) (hi : i ≤ s.size) : Ev (fun k => spec_l06Word.f k (s.extract i (rend s i (s.size - i)))) (wordOf s i) := by
  have hre := rend_le s (s.size - i) i
  have hz : (s.extract i (rend s i (s.size - i))).size = rend s i (s.size - i) - i := by rw [ByteArray.size_extract]; omega
  unfold spec_l06Word.f
  refine ev_eq (specWordL _ (by omega) 0 (Nat.zero_le _) [] (by simp)) ?_
  unfold wordOf
  have := all_lows s i (rend s i (s.size - i)) (by omega) (rend s i (s.size - i) - i) 0 (by omega) (by rw [Nat.add_zero])
  rw [List.nil_append, Nat.sub_zero, hz, this, Nat.add_zero]
/-- Is a word among these? -/
def hasV (l : List ByteArray) (w : ByteArray) : Bool := l.any fun y => decide (y.toList = w.toList)
theorem specHas (l : List ByteArray) (hl : l.length ≤ 100000000) (w : ByteArray) : Ev (fun k => spec_l06Has.f k l w) (hasV l w) := by
  unfold spec_l06Has.f
  refine idx_ind l (fun i => Ev (fun k => spec_l06Has.l0 k l w (i : Int)) (hasV (l.drop i) w)) ?_ ?_ 0 (Nat.zero_le _)
  · refine Ev.step (fun k => by rw [spec_l06Has.l0]) ?_
    exact ev_neg (by omega) (ev_some (by simp [hasV]))
  · intro i hi ih
    refine Ev.step (fun k => by rw [spec_l06Has.l0]) ?_
    rw [rdOf_at _ l i hi, wsucc hi (by omega), drop_at l i hi]
    refine ev_pos (by omega) (ev_pos (by omega) ?_)
    by_cases c : l[i].toList = w.toList
    · exact ev_pos c (ev_some (by simp only [hasV, List.any_cons, decide_eq_true c, Bool.true_or]))
    · refine ev_neg c (ev_eq ih ?_)
      simp only [hasV, List.any_cons, decide_eq_false c, Bool.false_or]

theorem implContains (l : List ByteArray) (hl : l.length ≤ 100000000) (w : ByteArray) : Ev (fun k => slices_Contains_string_string.f k l w) (hasV l w) := by
  have key := idx_ind l (fun i => ∃ v : Int, Ev (fun k => slices_Index_string_string.l0 k l w (l.length : Int) (i : Int)) v ∧ decide (v ≥ 0) = hasV (l.drop i) w) ?_ ?_ 0 (Nat.zero_le _)
  · obtain ⟨v, h1, h2⟩ := key
    unfold slices_Contains_string_string.f slices_Index_string_string.f
    exact Ev.bind h1 (ev_some h2)
  · refine ⟨-1, Ev.step (fun k => by rw [slices_Index_string_string.l0]) ?_, by simp [hasV]⟩
    exact ev_neg (by omega) (Ev.now _)
  · intro i hi ⟨v, h1, h2⟩
    by_cases c : w.toList = l[i].toList
    · refine ⟨(i : Int), Ev.step (fun k => by rw [slices_Index_string_string.l0]) ?_, by rw [drop_at l i hi]; simp only [hasV, List.any_cons, decide_eq_true c.symm, Bool.true_or, decide_eq_true_eq]; omega⟩
      rw [rdOf_at _ l i hi]
      exact ev_pos (by omega) (ev_pos (by omega) (ev_pos (by omega) (ev_pos c (Ev.now _))))
    · refine ⟨v, Ev.step (fun k => by rw [slices_Index_string_string.l0]) ?_, by rw [h2, drop_at l i hi]; simp only [hasV, List.any_cons, decide_eq_false (fun z : l[i].toList = w.toList => c z.symm), Bool.false_or]⟩
      rw [rdOf_at _ l i hi, wsucc hi (by omega)]
      exact ev_pos (by omega) (ev_pos (by omega) (ev_pos (by omega) (ev_neg c h1)))

theorem rdTR (l : List TR) (i : Nat) (h : i < l.length) : rd_T87 l (i : Int) = l[i] := by
  simp [rd_T87, List.getD, h]
theorem runs_len (s : ByteArray) : ∀ n i, (runsF s n i).length ≤ n
  | 0, i => by simp [runsF]
  | n + 1, i => by
    have h1 := runs_len s n (rend s i (s.size - i) + 1)
    have h2 := runs_len s n (i + 1)
    unfold runsF
    split
    · split
      · simp only [List.length_cons]; omega
      · omega
    · simp
def badOkV (s : ByteArray) (ws : List ByteArray) : Bool := (betw s 32 126 0 s.size && decide (s.size ≤ 80)) && (wOk none ws && decide (ws.length ≤ 64))
theorem implOk (s : ByteArray) (hs : s.size ≤ 1048576) (ws : List ByteArray) (hl : ws.length ≤ 100000000) (hf : ∀ y ∈ ws, y.size ≤ 140737488351232) : Ev (fun k => impl_badOk.f k s ws) (badOkV s ws) := by
  unfold impl_badOk.f badOkV
  refine Ev.bind (implText s (by omega)) ?_
  by_cases c : (betw s 32 126 0 s.size && decide (s.size ≤ 80)) = true
  · rw [c, Bool.true_and]
    exact ev_pos rfl (Ev.bind (implWords ws hl hf) (Ev.now _))
  · rw [(Bool.not_eq_true _).mp c, Bool.false_and]
    exact ev_neg (by simp) (Ev.now _)
/-- Stars from a place on, so many. -/
def starL : List Int → Nat → Nat → List Int
  | L, _, 0 => L
  | L, a, d + 1 => starL (L.set a 42) (a + 1) d
theorem starL_len : ∀ (d a : Nat) (L : List Int), (starL L a d).length = L.length
  | 0, _, _ => rfl
  | d + 1, a, L => by rw [starL, starL_len d]; simp
/-- What stands behind these runs. -/
def cenR (ws : List ByteArray) : List TR → List Int → List Int
  | [], L => L
  | r :: rs, L => cenR ws rs (if hasV ws r.f2 = true then starL L (r.f0.toNat + 1) (r.f1.toNat - (r.f0.toNat + 1)) else L)
def cenV (s : ByteArray) (ws : List ByteArray) : ByteArray × Bool := if badOkV s ws = true then (strOfNums (cenR ws (runsAll s) (bytesOf s)), true) else ((⟨#[]⟩ : ByteArray), false)
theorem implCen (s : ByteArray) (hs : s.size ≤ 1048576) (ws : List ByteArray) (hl : ws.length ≤ 100000000) (hf : ∀ y ∈ ws, y.size ≤ 140737488351232) : Ev (fun k => impl_CensorText.f k s ws) (cenV s ws) := by
  unfold impl_CensorText.f cenV
  refine Ev.bind (implOk s hs ws hl hf) ?_
  by_cases c : badOkV s ws = true
  · rw [if_pos c]
    refine ev_pos c (Ev.bind (implRuns s hs) ?_)
    have hr : (runsAll s).length ≤ 1048576 := by have := runs_len s s.size 0; unfold runsAll; omega
    have hin : ∀ x ∈ runsAll s, 0 ≤ x.f0 ∧ x.f0 ≤ x.f1 ∧ x.f1 ≤ (s.size : Int) := runs_in s s.size 0
    generalize runsAll s = R at hr hin
    have key := idx_ind R (fun i => ∀ L : List Int, L.length = s.size → Ev (fun k => impl_CensorText.l0 k ws L R (R.length : Int) (i : Int)) (strOfNums (cenR ws (R.drop i) L), true)) ?_ ?_ 0 (Nat.zero_le _) (bytesOf s) (bytesOf_length s)
    · exact key
    · intro L _
      refine Ev.step (fun k => by rw [impl_CensorText.l0]) ?_
      refine ev_neg (by omega) (ev_some ?_)
      rw [List.drop_length, cenR]
    · intro i hi ih L hL
      refine Ev.step (fun k => by rw [impl_CensorText.l0]) ?_
      rw [rdTR R i hi, drop_at R i hi, cenR]
      refine ev_pos (by omega) (ev_pos (by omega) (ev_pos (by omega) ?_))
      obtain ⟨g0, g1, g2⟩ := hin R[i] (List.getElem_mem hi)
      obtain ⟨p, hp⟩ := Int.eq_ofNat_of_zero_le g0
      obtain ⟨q, hq⟩ := Int.eq_ofNat_of_zero_le (show 0 ≤ R[i].f1 by omega)
      have hpq : p ≤ q := by omega
      have hqs : q ≤ s.size := by omega
      rw [hp, hq]
      simp only [Int.toNat_natCast]
      rw [wsucc (n := p + 1) (by omega) (by omega)]
      have loop : ∀ d a : Nat, ∀ L : List Int, L.length = s.size → a + d = q → (hasV ws R[i].f2 = true) → Ev (fun k => impl_CensorText.l1 k ws L (a : Int) R (R.length : Int) (i : Int) (p : Int) (q : Int) R[i].f2) (strOfNums (cenR ws (R.drop (i + 1)) (starL L a d)), true) := by
        intro d
        induction d with
        | zero =>
          intro a L hL ha hv
          refine Ev.step (fun k => by rw [impl_CensorText.l1]) ?_
          rw [wsucc hi (by omega), starL]
          exact ev_neg (by omega) (ih L hL)
        | succ d ihd =>
          intro a L hL ha hv
          refine Ev.step (fun k => by rw [impl_CensorText.l1]) ?_
          rw [wsucc (n := q) (by omega) (by omega), starL]
          refine ev_pos (by omega) (Ev.bind (implContains ws hl _) (ev_pos hv (ev_pos (by omega) (ev_pos (by omega) ?_))))
          have := ihd (a + 1) (L.set a 42) (by simp [hL]) (by omega) hv
          simpa using this
      by_cases d : hasV ws R[i].f2 = true
      · rw [if_pos d]
        rcases Nat.lt_or_ge p q with h | h
        · exact loop (q - (p + 1)) (p + 1) L hL (by omega) d
        · rw [show q - (p + 1) = 0 by omega, starL]
          refine Ev.step (fun k => by rw [impl_CensorText.l1]) ?_
          rw [wsucc hi (by omega)]
          exact ev_neg (by omega) (ih L hL)
      · rw [if_neg d]
        refine Ev.step (fun k => by rw [impl_CensorText.l1]) ?_
        rw [wsucc hi (by omega)]
        by_cases h : ((p + 1 : Nat) : Int) < (q : Int)
        · exact ev_pos h (Ev.bind (implContains ws hl _) (ev_neg d (ih L hL)))
        · exact ev_neg h (ih L hL)
  · rw [if_neg c]
    exact ev_neg c (Ev.now _)
theorem specCenL (s : ByteArray) (hs : s.size ≤ 1048576) (ws : List ByteArray) (hl : ws.length ≤ 100000000) : ∀ (n i : Nat) (L : List Int), L.length = s.size → s.size ≤ i + n → i ≤ s.size + 1 → Ev (fun k => spec_CensorText.l0 k s ws L (i : Int)) (strOfNums (cenR ws (runsF s n i) L), true) := by
  intro n
  induction n with
  | zero =>
    intro i L _ h _
    refine Ev.step (fun k => by rw [spec_CensorText.l0]) ?_
    exact ev_neg (by omega) (ev_some (by rw [runsF, cenR]))
  | succ n ih =>
    intro i L hL h h2
    refine Ev.step (fun k => by rw [spec_CensorText.l0]) ?_
    by_cases hi : i < s.size
    · unfold runsF
      rw [if_pos hi]
      have hre := rend_le s (s.size - i) i
      refine ev_pos (by omega) (Ev.bind (specEnd s hs i (by omega)) ?_)
      by_cases c : isW (bt s (i : Int)) = true
      · rw [if_pos c, cenR]
        have hlt : i < rend s i (s.size - i) := by
          rw [rend_yes s hi c]
          have := rend_le s (s.size - (i + 1)) (i + 1)
          omega
        have hw := specWordOf s hs i (by omega)
        generalize he : rend s i (s.size - i) = e at hre hlt hw
        simp only [Int.toNat_natCast]
        have loop : ∀ d a : Nat, ∀ L : List Int, L.length = s.size → a + d = e → Ev (fun k => spec_CensorText.l1 k s ws L (e : Int) (a : Int)) (strOfNums (cenR ws (runsF s n (e + 1)) (starL L a d)), true) := by
          intro d
          induction d with
          | zero =>
            intro a L hL ha
            refine Ev.step (fun k => by rw [spec_CensorText.l1]) ?_
            rw [wsucc (i := e) (n := e + 1) (by omega) (by omega), starL]
            exact ev_neg (by omega) (ih (e + 1) L hL (by omega) (by omega))
          | succ d ihd =>
            intro a L hL ha
            refine Ev.step (fun k => by rw [spec_CensorText.l1]) ?_
            rw [wsucc (n := e) (i := a) (by omega) (by omega), starL]
            refine ev_pos (by omega) (ev_pos (by omega) (ev_pos (by omega) ?_))
            have := ihd (a + 1) (L.set a 42) (by simp [hL]) (by omega)
            simpa using this
        refine ev_neg (by omega) (ev_pos (by omega) (ev_pos (by omega) (ev_pos (by omega) (Ev.bind hw (Ev.bind (specHas ws hl _) ?_)))))
        rw [wsucc hi (by omega), wsucc (i := e) (n := e + 1) (by omega) (by omega)]
        by_cases d : hasV ws (wordOf s i) = true
        · rw [if_pos d]
          exact ev_pos d (loop (e - (i + 1)) (i + 1) L hL (by omega))
        · rw [if_neg d]
          refine ev_neg d ?_
          exact (ih (e + 1) L hL (by omega) (by omega))
      · rw [if_neg c, rend_no s hi c, wsucc hi (by omega)]
        exact ev_pos rfl (ih (i + 1) L hL (by omega) (by omega))
    · refine ev_neg (by omega) (ev_some ?_)
      unfold runsF
      rw [if_neg hi, cenR]
theorem specCen (s : ByteArray) (hs : s.size ≤ 1048576) (ws : List ByteArray) (hl : ws.length ≤ 100000000) (hf : ∀ y ∈ ws, y.size ≤ 140737488351232) : Ev (fun k => spec_CensorText.f k s ws) (cenV s ws) := by
  unfold spec_CensorText.f cenV badOkV spec_IsText.f
  have jt : Ev (fun k => spec_CensorText.j0 k s ws true) ((⟨#[]⟩ : ByteArray), false) := Ev.step (fun k => by rw [spec_CensorText.j0]) (ev_pos rfl (Ev.now _))
  refine Ev.bind (Ev.bind (specText s (by omega)) (Ev.now _)) ?_
  by_cases c : (betw s 32 126 0 s.size && decide (s.size ≤ 80)) = true
  · rw [c, Bool.true_and]
    refine ev_pos rfl (Ev.bind (specWords ws hf) ?_)
    by_cases c2 : (wOk none ws && decide (ws.length ≤ 64)) = true
    · rw [if_pos c2, c2]
      refine Ev.step (fun k => by rw [spec_CensorText.j0]) ?_
      exact ev_neg (by simp) (specCenL s hs ws hl s.size 0 (bytesOf s) (bytesOf_length s) (by omega) (by omega))
    · rw [if_neg c2, (Bool.not_eq_true _).mp c2]
      exact jt
  · rw [(Bool.not_eq_true _).mp c, Bool.false_and, if_neg (by simp)]
    exact ev_neg (by simp) jt

theorem FnExactCensorText : laws_FnExactCensorText.Pure := by
  intro a l ha hl
  refine Ev.rounds ?_
  unfold laws_FnExactCensorText.f
  by_cases c : (a.size : Int) > 1048576
  · exact ev_pos c (Ev.now _)
  · obtain ⟨v, hv, hv2⟩ := szStrs l (by have := hl.1; unfold maxLen at this; omega) hl.2.2
    refine ev_neg c (Ev.bind hv ?_)
    by_cases c2 : v < 0
    · exact ev_pos c2 (Ev.now _)
    · have h3 := hv2 (by omega)
      have ts := toStrs l (by omega)
      have sp := specCen a (by omega) l (by omega) hl.2.2
      have im := implCen a (by omega) l (by omega) hl.2.2
      generalize cenV a l = r at sp im
      refine ev_neg c2 (Ev.bind ts (Ev.bind sp (Ev.bind ts (Ev.bind im (ev_pos rfl ?_)))))
      have hne : (r.2 != r.2) = false := by simp
      rw [hne]
      refine Ev.step (fun k => by rw [laws_FnExactCensorText.j0]) ?_
      exact ev_neg (by simp) (Ev.bind ts (Ev.bind (eqStrs l (by omega)) (ev_pos rfl (Ev.now _))))

end Go.Proofs.Ytjfaepolmllejaa.Pure
