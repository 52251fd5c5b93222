/- MarkWords: the program and the reference answer alike, for every text and list of words; the list that came in is not changed. -/
import Derived.Test.YtcnhepjdibbkgaaQFnExactMarkWordsx6
namespace Go.Proofs.Ytcnhepjdibbkgaa.Pure
open Go.RowKit Go.Proofs.Ytcnhepjdibbkgaa.QFnExactMarkWords Go.Proofs.YtcnhepjdibbkgaaW.PrintWords Go.Proofs.YtcnhepjdibbkgaaW.PrintLast Go.Proofs.YtcnhepjdibbkgaaW.PrintMore
set_option linter.unusedVariables false

theorem w64 {n : Int} (h1 : -9223372036854775808 ≤ n) (h2 : n ≤ 9223372036854775807) : wrap64 n = n := by
  unfold wrap64
  omega
theorem wf64 {n : Int} (h : (Lit.int .i64 n).wf = true) : -9223372036854775808 ≤ n ∧ n ≤ 9223372036854775807 := by
  simp [Lit.wf, IntKind.min, IntKind.max, IntKind.signed, IntKind.bits] at h
  omega

theorem ev_pos {α : Type} {c : Prop} [Decidable c] {g f : Nat → Option α} {r : α} (h : c) (e : Ev g r) : Ev (fun k => if c then g k else f k) r := Ev.congr (fun _ => if_pos h) e
theorem ev_neg {α : Type} {c : Prop} [Decidable c] {g f : Nat → Option α} {r : α} (h : ¬ c) (e : Ev f r) : Ev (fun k => if c then g k else f k) r := Ev.congr (fun _ => if_neg h) e
theorem ev_b {α β : Type} {o : Option α} {a : α} {f : Nat → α → Option β} {r : β} (h : o = some a) (e : Ev (fun k => f k a) r) : Ev (fun k => o.bind (f k)) r := by subst h; exact e
theorem ev_eq {α : Type} {g : Nat → Option α} {r q : α} (e : Ev g r) (h : r = q) : Ev g q := h ▸ e
theorem ev_some {α : Type} {r q : α} (h : r = q) : Ev (fun _ => some r) q := h ▸ Ev.now r
/-- Down from a list's end. -/
theorem idx_ind {α : Type} (l : List α) (P : Nat → Prop) (hend : P l.length) (hstep : ∀ i, i < l.length → P (i + 1) → P i) : ∀ i, i ≤ l.length → P i := by
  have key : ∀ d i, i + d = l.length → P i := by
    intro d
    induction d with
    | zero => intro i h; have : i = l.length := by omega
              rw [this]; exact hend
    | succ d ih => intro i h; exact hstep i (by omega) (ih (i + 1) (by omega))
  intro i h
  exact key (l.length - i) i (by omega)
theorem rd_at (l : List Int) (i : Nat) (h : i < l.length) : rd l (i : Int) = l[i] := by
  simp [rd, List.getD, h]
theorem rdOf_at {α : Type} (d : α) (l : List α) (i : Nat) (h : i < l.length) : rdOf d l (i : Int) = l[i] := by
  simp [rdOf, List.getD, h]
theorem drop_at {α : Type} (l : List α) (i : Nat) (h : i < l.length) : l.drop i = l[i] :: l.drop (i + 1) := List.drop_eq_getElem_cons h
theorem wsucc {i n : Nat} (h : i < n) (hn : n ≤ 9223372036854775807) : wrap64 ((i : Int) + 1) = ((i + 1 : Nat) : Int) := by
  rw [w64 (by omega) (by omega)]; rfl

/-- Is every byte of a text from a place on between two bounds? -/
def betw (s : ByteArray) (lo hi : Int) : Nat → Nat → Bool
  | _, 0 => true
  | i, n + 1 => decide (lo ≤ bt s (i : Int) ∧ bt s (i : Int) ≤ hi) && betw s lo hi (i + 1) n
theorem nat_ind (n : Nat) (P : Nat → Prop) (hend : P n) (hstep : ∀ i, i < n → P (i + 1) → P i) : ∀ i, i ≤ n → P i := by
  have key : ∀ d i, i + d = n → P i := by
    intro d
    induction d with
    | zero => intro i h; have : i = n := by omega
              rw [this]; exact hend
    | succ d ih => intro i h; exact hstep i (by omega) (ih (i + 1) (by omega))
  intro i h
  exact key (n - i) i (by omega)
theorem betw_step (s : ByteArray) (lo hi : Int) {i n : Nat} (h : i < n) : betw s lo hi i (n - i) = (decide (lo ≤ bt s (i : Int) ∧ bt s (i : Int) ≤ hi) && betw s lo hi (i + 1) (n - (i + 1))) := by
  rw [show n - i = (n - (i + 1)) + 1 by omega, betw]
theorem betw_no (s : ByteArray) {lo hi : Int} {i n : Nat} (h : i < n) (c : ¬ (lo ≤ bt s (i : Int) ∧ bt s (i : Int) ≤ hi)) : betw s lo hi i (n - i) = false := by
  rw [betw_step s lo hi h, decide_eq_false c]; rfl
theorem betw_yes (s : ByteArray) {lo hi : Int} {i n : Nat} (h : i < n) (c : lo ≤ bt s (i : Int) ∧ bt s (i : Int) ≤ hi) : betw s lo hi i (n - i) = betw s lo hi (i + 1) (n - (i + 1)) := by
  rw [betw_step s lo hi h, decide_eq_true c]; rfl

theorem specText (s : ByteArray) (hs : s.size ≤ 140737488351232) : Ev (fun k => spec_l01IsText.f k s) (betw s 32 126 0 s.size && decide (s.size ≤ 80)) := by
  have key := nat_ind s.size (fun i => Ev (fun k => spec_l01IsText.l0 k s (i : Int)) (betw s 32 126 i (s.size - i) && decide (s.size ≤ 80))) ?_ ?_ 0 (Nat.zero_le _)
  · exact key
  · refine Ev.step (fun k => by rw [spec_l01IsText.l0]) ?_
    refine ev_neg (by omega) (ev_some ?_)
    simp [betw]; omega
  · intro i hi ih
    refine Ev.step (fun k => by rw [spec_l01IsText.l0]) ?_
    refine ev_pos (by omega) (ev_pos (by omega) ?_)
    by_cases c1 : bt s (i : Int) < 32
    · refine ev_pos c1 (ev_some ?_)
      rw [betw_no s hi (by omega)]; rfl
    · refine ev_neg c1 ?_
      by_cases c2 : bt s (i : Int) > 126
      · refine ev_pos c2 (ev_some ?_)
        rw [betw_no s hi (by omega)]; rfl
      · refine ev_neg c2 ?_
        rw [betw_yes s hi (by omega), wsucc hi (by omega)]
        exact ih

theorem implText (s : ByteArray) (hs : s.size ≤ 140737488351232) : Ev (fun k => impl_IsText.f k s) (betw s 32 126 0 s.size && decide (s.size ≤ 80)) := by
  have key := nat_ind s.size (fun i => Ev (fun k => impl_IsText.l0 k s (s.size : Int) (i : Int)) (betw s 32 126 i (s.size - i) && decide (s.size ≤ 80))) ?_ ?_ 0 (Nat.zero_le _)
  · exact key
  · refine Ev.step (fun k => by rw [impl_IsText.l0]) ?_
    refine ev_neg (by omega) (ev_some ?_)
    simp [betw]; omega
  · intro i hi ih
    refine Ev.step (fun k => by rw [impl_IsText.l0]) ?_
    refine ev_pos (by omega) (ev_pos (by omega) (ev_pos (by omega) ?_))
    by_cases c1 : bt s (i : Int) < 32
    · refine ev_pos c1 (ev_some ?_)
      rw [betw_no s hi (by omega)]; rfl
    · refine ev_neg c1 ?_
      by_cases c2 : bt s (i : Int) > 126
      · refine ev_pos c2 (ev_some ?_)
        rw [betw_no s hi (by omega)]; rfl
      · refine ev_neg c2 ?_
        rw [betw_yes s hi (by omega), wsucc hi (by omega)]
        exact ih

theorem bt_range (s : ByteArray) (i : Int) : 0 ≤ bt s i ∧ bt s i ≤ 255 := by
  unfold bt
  have q : ∀ u : UInt8, u.toNat < 256 := fun u => u.toNat_lt
  split
  · have := q (s[i.toNat]'(by assumption))
    omega
  · omega
/-- May a word have this byte? -/
def wb (c : Int) : Bool := decide (48 ≤ c ∧ c ≤ 57 ∨ 97 ≤ c ∧ c ≤ 122)
def allW (s : ByteArray) : Nat → Nat → Bool
  | _, 0 => true
  | i, d + 1 => wb (bt s (i : Int)) && allW s (i + 1) d
theorem allW_step (s : ByteArray) {i n : Nat} (h : i < n) : allW s i (n - i) = (wb (bt s (i : Int)) && allW s (i + 1) (n - (i + 1))) := by
  rw [show n - i = n - (i + 1) + 1 by omega, allW]
def wordV (s : ByteArray) : Bool := allW s 0 s.size && decide (1 ≤ s.size ∧ s.size ≤ 80)
theorem implByte (c : Int) : impl_wordByte.f c = some (wb c) := by
  unfold impl_wordByte.f impl_isDigit.f wb
  by_cases h1 : c ≥ 48
  · rw [if_pos h1]
    simp only [Option.bind_some]
    by_cases h2 : c ≤ 57
    · rw [if_pos (by simpa using h2), decide_eq_true (by omega)]
    · rw [if_neg (by simpa using h2)]
      by_cases h3 : c ≥ 97
      · rw [if_pos h3]; congr 1; rw [decide_eq_decide]; omega
      · rw [if_neg h3]; congr 1; rw [eq_comm, decide_eq_false_iff_not]; omega
  · rw [if_neg h1]
    simp only [Option.bind_some]
    rw [if_neg (by simp), if_neg (by omega)]; congr 1; rw [eq_comm, decide_eq_false_iff_not]; omega
/-- A byte as words have it. -/
def lowV (c : Int) : Int := if 65 ≤ c ∧ c ≤ 90 then c + 32 else if wb c = true then c else 0
theorem specLow (c : Int) (h0 : 0 ≤ c) (h1 : c ≤ 255) : Ev (fun k => spec_l06Low.f k c) (lowV c) := by
  have j1 : ∀ b, (b = true ↔ (97 ≤ c ∧ c ≤ 122)) → ¬ (65 ≤ c ∧ c ≤ 90) → Ev (fun k => spec_l06Low.j1 k c b) (lowV c) := by
    intro b hb hn
    refine Ev.step (fun k => by rw [spec_l06Low.j1]) ?_
    unfold lowV wb
    rw [if_neg hn]
    by_cases c1 : b = true
    · have := hb.mp c1
      refine ev_pos c1 (ev_some ?_)
      rw [if_pos (by simp; omega)]
    · have : ¬ (97 ≤ c ∧ c ≤ 122) := fun z => c1 (hb.mpr z)
      refine ev_neg c1 ?_
      by_cases c2 : c ≥ 48
      · refine ev_pos c2 ?_
        by_cases c3 : c ≤ 57
        · refine ev_pos c3 (ev_some ?_)
          rw [if_pos (by simp; omega)]
        · refine ev_neg c3 (ev_some ?_)
          rw [if_neg (by simp; omega)]
      · refine ev_neg c2 (ev_some ?_)
        rw [if_neg (by simp; omega)]
  have j0 : ∀ b, (b = true ↔ (65 ≤ c ∧ c ≤ 90)) → Ev (fun k => spec_l06Low.j0 k c b) (lowV c) := by
    intro b hb
    refine Ev.step (fun k => by rw [spec_l06Low.j0]) ?_
    by_cases c1 : b = true
    · have := hb.mp c1
      refine ev_pos c1 (ev_some ?_)
      unfold lowV
      rw [if_pos this]; omega
    · have hn : ¬ (65 ≤ c ∧ c ≤ 90) := fun z => c1 (hb.mpr z)
      refine ev_neg c1 ?_
      by_cases c2 : c ≥ 97
      · exact ev_pos c2 (j1 _ (by simp; omega) hn)
      · exact ev_neg c2 (j1 _ (by simp; omega) hn)
  unfold spec_l06Low.f
  by_cases c1 : c ≥ 65
  · exact ev_pos c1 (j0 _ (by simp; omega))
  · exact ev_neg c1 (j0 _ (by simp; omega))
theorem low_eq (c : Int) : (¬ c = 0 ∧ lowV c = c) ↔ wb c = true := by
  unfold lowV wb
  by_cases h : 65 ≤ c ∧ c ≤ 90
  · rw [if_pos h]; simp; omega
  · rw [if_neg h]
    by_cases h2 : (48 ≤ c ∧ c ≤ 57 ∨ 97 ≤ c ∧ c ≤ 122)
    · rw [if_pos (by simpa using h2)]; simp [h2]; omega
    · rw [if_neg (by simpa using h2)]; simp [h2]; omega
theorem implWord (s : ByteArray) (hs : s.size ≤ 140737488351232) : Ev (fun k => impl_wordOk_n51.f k s) (wordV s) := by
  have key := nat_ind s.size (fun i => Ev (fun k => impl_wordOk_n51.l0 k s (s.size : Int) (i : Int)) (allW s i (s.size - i) && decide (1 ≤ s.size ∧ s.size ≤ 80))) ?_ ?_ 0 (Nat.zero_le _)
  · exact key
  · refine Ev.step (fun k => by rw [impl_wordOk_n51.l0]) ?_
    refine ev_neg (by omega) ?_
    rw [Nat.sub_self, allW, Bool.true_and]
    by_cases h : (s.size : Int) ≥ 1
    · refine ev_pos h (ev_some ?_)
      rw [decide_eq_decide]; omega
    · refine ev_neg h (ev_some ?_)
      rw [decide_eq_false (by omega)]
  · intro i hi ih
    refine Ev.step (fun k => by rw [impl_wordOk_n51.l0]) ?_
    rw [allW_step s hi, wsucc hi (by omega)]
    refine ev_pos (by omega) (ev_pos (by omega) (ev_pos (by omega) (ev_b (implByte _) ?_)))
    by_cases c : wb (bt s (i : Int)) = true
    · refine ev_pos c ?_
      simp only [c, Bool.true_and]; exact ih
    · refine ev_neg c (ev_some ?_)
      rw [Bool.not_eq_true] at c
      simp only [c, Bool.false_and]
theorem specWord (s : ByteArray) (hs : s.size ≤ 140737488351232) : Ev (fun k => spec_l08Word.f k s) (wordV s) := by
  have loop := nat_ind s.size (fun i => Ev (fun k => spec_l08Word.l0 k s (i : Int)) (allW s i (s.size - i))) ?_ ?_ 0 (Nat.zero_le _)
  · unfold spec_l08Word.f wordV
    have yes : (1 ≤ s.size ∧ s.size ≤ 80) → Ev (fun k => spec_l08Word.j0 k s false) (allW s 0 s.size && decide (1 ≤ s.size ∧ s.size ≤ 80)) := by
      intro h
      refine Ev.step (fun k => by rw [spec_l08Word.j0]) ?_
      refine ev_neg (by simp) ?_
      rw [decide_eq_true h, Bool.and_true]
      exact loop
    have no : ¬ (1 ≤ s.size ∧ s.size ≤ 80) → Ev (fun k => spec_l08Word.j0 k s true) (allW s 0 s.size && decide (1 ≤ s.size ∧ s.size ≤ 80)) := by
      intro h
      refine Ev.step (fun k => by rw [spec_l08Word.j0]) ?_
      refine ev_pos rfl (ev_some ?_)
      rw [decide_eq_false h, Bool.and_false]
    by_cases h1 : (s.size : Int) < 1
    · exact ev_pos h1 (no (by omega))
    · refine ev_neg h1 ?_
      by_cases h2 : (s.size : Int) > 80
      · rw [decide_eq_true h2]; exact no (by omega)
      · rw [decide_eq_false h2]; exact yes (by omega)
  · refine Ev.step (fun k => by rw [spec_l08Word.l0]) ?_
    refine ev_neg (by omega) (ev_some ?_)
    rw [Nat.sub_self, allW]
  · intro i hi ih
    have hr := bt_range s (i : Int)
    have le := low_eq (bt s (i : Int))
    refine Ev.step (fun k => by rw [spec_l08Word.l0]) ?_
    rw [allW_step s hi, wsucc hi (by omega)]
    refine ev_pos (by omega) (ev_pos (by omega) ?_)
    by_cases c0 : bt s (i : Int) = 0
    · refine ev_pos c0 (ev_some ?_)
      have : wb (bt s (i : Int)) = false := by rw [← Bool.not_eq_true]; exact fun z => (le.mpr z).1 c0
      simp only [this, Bool.false_and]
    · refine ev_neg c0 (Ev.bind (specLow _ hr.1 hr.2) ?_)
      by_cases c1 : lowV (bt s (i : Int)) = bt s (i : Int)
      · have c := le.mp ⟨c0, c1⟩
        refine ev_pos c1 ?_
        simp only [c, Bool.true_and]; exact ih
      · have : wb (bt s (i : Int)) = false := by rw [← Bool.not_eq_true]; exact fun z => c1 (le.mpr z).2
        refine ev_neg c1 (ev_some ?_)
        simp only [this, Bool.false_and]

theorem szStrs (l : List ByteArray) (hl : l.length ≤ 9223372036854775807) (hs : ∀ y ∈ l, y.size ≤ 140737488351232) : ∃ v, Ev (fun k => laws_szStringS.f k l 1048576) v ∧ (0 ≤ v → l.length ≤ 1048576) := by
  have key := idx_ind l (fun i => ∀ x : Int, 0 ≤ x → x ≤ 1048576 → ∃ v, Ev (fun k => laws_szStringS.l0 k l x (i : Int)) v) ?_ ?_ 0 (Nat.zero_le _)
  · unfold laws_szStringS.f
    rw [w64 (by omega) (by omega)]
    by_cases h : l.length ≤ 1048576
    · obtain ⟨v, hv⟩ := key (1048576 - (l.length : Int)) (by omega) (by omega)
      exact ⟨v, ev_neg (by omega) hv, fun _ => h⟩
    · exact ⟨-1, ev_pos (by omega) (Ev.now _), fun z => by omega⟩
  · intro x _ _
    exact ⟨x, Ev.step (fun k => by rw [laws_szStringS.l0]) (ev_neg (by omega) (Ev.now _))⟩
  · intro i hi ih x h0 h1
    have hz := hs l[i] (List.getElem_mem hi)
    by_cases h : x - (l[i].size : Int) < 0
    · refine ⟨-1, Ev.step (fun k => by rw [laws_szStringS.l0]) ?_⟩
      rw [rdOf_at _ l i hi, w64 (n := x - (l[i].size : Int)) (by omega) (by omega)]
      exact ev_pos (by omega) (ev_pos (by omega) (ev_pos h (Ev.now _)))
    · obtain ⟨v, hv⟩ := ih (x - (l[i].size : Int)) (by omega) (by omega)
      refine ⟨v, Ev.step (fun k => by rw [laws_szStringS.l0]) ?_⟩
      rw [rdOf_at _ l i hi, w64 (n := x - (l[i].size : Int)) (by omega) (by omega), wsucc hi hl]
      exact ev_pos (by omega) (ev_pos (by omega) (ev_neg h hv))
theorem toStrs (l : List ByteArray) (hl : l.length ≤ 100000000) : Ev (fun k => laws_toStringS.f k l) l := by
  have key := idx_ind l (fun i => ∀ x : List ByteArray, x.length = l.length → (∀ j, j < i → x[j]? = l[j]?) → Ev (fun k => laws_toStringS.l0 k l x (i : Int)) l) ?_ ?_
  · unfold laws_toStringS.f
    refine ev_pos (by omega) (ev_pos (by omega) ?_)
    exact key 0 (Nat.zero_le _) _ (by simp) (fun j h => by omega)
  · intro x hx hj
    refine Ev.step (fun k => by rw [laws_toStringS.l0]) ?_
    refine ev_neg (by omega) (ev_some ?_)
    apply List.ext_getElem?
    intro j
    rcases Nat.lt_or_ge j l.length with h | h
    · exact hj j h
    · rw [List.getElem?_eq_none (by omega), List.getElem?_eq_none (by omega)]
  · intro i hi ih x hx hj
    refine Ev.step (fun k => by rw [laws_toStringS.l0]) ?_
    refine ev_pos (by omega) (ev_pos (by omega) (ev_pos (by omega) ?_))
    rw [wsucc hi (by omega), rdOf_at _ l i hi]
    refine ih _ (by simp [hx]) ?_
    intro j hj2
    by_cases e : j = i
    · subst e
      simp [hx, hi]
    · simp only [Int.toNat_natCast]
      rw [List.getElem?_set_ne (by omega)]
      exact hj j (by omega)
theorem eqStrs (l : List ByteArray) (hl : l.length ≤ 100000000) : Ev (fun k => laws_eqStringS.f k l l) true := by
  unfold laws_eqStringS.f
  refine ev_pos rfl ?_
  refine idx_ind l (fun i => Ev (fun k => laws_eqStringS.l0 k l l (i : Int)) true) ?_ ?_ 0 (Nat.zero_le _)
  · refine Ev.step (fun k => by rw [laws_eqStringS.l0]) ?_
    exact ev_neg (by omega) (Ev.now _)
  · intro i hi ih
    refine Ev.step (fun k => by rw [laws_eqStringS.l0]) ?_
    refine ev_pos (by omega) (ev_pos (by omega) (ev_pos (by omega) (ev_pos rfl ?_)))
    rw [wsucc hi (by omega)]
    exact ih

/-- Is a text a name? -/
def okName (s : ByteArray) : Bool := betw s 97 122 0 s.size && decide (1 ≤ s.size ∧ s.size ≤ 8)
/-- Words in order, each a name, rising. -/
def wOk (p : Option ByteArray) : List ByteArray → Bool
  | [] => true
  | x :: r => okName x && (match p with | none => true | some y => Op.bytesLess y.toList x.toList) && wOk (some x) r
def prevOf (l : List ByteArray) (i : Nat) : Option ByteArray := if i = 0 then none else l[i - 1]?
theorem prevOf_succ {l : List ByteArray} {i : Nat} (h : i < l.length) : prevOf l (i + 1) = some l[i] := by
  unfold prevOf
  rw [if_neg (by omega), Nat.add_sub_cancel, List.getElem?_eq_getElem h]

/-- Does a word have this byte, great or small? -/
def isW (c : Int) : Bool := decide (lowV c ≠ 0)
def lw (c : Int) : Int := if 65 ≤ c ∧ c ≤ 90 then c + 32 else c
theorem lwW (c : Int) : wb (lw c) = isW c := by
  unfold isW lowV lw wb
  by_cases h : 65 ≤ c ∧ c ≤ 90
  · rw [if_pos h, if_pos h, decide_eq_decide]; omega
  · rw [if_neg h, if_neg h]
    by_cases h2 : (48 ≤ c ∧ c ≤ 57 ∨ 97 ≤ c ∧ c ≤ 122)
    · rw [if_pos (by simpa using h2), decide_eq_decide]; omega
    · rw [if_neg (by simpa using h2), decide_eq_decide]; omega
theorem isW_lw {c : Int} (h : isW c = true) : lw c = lowV c ∧ 48 ≤ lowV c ∧ lowV c ≤ 122 := by
  unfold isW lowV wb at h
  unfold lowV lw wb
  by_cases h1 : 65 ≤ c ∧ c ≤ 90
  · rw [if_pos h1, if_pos h1]; omega
  · rw [if_neg h1] at h
    rw [if_neg h1, if_neg h1]
    by_cases h2 : (48 ≤ c ∧ c ≤ 57 ∨ 97 ≤ c ∧ c ≤ 122)
    · rw [if_pos (by simpa using h2)]; omega
    · rw [if_neg (by simpa using h2)] at h; simp at h
theorem implLower (c : Int) (h0 : 0 ≤ c) (h1 : c ≤ 255) : impl_lower.f c = some (lw c) := by
  unfold impl_lower.f lw
  by_cases h2 : c ≥ 65
  · rw [if_pos h2]
    by_cases h3 : c ≤ 90
    · rw [if_pos h3, if_pos ⟨h2, h3⟩]; congr 1; omega
    · rw [if_neg h3, if_neg (by omega)]
  · rw [if_neg h2, if_neg (by omega)]
theorem enc1 (c : Int) (h0 : 0 ≤ c) (h1 : c < 128) : Utf8.encode c = strOfNums [c] := by
  obtain ⟨n, rfl⟩ := Int.eq_ofNat_of_zero_le h0
  have hv : Utf8.valid (n : Int) = true := by simp [Utf8.valid]; omega
  unfold Utf8.encode strOfNums
  simp only [hv, if_true, Int.toNat_natCast]
  rw [if_pos (by omega)]
  rfl
theorem nums_app (l m : List Int) : strOfNums l ++ strOfNums m = strOfNums (l ++ m) := by
  apply ByteArray.ext
  simp [strOfNums]
/-- Where a run ends. -/
def rend (s : ByteArray) : Nat → Nat → Nat
  | i, 0 => i
  | i, d + 1 => if isW (bt s (i : Int)) = true then rend s (i + 1) d else i
def lows (s : ByteArray) : Nat → Nat → List Int
  | _, 0 => []
  | i, d + 1 => if isW (bt s (i : Int)) = true then lowV (bt s (i : Int)) :: lows s (i + 1) d else []
theorem rend_le (s : ByteArray) : ∀ d i, i ≤ rend s i d ∧ rend s i d ≤ i + d
  | 0, i => by simp [rend]
  | d + 1, i => by
    have := rend_le s d (i + 1)
    unfold rend
    split <;> omega
theorem rend_yes (s : ByteArray) {i n : Nat} (h : i < n) (c : isW (bt s (i : Int)) = true) : rend s i (n - i) = rend s (i + 1) (n - (i + 1)) := by
  rw [show n - i = n - (i + 1) + 1 by omega, rend, if_pos c]
theorem rend_no (s : ByteArray) {i n : Nat} (h : i < n) (c : ¬ isW (bt s (i : Int)) = true) : rend s i (n - i) = i := by
  rw [show n - i = n - (i + 1) + 1 by omega, rend, if_neg c]
theorem lows_yes (s : ByteArray) {i n : Nat} (h : i < n) (c : isW (bt s (i : Int)) = true) : lows s i (n - i) = lowV (bt s (i : Int)) :: lows s (i + 1) (n - (i + 1)) := by
  rw [show n - i = n - (i + 1) + 1 by omega, lows, if_pos c]
theorem lows_no (s : ByteArray) {i n : Nat} (h : i < n) (c : ¬ isW (bt s (i : Int)) = true) : lows s i (n - i) = [] := by
  rw [show n - i = n - (i + 1) + 1 by omega, lows, if_neg c]
theorem lows_len (s : ByteArray) : ∀ d i, (lows s i d).length ≤ d
  | 0, i => by simp [lows]
  | d + 1, i => by
    have := lows_len s d (i + 1)
    unfold lows
    split <;> simp <;> omega
abbrev TR := S84
def wordOf (s : ByteArray) (i : Nat) : ByteArray := strOfNums (lows s i (s.size - i))
/-- The runs of a text from a place on. -/
def runsF (s : ByteArray) : Nat → Nat → List TR
  | 0, _ => []
  | n + 1, i => if i < s.size then (if isW (bt s (i : Int)) = true then (⟨(i : Int), (rend s i (s.size - i) : Nat), wordOf s i⟩ : TR) :: runsF s n (rend s i (s.size - i) + 1) else runsF s n (i + 1)) else []
theorem runs_in (s : ByteArray) : ∀ n i, ∀ x ∈ runsF s n i, 0 ≤ x.f0 ∧ x.f0 ≤ x.f1 ∧ x.f1 ≤ (s.size : Int)
  | 0, i, x, h => by simp [runsF] at h
  | n + 1, i, x, h => by
    unfold runsF at h
    split at h
    · rename_i hi
      split at h
      · rcases List.mem_cons.1 h with h | h
        · have := rend_le s (s.size - i) i
          subst h
          simp only
          omega
        · exact runs_in s n _ x h
      · exact runs_in s n _ x h
    · simp at h
/-- A run is read to its end. -/
theorem implRun (s : ByteArray) (hs : s.size ≤ 1048576) (i : Nat) (x3 : List TR) (hx : x3.length ≤ 1048576) (r : List TR) (nx : Ev (fun k => impl_runsOf.l0 k s (x3 ++ [⟨(i : Int), (rend s i (s.size - i) : Nat), wordOf s i⟩]) ((rend s i (s.size - i) + 1 : Nat) : Int)) r) (hi : i ≤ s.size) : Ev (fun k => impl_runsOf.l1 k s x3 (i : Int) (i : Int) 0 (⟨#[]⟩ : ByteArray)) r := by
  have key := nat_ind s.size (fun j => i ≤ j → ∀ acc : List Int, acc.length = j - i → rend s j (s.size - j) = rend s i (s.size - i) → strOfNums (acc ++ lows s j (s.size - j)) = wordOf s i → Ev (fun k => impl_runsOf.l1 k s x3 (j : Int) (i : Int) 0 (strOfNums acc)) r) ?_ ?_ i hi (Nat.le_refl _) [] (by simp) rfl rfl
  · exact key
  · intro _ acc ha he hw
    refine Ev.step (fun k => by rw [impl_runsOf.l1]) ?_
    rw [Nat.sub_self] at he hw
    simp only [lows, List.append_nil] at hw
    simp only [rend] at he
    rw [wsucc (n := s.size + 1) (by omega) (by omega), hw]
    rw [← he] at nx
    exact ev_neg (by omega) (ev_pos (by omega) nx)
  · intro j hj ih hij acc ha he hw
    have hr := bt_range s (j : Int)
    refine Ev.step (fun k => by rw [impl_runsOf.l1]) ?_
    rw [wsucc hj (by omega)]
    refine ev_pos (by omega) (ev_pos (by omega) (ev_b (implLower _ hr.1 hr.2) (ev_b (implByte _) ?_)))
    rw [lwW]
    by_cases c : isW (bt s (j : Int)) = true
    · have hl := isW_lw c
      refine ev_pos c (ev_b (implLower _ hr.1 hr.2) ?_)
      rw [hl.1, enc1 _ (by omega) (by omega), nums_app]
      rw [lows_yes s hj c] at hw
      rw [rend_yes s hj c] at he
      refine ev_pos ?_ (ih (by omega) _ (by simp [ha]; omega) he (by simpa using hw))
      rw [strOfNums_size, strOfNums_size]; simp; omega
    · rw [lows_no s hj c, List.append_nil] at hw
      rw [rend_no s hj c] at he
      refine ev_neg c (ev_pos (by omega) ?_)
      rw [hw]
      rw [← he] at nx
      exact nx
theorem implRunsL (s : ByteArray) (hs : s.size ≤ 1048576) : ∀ (n i : Nat) (x3 : List TR), s.size ≤ i + n → i ≤ s.size + 1 → x3.length ≤ i → Ev (fun k => impl_runsOf.l0 k s x3 (i : Int)) (x3 ++ runsF s n i) := by
  intro n
  induction n with
  | zero =>
    intro i x3 h _ _
    refine Ev.step (fun k => by rw [impl_runsOf.l0]) ?_
    exact ev_neg (by omega) (ev_some (by simp [runsF]))
  | succ n ih =>
    intro i x3 h h2 hx
    refine Ev.step (fun k => by rw [impl_runsOf.l0]) ?_
    by_cases hi : i < s.size
    · have hr := bt_range s (i : Int)
      rw [wsucc hi (by omega)]
      refine ev_pos (by omega) (ev_pos (by omega) (ev_b (implLower _ hr.1 hr.2) (ev_b (implByte _) ?_)))
      rw [lwW]
      unfold runsF
      rw [if_pos hi]
      have hre := rend_le s (s.size - i) i
      by_cases c : isW (bt s (i : Int)) = true
      · rw [if_pos c]
        refine ev_pos c (implRun s hs i x3 (by omega) _ ?_ (by omega))
        refine ev_eq (ih _ _ (by omega) (by omega) (by simp; omega)) (by simp)
      · rw [if_neg c]
        exact ev_neg c (ih (i + 1) x3 (by omega) (by omega) (by omega))
    · refine ev_neg (by omega) (ev_some ?_)
      unfold runsF
      rw [if_neg hi, List.append_nil]
def runsAll (s : ByteArray) : List TR := runsF s s.size 0
theorem implRuns (s : ByteArray) (hs : s.size ≤ 1048576) : Ev (fun k => impl_runsOf.f k s) (runsAll s) := by
  have := implRunsL s hs s.size 0 [] (by omega) (by omega) (by simp)
  unfold impl_runsOf.f runsAll
  simpa using this
theorem specEnd (s : ByteArray) (hs : s.size ≤ 1048576) : ∀ i, i ≤ s.size → Ev (fun k => spec_l06End.f k s (i : Int)) ((rend s i (s.size - i) : Nat) : Int) := by
  unfold spec_l06End.f
  refine nat_ind s.size _ ?_ ?_
  · refine Ev.step (fun k => by rw [spec_l06End.l0]) ?_
    exact ev_neg (by omega) (ev_some (by simp [rend]))
  · intro i hi ih
    have hr := bt_range s (i : Int)
    refine Ev.step (fun k => by rw [spec_l06End.l0]) ?_
    rw [wsucc hi (by omega)]
    refine ev_pos (by omega) (ev_pos (by omega) (Ev.bind (specLow _ hr.1 hr.2) ?_))
    by_cases c : isW (bt s (i : Int)) = true
    · rw [rend_yes s hi c]
      exact ev_neg (by simpa [isW] using c) ih
    · rw [rend_no s hi c]
      exact ev_pos (by simpa [isW] using c) (Ev.now _)
def allL (t : ByteArray) : Nat → Nat → List Int
  | _, 0 => []
  | j, d + 1 => lowV (bt t (j : Int)) :: allL t (j + 1) d
theorem specWordL (t : ByteArray) (ht : t.size ≤ 1048576) : ∀ j, j ≤ t.size → ∀ x3 : List Int, x3.length ≤ j → Ev (fun k => spec_l06Word.l0 k t x3 (j : Int)) (strOfNums (x3 ++ allL t j (t.size - j))) := by
  refine nat_ind t.size _ ?_ ?_
  · intro x3 _
    refine Ev.step (fun k => by rw [spec_l06Word.l0]) ?_
    exact ev_neg (by omega) (ev_some (by simp [allL]))
  · intro j hj ih x3 hx
    have hr := bt_range t (j : Int)
    refine Ev.step (fun k => by rw [spec_l06Word.l0]) ?_
    rw [wsucc hj (by omega)]
    refine ev_pos (by omega) (ev_pos (by omega) (Ev.bind (specLow _ hr.1 hr.2) (ev_pos (by omega) ?_)))
    refine ev_eq (ih (x3 ++ [lowV (bt t (j : Int))]) (by simp; omega)) ?_
    rw [show t.size - j = t.size - (j + 1) + 1 by omega, allL]
    simp
theorem bt_extract (s : ByteArray) (i e j : Nat) (h : i + j < e) (he : e ≤ s.size) : bt (s.extract i e) (j : Int) = bt s ((i + j : Nat) : Int) := by
  have h1 : j < (s.extract i e).size := by rw [ByteArray.size_extract]; omega
  unfold bt
  simp only [Int.toNat_natCast]
  rw [dif_pos h1, dif_pos (show i + j < s.size by omega), ByteArray.getElem_extract]
theorem all_lows (s : ByteArray) (i e : Nat) (he : e ≤ s.size) : ∀ d j, e = i + j + d → rend s (i + j) (s.size - (i + j)) = e → allL (s.extract i e) j d = lows s (i + j) (s.size - (i + j)) := by
  intro d
  induction d with
  | zero =>
    intro j hj hr
    unfold allL
    rcases Nat.lt_or_ge (i + j) s.size with h | h
    · by_cases c : isW (bt s ((i + j : Nat) : Int)) = true
      · rw [rend_yes s h c] at hr
        have := rend_le s (s.size - (i + j + 1)) (i + j + 1)
        omega
      · rw [lows_no s h c]
    · rw [show s.size - (i + j) = 0 by omega]; rfl
  | succ d ih =>
    intro j hj hr
    have h : i + j < s.size := by omega
    by_cases c : isW (bt s ((i + j : Nat) : Int)) = true
    · rw [lows_yes s h c, allL, bt_extract s i e j (by omega) he]
      congr 1
      rw [rend_yes s h c] at hr
      have := ih (j + 1) (by omega) (by rw [← Nat.add_assoc]; exact hr)
      rw [this, ← Nat.add_assoc]
    · rw [rend_no s h c] at hr; omega
theorem specWordOf (s : ByteArray) (hs : s.size ≤ 1048576) (i : Nat) (hi : i ≤ s.size) : Ev (fun k => spec_l06Word.f k (s.extract i (rend s i (s.size - i)))) (wordOf s i) := by
  have hre := rend_le s (s.size - i) i
  have hz : (s.extract i (rend s i (s.size - i))).size = rend s i (s.size - i) - i := by rw [ByteArray.size_extract]; omega
  unfold spec_l06Word.f
  refine ev_eq (specWordL _ (by omega) 0 (Nat.zero_le _) [] (by simp)) ?_
  unfold wordOf
  have := all_lows s i (rend s i (s.size - i)) (by omega) (rend s i (s.size - i) - i) 0 (by omega) (by rw [Nat.add_zero])
  rw [List.nil_append, Nat.sub_zero, hz, this, Nat.add_zero]
/-- Is a word among these? -/
def hasV (l : List ByteArray) (w : ByteArray) : Bool := l.any fun y => decide (y.toList = w.toList)
theorem specHas (l : List ByteArray) (hl : l.length ≤ 100000000) (w : ByteArray) : Ev (fun k => spec_l06Has.f k l w) (hasV l w) := by
  unfold spec_l06Has.f
  refine idx_ind l (fun i => Ev (fun k => spec_l06Has.l0 k l w (i : Int)) (hasV (l.drop i) w)) ?_ ?_ 0 (Nat.zero_le _)
  · refine Ev.step (fun k => by rw [spec_l06Has.l0]) ?_
    exact ev_neg (by omega) (ev_some (by simp [hasV]))
  · intro i hi ih
    refine Ev.step (fun k => by rw [spec_l06Has.l0]) ?_
    rw [rdOf_at _ l i hi, wsucc hi (by omega), drop_at l i hi]
    refine ev_pos (by omega) (ev_pos (by omega) ?_)
    by_cases c : l[i].toList = w.toList
    · exact ev_pos c (ev_some (by simp only [hasV, List.any_cons, decide_eq_true c, Bool.true_or]))
    · refine ev_neg c (ev_eq ih ?_)
      simp only [hasV, List.any_cons, decide_eq_false c, Bool.false_or]

theorem implContains (l : List ByteArray) (hl : l.length ≤ 100000000) (w : ByteArray) : Ev (fun k => slices_Contains_string_string.f k l w) (hasV l w) := by
  have key := idx_ind l (fun i => ∃ v : Int, Ev (fun k => slices_Index_string_string.l0 k l w (l.length : Int) (i : Int)) v ∧ decide (v ≥ 0) = hasV (l.drop i) w) ?_ ?_ 0 (Nat.zero_le _)
  · obtain ⟨v, h1, h2⟩ := key
    unfold slices_Contains_string_string.f slices_Index_string_string.f
    exact Ev.bind h1 (ev_some h2)
  · refine ⟨-1, Ev.step (fun k => by rw [slices_Index_string_string.l0]) ?_, by simp [hasV]⟩
    exact ev_neg (by omega) (Ev.now _)
  · intro i hi ⟨v, h1, h2⟩
    by_cases c : w.toList = l[i].toList
    · refine ⟨(i : Int), Ev.step (fun k => by rw [slices_Index_string_string.l0]) ?_, by rw [drop_at l i hi]; simp only [hasV, List.any_cons, decide_eq_true c.symm, Bool.true_or, decide_eq_true_eq]; omega⟩
      rw [rdOf_at _ l i hi]
      exact ev_pos (by omega) (ev_pos (by omega) (ev_pos (by omega) (ev_pos c (Ev.now _))))
    · refine ⟨v, Ev.step (fun k => by rw [slices_Index_string_string.l0]) ?_, by rw [h2, drop_at l i hi]; simp only [hasV, List.any_cons, decide_eq_false (fun z : l[i].toList = w.toList => c z.symm), Bool.false_or]⟩
      rw [rdOf_at _ l i hi, wsucc hi (by omega)]
      exact ev_pos (by omega) (ev_pos (by omega) (ev_pos (by omega) (ev_neg c h1)))

theorem rdTR (l : List TR) (i : Nat) (h : i < l.length) : rd_T84 l (i : Int) = l[i] := by
  simp [rd_T84, List.getD, h]
theorem runs_len (s : ByteArray) : ∀ n i, (runsF s n i).length ≤ n
  | 0, i => by simp [runsF]
  | n + 1, i => by
    have h1 := runs_len s n (rend s i (s.size - i) + 1)
    have h2 := runs_len s n (i + 1)
    unfold runsF
    split
    · split
      · simp only [List.length_cons]; omega
      · omega
    · simp
def badOkV (s : ByteArray) (ws : List ByteArray) : Bool := (betw s 32 126 0 s.size && decide (s.size ≤ 80)) && (wOk none ws && decide (ws.length ≤ 64))
/-- Stars from a place on, so many. -/
def starL : List Int → Nat → Nat → List Int
  | L, _, 0 => L
  | L, a, d + 1 => starL (L.set a 42) (a + 1) d
theorem starL_len : ∀ (d a : Nat) (L : List Int), (starL L a d).length = L.length
  | 0, _, _ => rfl
  | d + 1, a, L => by rw [starL, starL_len d]; simp
/-- What stands behind these runs. -/
def cenR (ws : List ByteArray) : List TR → List Int → List Int
  | [], L => L
  | r :: rs, L => cenR ws rs (if hasV ws r.f2 = true then starL L (r.f0.toNat + 1) (r.f1.toNat - (r.f0.toNat + 1)) else L)
def cenV (s : ByteArray) (ws : List ByteArray) : ByteArray × Bool := if badOkV s ws = true then (strOfNums (cenR ws (runsAll s) (bytesOf s)), true) else ((⟨#[]⟩ : ByteArray), false)

/-- A query in order. -/
def queryV (l : List ByteArray) : Bool := decide (1 ≤ l.length ∧ l.length ≤ 8) && l.all wordV
theorem implQuery (l : List ByteArray) (hl : l.length ≤ 100000000) (hf : ∀ y ∈ l, y.size ≤ 140737488351232) : Ev (fun k => impl_queryOk.f k l) (queryV l) := by
  have key := idx_ind l (fun i => ∃ v : Int, Ev (fun k => slices_IndexFunc_string_string_v1.l0 k l (l.length : Int) (i : Int)) v ∧ decide (v ≥ 0) = !(l.drop i).all wordV) ?_ ?_ 0 (Nat.zero_le _)
  · obtain ⟨v, h1, h2⟩ := key
    unfold impl_queryOk.f queryV
    by_cases c : (l.length : Int) ≥ 1
    · refine ev_pos c ?_
      by_cases c2 : (l.length : Int) ≤ 8
      · refine ev_pos c2 (Ev.bind (a := !l.all wordV) ?_ (ev_some ?_))
        · unfold slices_ContainsFunc_string_string_v0.f slices_IndexFunc_string_string_v1.f
          exact Ev.bind h1 (ev_some h2)
        · rw [decide_eq_true (by omega)]; simp
      · exact ev_neg c2 (ev_some (by rw [decide_eq_false (by omega)]; rfl))
    · exact ev_neg c (ev_some (by rw [decide_eq_false (by omega)]; rfl))
  · refine ⟨-1, Ev.step (fun k => by rw [slices_IndexFunc_string_string_v1.l0]) ?_, by simp⟩
    exact ev_neg (by omega) (Ev.now _)
  · intro i hi ⟨v, h1, h2⟩
    have hw := implWord l[i] (hf _ (List.getElem_mem hi))
    by_cases c : wordV l[i] = true
    · refine ⟨v, Ev.step (fun k => by rw [slices_IndexFunc_string_string_v1.l0]) ?_, by rw [h2, drop_at l i hi, List.all_cons, c, Bool.true_and]⟩
      rw [rdOf_at _ l i hi, wsucc hi (by omega)]
      refine ev_pos (by omega) (ev_pos (by omega) (ev_pos (by omega) (Ev.bind (a := false) ?_ (ev_neg (by simp) h1))))
      unfold impl_queryOk_1_n94.f
      exact Ev.bind hw (ev_some (by simp [c]))
    · refine ⟨(i : Int), Ev.step (fun k => by rw [slices_IndexFunc_string_string_v1.l0]) ?_, by rw [drop_at l i hi, List.all_cons, (Bool.not_eq_true _).mp c, Bool.false_and, decide_eq_true (by omega)]; rfl⟩
      rw [rdOf_at _ l i hi]
      refine ev_pos (by omega) (ev_pos (by omega) (ev_pos (by omega) (Ev.bind (a := true) ?_ (ev_pos rfl (Ev.now _)))))
      unfold impl_queryOk_1_n94.f
      exact Ev.bind hw (ev_some (by simp [c]))
theorem specQuery (l : List ByteArray) (hl : l.length ≤ 100000000) (hf : ∀ y ∈ l, y.size ≤ 140737488351232) : Ev (fun k => spec_l08Query.f k l) (queryV l) := by
  have key := idx_ind l (fun i => Ev (fun k => spec_l08Query.l0 k l (i : Int)) ((l.drop i).all wordV)) ?_ ?_ 0 (Nat.zero_le _)
  · unfold spec_l08Query.f queryV
    have no : ¬ (1 ≤ l.length ∧ l.length ≤ 8) → Ev (fun k => spec_l08Query.j0 k l true) (decide (1 ≤ l.length ∧ l.length ≤ 8) && l.all wordV) := by
      intro h
      refine Ev.step (fun k => by rw [spec_l08Query.j0]) ?_
      exact ev_pos rfl (ev_some (by rw [decide_eq_false h]; rfl))
    by_cases c : (l.length : Int) < 1
    · exact ev_pos c (no (by omega))
    · refine ev_neg c ?_
      by_cases c2 : (l.length : Int) > 8
      · rw [decide_eq_true c2]; exact no (by omega)
      · rw [decide_eq_false c2, decide_eq_true (show 1 ≤ l.length ∧ l.length ≤ 8 by omega), Bool.true_and]
        refine Ev.step (fun k => by rw [spec_l08Query.j0]) ?_
        exact ev_neg (by simp) key
  · refine Ev.step (fun k => by rw [spec_l08Query.l0]) ?_
    exact ev_neg (by omega) (ev_some (by simp))
  · intro i hi ih
    refine Ev.step (fun k => by rw [spec_l08Query.l0]) ?_
    rw [rdOf_at _ l i hi, wsucc hi (by omega), drop_at l i hi]
    refine ev_pos (by omega) (ev_pos (by omega) (Ev.bind (specWord l[i] (hf _ (List.getElem_mem hi))) ?_))
    by_cases c : wordV l[i] = true
    · exact ev_pos c (ev_eq ih (by rw [List.all_cons, c, Bool.true_and]))
    · exact ev_neg c (ev_some (by rw [List.all_cons, (Bool.not_eq_true _).mp c, Bool.false_and]))

theorem ext_split (s : ByteArray) {a b c : Nat} (h1 : a ≤ b) (h2 : b ≤ c) : s.extract a c = s.extract a b ++ s.extract b c := by
  apply ByteArray.ext
  rw [ByteArray.data_append, ByteArray.data_extract, ByteArray.data_extract, ByteArray.data_extract, Array.extract_append_extract, Nat.min_eq_left h1, Nat.max_eq_right h2]
theorem ext_none (s : ByteArray) (a : Nat) : s.extract a a = (⟨#[]⟩ : ByteArray) := by
  apply ByteArray.ext
  rw [ByteArray.data_extract]
  simp
  omega
theorem app_none (s : ByteArray) : s ++ (⟨#[]⟩ : ByteArray) = s := by
  apply ByteArray.ext
  rw [ByteArray.data_append]
  simp
theorem none_app (s : ByteArray) : (⟨#[]⟩ : ByteArray) ++ s = s := by
  apply ByteArray.ext
  rw [ByteArray.data_append]
  simp
/-- What stands behind these runs, from a place on. -/
def mkR (s : ByteArray) (ws : List ByteArray) : List TR → Nat → ByteArray
  | [], a => s.extract a s.size
  | r :: rs, a => if hasV ws r.f2 = true then (((s.extract a r.f0.toNat ++ (⟨#[91]⟩ : ByteArray)) ++ s.extract r.f0.toNat r.f1.toNat) ++ (⟨#[93]⟩ : ByteArray)) ++ mkR s ws rs r.f1.toNat else mkR s ws rs a
/-- Runs in order, from a place on. -/
def okR (n : Int) : Int → List TR → Prop
  | a, [] => a ≤ n
  | a, r :: rs => a ≤ r.f0 ∧ r.f0 ≤ r.f1 ∧ r.f1 ≤ n ∧ okR n r.f1 rs
theorem okR_low {n : Int} : ∀ (L : List TR) (a b : Int), a ≤ b → okR n b L → okR n a L
  | [], a, b, h, h2 => by unfold okR at h2 ⊢; omega
  | r :: rs, a, b, h, h2 => by
    unfold okR at h2 ⊢
    exact ⟨by omega, h2.2⟩
theorem runs_ok (s : ByteArray) : ∀ (n i a : Nat), a ≤ i → a ≤ s.size → okR (s.size : Int) (a : Int) (runsF s n i)
  | 0, i, a, h, h2 => by unfold runsF okR; omega
  | n + 1, i, a, h, h2 => by
    have hre := rend_le s (s.size - i) i
    unfold runsF
    by_cases hi : i < s.size
    · rw [if_pos hi]
      by_cases c : isW (bt s (i : Int)) = true
      · rw [if_pos c]
        unfold okR
        exact ⟨by simp only []; omega, by simp only []; omega, by simp only []; omega, runs_ok s n _ _ (by omega) (by omega)⟩
      · rw [if_neg c]
        exact runs_ok s n _ _ (by omega) h2
    · rw [if_neg hi]
      unfold okR; omega
theorem mkR_split (s : ByteArray) (ws : List ByteArray) : ∀ (L : List TR) (a b : Nat), a ≤ b → okR (s.size : Int) (b : Int) L → mkR s ws L a = s.extract a b ++ mkR s ws L b
  | [], a, b, h, h2 => by
    unfold okR at h2
    rw [mkR, mkR]
    exact ext_split s h (by omega)
  | r :: rs, a, b, h, h2 => by
    unfold okR at h2
    rw [mkR, mkR]
    by_cases c : hasV ws r.f2 = true
    · rw [if_pos c, if_pos c, ext_split s h (show b ≤ r.f0.toNat by omega)]
      simp only [ByteArray.append_assoc]
    · rw [if_neg c, if_neg c]
      exact mkR_split s ws rs a b h (okR_low rs _ _ (by omega) h2.2.2.2)
theorem bsz1 (a : UInt8) : (⟨#[a]⟩ : ByteArray).size = 1 := rfl
theorem implMarkL (s : ByteArray) (hs : s.size ≤ 80) (ws : List ByteArray) (hl : ws.length ≤ 100000000) (R : List TR) (hr : R.length ≤ 80) (ok : okR (s.size : Int) 0 R) : Ev (fun k => impl_MarkWords.l0 k s ws (⟨#[]⟩ : ByteArray) 0 R (R.length : Int) 0) (mkR s ws R 0, true) := by
  have key := idx_ind R (fun i => ∀ (a : Nat) (acc : ByteArray), okR (s.size : Int) (a : Int) (R.drop i) → acc.size ≤ a + 2 * i → a ≤ s.size → Ev (fun k => impl_MarkWords.l0 k s ws acc (a : Int) R (R.length : Int) (i : Int)) (acc ++ mkR s ws (R.drop i) a, true)) ?_ ?_ 0 (Nat.zero_le _) 0 (⟨#[]⟩ : ByteArray) ok (Nat.zero_le _) (Nat.zero_le _)
  · rw [none_app] at key
    exact key
  · intro a acc _ ha ha2
    have z1 := ByteArray.size_extract (a := s) (b := a) (e := s.size)
    refine Ev.step (fun k => by rw [impl_MarkWords.l0]) ?_
    refine ev_neg (by omega) (ev_b (a := acc) rfl (ev_pos (by omega) (ev_pos (by omega) ?_)))
    simp only [Int.toNat_natCast]
    refine ev_pos (by omega) (ev_some ?_)
    rw [List.drop_length, mkR]
  · intro i hi ih a acc hok ha ha2
    rw [drop_at R i hi] at hok
    unfold okR at hok
    obtain ⟨o1, o2, o3, o4⟩ := hok
    refine Ev.step (fun k => by rw [impl_MarkWords.l0]) ?_
    rw [rdTR R i hi, wsucc hi (by omega), drop_at R i hi, mkR]
    obtain ⟨p, hp⟩ := Int.eq_ofNat_of_zero_le (show 0 ≤ R[i].f0 by omega)
    obtain ⟨q, hq⟩ := Int.eq_ofNat_of_zero_le (show 0 ≤ R[i].f1 by omega)
    rw [hp] at o1 o2
    rw [hq] at o2 o3 o4
    rw [hp, hq]
    simp only [Int.toNat_natCast]
    have z1 := ByteArray.size_extract (a := s) (b := a) (e := p)
    have z2 := ByteArray.size_extract (a := s) (b := p) (e := q)
    refine ev_pos (by omega) (ev_pos (by omega) (ev_pos (by omega) (Ev.bind (implContains ws hl _) ?_)))
    by_cases c : hasV ws R[i].f2 = true
    · rw [if_pos c]
      have e1 : (s.extract a p ++ (⟨#[91]⟩ : ByteArray)).size = (s.extract a p).size + 1 := by rw [ByteArray.size_append, bsz1]
      have e2 : ((s.extract a p ++ (⟨#[91]⟩ : ByteArray)) ++ s.extract p q).size = (s.extract a p).size + 1 + (s.extract p q).size := by rw [ByteArray.size_append, e1]
      have e3 : (((s.extract a p ++ (⟨#[91]⟩ : ByteArray)) ++ s.extract p q) ++ (⟨#[93]⟩ : ByteArray)).size = (s.extract a p).size + 1 + (s.extract p q).size + 1 := by rw [ByteArray.size_append, e2, bsz1]
      refine ev_pos c (ev_pos (by omega) (ev_pos (by omega) (ev_pos (by omega) (ev_pos (by omega) (ev_pos (by omega) (ev_pos (by omega) (ev_pos (by omega) (ev_pos (by omega) (ev_pos (by omega) ?_)))))))))
      refine ev_b (a := acc ++ (((s.extract a p ++ (⟨#[91]⟩ : ByteArray)) ++ s.extract p q) ++ (⟨#[93]⟩ : ByteArray))) ?_ ?_
      · unfold impl_MarkWords.ws
        rw [if_pos (by omega)]
      · have hz : (acc ++ (((s.extract a p ++ (⟨#[91]⟩ : ByteArray)) ++ s.extract p q) ++ (⟨#[93]⟩ : ByteArray))).size = acc.size + ((s.extract a p).size + 1 + (s.extract p q).size + 1) := by rw [ByteArray.size_append, e3]
        refine ev_eq (ih q _ o4 (by omega) (by omega)) ?_
        simp only [ByteArray.append_assoc]
    · rw [if_neg c]
      exact ev_neg c (ih a acc (okR_low _ _ _ (by omega) o4) (by omega) ha2)
/-- What both answer. -/
def markV (s : ByteArray) (ws : List ByteArray) : ByteArray × Bool := if (betw s 32 126 0 s.size && decide (s.size ≤ 80)) = true ∧ queryV ws = true then (mkR s ws (runsAll s) 0, true) else ((⟨#[]⟩ : ByteArray), false)
theorem implMark (s : ByteArray) (hs : s.size ≤ 1048576) (ws : List ByteArray) (hl : ws.length ≤ 100000000) (hf : ∀ y ∈ ws, y.size ≤ 140737488351232) : Ev (fun k => impl_MarkWords.f k s ws) (markV s ws) := by
  unfold impl_MarkWords.f
  have jt : ¬ ((betw s 32 126 0 s.size && decide (s.size ≤ 80)) = true ∧ queryV ws = true) → Ev (fun k => impl_MarkWords.j0 k s ws true) (markV s ws) := fun n => by
    unfold markV
    rw [if_neg n]
    exact Ev.step (fun k => by rw [impl_MarkWords.j0]) (ev_pos rfl (Ev.now _))
  refine Ev.bind (implText s (by omega)) ?_
  by_cases c : (betw s 32 126 0 s.size && decide (s.size ≤ 80)) = true
  · refine ev_pos c (Ev.bind (implQuery ws hl hf) ?_)
    by_cases d : queryV ws = true
    · rw [d]
      refine Ev.step (fun k => by rw [impl_MarkWords.j0]) (ev_neg (by simp) (Ev.bind (implRuns s hs) ?_))
      have h80 : s.size ≤ 80 := by
        simp only [Bool.and_eq_true, decide_eq_true_eq] at c
        exact c.2
      unfold markV
      rw [if_pos ⟨c, d⟩]
      have hr : (runsAll s).length ≤ 80 := by have := runs_len s s.size 0; unfold runsAll; omega
      exact implMarkL s h80 ws hl _ hr (runs_ok s s.size 0 0 (Nat.le_refl _) (Nat.zero_le _))
    · rw [(Bool.not_eq_true _).mp d]
      exact jt (fun z => d z.2)
  · exact ev_neg c (jt (fun z => c z.1))

theorem runs_fuel (s : ByteArray) : ∀ (n m i : Nat), s.size ≤ i + n → s.size ≤ i + m → runsF s n i = runsF s m i
  | 0, 0, _, _, _ => rfl
  | 0, m + 1, i, h, _ => by rw [runsF, runsF, if_neg (by omega)]
  | n + 1, 0, i, _, h => by rw [runsF, runsF, if_neg (by omega)]
  | n + 1, m + 1, i, h1, h2 => by
    have hre := rend_le s (s.size - i) i
    rw [runsF, runsF]
    by_cases hi : i < s.size
    · rw [if_pos hi, if_pos hi]
      by_cases c : isW (bt s (i : Int)) = true
      · rw [if_pos c, if_pos c, runs_fuel s n m _ (by omega) (by omega)]
      · rw [if_neg c, if_neg c, runs_fuel s n m _ (by omega) (by omega)]
    · rw [if_neg hi, if_neg hi]
theorem rend_stop (s : ByteArray) : ∀ d i, rend s i d < i + d → ¬ isW (bt s ((rend s i d : Nat) : Int)) = true
  | 0, i, h => by simp [rend] at h
  | d + 1, i, h => by
    by_cases c : isW (bt s (i : Int)) = true
    · rw [rend, if_pos c] at h ⊢
      exact rend_stop s d (i + 1) (by omega)
    · rw [rend, if_neg c]
      exact c
theorem runs_skip (s : ByteArray) (n i : Nat) (h : s.size ≤ i + n) (c : i < s.size → ¬ isW (bt s (i : Int)) = true) : runsF s n i = runsF s n (i + 1) := by
  rcases Nat.lt_or_ge i s.size with hi | hi
  · rw [runs_fuel s n (n + 1) i h (by omega), runsF, if_pos hi, if_neg (c hi)]
  · cases n with
    | zero => rfl
    | succ n => rw [runsF, runsF, if_neg (by omega), if_neg (by omega)]
theorem specMarkL (s : ByteArray) (hs : s.size ≤ 80) (ws : List ByteArray) (hl : ws.length ≤ 100000000) : ∀ (d i : Nat) (acc : ByteArray), s.size - i ≤ d → i ≤ s.size → acc.size ≤ 3 * i → Ev (fun k => spec_MarkWords.l0 k s ws acc (i : Int)) (acc ++ mkR s ws (runsF s s.size i) i, true) := by
  intro d
  induction d with
  | zero =>
    intro i acc hd hi ha
    have e : i = s.size := by omega
    subst e
    refine Ev.step (fun k => by rw [spec_MarkWords.l0]) ?_
    refine ev_neg (by omega) (ev_some ?_)
    rw [runs_fuel s s.size 0 s.size (by omega) (by omega), runsF, mkR, ext_none, app_none]
  | succ d ih =>
    intro i acc hd hi ha
    by_cases e : i = s.size
    · exact ih i acc (by omega) hi ha
    · have hi2 : i < s.size := by omega
      have hre := rend_le s (s.size - i) i
      refine Ev.step (fun k => by rw [spec_MarkWords.l0]) (ev_pos (by omega) (Ev.bind (specEnd s (by omega) i hi) ?_))
      by_cases c : isW (bt s (i : Int)) = true
      · have hlt : i < rend s i (s.size - i) := by
          rw [rend_yes s hi2 c]
          have := rend_le s (s.size - (i + 1)) (i + 1)
          omega
        have hst := rend_stop s (s.size - i) i
        have hw := specWordOf s (by omega) i hi
        have hR : runsF s s.size i = (⟨(i : Int), (rend s i (s.size - i) : Nat), wordOf s i⟩ : TR) :: runsF s s.size (rend s i (s.size - i)) := by
          rw [runs_fuel s s.size (s.size + 1) i (by omega) (by omega), runsF, if_pos hi2, if_pos c, runs_skip s s.size (rend s i (s.size - i)) (by omega)]
          intro h
          exact hst (by omega)
        rw [hR, mkR]
        generalize rend s i (s.size - i) = e at hre hlt hst hw
        simp only [Int.toNat_natCast]
        have z1 := ByteArray.size_extract (a := s) (b := i) (e := e)
        refine ev_neg (by omega) (ev_pos (by omega) (ev_pos (by omega) (ev_pos (by omega) (Ev.bind hw (Ev.bind (specHas ws hl _) ?_)))))
        by_cases g : hasV ws (wordOf s i) = true
        · have e1 : ((⟨#[91]⟩ : ByteArray) ++ s.extract i e).size = 1 + (s.extract i e).size := by rw [ByteArray.size_append, bsz1]
          have e2 : (((⟨#[91]⟩ : ByteArray) ++ s.extract i e) ++ (⟨#[93]⟩ : ByteArray)).size = 1 + (s.extract i e).size + 1 := by rw [ByteArray.size_append, e1, bsz1]
          have e3 : (acc ++ (((⟨#[91]⟩ : ByteArray) ++ s.extract i e) ++ (⟨#[93]⟩ : ByteArray))).size = acc.size + (1 + (s.extract i e).size + 1) := by rw [ByteArray.size_append, e2]
          rw [if_pos g]
          refine ev_pos g (ev_pos (by omega) (ev_pos (by omega) (ev_pos (by omega) ?_)))
          refine ev_eq (ih e _ (by omega) (by omega) (by omega)) ?_
          rw [ext_none, none_app]
          simp only [ByteArray.append_assoc]
        · have e3 : (acc ++ s.extract i e).size = acc.size + (s.extract i e).size := by rw [ByteArray.size_append]
          rw [if_neg g]
          refine ev_neg g (ev_pos (by omega) ?_)
          refine ev_eq (ih e _ (by omega) (by omega) (by omega)) ?_
          rw [mkR_split s ws _ i e (by omega) (runs_ok s s.size e e (Nat.le_refl _) (by omega))]
          simp only [ByteArray.append_assoc]
      · have z1 := ByteArray.size_extract (a := s) (b := i) (e := i + 1)
        have e3 : (acc ++ s.extract i (i + 1)).size = acc.size + (s.extract i (i + 1)).size := by rw [ByteArray.size_append]
        rw [rend_no s hi2 c, wsucc hi2 (by omega)]
        simp only [Int.toNat_natCast]
        refine ev_pos trivial (ev_pos (by omega) (ev_pos (by omega) (ev_pos (by omega) (ev_pos (by omega) ?_))))
        refine ev_eq (ih (i + 1) _ (by omega) (by omega) (by omega)) ?_
        rw [runs_skip s s.size i (by omega) (fun _ => c), mkR_split s ws _ i (i + 1) (by omega) (runs_ok s s.size (i + 1) (i + 1) (Nat.le_refl _) (by omega))]
        simp only [ByteArray.append_assoc]
theorem specMark (s : ByteArray) (hs : s.size ≤ 1048576) (ws : List ByteArray) (hl : ws.length ≤ 100000000) (hf : ∀ y ∈ ws, y.size ≤ 140737488351232) : Ev (fun k => spec_MarkWords.f k s ws) (markV s ws) := by
  unfold spec_MarkWords.f spec_IsText.f
  have jt : ¬ ((betw s 32 126 0 s.size && decide (s.size ≤ 80)) = true ∧ queryV ws = true) → Ev (fun k => spec_MarkWords.j0 k s ws true) (markV s ws) := fun n => by
    unfold markV
    rw [if_neg n]
    exact Ev.step (fun k => by rw [spec_MarkWords.j0]) (ev_pos rfl (Ev.now _))
  refine Ev.bind (Ev.bind (specText s (by omega)) (Ev.now _)) ?_
  by_cases c : (betw s 32 126 0 s.size && decide (s.size ≤ 80)) = true
  · refine ev_pos c (Ev.bind (specQuery ws hl hf) ?_)
    by_cases d : queryV ws = true
    · rw [d]
      have h80 : s.size ≤ 80 := by
        simp only [Bool.and_eq_true, decide_eq_true_eq] at c
        exact c.2
      unfold markV
      rw [if_pos ⟨c, d⟩]
      refine Ev.step (fun k => by rw [spec_MarkWords.j0]) (ev_neg (by simp) ?_)
      have := specMarkL s h80 ws hl s.size 0 (⟨#[]⟩ : ByteArray) (by omega) (Nat.zero_le _) (Nat.zero_le _)
      rw [none_app] at this
      exact this
    · rw [(Bool.not_eq_true _).mp d]
      exact jt (fun z => d z.2)
  · exact ev_neg c (jt (fun z => c z.1))

theorem FnExactMarkWords : laws_FnExactMarkWords.Pure := by
  intro a l ha hl
  refine Ev.rounds ?_
  unfold laws_FnExactMarkWords.f
  by_cases c : (a.size : Int) > 1048576
  · exact ev_pos c (Ev.now _)
  · obtain ⟨v, hv, hv2⟩ := szStrs l (by have := hl.1; unfold maxLen at this; omega) hl.2.2
    refine ev_neg c (Ev.bind hv ?_)
    by_cases c2 : v < 0
    · exact ev_pos c2 (Ev.now _)
    · have h3 := hv2 (by omega)
      have ts := toStrs l (by omega)
      have sp := specMark a (by omega) l (by omega) hl.2.2
      have im := implMark a (by omega) l (by omega) hl.2.2
      generalize markV a l = r at sp im
      refine ev_neg c2 (Ev.bind ts (Ev.bind sp (Ev.bind ts (Ev.bind im (ev_pos rfl ?_)))))
      have hne : (r.2 != r.2) = false := by simp
      rw [hne]
      refine Ev.step (fun k => by rw [laws_FnExactMarkWords.j0]) ?_
      exact ev_neg (by simp) (Ev.bind ts (Ev.bind (eqStrs l (by omega)) (ev_pos rfl (Ev.now _))))

end Go.Proofs.Ytcnhepjdibbkgaa.Pure
