/- DropFrom: the program and the reference answer alike; neither the index that came in nor a later answer is changed, for every index and number. -/
import Derived.Test.YtcnhepjdibbkgaaQFnExactDropFromx12
namespace Go.Proofs.Ytcnhepjdibbkgaa.Pure
open Go.RowKit Go.Proofs.Ytcnhepjdibbkgaa.QFnExactDropFrom Go.Proofs.YtcnhepjdibbkgaaW.PrintWords Go.Proofs.YtcnhepjdibbkgaaW.PrintLast Go.Proofs.YtcnhepjdibbkgaaW.PrintMore
set_option linter.unusedVariables false

theorem w64 {n : Int} (h1 : -9223372036854775808 ≤ n) (h2 : n ≤ 9223372036854775807) : wrap64 n = n := by
  unfold wrap64
  omega
theorem wf64 {n : Int} (h : (Lit.int .i64 n).wf = true) : -9223372036854775808 ≤ n ∧ n ≤ 9223372036854775807 := by
  simp [Lit.wf, IntKind.min, IntKind.max, IntKind.signed, IntKind.bits] at h
  omega

theorem ev_pos {α : Type} {c : Prop} [Decidable c] {g f : Nat → Option α} {r : α} (h : c) (e : Ev g r) : Ev (fun k => if c then g k else f k) r := Ev.congr (fun _ => if_pos h) e
theorem ev_neg {α : Type} {c : Prop} [Decidable c] {g f : Nat → Option α} {r : α} (h : ¬ c) (e : Ev f r) : Ev (fun k => if c then g k else f k) r := Ev.congr (fun _ => if_neg h) e
theorem ev_b {α β : Type} {o : Option α} {a : α} {f : Nat → α → Option β} {r : β} (h : o = some a) (e : Ev (fun k => f k a) r) : Ev (fun k => o.bind (f k)) r := by subst h; exact e
theorem ev_eq {α : Type} {g : Nat → Option α} {r q : α} (e : Ev g r) (h : r = q) : Ev g q := h ▸ e
theorem ev_some {α : Type} {r q : α} (h : r = q) : Ev (fun _ => some r) q := h ▸ Ev.now r
/-- Down from a list's end. -/
theorem idx_ind {α : Type} (l : List α) (P : Nat → Prop) (hend : P l.length) (hstep : ∀ i, i < l.length → P (i + 1) → P i) : ∀ i, i ≤ l.length → P i := by
  have key : ∀ d i, i + d = l.length → P i := by
    intro d
    induction d with
    | zero => intro i h; have : i = l.length := by omega
              rw [this]; exact hend
    | succ d ih => intro i h; exact hstep i (by omega) (ih (i + 1) (by omega))
  intro i h
  exact key (l.length - i) i (by omega)
theorem rd_at (l : List Int) (i : Nat) (h : i < l.length) : rd l (i : Int) = l[i] := by
  simp [rd, List.getD, h]
theorem rdOf_at {α : Type} (d : α) (l : List α) (i : Nat) (h : i < l.length) : rdOf d l (i : Int) = l[i] := by
  simp [rdOf, List.getD, h]
theorem drop_at {α : Type} (l : List α) (i : Nat) (h : i < l.length) : l.drop i = l[i] :: l.drop (i + 1) := List.drop_eq_getElem_cons h
theorem wsucc {i n : Nat} (h : i < n) (hn : n ≤ 9223372036854775807) : wrap64 ((i : Int) + 1) = ((i + 1 : Nat) : Int) := by
  rw [w64 (by omega) (by omega)]; rfl

/-- Is every byte of a text from a place on between two bounds? -/
def betw (s : ByteArray) (lo hi : Int) : Nat → Nat → Bool
  | _, 0 => true
  | i, n + 1 => decide (lo ≤ bt s (i : Int) ∧ bt s (i : Int) ≤ hi) && betw s lo hi (i + 1) n
theorem nat_ind (n : Nat) (P : Nat → Prop) (hend : P n) (hstep : ∀ i, i < n → P (i + 1) → P i) : ∀ i, i ≤ n → P i := by
  have key : ∀ d i, i + d = n → P i := by
    intro d
    induction d with
    | zero => intro i h; have : i = n := by omega
              rw [this]; exact hend
    | succ d ih => intro i h; exact hstep i (by omega) (ih (i + 1) (by omega))
  intro i h
  exact key (n - i) i (by omega)
theorem betw_step (s : ByteArray) (lo hi : Int) {i n : Nat} (h : i < n) : betw s lo hi i (n - i) = (decide (lo ≤ bt s (i : Int) ∧ bt s (i : Int) ≤ hi) && betw s lo hi (i + 1) (n - (i + 1))) := by
  rw [show n - i = (n - (i + 1)) + 1 by omega, betw]
theorem betw_no (s : ByteArray) {lo hi : Int} {i n : Nat} (h : i < n) (c : ¬ (lo ≤ bt s (i : Int) ∧ bt s (i : Int) ≤ hi)) : betw s lo hi i (n - i) = false := by
  rw [betw_step s lo hi h, decide_eq_false c]; rfl
theorem betw_yes (s : ByteArray) {lo hi : Int} {i n : Nat} (h : i < n) (c : lo ≤ bt s (i : Int) ∧ bt s (i : Int) ≤ hi) : betw s lo hi i (n - i) = betw s lo hi (i + 1) (n - (i + 1)) := by
  rw [betw_step s lo hi h, decide_eq_true c]; rfl

theorem bt_range (s : ByteArray) (i : Int) : 0 ≤ bt s i ∧ bt s i ≤ 255 := by
  unfold bt
  have q : ∀ u : UInt8, u.toNat < 256 := fun u => u.toNat_lt
  split
  · have := q (s[i.toNat]'(by assumption))
    omega
  · omega
/-- May a word have this byte? -/
def wb (c : Int) : Bool := decide (48 ≤ c ∧ c ≤ 57 ∨ 97 ≤ c ∧ c ≤ 122)
def allW (s : ByteArray) : Nat → Nat → Bool
  | _, 0 => true
  | i, d + 1 => wb (bt s (i : Int)) && allW s (i + 1) d
theorem allW_step (s : ByteArray) {i n : Nat} (h : i < n) : allW s i (n - i) = (wb (bt s (i : Int)) && allW s (i + 1) (n - (i + 1))) := by
  rw [show n - i = n - (i + 1) + 1 by omega, allW]
def wordV (s : ByteArray) : Bool := allW s 0 s.size && decide (1 ≤ s.size ∧ s.size ≤ 80)
theorem implByte (c : Int) : impl_wordByte.f c = some (wb c) := by
  unfold impl_wordByte.f impl_isDigit.f wb
  by_cases h1 : c ≥ 48
  · rw [if_pos h1]
    simp only [Option.bind_some]
    by_cases h2 : c ≤ 57
    · rw [if_pos (by simpa using h2), decide_eq_true (by omega)]
    · rw [if_neg (by simpa using h2)]
      by_cases h3 : c ≥ 97
      · rw [if_pos h3]; congr 1; rw [decide_eq_decide]; omega
      · rw [if_neg h3]; congr 1; rw [eq_comm, decide_eq_false_iff_not]; omega
  · rw [if_neg h1]
    simp only [Option.bind_some]
    rw [if_neg (by simp), if_neg (by omega)]; congr 1; rw [eq_comm, decide_eq_false_iff_not]; omega
/-- A byte as words have it. -/
def lowV (c : Int) : Int := if 65 ≤ c ∧ c ≤ 90 then c + 32 else if wb c = true then c else 0
theorem specLow (c : Int) (h0 : 0 ≤ c) (h1 : c ≤ 255) : Ev (fun k => spec_l06Low.f k c) (lowV c) := by
  have j1 : ∀ b, (b = true ↔ (97 ≤ c ∧ c ≤ 122)) → ¬ (65 ≤ c ∧ c ≤ 90) → Ev (fun k => spec_l06Low.j1 k c b) (lowV c) := by
    intro b hb hn
    refine Ev.step (fun k => by rw [spec_l06Low.j1]) ?_
    unfold lowV wb
    rw [if_neg hn]
    by_cases c1 : b = true
    · have := hb.mp c1
      refine ev_pos c1 (ev_some ?_)
      rw [if_pos (by simp; omega)]
    · have : ¬ (97 ≤ c ∧ c ≤ 122) := fun z => c1 (hb.mpr z)
      refine ev_neg c1 ?_
      by_cases c2 : c ≥ 48
      · refine ev_pos c2 ?_
        by_cases c3 : c ≤ 57
        · refine ev_pos c3 (ev_some ?_)
          rw [if_pos (by simp; omega)]
        · refine ev_neg c3 (ev_some ?_)
          rw [if_neg (by simp; omega)]
      · refine ev_neg c2 (ev_some ?_)
        rw [if_neg (by simp; omega)]
  have j0 : ∀ b, (b = true ↔ (65 ≤ c ∧ c ≤ 90)) → Ev (fun k => spec_l06Low.j0 k c b) (lowV c) := by
    intro b hb
    refine Ev.step (fun k => by rw [spec_l06Low.j0]) ?_
    by_cases c1 : b = true
    · have := hb.mp c1
      refine ev_pos c1 (ev_some ?_)
      unfold lowV
      rw [if_pos this]; omega
    · have hn : ¬ (65 ≤ c ∧ c ≤ 90) := fun z => c1 (hb.mpr z)
      refine ev_neg c1 ?_
      by_cases c2 : c ≥ 97
      · exact ev_pos c2 (j1 _ (by simp; omega) hn)
      · exact ev_neg c2 (j1 _ (by simp; omega) hn)
  unfold spec_l06Low.f
  by_cases c1 : c ≥ 65
  · exact ev_pos c1 (j0 _ (by simp; omega))
  · exact ev_neg c1 (j0 _ (by simp; omega))
theorem low_eq (c : Int) : (¬ c = 0 ∧ lowV c = c) ↔ wb c = true := by
  unfold lowV wb
  by_cases h : 65 ≤ c ∧ c ≤ 90
  · rw [if_pos h]; simp; omega
  · rw [if_neg h]
    by_cases h2 : (48 ≤ c ∧ c ≤ 57 ∨ 97 ≤ c ∧ c ≤ 122)
    · rw [if_pos (by simpa using h2)]; simp [h2]; omega
    · rw [if_neg (by simpa using h2)]; simp [h2]; omega
theorem implWord (s : ByteArray) (hs : s.size ≤ 140737488351232) : Ev (fun k => impl_wordOk.f k s) (wordV s) := by
  have key := nat_ind s.size (fun i => Ev (fun k => impl_wordOk.l0 k s (s.size : Int) (i : Int)) (allW s i (s.size - i) && decide (1 ≤ s.size ∧ s.size ≤ 80))) ?_ ?_ 0 (Nat.zero_le _)
  · exact key
  · refine Ev.step (fun k => by rw [impl_wordOk.l0]) ?_
    refine ev_neg (by omega) ?_
    rw [Nat.sub_self, allW, Bool.true_and]
    by_cases h : (s.size : Int) ≥ 1
    · refine ev_pos h (ev_some ?_)
      rw [decide_eq_decide]; omega
    · refine ev_neg h (ev_some ?_)
      rw [decide_eq_false (by omega)]
  · intro i hi ih
    refine Ev.step (fun k => by rw [impl_wordOk.l0]) ?_
    rw [allW_step s hi, wsucc hi (by omega)]
    refine ev_pos (by omega) (ev_pos (by omega) (ev_pos (by omega) (ev_b (implByte _) ?_)))
    by_cases c : wb (bt s (i : Int)) = true
    · refine ev_pos c ?_
      simp only [c, Bool.true_and]; exact ih
    · refine ev_neg c (ev_some ?_)
      rw [Bool.not_eq_true] at c
      simp only [c, Bool.false_and]
theorem specWord (s : ByteArray) (hs : s.size ≤ 140737488351232) : Ev (fun k => spec_l08Word.f k s) (wordV s) := by
  have loop := nat_ind s.size (fun i => Ev (fun k => spec_l08Word.l0 k s (i : Int)) (allW s i (s.size - i))) ?_ ?_ 0 (Nat.zero_le _)
  · unfold spec_l08Word.f wordV
    have yes : (1 ≤ s.size ∧ s.size ≤ 80) → Ev (fun k => spec_l08Word.j0 k s false) (allW s 0 s.size && decide (1 ≤ s.size ∧ s.size ≤ 80)) := by
      intro h
      refine Ev.step (fun k => by rw [spec_l08Word.j0]) ?_
      refine ev_neg (by simp) ?_
      rw [decide_eq_true h, Bool.and_true]
      exact loop
    have no : ¬ (1 ≤ s.size ∧ s.size ≤ 80) → Ev (fun k => spec_l08Word.j0 k s true) (allW s 0 s.size && decide (1 ≤ s.size ∧ s.size ≤ 80)) := by
      intro h
      refine Ev.step (fun k => by rw [spec_l08Word.j0]) ?_
      refine ev_pos rfl (ev_some ?_)
      rw [decide_eq_false h, Bool.and_false]
    by_cases h1 : (s.size : Int) < 1
    · exact ev_pos h1 (no (by omega))
    · refine ev_neg h1 ?_
      by_cases h2 : (s.size : Int) > 80
      · rw [decide_eq_true h2]; exact no (by omega)
      · rw [decide_eq_false h2]; exact yes (by omega)
  · refine Ev.step (fun k => by rw [spec_l08Word.l0]) ?_
    refine ev_neg (by omega) (ev_some ?_)
    rw [Nat.sub_self, allW]
  · intro i hi ih
    have hr := bt_range s (i : Int)
    have le := low_eq (bt s (i : Int))
    refine Ev.step (fun k => by rw [spec_l08Word.l0]) ?_
    rw [allW_step s hi, wsucc hi (by omega)]
    refine ev_pos (by omega) (ev_pos (by omega) ?_)
    by_cases c0 : bt s (i : Int) = 0
    · refine ev_pos c0 (ev_some ?_)
      have : wb (bt s (i : Int)) = false := by rw [← Bool.not_eq_true]; exact fun z => (le.mpr z).1 c0
      simp only [this, Bool.false_and]
    · refine ev_neg c0 (Ev.bind (specLow _ hr.1 hr.2) ?_)
      by_cases c1 : lowV (bt s (i : Int)) = bt s (i : Int)
      · have c := le.mp ⟨c0, c1⟩
        refine ev_pos c1 ?_
        simp only [c, Bool.true_and]; exact ih
      · have : wb (bt s (i : Int)) = false := by rw [← Bool.not_eq_true]; exact fun z => c1 (le.mpr z).2
        refine ev_neg c1 (ev_some ?_)
        simp only [this, Bool.false_and]


theorem mtxL : ∀ (n : Nat) (acc : ByteArray), acc.size + n ≤ 1000000000000 → ∃ t, Ev (fun k => laws_markText.l0 k (n : Int) acc) t := by
  intro n
  induction n using Nat.strongRecOn with
  | _ n ih =>
    intro acc ha
    by_cases h : n = 0
    · subst h
      refine ⟨(⟨#[109]⟩ : ByteArray) ++ acc, Ev.step (fun k => by rw [laws_markText.l0]) ?_⟩
      exact ev_neg (by simp) (ev_pos (by omega) (Ev.now _))
    · have e : wrap64 (Int.tdiv (n : Int) 10) = ((n / 10 : Nat) : Int) := by
        rw [Int.tdiv_eq_ediv_of_nonneg (by omega), w64 (by omega) (by omega)]; rfl
      have hz : ∀ c : Int, (strOfNums [c] ++ acc).size = 1 + acc.size := by intro c; rw [ByteArray.size_append, strOfNums_size]; rfl
      obtain ⟨t, ht⟩ := ih (n / 10) (by omega) (strOfNums [(wrap64 (48 + (Int.tmod (n : Int) 10))) % 256] ++ acc) (by rw [hz]; omega)
      refine ⟨t, Ev.step (fun k => by rw [laws_markText.l0]) ?_⟩
      rw [e]
      refine ev_pos (by omega) (ev_b rfl (ev_pos ?_ ht))
      rw [strOfNums_size]; simp; omega
theorem mtx_ex (n : Nat) (h : n ≤ 100000000000) : ∃ t, Ev (fun k => laws_markText.f k (n : Int)) t := by
  unfold laws_markText.f
  by_cases c : (n : Int) ≤ 0
  · exact ⟨_, ev_pos c (Ev.now _)⟩
  · obtain ⟨t, ht⟩ := mtxL n ⟨#[]⟩ (show 0 + n ≤ 1000000000000 by omega)
    exact ⟨t, ev_neg c ht⟩
open Classical in
/-- The text that marks have in the place of a number. -/
noncomputable def mtx (n : Nat) : ByteArray := if h : ∃ t, Ev (fun k => laws_markText.f k (n : Int)) t then h.choose else ⟨#[]⟩
theorem mtx_ev (n : Nat) (h : n ≤ 100000000000) : Ev (fun k => laws_markText.f k (n : Int)) (mtx n) := by
  unfold mtx
  rw [dif_pos (mtx_ex n h)]
  exact (mtx_ex n h).choose_spec

theorem markInts (l : List Int) (m : Nat) (hl : l.length ≤ 100000000) (hm : m ≤ 100000000) : ∃ l2 : List Int, Ev (fun k => laws_markInt64S.f k l (m : Int)) (((m + l.length : Nat) : Int), l2) ∧ l2.length = l.length ∧ ∀ j, j < l.length → l2[j]? = some ((m + j : Nat) : Int) := by
  have key := idx_ind l (fun i => ∀ x : List Int, x.length = l.length → (∀ j, j < i → x[j]? = some ((m + j : Nat) : Int)) → ∃ l2 : List Int, Ev (fun k => laws_markInt64S.l0 k x ((m + i : Nat) : Int) (i : Int)) (((m + l.length : Nat) : Int), l2) ∧ l2.length = l.length ∧ ∀ j, j < l.length → l2[j]? = some ((m + j : Nat) : Int)) ?_ ?_
  · obtain ⟨l2, h1, h2⟩ := key 0 (Nat.zero_le _) l rfl (fun j h => by omega)
    exact ⟨l2, h1, h2⟩
  · intro x hx hj
    refine ⟨x, ?_, hx, hj⟩
    refine Ev.step (fun k => by rw [laws_markInt64S.l0]) ?_
    exact ev_neg (by omega) (Ev.now _)
  · intro i hi ih x hx hj
    obtain ⟨l2, h1, h2⟩ := ih (x.set i ((m + i : Nat) : Int)) (by simp [hx]) (by
      intro j hj2
      by_cases e : j = i
      · subst e
        simp [hx, hi]
      · rw [List.getElem?_set_ne (by omega)]
        exact hj j (by omega))
    refine ⟨l2, ?_, h2⟩
    refine Ev.step (fun k => by rw [laws_markInt64S.l0]) ?_
    refine ev_pos (by omega) (ev_pos (by omega) ?_)
    have e1 : wrap64 (((m + i : Nat) : Int) + 1) = ((m + (i + 1) : Nat) : Int) := by rw [w64 (by omega) (by omega)]; omega
    rw [wsucc hi (by omega), e1, Int.toNat_natCast]
    exact h1

theorem heldInts (l : List Int) (m : Nat) (hl : l.length ≤ 100000000) (hm : m ≤ 100000000) (hj : ∀ j, j < l.length → l[j]? = some ((m + j : Nat) : Int)) : Ev (fun k => laws_heldInt64S.f k l (m : Int)) ((m + l.length : Nat) : Int) := by
  refine idx_ind l (fun i => Ev (fun k => laws_heldInt64S.l0 k l ((m + i : Nat) : Int) (i : Int)) ((m + l.length : Nat) : Int)) ?_ ?_ 0 (Nat.zero_le _)
  · refine Ev.step (fun k => by rw [laws_heldInt64S.l0]) ?_
    exact ev_neg (by omega) (Ev.now _)
  · intro i hi ih
    have hv : l[i] = ((m + i : Nat) : Int) := by
      have := hj i hi
      rw [List.getElem?_eq_getElem hi] at this
      exact Option.some.inj this
    refine Ev.step (fun k => by rw [laws_heldInt64S.l0]) ?_
    rw [rd_at l i hi, hv]
    refine ev_pos (by omega) (ev_pos (by omega) (ev_pos rfl ?_))
    rw [wsucc hi (by omega), wsucc (i := m + i) (n := m + l.length + 1) (by omega) (by omega)]
    exact ih

/-- Each is right, and each stands in order behind the one before. -/
def chain {α : Type} (ok : α → Bool) (lt : α → α → Bool) : Option α → List α → Bool
  | _, [] => true
  | p, x :: r => ok x && (match p with | none => true | some y => lt y x) && chain ok lt (some x) r
def prevOf {α : Type} (l : List α) (i : Nat) : Option α := if i = 0 then none else l[i - 1]?
theorem prevOf_succ {α : Type} {l : List α} {i : Nat} (h : i < l.length) : prevOf l (i + 1) = some l[i] := by
  unfold prevOf
  rw [if_neg (by omega), Nat.add_sub_cancel, List.getElem?_eq_getElem h]
theorem prevOf_pos {α : Type} {l : List α} {i : Nat} (h : i < l.length) (h0 : 0 < i) : prevOf l i = some (l[i - 1]'(by omega)) := by
  unfold prevOf
  rw [if_neg (by omega), List.getElem?_eq_getElem (by omega)]
theorem prevOf_zero {α : Type} {l : List α} {i : Nat} (h0 : ¬ 0 < i) : prevOf l i = none := by
  unfold prevOf; rw [if_pos (by omega)]
theorem chain_at {α : Type} (ok : α → Bool) (lt : α → α → Bool) {l : List α} {i : Nat} (h : i < l.length) : chain ok lt (prevOf l i) (l.drop i) = (ok l[i] && (match prevOf l i with | none => true | some y => lt y l[i]) && chain ok lt (prevOf l (i + 1)) (l.drop (i + 1))) := by
  rw [drop_at l i h, prevOf_succ h]
  rfl

/-- Numbers that rise, each right. -/
def numOk (x : Int) : Bool := decide (1 ≤ x ∧ x ≤ 1000000000)
def risesV (l : List Int) : Bool := chain numOk (fun y x => decide (y < x)) none l
theorem implRises (l : List Int) (hl : l.length ≤ 100000000) : Ev (fun k => impl_rising_v0.f k l) (risesV l) := by
  have nm : ∀ x, impl_isNumber.f x = some (numOk x) := by
    intro x
    unfold impl_isNumber.f impl_in.f numOk
    by_cases h : x ≥ 1
    · rw [if_pos h]; simp only [Option.bind_some]; congr 1; rw [decide_eq_decide]; omega
    · rw [if_neg h]; simp only [Option.bind_some]; congr 1; rw [eq_comm, decide_eq_false_iff_not]; omega
  refine idx_ind l (fun i => Ev (fun k => impl_rising_v0.l0 k l l (l.length : Int) (i : Int)) (chain numOk (fun y x => decide (y < x)) (prevOf l i) (l.drop i))) ?_ ?_ 0 (Nat.zero_le _)
  · refine Ev.step (fun k => by rw [impl_rising_v0.l0]) ?_
    refine ev_neg (by omega) (ev_some ?_)
    simp [chain]
  · intro i hi ih
    refine Ev.step (fun k => by rw [impl_rising_v0.l0]) ?_
    rw [chain_at _ _ hi, wsucc hi (by omega), rd_at l i hi]
    refine ev_pos (by omega) (ev_pos (by omega) (ev_pos (by omega) (ev_b (nm _) ?_)))
    by_cases c : numOk l[i] = true
    · refine ev_pos c ?_
      by_cases h0 : 0 < i
      · have e1 : wrap64 ((i : Int) - 1) = ((i - 1 : Nat) : Int) := by rw [w64 (by omega) (by omega)]; omega
        rw [e1, rd_at l (i - 1) (by omega), prevOf_pos hi h0]
        refine ev_pos (by omega) (ev_pos (by omega) (ev_pos (by omega) ?_))
        by_cases g : l[i - 1]'(by omega) ≥ l[i]
        · refine ev_pos g (ev_some ?_)
          have : decide (l[i - 1]'(by omega) < l[i]) = false := decide_eq_false (by omega)
          simp only [this, Bool.and_false, Bool.false_and]
        · refine ev_neg g ?_
          have : decide (l[i - 1]'(by omega) < l[i]) = true := decide_eq_true (by omega)
          simp only [c, this, Bool.and_true, Bool.true_and]; exact ih
      · rw [prevOf_zero h0]
        refine ev_neg (by omega) ?_
        simp only [c, Bool.and_true, Bool.true_and]; exact ih
    · refine ev_neg c (ev_some ?_)
      rw [Bool.not_eq_true] at c
      simp only [c, Bool.false_and]
theorem specRises (l : List Int) (hl : l.length ≤ 100000000) : Ev (fun k => spec_l00Rises.f k l 1 1000000000) (risesV l) := by
  have nm : ∀ x, spec_l00In.f x 1 1000000000 = some (numOk x) := by
    intro x
    unfold spec_l00In.f numOk
    by_cases h : x ≥ 1
    · rw [if_pos h]; congr 1; rw [decide_eq_decide]; omega
    · rw [if_neg h]; congr 1; rw [eq_comm, decide_eq_false_iff_not]; omega
  refine idx_ind l (fun i => Ev (fun k => spec_l00Rises.l0 k l 1 1000000000 (i : Int)) (chain numOk (fun y x => decide (y < x)) (prevOf l i) (l.drop i))) ?_ ?_ 0 (Nat.zero_le _)
  · refine Ev.step (fun k => by rw [spec_l00Rises.l0]) ?_
    refine ev_neg (by omega) (ev_some ?_)
    simp [chain]
  · intro i hi ih
    refine Ev.step (fun k => by rw [spec_l00Rises.l0]) ?_
    rw [chain_at _ _ hi, wsucc hi (by omega), rd_at l i hi]
    refine ev_pos (by omega) (ev_pos (by omega) (ev_b (nm _) ?_))
    by_cases c : numOk l[i] = true
    · refine ev_pos c ?_
      by_cases h0 : 0 < i
      · have e1 : wrap64 ((i : Int) - 1) = ((i - 1 : Nat) : Int) := by rw [w64 (by omega) (by omega)]; omega
        rw [e1, rd_at l (i - 1) (by omega), prevOf_pos hi h0]
        refine ev_pos (by omega) (ev_pos (by omega) (ev_pos (by omega) ?_))
        by_cases g : l[i - 1]'(by omega) ≥ l[i]
        · refine ev_pos g (ev_some ?_)
          have : decide (l[i - 1]'(by omega) < l[i]) = false := decide_eq_false (by omega)
          simp only [this, Bool.and_false, Bool.false_and]
        · refine ev_neg g ?_
          have : decide (l[i - 1]'(by omega) < l[i]) = true := decide_eq_true (by omega)
          simp only [c, this, Bool.and_true, Bool.true_and]; exact ih
      · rw [prevOf_zero h0]
        refine ev_neg (by omega) ?_
        simp only [c, Bool.and_true, Bool.true_and]; exact ih
    · refine ev_neg c (ev_some ?_)
      rw [Bool.not_eq_true] at c
      simp only [c, Bool.false_and]

theorem toInts (l : List Int) (hl : l.length ≤ 100000000) : Ev (fun k => laws_toInt64S.f k l) l := by
  have key := idx_ind l (fun i => ∀ x : List Int, x.length = l.length → (∀ j, j < i → x[j]? = l[j]?) → Ev (fun k => laws_toInt64S.l0 k l x (i : Int)) l) ?_ ?_
  · unfold laws_toInt64S.f
    refine ev_pos (by omega) (ev_pos (by omega) ?_)
    exact key 0 (Nat.zero_le _) _ (by simp) (fun j h => by omega)
  · intro x hx hj
    refine Ev.step (fun k => by rw [laws_toInt64S.l0]) ?_
    refine ev_neg (by omega) (ev_some ?_)
    apply List.ext_getElem?
    intro j
    rcases Nat.lt_or_ge j l.length with h | h
    · exact hj j h
    · rw [List.getElem?_eq_none (by omega), List.getElem?_eq_none (by omega)]
  · intro i hi ih x hx hj
    refine Ev.step (fun k => by rw [laws_toInt64S.l0]) ?_
    refine ev_pos (by omega) (ev_pos (by omega) (ev_pos (by omega) ?_))
    rw [wsucc hi (by omega), rd_at l i hi]
    refine ih _ (by simp [hx]) ?_
    intro j hj2
    by_cases e : j = i
    · subst e
      simp [hx, hi]
    · simp only [Int.toNat_natCast]
      rw [List.getElem?_set_ne (by omega)]
      exact hj j (by omega)
theorem eqInts (l : List Int) (hl : l.length ≤ 100000000) : Ev (fun k => laws_eqInt64S.f k l l) true := by
  unfold laws_eqInt64S.f
  refine ev_pos rfl ?_
  refine idx_ind l (fun i => Ev (fun k => laws_eqInt64S.l0 k l l (i : Int)) true) ?_ ?_ 0 (Nat.zero_le _)
  · refine Ev.step (fun k => by rw [laws_eqInt64S.l0]) ?_
    exact ev_neg (by omega) (Ev.now _)
  · intro i hi ih
    refine Ev.step (fun k => by rw [laws_eqInt64S.l0]) ?_
    refine ev_pos (by omega) (ev_pos (by omega) (ev_pos (by omega) (ev_pos rfl ?_)))
    rw [wsucc hi (by omega)]
    exact ih

theorem implIn (a b c : Int) : impl_in.f a b c = some (decide (b ≤ a ∧ a ≤ c)) := by
  unfold impl_in.f
  by_cases h : a ≥ b
  · rw [if_pos h]; simp [h]
  · rw [if_neg h]; simp; intro h2; omega

theorem specIn (a b c : Int) : spec_l00In.f a b c = some (decide (b ≤ a ∧ a ≤ c)) := by
  unfold spec_l00In.f
  by_cases h : a ≥ b
  · rw [if_pos h]; simp [h]
  · rw [if_neg h]; simp; intro h2; omega

theorem rdIEntry (l : List S108) (i : Nat) (h : i < l.length) : rd_T108 l (i : Int) = l[i] := by
  simp [rd_T108, List.getD, h]
theorem rdOEntry (l : List S63) (i : Nat) (h : i < l.length) : rd_T63 l (i : Int) = l[i] := by
  simp [rd_T63, List.getD, h]
/-- An entry's size taken away. -/
theorem szEntry1 (s : ByteArray) (m : List Int) (x : Int) (hs : s.size ≤ 140737488351232) (hm : m.length ≤ 9223372036854775) (h0 : 0 ≤ x) (h1 : x ≤ 1048576) :
    laws_szEntry.f s m x = some (if x - (s.size : Int) - (m.length : Int) < 0 then -1 else x - (s.size : Int) - (m.length : Int)) := by
  unfold laws_szEntry.f laws_szInt64S.f
  rw [w64 (n := x - (s.size : Int)) (by omega) (by omega)]
  by_cases c : x - (s.size : Int) < 0
  · rw [if_pos c, if_pos (by omega)]
  · rw [if_neg c, w64 (by omega) (by omega)]
    by_cases c2 : x - (s.size : Int) - (m.length : Int) < 0
    · simp [c2]
    · simp [c2]
def fitEntry (y : S108) : Prop := y.f0.size ≤ 140737488351232 ∧ y.f1.length ≤ 9223372036854775
theorem szIndexEvX (l : List S108) (hl : l.length ≤ 9223372036854775807) (hf : ∀ y ∈ l, fitEntry y) (a : Int) (ha0 : 0 ≤ a) (ha1 : a ≤ 1048576) : ∃ v, Ev (fun k => laws_szIndex.f k l a) v ∧ v ≤ 1048576 ∧ (0 ≤ v → l.length ≤ 1048576 ∧ ∀ y ∈ l, y.f1.length ≤ 1048576) := by
  have key := idx_ind l (fun i => ∀ x : Int, 0 ≤ x → x ≤ 1048576 → ∃ v, Ev (fun k => laws_szEntryS.l0 k l x (i : Int)) v ∧ v ≤ 1048576 ∧ (0 ≤ v → ∀ y ∈ l.drop i, y.f1.length ≤ 1048576)) ?_ ?_ 0 (Nat.zero_le _)
  · unfold laws_szIndex.f laws_szEntryS.f
    rw [w64 (by omega) (by omega)]
    by_cases h : l.length ≤ a.toNat
    · obtain ⟨v, hv, hv1, hb⟩ := key (a - (l.length : Int)) (by omega) (by omega)
      by_cases c : v < 0
      · exact ⟨-1, Ev.bind (ev_neg (by omega) hv) (ev_pos c (Ev.now _)), by omega, fun z => by omega⟩
      · exact ⟨v, Ev.bind (ev_neg (by omega) hv) (ev_neg c (Ev.now _)), hv1, fun _ => ⟨by omega, by simpa using hb (by omega)⟩⟩
    · exact ⟨-1, Ev.bind (ev_pos (by omega) (Ev.now (-1))) (ev_pos (by omega) (Ev.now _)), by omega, fun z => by omega⟩
  · intro x _ _
    exact ⟨x, Ev.step (fun k => by rw [laws_szEntryS.l0]) (ev_neg (by omega) (Ev.now _)), by omega, fun _ y hy => by simp at hy⟩
  · intro i hi ih x h0 h1
    have hz := hf l[i] (List.getElem_mem hi)
    have e := szEntry1 l[i].f0 l[i].f1 x hz.1 hz.2 h0 h1
    by_cases h : x - (l[i].f0.size : Int) - (l[i].f1.length : Int) < 0
    · rw [if_pos h] at e
      refine ⟨-1, Ev.step (fun k => by rw [laws_szEntryS.l0]) ?_, by omega, fun z => by omega⟩
      rw [rdIEntry l i hi]
      exact ev_pos (by omega) (ev_pos (by omega) (ev_b e (ev_pos (by omega) (Ev.now _))))
    · rw [if_neg h] at e
      obtain ⟨v, hv, hv1, hb⟩ := ih (x - (l[i].f0.size : Int) - (l[i].f1.length : Int)) (by omega) (by omega)
      refine ⟨v, Ev.step (fun k => by rw [laws_szEntryS.l0]) ?_, hv1, ?_⟩
      · rw [rdIEntry l i hi, wsucc hi hl]
        exact ev_pos (by omega) (ev_pos (by omega) (ev_b e (ev_neg h hv)))
      · intro z y hy
        rw [drop_at l i hi] at hy
        rcases List.mem_cons.mp hy with rfl | hy
        · omega
        · exact hb z y hy
theorem szIndexEv (l : List S108) (hl : l.length ≤ 9223372036854775807) (hf : ∀ y ∈ l, fitEntry y) : ∃ v, Ev (fun k => laws_szIndex.f k l 1048576) v ∧ (0 ≤ v → l.length ≤ 1048576 ∧ ∀ y ∈ l, y.f1.length ≤ 1048576) := by
  obtain ⟨v, h1, _, h3⟩ := szIndexEvX l hl hf 1048576 (by omega) (by omega)
  exact ⟨v, h1, h3⟩
def cvEntry (x : S108) : S63 := ⟨x.f0, x.f1⟩
theorem toIndexEv (l : List S108) (hl : l.length ≤ 100000000) (hf : ∀ y ∈ l, y.f1.length ≤ 100000000) : Ev (fun k => laws_toIndex.f k l) (l.map cvEntry) := by
  have key := idx_ind l (fun i => ∀ x : List S63, x.length = l.length → (∀ j, j < i → x[j]? = (l.map cvEntry)[j]?) → Ev (fun k => laws_toEntryS.l0 k l x (i : Int)) (l.map cvEntry)) ?_ ?_
  · unfold laws_toIndex.f laws_toEntryS.f
    refine Ev.bind (ev_pos (by omega) (ev_pos (by omega) ?_)) (Ev.now _)
    exact key 0 (Nat.zero_le _) _ (by simp) (fun j h => by omega)
  · intro x hx hj
    refine Ev.step (fun k => by rw [laws_toEntryS.l0]) ?_
    refine ev_neg (by omega) (ev_some ?_)
    apply List.ext_getElem?
    intro j
    rcases Nat.lt_or_ge j l.length with h | h
    · exact hj j h
    · rw [List.getElem?_eq_none (by omega), List.getElem?_eq_none (by simpa using h)]
  · intro i hi ih x hx hj
    refine Ev.step (fun k => by rw [laws_toEntryS.l0]) ?_
    unfold laws_toEntry.f
    rw [rdIEntry l i hi]
    refine ev_pos (by omega) (ev_pos (by omega) (Ev.bind (Ev.bind (toInts l[i].f1 (hf _ (List.getElem_mem hi))) (Ev.now _)) (ev_pos (by omega) ?_)))
    rw [wsucc hi (by omega)]
    refine ih _ (by simp [hx]) ?_
    intro j hj2
    by_cases e : j = i
    · subst e
      simp [hx, hi, cvEntry]
    · simp only [Int.toNat_natCast]
      rw [List.getElem?_set_ne (by omega)]
      exact hj j (by omega)
theorem eqIndexEv (l : List S63) (hl : l.length ≤ 100000000) (hf : ∀ y ∈ l, y.f1.length ≤ 100000000) : Ev (fun k => laws_eqIndex.f k l l) true := by
  unfold laws_eqIndex.f laws_eqEntryS.f
  refine Ev.bind (ev_pos rfl ?_) (ev_pos rfl (Ev.now _))
  refine idx_ind l (fun i => Ev (fun k => laws_eqEntryS.l0 k l l (i : Int)) true) ?_ ?_ 0 (Nat.zero_le _)
  · refine Ev.step (fun k => by rw [laws_eqEntryS.l0]) ?_
    exact ev_neg (by omega) (Ev.now _)
  · intro i hi ih
    refine Ev.step (fun k => by rw [laws_eqEntryS.l0]) ?_
    unfold laws_eqEntry.f
    rw [rdOEntry l i hi, wsucc hi (by omega)]
    exact ev_pos (by omega) (ev_pos (by omega) (ev_pos (by omega) (Ev.bind (ev_pos rfl (Ev.bind (eqInts l[i].f1 (hf _ (List.getElem_mem hi))) (ev_pos rfl (Ev.now _)))) (ev_pos rfl ih))))

/-- Is an entry right? -/
def entOk (e : S63) : Bool := wordV e.f0 && (decide (1 ≤ e.f1.length ∧ e.f1.length ≤ 40) && risesV e.f1)
def entLt (y x : S63) : Bool := Op.bytesLess y.f0.toList x.f0.toList
def indexV (l : List S63) : Bool := chain entOk entLt none l
theorem implIndex (l : List S63) (hl : l.length ≤ 100000000) (hf : ∀ y ∈ l, y.f0.size ≤ 140737488351232 ∧ y.f1.length ≤ 100000000) : Ev (fun k => impl_ValidIndex.f k l) (indexV l) := by
  refine idx_ind l (fun i => Ev (fun k => impl_ValidIndex.l0 k l (l.length : Int) (i : Int) l) (chain entOk entLt (prevOf l i) (l.drop i))) ?_ ?_ 0 (Nat.zero_le _)
  · refine Ev.step (fun k => by rw [impl_ValidIndex.l0]) ?_
    refine ev_neg (by omega) (ev_some ?_)
    simp [chain]
  · intro i hi ih
    have hz := hf l[i] (List.getElem_mem hi)
    refine Ev.step (fun k => by rw [impl_ValidIndex.l0]) ?_
    rw [chain_at _ _ hi, wsucc hi (by omega), rdOEntry l i hi]
    refine ev_pos (by omega) (ev_pos (by omega) (ev_pos (by omega) (Ev.bind (implWord _ hz.1) ?_)))
    by_cases c : wordV l[i].f0 = true
    · refine ev_pos c ?_
      by_cases c1 : (l[i].f1.length : Int) < 1
      · refine ev_pos c1 (ev_some ?_)
        have : decide (1 ≤ l[i].f1.length ∧ l[i].f1.length ≤ 40) = false := decide_eq_false (by omega)
        simp only [entOk, this, Bool.false_and, Bool.and_false]
      · refine ev_neg c1 ?_
        by_cases c2 : (l[i].f1.length : Int) > 40
        · refine ev_pos c2 (ev_some ?_)
          have : decide (1 ≤ l[i].f1.length ∧ l[i].f1.length ≤ 40) = false := decide_eq_false (by omega)
          simp only [entOk, this, Bool.false_and, Bool.and_false]
        · have cl : decide (1 ≤ l[i].f1.length ∧ l[i].f1.length ≤ 40) = true := decide_eq_true (by omega)
          refine ev_neg c2 (Ev.bind (implRises _ hz.2) ?_)
          by_cases c3 : risesV l[i].f1 = true
          · have ok : entOk l[i] = true := by simp only [entOk, c, cl, c3, Bool.and_true]
            refine ev_pos c3 ?_
            by_cases h0 : 0 < i
            · have e1 : wrap64 ((i : Int) - 1) = ((i - 1 : Nat) : Int) := by rw [w64 (by omega) (by omega)]; omega
              rw [e1, rdOEntry l (i - 1) (by omega), prevOf_pos hi h0]
              refine ev_pos (by omega) (ev_pos (by omega) (ev_pos (by omega) ?_))
              by_cases g : Op.bytesLess (l[i - 1]'(by omega)).f0.toList l[i].f0.toList = true
              · refine ev_pos g ?_
                simp only [ok, entLt, g, Bool.true_and]; exact ih
              · refine ev_neg g (ev_some ?_)
                rw [Bool.not_eq_true] at g
                simp only [entLt, g, Bool.and_false, Bool.false_and]
            · rw [prevOf_zero h0]
              refine ev_neg (by omega) ?_
              simp only [ok, Bool.true_and, Bool.and_true]; exact ih
          · refine ev_neg c3 (ev_some ?_)
            rw [Bool.not_eq_true] at c3
            simp only [entOk, c3, Bool.false_and, Bool.and_false]
    · refine ev_neg c (ev_some ?_)
      rw [Bool.not_eq_true] at c
      simp only [entOk, c, Bool.false_and]
theorem specIndex (l : List S63) (hl : l.length ≤ 100000000) (hf : ∀ y ∈ l, y.f0.size ≤ 140737488351232 ∧ y.f1.length ≤ 100000000) : Ev (fun k => spec_l08Is.f k l) (indexV l) := by
  refine idx_ind l (fun i => Ev (fun k => spec_l08Is.l0 k (i : Int) l) (chain entOk entLt (prevOf l i) (l.drop i))) ?_ ?_ 0 (Nat.zero_le _)
  · refine Ev.step (fun k => by rw [spec_l08Is.l0]) ?_
    refine ev_neg (by omega) (ev_some ?_)
    simp [chain]
  · intro i hi ih
    have hz := hf l[i] (List.getElem_mem hi)
    have tail : ∀ b : Bool, Ev (fun k => spec_l08Is.j1 k (i : Int) l b l) ((!b) && (decide (1 ≤ l[i].f1.length ∧ l[i].f1.length ≤ 40) && risesV l[i].f1) && chain entOk entLt (prevOf l (i + 1)) (l.drop (i + 1))) := by
      intro b
      refine Ev.step (fun k => by rw [spec_l08Is.j1]) ?_
      cases b
      · refine ev_neg (by simp) ?_
        rw [rdOEntry l i hi, wsucc hi (by omega)]
        by_cases c1 : (l[i].f1.length : Int) < 1
        · refine ev_pos c1 (ev_some ?_)
          have : decide (1 ≤ l[i].f1.length ∧ l[i].f1.length ≤ 40) = false := decide_eq_false (by omega)
          simp only [this, Bool.false_and, Bool.and_false]
        · refine ev_neg c1 ?_
          by_cases c2 : (l[i].f1.length : Int) > 40
          · refine ev_pos c2 (ev_some ?_)
            have : decide (1 ≤ l[i].f1.length ∧ l[i].f1.length ≤ 40) = false := decide_eq_false (by omega)
            simp only [this, Bool.false_and, Bool.and_false]
          · have cl : decide (1 ≤ l[i].f1.length ∧ l[i].f1.length ≤ 40) = true := decide_eq_true (by omega)
            refine ev_neg c2 (Ev.bind (specRises _ hz.2) ?_)
            by_cases c3 : risesV l[i].f1 = true
            · refine ev_pos c3 ?_
              simp only [cl, c3, Bool.not_false, Bool.and_true, Bool.true_and]; exact ih
            · refine ev_neg c3 (ev_some ?_)
              rw [Bool.not_eq_true] at c3
              simp only [c3, Bool.false_and, Bool.and_false]
      · exact ev_pos rfl (ev_some (by simp only [Bool.not_true, Bool.false_and]))
    refine Ev.step (fun k => by rw [spec_l08Is.l0]) ?_
    rw [chain_at _ _ hi, rdOEntry l i hi]
    refine ev_pos (by omega) (ev_pos (by omega) (Ev.bind (specWord _ hz.1) ?_))
    by_cases c : wordV l[i].f0 = true
    · refine ev_pos c ?_
      by_cases h0 : 0 < i
      · have e1 : wrap64 ((i : Int) - 1) = ((i - 1 : Nat) : Int) := by rw [w64 (by omega) (by omega)]; omega
        rw [e1, rdOEntry l (i - 1) (by omega), prevOf_pos hi h0]
        refine ev_pos (by omega) (ev_pos (by omega) (ev_pos (by omega) (ev_eq (tail _) ?_)))
        simp only [entOk, entLt, c, Bool.true_and, Bool.not_not]
        rw [Bool.and_comm (Op.bytesLess _ _)]
      · rw [prevOf_zero h0]
        refine ev_neg (by omega) (ev_eq (tail false) ?_)
        simp only [entOk, c, Bool.true_and, Bool.not_false, Bool.and_true]
    · refine ev_neg c (ev_eq (tail true) ?_)
      rw [Bool.not_eq_true] at c
      simp only [entOk, c, Bool.false_and, Bool.not_true]

/-- How many numbers an index has in all. -/
def totI : List S108 → Nat
  | [] => 0
  | x :: r => x.f1.length + totI r
def totO : List S63 → Nat
  | [] => 0
  | x :: r => x.f1.length + totO r
theorem tot_map : ∀ l, totO (l.map cvEntry) = totI l
  | [] => rfl
  | x :: r => by rw [List.map_cons, totO, totI, tot_map r]; rfl
theorem tot_le : ∀ (l : List S63), ∀ y ∈ l, y.f1.length ≤ totO l
  | [], y, h => by cases h
  | x :: r, y, h => by
    rw [totO]
    rcases List.mem_cons.1 h with e | e
    · subst e; omega
    · have := tot_le r y e; omega
theorem szIndexT (l : List S108) (hl : l.length ≤ 9223372036854775807) (hf : ∀ y ∈ l, fitEntry y) : ∃ v, Ev (fun k => laws_szIndex.f k l 1048576) v ∧ (0 ≤ v → l.length + totI l ≤ 1048576) := by
  have key := idx_ind l (fun i => ∀ x : Int, 0 ≤ x → x ≤ 1048576 → ∃ v, Ev (fun k => laws_szEntryS.l0 k l x (i : Int)) v ∧ (0 ≤ v → v + (totI (l.drop i) : Int) ≤ x)) ?_ ?_ 0 (Nat.zero_le _)
  · unfold laws_szIndex.f laws_szEntryS.f
    rw [w64 (by omega) (by omega)]
    by_cases h : l.length ≤ 1048576
    · obtain ⟨v, hv, hb⟩ := key (1048576 - (l.length : Int)) (by omega) (by omega)
      rw [List.drop_zero] at hb
      by_cases c : v < 0
      · exact ⟨-1, Ev.bind (ev_neg (by omega) hv) (ev_pos c (Ev.now _)), fun z => by omega⟩
      · exact ⟨v, Ev.bind (ev_neg (by omega) hv) (ev_neg c (Ev.now _)), fun z => by have := hb z; omega⟩
    · exact ⟨-1, Ev.bind (ev_pos (by omega) (Ev.now (-1))) (ev_pos (by omega) (Ev.now _)), fun z => by omega⟩
  · intro x _ _
    refine ⟨x, Ev.step (fun k => by rw [laws_szEntryS.l0]) (ev_neg (by omega) (Ev.now _)), fun _ => ?_⟩
    rw [List.drop_length, totI]; omega
  · intro i hi ih x h0 h1
    have hz := hf l[i] (List.getElem_mem hi)
    have e := szEntry1 l[i].f0 l[i].f1 x hz.1 hz.2 h0 h1
    by_cases h : x - (l[i].f0.size : Int) - (l[i].f1.length : Int) < 0
    · rw [if_pos h] at e
      refine ⟨-1, Ev.step (fun k => by rw [laws_szEntryS.l0]) ?_, fun z => by omega⟩
      rw [rdIEntry l i hi]
      exact ev_pos (by omega) (ev_pos (by omega) (ev_b e (ev_pos (by omega) (Ev.now _))))
    · rw [if_neg h] at e
      obtain ⟨v, hv, hb⟩ := ih (x - (l[i].f0.size : Int) - (l[i].f1.length : Int)) (by omega) (by omega)
      refine ⟨v, Ev.step (fun k => by rw [laws_szEntryS.l0]) ?_, ?_⟩
      · rw [rdIEntry l i hi, wsucc hi hl]
        exact ev_pos (by omega) (ev_pos (by omega) (ev_b e (ev_neg h hv)))
      · intro z
        have := hb z
        rw [drop_at l i hi, totI]
        omega
/-- An index is marked: an answer that is not less than nothing. -/
theorem markIndexEv (L : List S63) (hL : L.length + totO L ≤ 1048576) : ∃ v : Nat, Ev (fun k => laws_markIndex.f k L 1) (v : Int) := by
  have key := idx_ind L (fun i => ∀ (x : List S63) (n : Nat), x.length = L.length → (∀ j, i ≤ j → x[j]? = L[j]?) → n + (L.length - i) + totO (L.drop i) ≤ 10000000 → ∃ (v : Nat) (L2 : List S63), Ev (fun k => laws_markEntryS.l0 k x (n : Int) (i : Int)) ((v : Int), L2)) ?_ ?_ 0 (Nat.zero_le _) L 1 rfl (fun _ _ => rfl) (by rw [List.drop_zero]; omega)
  · obtain ⟨v, L2, K, hK⟩ := key
    exact ⟨v, K, fun k hk => by
      have := hK k hk
      simp only [laws_markIndex.f, laws_markEntryS.f]
      have e : laws_markEntryS.l0 k L 1 0 = some ((v : Int), L2) := this
      rw [e]; rfl⟩
  · intro x n hx _ _
    exact ⟨n, x, Ev.step (fun k => by rw [laws_markEntryS.l0]) (ev_neg (by omega) (Ev.now _))⟩
  · intro i hi ih x n hx hj hn
    have hxi : i < x.length := by omega
    have e : x[i] = L[i] := by
      have := hj i (Nat.le_refl _)
      rw [List.getElem?_eq_getElem hxi, List.getElem?_eq_getElem hi] at this
      exact Option.some.inj this
    rw [drop_at L i hi, totO] at hn
    have hml : (x.set i (⟨mtx n, x[i].f1⟩ : S63)).length = L.length := by rw [List.length_set, hx]
    have hrd : rd_T63 (x.set i (⟨mtx n, x[i].f1⟩ : S63)) (i : Int) = ⟨mtx n, x[i].f1⟩ := by
      rw [rdOEntry _ i (by omega)]
      simp
    obtain ⟨l2, h1, h2, _⟩ := markInts x[i].f1 (n + 1) (by rw [e]; omega) (by omega)
    obtain ⟨v, L2, hv⟩ := ih ((x.set i (⟨mtx n, x[i].f1⟩ : S63)).set i ⟨mtx n, l2⟩) (n + 1 + x[i].f1.length) (by rw [List.length_set, hml]) (fun j hj2 => by
      rw [List.getElem?_set_ne (by omega), List.getElem?_set_ne (by omega)]
      exact hj j (by omega)) (by rw [e]; omega)
    refine ⟨v, L2, Ev.step (fun k => by rw [laws_markEntryS.l0]) ?_⟩
    refine ev_pos (by omega) (Ev.bind (mtx_ev n (by omega)) (ev_pos (by omega) ?_))
    simp only [Int.toNat_natCast]
    rw [rdOEntry x i hxi, hrd]
    have w1 : wrap64 ((n : Int) + 1) = ((n + 1 : Nat) : Int) := by rw [w64 (by omega) (by omega)]; rfl
    rw [w1, wsucc hi (by omega)]
    exact Ev.bind h1 hv

abbrev TE := S63
/-- An index is marked and held: what the second comes to is what the first came to. -/
theorem markHeld (L : List TE) (hL : L.length + totO L ≤ 1048576) : ∃ (v : Nat) (L2 : List TE), Ev (fun k => laws_markEntryS.f k L 1) ((v : Int), L2) ∧ Ev (fun k => laws_heldIndex.f k L2 1) (v : Int) := by
  have key := idx_ind L (fun i => ∀ (x : List TE) (n : Nat), x.length = L.length → (∀ j, i ≤ j → x[j]? = L[j]?) → n + (L.length - i) + totO (L.drop i) ≤ 10000000 → ∃ (v : Nat) (L2 : List TE), Ev (fun k => laws_markEntryS.l0 k x (n : Int) (i : Int)) ((v : Int), L2) ∧ L2.length = L.length ∧ (∀ j, j < i → L2[j]? = x[j]?) ∧ Ev (fun k => laws_heldEntryS.l0 k L2 (n : Int) (i : Int)) (v : Int)) ?_ ?_ 0 (Nat.zero_le _) L 1 rfl (fun _ _ => rfl) (by rw [List.drop_zero]; omega)
  · obtain ⟨v, L2, h1, h2, h3, h4⟩ := key
    refine ⟨v, L2, h1, ?_⟩
    unfold laws_heldIndex.f laws_heldEntryS.f
    exact Ev.bind h4 (ev_neg (by omega) (Ev.now _))
  · intro x n hx _ _
    exact ⟨n, x, Ev.step (fun k => by rw [laws_markEntryS.l0]) (ev_neg (by omega) (Ev.now _)), hx, fun _ _ => rfl, Ev.step (fun k => by rw [laws_heldEntryS.l0]) (ev_neg (by omega) (Ev.now _))⟩
  · intro i hi ih x n hx hj hn
    have hxi : i < x.length := by omega
    have e : x[i] = L[i] := by
      have := hj i (Nat.le_refl _)
      rw [List.getElem?_eq_getElem hxi, List.getElem?_eq_getElem hi] at this
      exact Option.some.inj this
    rw [drop_at L i hi, totO] at hn
    have hml : (x.set i (⟨mtx n, x[i].f1⟩ : TE)).length = L.length := by rw [List.length_set, hx]
    have hrd : rd_T63 (x.set i (⟨mtx n, x[i].f1⟩ : TE)) (i : Int) = ⟨mtx n, x[i].f1⟩ := by
      rw [rdOEntry _ i (by omega)]
      simp
    obtain ⟨l2, h1, h2, h3⟩ := markInts x[i].f1 (n + 1) (by rw [e]; omega) (by omega)
    have hd := heldInts l2 (n + 1) (by rw [h2, e]; omega) (by omega) (by rw [h2]; exact h3)
    rw [h2] at hd
    obtain ⟨v, L2, hv, g1, g2, g3⟩ := ih ((x.set i (⟨mtx n, x[i].f1⟩ : TE)).set i ⟨mtx n, l2⟩) (n + 1 + x[i].f1.length) (by rw [List.length_set, hml]) (fun j hj2 => by
      rw [List.getElem?_set_ne (by omega), List.getElem?_set_ne (by omega)]
      exact hj j (by omega)) (by rw [e]; omega)
    have w1 := Aside0.mk (show wrap64 ((n : Int) + 1) = ((n + 1 : Nat) : Int) from by rw [w64 (by omega) (by omega)]; rfl)
    refine ⟨v, L2, Ev.step (fun k => by rw [laws_markEntryS.l0]) ?_, g1, fun j hj2 => ?_, Ev.step (fun k => by rw [laws_heldEntryS.l0]) ?_⟩
    · refine ev_pos (by omega) (Ev.bind (mtx_ev n (by omega)) (ev_pos (by omega) ?_))
      simp only [Int.toNat_natCast]
      rw [rdOEntry x i hxi, hrd, w1.out, wsucc hi (by omega)]
      exact Ev.bind h1 hv
    · rw [g2 j (by omega), List.getElem?_set_ne (by omega), List.getElem?_set_ne (by omega)]
    · have q : L2[i]'(by omega) = ⟨mtx n, l2⟩ := by
        have z := g2 i (by omega)
        rw [List.getElem?_eq_getElem (by omega), List.getElem?_set_self (by omega)] at z
        exact Option.some.inj z
      refine ev_pos (by omega) (ev_pos (by omega) (Ev.bind (mtx_ev n (by omega)) ?_))
      rw [rdOEntry L2 i (by omega), q, w1.out, wsucc hi (by omega)]
      exact ev_pos rfl (Ev.bind hd (ev_neg (by omega) g3))
/-- What both answer. -/
def dropV (L : List TE) (q : Int) : List TE × Bool := if indexV L = true ∧ (1 ≤ q ∧ q ≤ 1000000000) then ((L.map (dropN q)).filter hasN, true) else ([], false)
theorem specDropL (L : List TE) (hl : L.length ≤ 1048576) (hf : ∀ y ∈ L, y.f1.length ≤ 100000000) (q : Int) : ∀ i, i ≤ L.length → ∀ out : List TE, out.length + (L.length - i) ≤ 10000000 → Ev (fun k => spec_DropFrom.l0 k q (i : Int) L out) (out ++ ((L.drop i).map (dropN q)).filter hasN, true) := by
  refine idx_ind L _ ?_ ?_
  · intro out ho
    refine Ev.step (fun k => by rw [spec_DropFrom.l0]) ?_
    refine ev_neg (by omega) (ev_some ?_)
    rw [List.drop_length]
    simp
  · intro i hi ih out ho
    refine Ev.step (fun k => by rw [spec_DropFrom.l0]) (ev_pos (by omega) ?_)
    have hz := hf L[i] (List.getElem_mem hi)
    have inner := idx_ind L[i].f1 (fun j => ∀ acc : List Int, acc = (L[i].f1.take j).filter (fun n => !eqQ q n) → Ev (fun k => spec_DropFrom.l1 k q (i : Int) acc (j : Int) L out) (out ++ ((L.drop i).map (dropN q)).filter hasN, true)) ?_ ?_
    · exact inner 0 (Nat.zero_le _) [] rfl
    · intro acc ha
      rw [List.take_length] at ha
      refine Ev.step (fun k => by rw [spec_DropFrom.l1]) ?_
      rw [rdOEntry L i hi]
      refine ev_pos (by omega) (ev_pos (by omega) (ev_neg (by omega) ?_))
      rw [drop_at L i hi, List.map_cons, List.filter_cons, wsucc hi (by omega)]
      have e : dropN q L[i] = ⟨L[i].f0, acc⟩ := by rw [ha]; rfl
      rw [e]
      by_cases c : (acc.length : Int) > 0
      · have h1 : hasN ⟨L[i].f0, acc⟩ = true := by
          show (!((acc.length : Int) == 0)) = true
          rw [beq_eq_false_iff_ne.mpr (by omega)]; rfl
        rw [if_pos h1]
        refine ev_pos c (ev_pos (by omega) (ev_eq (ih (out ++ [⟨L[i].f0, acc⟩]) (by simp; omega)) ?_))
        rw [List.append_assoc]; rfl
      · have h1 : ¬ hasN ⟨L[i].f0, acc⟩ = true := by
          show ¬ (!((acc.length : Int) == 0)) = true
          rw [beq_iff_eq.mpr (by omega)]; simp
        rw [if_neg h1]
        exact ev_neg c (ih out (by omega))
    · intro j hj jh acc ha
      refine Ev.step (fun k => by rw [spec_DropFrom.l1]) ?_
      rw [rdOEntry L i hi, rd_at L[i].f1 j hj, wsucc hj (by omega)]
      have ht : (L[i].f1.take (j + 1)).filter (fun n => !eqQ q n) = acc ++ (if L[i].f1[j] = q then [] else [L[i].f1[j]]) := by
        rw [List.take_succ_eq_append_getElem hj, List.filter_append, ← ha]
        congr 1
        by_cases c : L[i].f1[j] = q
        · simp [eqQ, c]
        · simp [eqQ, c]
      have hal : acc.length ≤ 100000000 := by
        have := List.length_filter_le (fun n => !eqQ q n) (L[i].f1.take j)
        rw [← ha, List.length_take] at this
        omega
      refine ev_pos (by omega) (ev_pos (by omega) (ev_pos (by omega) (ev_pos (by omega) ?_)))
      by_cases c : L[i].f1[j] = q
      · rw [if_pos c, List.append_nil] at ht
        exact ev_pos c (jh acc ht.symm)
      · rw [if_neg c] at ht
        exact ev_neg c (ev_pos (by omega) (jh _ ht.symm))
theorem specDrop (L : List TE) (hl : L.length ≤ 1048576) (hf : ∀ y ∈ L, y.f0.size ≤ 140737488351232 ∧ y.f1.length ≤ 100000000) (q : Int) : Ev (fun k => spec_DropFrom.f k L q) (dropV L q) := by
  unfold spec_DropFrom.f dropV
  refine Ev.bind (specIndex L (by omega) hf) ?_
  by_cases c : indexV L = true
  · refine ev_pos c (ev_b (specIn _ _ _) ?_)
    by_cases d : 1 ≤ q ∧ q ≤ 1000000000
    · rw [if_pos ⟨c, d⟩, decide_eq_true d]
      refine Ev.step (fun k => by rw [spec_DropFrom.j0]) (ev_neg (by simp) ?_)
      have := specDropL L hl (fun y hy => (hf y hy).2) q 0 (Nat.zero_le _) [] (by simp; omega)
      rw [List.drop_zero, List.nil_append] at this
      exact this
    · rw [if_neg (fun z => d z.2), decide_eq_false d]
      exact Ev.step (fun k => by rw [spec_DropFrom.j0]) (ev_pos (by simp) (Ev.now _))
  · rw [if_neg (fun z => c z.1)]
    exact ev_neg c (Ev.step (fun k => by rw [spec_DropFrom.j0]) (ev_pos rfl (Ev.now _)))
theorem cloneIxEv (L : List TE) (hl : L.length ≤ 1048576) (hf : ∀ y ∈ L, y.f1.length ≤ 100000000) : Ev (fun k => impl_cloneIndex.f k L) L := by
  unfold impl_cloneIndex.f
  have key := idx_ind L (fun i => ∀ out : List TE, out = L.take i → Ev (fun k => impl_cloneIndex.l0 k L (L.length : Int) (i : Int) out) L) ?_ ?_
  · exact key 0 (Nat.zero_le _) [] rfl
  · intro out ho
    refine Ev.step (fun k => by rw [impl_cloneIndex.l0]) (ev_neg (by omega) (ev_some ?_))
    rw [ho, List.take_length]
  · intro i hi ih out ho
    have hz := hf L[i] (List.getElem_mem hi)
    have hol : out.length ≤ L.length := by rw [ho, List.length_take]; omega
    refine Ev.step (fun k => by rw [impl_cloneIndex.l0]) ?_
    rw [rdOEntry L i hi, wsucc hi (by omega)]
    have cl : slices_Clone_int64_int64.f L[i].f1 = some L[i].f1 := by
      unfold slices_Clone_int64_int64.f
      rw [if_pos (by omega)]
    refine ev_pos (by omega) (ev_pos (by omega) (ev_pos (by omega) (ev_b cl (ev_pos (by omega) (ih _ ?_)))))
    rw [List.take_succ_eq_append_getElem hi, ho]
theorem implDrop (L : List TE) (hl : L.length ≤ 1048576) (hf : ∀ y ∈ L, y.f0.size ≤ 140737488351232 ∧ y.f1.length ≤ 100000000) (q : Int) : Ev (fun k => impl_DropFrom.f k L q) (dropV L q) := by
  unfold impl_DropFrom.f dropV
  refine Ev.bind (implIndex L (by omega) hf) ?_
  by_cases c : indexV L = true
  · refine ev_pos c ?_
    have hn : impl_isNumber.f q = some (decide (1 ≤ q ∧ q ≤ 1000000000)) := by
      unfold impl_isNumber.f
      rw [implIn]; rfl
    refine ev_b hn ?_
    by_cases d : 1 ≤ q ∧ q ≤ 1000000000
    · rw [if_pos ⟨c, d⟩]
      exact ev_pos (decide_eq_true d) (Ev.bind (cloneIxEv L hl (fun y hy => (hf y hy).2)) (Ev.now _))
    · rw [if_neg (fun z => d z.2)]
      exact ev_neg (by simpa using d) (Ev.now _)
  · rw [if_neg (fun z => c z.1)]
    exact ev_neg c (Ev.now _)
theorem dropTot (q : Int) : ∀ L : List TE, ((L.map (dropN q)).filter hasN).length + totO ((L.map (dropN q)).filter hasN) ≤ L.length + totO L ∧ ∀ y ∈ (L.map (dropN q)).filter hasN, ∃ x ∈ L, y.f0 = x.f0
  | [] => ⟨Nat.le_refl _, fun y hy => by cases hy⟩
  | x :: r => by
    obtain ⟨h1, h2⟩ := dropTot q r
    have h3 : (dropN q x).f1.length ≤ x.f1.length := List.length_filter_le _ _
    rw [List.map_cons, List.filter_cons]
    constructor
    · split
      · simp only [List.length_cons, totO]
        omega
      · simp only [List.length_cons, totO]
        omega
    · intro y hy
      split at hy
      · rcases List.mem_cons.mp hy with rfl | hy
        · exact ⟨x, List.mem_cons_self, rfl⟩
        · obtain ⟨z, hz, e⟩ := h2 y hy
          exact ⟨z, List.mem_cons_of_mem _ hz, e⟩
      · obtain ⟨z, hz, e⟩ := h2 y hy
        exact ⟨z, List.mem_cons_of_mem _ hz, e⟩
theorem Ev.both {α : Type} {g : Nat → Option α} {a : α} {p : Nat → Prop} (h : Ev g a) (e : ∃ K, ∀ k, K ≤ k → p k) : ∃ K, ∀ k, K ≤ k → g k = some a ∧ p k := by
  obtain ⟨K, hK⟩ := h
  obtain ⟨K2, hK2⟩ := e
  exact ⟨K + K2, fun k hk => ⟨hK k (by omega), hK2 k (by omega)⟩⟩

theorem FnExactDropFrom : laws_FnExactDropFrom.Pure := by
  intro l q hl hq
  have hm : l.length ≤ 9223372036854775807 := by have := hl.1; unfold maxLen at this; omega
  have hf : ∀ y ∈ l, fitEntry y := fun y hy => ⟨(hl.2.2 y hy).1, by have := (hl.2.2 y hy).2.2.1; omega⟩
  obtain ⟨v, hv, hb⟩ := szIndexT l hm hf
  by_cases c : v < 0
  · obtain ⟨K, hK⟩ := hv
    exact ⟨K, v, hK K (Nat.le_refl _), .inl c⟩
  · have h2 := hb (by omega)
    have ht : (l.map cvEntry).length + totO (l.map cvEntry) ≤ 1048576 := by rw [List.length_map, tot_map]; exact h2
    have hfo : ∀ y ∈ l.map cvEntry, y.f0.size ≤ 140737488351232 := by
      intro y hy
      obtain ⟨x, hx, rfl⟩ := List.mem_map.mp hy
      exact (hf x hx).1
    have hi : ∀ y ∈ l, y.f1.length ≤ 100000000 := by
      intro y hy
      have := tot_le (l.map cvEntry) (cvEntry y) (List.mem_map_of_mem hy)
      have e : (cvEntry y).f1.length = y.f1.length := rfl
      omega
    have ts := toIndexEv l (by omega) hi
    generalize l.map cvEntry = L at ht hfo ts
    have hfL : ∀ y ∈ L, y.f0.size ≤ 140737488351232 ∧ y.f1.length ≤ 100000000 := fun y hy => ⟨hfo y hy, by have := tot_le L y hy; omega⟩
    have sp := specDrop L (by omega) hfL q
    have im := implDrop L (by omega) hfL q
    have ea := eqIndexEv L (by omega) (fun y hy => (hfL y hy).2)
    have hr : (dropV L q).1.length + totO (dropV L q).1 ≤ 1048576 := by
      unfold dropV
      split
      · have := (dropTot q L).1
        show ((L.map (dropN q)).filter hasN).length + totO ((L.map (dropN q)).filter hasN) ≤ 1048576
        omega
      · show 0 + totO [] ≤ 1048576
        simp [totO]
    generalize dropV L q = r at sp im hr
    obtain ⟨r, b⟩ := r
    have hr2 : r.length + totO r ≤ 1048576 := hr
    have er := eqIndexEv r (by omega) (fun y hy => by have := tot_le r y hy; omega)
    obtain ⟨mv, am, e1, _⟩ := markHeld L ht
    obtain ⟨s, rm, e2, e3⟩ := markHeld r hr2
    obtain ⟨K, hK⟩ := Ev.both hv (Ev.both ts (Ev.both sp (Ev.both im (Ev.both er (Ev.both ea (Ev.both e1 (Ev.both e2 (Ev.both e3 (⟨0, fun _ _ => trivial⟩ : ∃ K : Nat, ∀ k, K ≤ k → True)))))))))
    obtain ⟨k1, k2, k3, k4, k5, k6, k7, k8, k9, -⟩ := hK K (Nat.le_refl _)
    exact ⟨K, v, k1, .inr ⟨c, L, r, b, mv, am, s, rm, k2, k3, k4, k5, k6, k7, by omega, k8, k9, by omega⟩⟩

end Go.Proofs.Ytcnhepjdibbkgaa.Pure
