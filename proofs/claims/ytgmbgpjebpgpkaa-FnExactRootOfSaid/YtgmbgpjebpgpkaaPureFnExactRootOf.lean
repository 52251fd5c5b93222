/- RootOf: the program and the reference answer alike, for every log and number. -/
import Derived.Test.YtgmbgpjebpgpkaaQFnExactRootOfx10
namespace Go.Proofs.Ytgmbgpjebpgpkaa.Pure
open Go.RowKit Go.Proofs.Ytgmbgpjebpgpkaa.QFnExactRootOf Go.Proofs.YtgmbgpjebpgpkaaW.PrintWords Go.Proofs.YtgmbgpjebpgpkaaW.PrintLast Go.Proofs.YtgmbgpjebpgpkaaW.PrintMore
set_option linter.unusedVariables false

theorem w64 {n : Int} (h1 : -9223372036854775808 ≤ n) (h2 : n ≤ 9223372036854775807) : wrap64 n = n := by
  unfold wrap64
  omega
theorem wf64 {n : Int} (h : (Lit.int .i64 n).wf = true) : -9223372036854775808 ≤ n ∧ n ≤ 9223372036854775807 := by
  simp [Lit.wf, IntKind.min, IntKind.max, IntKind.signed, IntKind.bits] at h
  omega

theorem ev_pos {α : Type} {c : Prop} [Decidable c] {g f : Nat → Option α} {r : α} (h : c) (e : Ev g r) : Ev (fun k => if c then g k else f k) r := Ev.congr (fun _ => if_pos h) e
theorem ev_neg {α : Type} {c : Prop} [Decidable c] {g f : Nat → Option α} {r : α} (h : ¬ c) (e : Ev f r) : Ev (fun k => if c then g k else f k) r := Ev.congr (fun _ => if_neg h) e
theorem ev_b {α β : Type} {o : Option α} {a : α} {f : Nat → α → Option β} {r : β} (h : o = some a) (e : Ev (fun k => f k a) r) : Ev (fun k => o.bind (f k)) r := by subst h; exact e
theorem ev_eq {α : Type} {g : Nat → Option α} {r q : α} (e : Ev g r) (h : r = q) : Ev g q := h ▸ e
theorem ev_some {α : Type} {r q : α} (h : r = q) : Ev (fun _ => some r) q := h ▸ Ev.now r
/-- Down from a list's end. -/
theorem idx_ind {α : Type} (l : List α) (P : Nat → Prop) (hend : P l.length) (hstep : ∀ i, i < l.length → P (i + 1) → P i) : ∀ i, i ≤ l.length → P i := by
  have key : ∀ d i, i + d = l.length → P i := by
    intro d
    induction d with
    | zero => intro i h; have : i = l.length := by omega
              rw [this]; exact hend
    | succ d ih => intro i h; exact hstep i (by omega) (ih (i + 1) (by omega))
  intro i h
  exact key (l.length - i) i (by omega)
theorem rd_at (l : List Int) (i : Nat) (h : i < l.length) : rd l (i : Int) = l[i] := by
  simp [rd, List.getD, h]
theorem rdOf_at {α : Type} (d : α) (l : List α) (i : Nat) (h : i < l.length) : rdOf d l (i : Int) = l[i] := by
  simp [rdOf, List.getD, h]
theorem drop_at {α : Type} (l : List α) (i : Nat) (h : i < l.length) : l.drop i = l[i] :: l.drop (i + 1) := List.drop_eq_getElem_cons h
theorem wsucc {i n : Nat} (h : i < n) (hn : n ≤ 9223372036854775807) : wrap64 ((i : Int) + 1) = ((i + 1 : Nat) : Int) := by
  rw [w64 (by omega) (by omega)]; rfl

/-- Tests one behind the other: the first that fails ends them. -/
theorem ev_and {g h : Nat → Option Bool} {b r : Bool} (hg : Ev g b) (hh : b = true → Ev h r) : Ev (fun k => (g k).bind fun t => if t = true then h k else some false) (b && r) := by
  refine Ev.bind hg ?_
  cases b with
  | true => exact ev_pos rfl (ev_eq (hh rfl) (by simp))
  | false => exact ev_neg (by simp) (ev_some (by simp))
theorem ev_andJ {g h j : Nat → Option Bool} {b r : Bool} (hg : Ev g b) (hj : Ev j false) (hh : b = true → Ev h r) : Ev (fun k => (g k).bind fun t => if t = true then h k else j k) (b && r) := by
  refine Ev.bind hg ?_
  cases b with
  | true => exact ev_pos rfl (ev_eq (hh rfl) (by simp))
  | false => exact ev_neg (by simp) (ev_eq hj (by simp))
theorem ev_not {c : Prop} [Decidable c] {h : Nat → Option Bool} {b r : Bool} (hb : b = true ↔ ¬ c) (hh : b = true → Ev h r) : Ev (fun k => if c then some false else h k) (b && r) := by
  by_cases hc : c
  · have : b = false := by rw [← Bool.not_eq_true]; exact fun z => hb.mp z hc
    subst this
    exact ev_pos hc (ev_some (by simp))
  · have := hb.mpr hc
    subst this
    exact ev_neg hc (ev_eq (hh rfl) (by simp))
theorem ev_notb {g h : Nat → Option Bool} {b r : Bool} (hg : Ev g b) (hh : b = false → Ev h r) : Ev (fun k => (g k).bind fun t => if t = true then some false else h k) (!b && r) := by
  refine Ev.bind hg ?_
  cases b with
  | false => exact ev_neg (by simp) (ev_eq (hh rfl) (by simp))
  | true => exact ev_pos rfl (ev_some (by simp))
theorem ev_of {α : Type} {o : Option α} {a : α} (h : o = some a) : Ev (fun _ => o) a := by subst h; exact Ev.now a

theorem implIn (a b c : Int) : impl_in.f a b c = some (decide (b ≤ a ∧ a ≤ c)) := by
  unfold impl_in.f
  by_cases h : a ≥ b
  · rw [if_pos h]; simp [h]
  · rw [if_neg h]; simp; intro h2; omega
theorem implTick (a : Int) : impl_isTick.f a = some (decide (0 ≤ a ∧ a ≤ 1000000)) := by
  unfold impl_isTick.f
  rw [implIn]; rfl

theorem specIn (a b c : Int) : spec_l00In.f a b c = some (decide (b ≤ a ∧ a ≤ c)) := by
  unfold spec_l00In.f
  by_cases h : a ≥ b
  · rw [if_pos h]; simp [h]
  · rw [if_neg h]; simp; intro h2; omega

/-- Is every byte of a text from a place on between two bounds? -/
def betw (s : ByteArray) (lo hi : Int) : Nat → Nat → Bool
  | _, 0 => true
  | i, n + 1 => decide (lo ≤ bt s (i : Int) ∧ bt s (i : Int) ≤ hi) && betw s lo hi (i + 1) n
theorem nat_ind (n : Nat) (P : Nat → Prop) (hend : P n) (hstep : ∀ i, i < n → P (i + 1) → P i) : ∀ i, i ≤ n → P i := by
  have key : ∀ d i, i + d = n → P i := by
    intro d
    induction d with
    | zero => intro i h; have : i = n := by omega
              rw [this]; exact hend
    | succ d ih => intro i h; exact hstep i (by omega) (ih (i + 1) (by omega))
  intro i h
  exact key (n - i) i (by omega)
theorem betw_step (s : ByteArray) (lo hi : Int) {i n : Nat} (h : i < n) : betw s lo hi i (n - i) = (decide (lo ≤ bt s (i : Int) ∧ bt s (i : Int) ≤ hi) && betw s lo hi (i + 1) (n - (i + 1))) := by
  rw [show n - i = (n - (i + 1)) + 1 by omega, betw]
theorem betw_no (s : ByteArray) {lo hi : Int} {i n : Nat} (h : i < n) (c : ¬ (lo ≤ bt s (i : Int) ∧ bt s (i : Int) ≤ hi)) : betw s lo hi i (n - i) = false := by
  rw [betw_step s lo hi h, decide_eq_false c]; rfl
theorem betw_yes (s : ByteArray) {lo hi : Int} {i n : Nat} (h : i < n) (c : lo ≤ bt s (i : Int) ∧ bt s (i : Int) ≤ hi) : betw s lo hi i (n - i) = betw s lo hi (i + 1) (n - (i + 1)) := by
  rw [betw_step s lo hi h, decide_eq_true c]; rfl

theorem implText (s : ByteArray) (hs : s.size ≤ 140737488351232) : Ev (fun k => impl_IsText.f k s) (betw s 32 126 0 s.size && decide (s.size ≤ 80)) := by
  have key := nat_ind s.size (fun i => Ev (fun k => impl_IsText.l0 k s (s.size : Int) (i : Int)) (betw s 32 126 i (s.size - i) && decide (s.size ≤ 80))) ?_ ?_ 0 (Nat.zero_le _)
  · exact key
  · refine Ev.step (fun k => by rw [impl_IsText.l0]) ?_
    refine ev_neg (by omega) (ev_some ?_)
    simp [betw]; omega
  · intro i hi ih
    refine Ev.step (fun k => by rw [impl_IsText.l0]) ?_
    refine ev_pos (by omega) (ev_pos (by omega) (ev_pos (by omega) ?_))
    by_cases c1 : bt s (i : Int) < 32
    · refine ev_pos c1 (ev_some ?_)
      rw [betw_no s hi (by omega)]; rfl
    · refine ev_neg c1 ?_
      by_cases c2 : bt s (i : Int) > 126
      · refine ev_pos c2 (ev_some ?_)
        rw [betw_no s hi (by omega)]; rfl
      · refine ev_neg c2 ?_
        rw [betw_yes s hi (by omega), wsucc hi (by omega)]
        exact ih

theorem specText (s : ByteArray) (hs : s.size ≤ 140737488351232) : Ev (fun k => spec_l01IsText.f k s) (betw s 32 126 0 s.size && decide (s.size ≤ 80)) := by
  have key := nat_ind s.size (fun i => Ev (fun k => spec_l01IsText.l0 k s (i : Int)) (betw s 32 126 i (s.size - i) && decide (s.size ≤ 80))) ?_ ?_ 0 (Nat.zero_le _)
  · exact key
  · refine Ev.step (fun k => by rw [spec_l01IsText.l0]) ?_
    refine ev_neg (by omega) (ev_some ?_)
    simp [betw]; omega
  · intro i hi ih
    refine Ev.step (fun k => by rw [spec_l01IsText.l0]) ?_
    refine ev_pos (by omega) (ev_pos (by omega) ?_)
    by_cases c1 : bt s (i : Int) < 32
    · refine ev_pos c1 (ev_some ?_)
      rw [betw_no s hi (by omega)]; rfl
    · refine ev_neg c1 ?_
      by_cases c2 : bt s (i : Int) > 126
      · refine ev_pos c2 (ev_some ?_)
        rw [betw_no s hi (by omega)]; rfl
      · refine ev_neg c2 ?_
        rw [betw_yes s hi (by omega), wsucc hi (by omega)]
        exact ih

/-- Each is right, and each stands in order behind the one before. -/
def chain {α : Type} (ok : α → Bool) (lt : α → α → Bool) : Option α → List α → Bool
  | _, [] => true
  | p, x :: r => ok x && (match p with | none => true | some y => lt y x) && chain ok lt (some x) r
def prevOf {α : Type} (l : List α) (i : Nat) : Option α := if i = 0 then none else l[i - 1]?
theorem prevOf_succ {α : Type} {l : List α} {i : Nat} (h : i < l.length) : prevOf l (i + 1) = some l[i] := by
  unfold prevOf
  rw [if_neg (by omega), Nat.add_sub_cancel, List.getElem?_eq_getElem h]
theorem prevOf_pos {α : Type} {l : List α} {i : Nat} (h : i < l.length) (h0 : 0 < i) : prevOf l i = some (l[i - 1]'(by omega)) := by
  unfold prevOf
  rw [if_neg (by omega), List.getElem?_eq_getElem (by omega)]
theorem prevOf_zero {α : Type} {l : List α} {i : Nat} (h0 : ¬ 0 < i) : prevOf l i = none := by
  unfold prevOf; rw [if_pos (by omega)]
theorem chain_at {α : Type} (ok : α → Bool) (lt : α → α → Bool) {l : List α} {i : Nat} (h : i < l.length) : chain ok lt (prevOf l i) (l.drop i) = (ok l[i] && (match prevOf l i with | none => true | some y => lt y l[i]) && chain ok lt (prevOf l (i + 1)) (l.drop (i + 1))) := by
  rw [drop_at l i h, prevOf_succ h]
  rfl

/-- Members that rise, each right. -/
def memOk (x : Int) : Bool := decide (1 ≤ x ∧ x ≤ 1000)
def memsV (l : List Int) : Bool := chain memOk (fun y x => decide (y < x)) none l
theorem implMems (l : List Int) (hl : l.length ≤ 100000000) : Ev (fun k => impl_rising_v1.f k l) (memsV l) := by
  have nm : ∀ x, impl_isMember.f x = some (memOk x) := by
    intro x
    unfold impl_isMember.f impl_in.f memOk
    by_cases h : x ≥ 1
    · rw [if_pos h]; simp only [Option.bind_some]; congr 1; rw [decide_eq_decide]; omega
    · rw [if_neg h]; simp only [Option.bind_some]; congr 1; rw [eq_comm, decide_eq_false_iff_not]; omega
  refine idx_ind l (fun i => Ev (fun k => impl_rising_v1.l0 k l l (l.length : Int) (i : Int)) (chain memOk (fun y x => decide (y < x)) (prevOf l i) (l.drop i))) ?_ ?_ 0 (Nat.zero_le _)
  · refine Ev.step (fun k => by rw [impl_rising_v1.l0]) ?_
    refine ev_neg (by omega) (ev_some ?_)
    simp [chain]
  · intro i hi ih
    refine Ev.step (fun k => by rw [impl_rising_v1.l0]) ?_
    rw [chain_at _ _ hi, wsucc hi (by omega), rd_at l i hi]
    refine ev_pos (by omega) (ev_pos (by omega) (ev_pos (by omega) (ev_b (nm _) ?_)))
    by_cases c : memOk l[i] = true
    · refine ev_pos c ?_
      by_cases h0 : 0 < i
      · have e1 : wrap64 ((i : Int) - 1) = ((i - 1 : Nat) : Int) := by rw [w64 (by omega) (by omega)]; omega
        rw [e1, rd_at l (i - 1) (by omega), prevOf_pos hi h0]
        refine ev_pos (by omega) (ev_pos (by omega) (ev_pos (by omega) ?_))
        by_cases g : l[i - 1]'(by omega) ≥ l[i]
        · refine ev_pos g (ev_some ?_)
          have : decide (l[i - 1]'(by omega) < l[i]) = false := decide_eq_false (by omega)
          simp only [this, Bool.and_false, Bool.false_and]
        · refine ev_neg g ?_
          have : decide (l[i - 1]'(by omega) < l[i]) = true := decide_eq_true (by omega)
          simp only [c, this, Bool.and_true, Bool.true_and]; exact ih
      · rw [prevOf_zero h0]
        refine ev_neg (by omega) ?_
        simp only [c, Bool.and_true, Bool.true_and]; exact ih
    · refine ev_neg c (ev_some ?_)
      rw [Bool.not_eq_true] at c
      simp only [c, Bool.false_and]
theorem specMems (l : List Int) (hl : l.length ≤ 100000000) : Ev (fun k => spec_l00Rises.f k l 1 1000) (memsV l) := by
  have nm : ∀ x, spec_l00In.f x 1 1000 = some (memOk x) := by
    intro x
    unfold spec_l00In.f memOk
    by_cases h : x ≥ 1
    · rw [if_pos h]; congr 1; rw [decide_eq_decide]; omega
    · rw [if_neg h]; congr 1; rw [eq_comm, decide_eq_false_iff_not]; omega
  refine idx_ind l (fun i => Ev (fun k => spec_l00Rises.l0 k l 1 1000 (i : Int)) (chain memOk (fun y x => decide (y < x)) (prevOf l i) (l.drop i))) ?_ ?_ 0 (Nat.zero_le _)
  · refine Ev.step (fun k => by rw [spec_l00Rises.l0]) ?_
    refine ev_neg (by omega) (ev_some ?_)
    simp [chain]
  · intro i hi ih
    refine Ev.step (fun k => by rw [spec_l00Rises.l0]) ?_
    rw [chain_at _ _ hi, wsucc hi (by omega), rd_at l i hi]
    refine ev_pos (by omega) (ev_pos (by omega) (ev_b (nm _) ?_))
    by_cases c : memOk l[i] = true
    · refine ev_pos c ?_
      by_cases h0 : 0 < i
      · have e1 : wrap64 ((i : Int) - 1) = ((i - 1 : Nat) : Int) := by rw [w64 (by omega) (by omega)]; omega
        rw [e1, rd_at l (i - 1) (by omega), prevOf_pos hi h0]
        refine ev_pos (by omega) (ev_pos (by omega) (ev_pos (by omega) ?_))
        by_cases g : l[i - 1]'(by omega) ≥ l[i]
        · refine ev_pos g (ev_some ?_)
          have : decide (l[i - 1]'(by omega) < l[i]) = false := decide_eq_false (by omega)
          simp only [this, Bool.and_false, Bool.false_and]
        · refine ev_neg g ?_
          have : decide (l[i - 1]'(by omega) < l[i]) = true := decide_eq_true (by omega)
          simp only [c, this, Bool.and_true, Bool.true_and]; exact ih
      · rw [prevOf_zero h0]
        refine ev_neg (by omega) ?_
        simp only [c, Bool.and_true, Bool.true_and]; exact ih
    · refine ev_neg c (ev_some ?_)
      rw [Bool.not_eq_true] at c
      simp only [c, Bool.false_and]

/-- Is it there? -/
def hasV (l : List Int) (x : Int) : Bool := l.any (fun y => decide (y = x))
theorem hasV_at {l : List Int} {i : Nat} (x : Int) (h : i < l.length) : hasV (l.drop i) x = (decide (l[i] = x) || hasV (l.drop (i + 1)) x) := by
  rw [drop_at l i h]
  simp only [hasV, List.any_cons]
theorem specHas (l : List Int) (x : Int) (hl : l.length ≤ 100000000) : Ev (fun k => spec_l00Has.f k l x) (hasV l x) := by
  refine idx_ind l (fun i => Ev (fun k => spec_l00Has.l0 k l x (i : Int)) (hasV (l.drop i) x)) ?_ ?_ 0 (Nat.zero_le _)
  · refine Ev.step (fun k => by rw [spec_l00Has.l0]) ?_
    refine ev_neg (by omega) (ev_some ?_)
    simp [hasV]
  · intro i hi ih
    refine Ev.step (fun k => by rw [spec_l00Has.l0]) ?_
    rw [hasV_at x hi, wsucc hi (by omega), rd_at l i hi]
    refine ev_pos (by omega) (ev_pos (by omega) ?_)
    by_cases c : l[i] = x
    · refine ev_pos c (ev_some ?_)
      rw [decide_eq_true c, Bool.true_or]
    · refine ev_neg c (ev_eq ih ?_)
      rw [decide_eq_false c, Bool.false_or]
theorem implHas (l : List Int) (x : Int) (hl : l.length ≤ 100000000) : Ev (fun k => slices_Contains_int64_int64.f k l x) (hasV l x) := by
  have key := idx_ind l (fun i => ∃ v, Ev (fun k => slices_Index_int64_int64.l0 k l x (l.length : Int) (i : Int)) v ∧ decide (v ≥ 0) = hasV (l.drop i) x) ?_ ?_ 0 (Nat.zero_le _)
  · obtain ⟨v, hv, e⟩ := key
    unfold slices_Contains_int64_int64.f slices_Index_int64_int64.f
    exact Ev.bind hv (ev_some e)
  · refine ⟨-1, Ev.step (fun k => by rw [slices_Index_int64_int64.l0]) (ev_neg (by omega) (Ev.now _)), ?_⟩
    simp [hasV]
  · intro i hi ih
    obtain ⟨v, hv, e⟩ := ih
    by_cases c : x = l[i]
    · refine ⟨(i : Int), Ev.step (fun k => by rw [slices_Index_int64_int64.l0]) ?_, ?_⟩
      · rw [rd_at l i hi]
        exact ev_pos (by omega) (ev_pos (by omega) (ev_pos (by omega) (ev_pos c (Ev.now _))))
      · rw [hasV_at x hi, decide_eq_true c.symm, Bool.true_or, decide_eq_true (by omega)]
    · refine ⟨v, Ev.step (fun k => by rw [slices_Index_int64_int64.l0]) ?_, ?_⟩
      · rw [rd_at l i hi, wsucc hi (by omega)]
        exact ev_pos (by omega) (ev_pos (by omega) (ev_pos (by omega) (ev_neg c hv)))
      · have c2 : ¬ l[i] = x := fun z => c z.symm
        rw [e, hasV_at x hi, decide_eq_false c2, Bool.false_or]

theorem toInts (l : List Int) (hl : l.length ≤ 100000000) : Ev (fun k => laws_toInt64S.f k l) l := by
  have key := idx_ind l (fun i => ∀ x : List Int, x.length = l.length → (∀ j, j < i → x[j]? = l[j]?) → Ev (fun k => laws_toInt64S.l0 k l x (i : Int)) l) ?_ ?_
  · unfold laws_toInt64S.f
    refine ev_pos (by omega) (ev_pos (by omega) ?_)
    exact key 0 (Nat.zero_le _) _ (by simp) (fun j h => by omega)
  · intro x hx hj
    refine Ev.step (fun k => by rw [laws_toInt64S.l0]) ?_
    refine ev_neg (by omega) (ev_some ?_)
    apply List.ext_getElem?
    intro j
    rcases Nat.lt_or_ge j l.length with h | h
    · exact hj j h
    · rw [List.getElem?_eq_none (by omega), List.getElem?_eq_none (by omega)]
  · intro i hi ih x hx hj
    refine Ev.step (fun k => by rw [laws_toInt64S.l0]) ?_
    refine ev_pos (by omega) (ev_pos (by omega) (ev_pos (by omega) ?_))
    rw [wsucc hi (by omega), rd_at l i hi]
    refine ih _ (by simp [hx]) ?_
    intro j hj2
    by_cases e : j = i
    · subst e
      simp [hx, hi]
    · simp only [Int.toNat_natCast]
      rw [List.getElem?_set_ne (by omega)]
      exact hj j (by omega)
theorem eqInts (l : List Int) (hl : l.length ≤ 100000000) : Ev (fun k => laws_eqInt64S.f k l l) true := by
  unfold laws_eqInt64S.f
  refine ev_pos rfl ?_
  refine idx_ind l (fun i => Ev (fun k => laws_eqInt64S.l0 k l l (i : Int)) true) ?_ ?_ 0 (Nat.zero_le _)
  · refine Ev.step (fun k => by rw [laws_eqInt64S.l0]) ?_
    exact ev_neg (by omega) (Ev.now _)
  · intro i hi ih
    refine Ev.step (fun k => by rw [laws_eqInt64S.l0]) ?_
    refine ev_pos (by omega) (ev_pos (by omega) (ev_pos (by omega) (ev_pos rfl ?_)))
    rw [wsucc hi (by omega)]
    exact ih

def inB (a lo hi : Int) : Bool := decide (lo ≤ a ∧ a ≤ hi)
def textB (s : ByteArray) : Bool := betw s 32 126 0 s.size && decide (s.size ≤ 80)
/-- The second half of a message's tests. -/
def tailV (f1 : Int) (f3 : ByteArray) (f5 : Bool) (f7 : List Int) : Bool :=
  decide (f7.length ≤ 20) && (memsV f7 && (!hasV f7 f1 && (if f5 = true then decide (f3.toList = []) && ((f7.length : Int) == 0) else true)))
/-- Is a message right? -/
def msgV (m : S81) : Bool :=
  inB m.f0 1 1000000000 && (inB m.f1 1 1000 && (inB m.f2 0 1000000 && (textB m.f3 && (inB m.f4 0 1000000000 && (inB m.f6 0 (wrap64 (m.f0 - 1)) && tailV m.f1 m.f3 m.f5 m.f7)))))
theorem specMem1 (a : Int) : spec_l01Member.f a = some (inB a 1 1000) := by
  unfold spec_l01Member.f; rw [specIn]; rfl
theorem specTick1 (a : Int) : spec_l01Tick.f a = some (inB a 0 1000000) := by
  unfold spec_l01Tick.f; rw [specIn]; rfl
theorem implMem1 (a : Int) : impl_isMember.f a = some (inB a 1 1000) := by
  unfold impl_isMember.f; rw [implIn]; rfl
theorem ev_lastB {c d : Prop} [Decidable c] {x : Bool} {p : Bool} : Ev (fun _ => if p = true then (if c then some x else some false) else some true) (if p = true then decide c && x else true) := by
  by_cases h : p = true
  · refine ev_pos h ?_
    rw [if_pos h]
    by_cases hc : c
    · exact ev_pos hc (ev_some (by simp [hc]))
    · exact ev_neg hc (ev_some (by simp [hc]))
  · refine ev_neg h (ev_some ?_)
    rw [if_neg h]
theorem specMsg (l : List S81) (i : Nat) (hi : i < l.length) (hz : l[i].f3.size ≤ 140737488351232 ∧ l[i].f7.length ≤ 100000000) : Ev (fun k => spec_l03Message_v0.f k l (i : Int)) (msgV l[i]) := by
  have e : rd_T81 l (i : Int) = l[i] := by simp [rd_T81, List.getD, hi]
  unfold spec_l03Message_v0.f
  rw [e]
  refine ev_pos (by omega) (ev_pos (by omega) ?_)
  unfold msgV tailV
  refine ev_and (ev_of (specIn _ _ _)) (fun _ => ev_and (ev_of (specMem1 _)) (fun _ => ev_and (ev_of (specTick1 _)) (fun _ => ev_and (specText _ hz.1) (fun _ => ev_and (ev_of (specIn _ _ _)) (fun _ => ev_and (ev_of (specIn _ _ _)) (fun _ => ev_not (by simp only [decide_eq_true_eq]; omega) (fun _ => ev_and ?_ (fun _ => ev_notb (specHas _ _ hz.2) (fun _ => ev_lastB (d := True)))))))))) 
  unfold spec_l01Members.f
  exact Ev.bind (specMems _ hz.2) (Ev.now _)
theorem implMsg (m : S81) (hz : m.f3.size ≤ 140737488351232 ∧ m.f7.length ≤ 100000000) : Ev (fun k => impl_ValidMessage.f k m.f0 m.f1 m.f2 m.f3 m.f4 m.f5 m.f6 m.f7) (msgV m) := by
  have no : Ev (fun k => impl_ValidMessage.j0 k true m.f0 m.f1 m.f2 m.f3 m.f4 m.f5 m.f6 m.f7) false := by
    refine Ev.step (fun k => by rw [impl_ValidMessage.j0]) ?_
    exact ev_pos rfl (Ev.now _)
  have yes : Ev (fun k => impl_ValidMessage.j0 k false m.f0 m.f1 m.f2 m.f3 m.f4 m.f5 m.f6 m.f7) (tailV m.f1 m.f3 m.f5 m.f7) := by
    refine Ev.step (fun k => by rw [impl_ValidMessage.j0]) ?_
    refine ev_neg (by simp) ?_
    unfold tailV
    refine ev_not (by simp only [decide_eq_true_eq]; omega) (fun _ => ev_and ?_ (fun _ => ev_notb (implHas _ _ hz.2) (fun _ => ev_lastB (d := True))))
    unfold impl_IsMembers.f
    exact Ev.bind (implMems _ hz.2) (Ev.now _)
  unfold impl_ValidMessage.f msgV
  refine ev_andJ (ev_of (implIn _ _ _)) no (fun _ => ev_andJ (ev_of (implMem1 _)) no (fun _ => ev_andJ (ev_of (implTick _)) no (fun _ => ev_andJ (implText _ hz.1) no (fun _ => ev_andJ (ev_of (implIn _ _ _)) no (fun _ => ev_b (implIn _ _ _) ?_)))))
  show Ev _ (inB m.f6 0 (wrap64 (m.f0 - 1)) && _)
  unfold inB
  by_cases c : (0 ≤ m.f6 ∧ m.f6 ≤ wrap64 (m.f0 - 1))
  · rw [decide_eq_true c]
    exact ev_eq yes (by simp)
  · rw [decide_eq_false c]
    exact ev_eq no (by simp)

theorem rdIMsg (l : List S79) (i : Nat) (h : i < l.length) : rd_T79 l (i : Int) = l[i] := by
  simp [rd_T79, List.getD, h]
theorem rdOMsg (l : List S81) (i : Nat) (h : i < l.length) : rd_T81 l (i : Int) = l[i] := by
  simp [rd_T81, List.getD, h]
/-- A message's size taken away. -/
theorem szMsg1 (y : S79) (x : Int) (hs : y.f3.size ≤ 140737488351232) (hm : y.f7.length ≤ 9223372036854775) (h0 : 0 ≤ x) (h1 : x ≤ 1048576) :
    laws_szMessage.f y.f0 y.f1 y.f2 y.f3 y.f4 y.f5 y.f6 y.f7 x = some (if x - (y.f3.size : Int) - (y.f7.length : Int) < 0 then -1 else x - (y.f3.size : Int) - (y.f7.length : Int)) := by
  unfold laws_szMessage.f laws_szInt64S.f
  rw [w64 (n := x - (y.f3.size : Int)) (by omega) (by omega)]
  by_cases c : x - (y.f3.size : Int) < 0
  · rw [if_pos c, if_pos (by omega)]
  · rw [if_neg c, w64 (by omega) (by omega)]
    by_cases c2 : x - (y.f3.size : Int) - (y.f7.length : Int) < 0
    · simp [c2]
    · simp [c2]
def fitMsg (y : S79) : Prop := y.f3.size ≤ 140737488351232 ∧ y.f7.length ≤ 9223372036854775
theorem szLogEv (q : Int) (l : List S79) (hl : l.length ≤ 9223372036854775807) (hf : ∀ y ∈ l, fitMsg y) : ∃ v, Ev (fun k => laws_szLog.f k q l 1048576) v ∧ (0 ≤ v → l.length ≤ 1048576 ∧ ∀ y ∈ l, y.f7.length ≤ 1048576) := by
  have key := idx_ind l (fun i => ∀ x : Int, 0 ≤ x → x ≤ 1048576 → ∃ v, Ev (fun k => laws_szMessageS.l0 k l x (i : Int)) v ∧ (0 ≤ v → ∀ y ∈ l.drop i, y.f7.length ≤ 1048576)) ?_ ?_ 0 (Nat.zero_le _)
  · unfold laws_szLog.f laws_szMessageS.f
    rw [w64 (by omega) (by omega)]
    by_cases h : l.length ≤ 1048576
    · obtain ⟨v, hv, hb⟩ := key (1048576 - (l.length : Int)) (by omega) (by omega)
      by_cases c : v < 0
      · exact ⟨-1, Ev.bind (ev_neg (by omega) hv) (ev_pos c (Ev.now _)), fun z => by omega⟩
      · exact ⟨v, Ev.bind (ev_neg (by omega) hv) (ev_neg c (Ev.now _)), fun _ => ⟨h, by simpa using hb (by omega)⟩⟩
    · exact ⟨-1, Ev.bind (ev_pos (by omega) (Ev.now (-1))) (ev_pos (by omega) (Ev.now _)), fun z => by omega⟩
  · intro x _ _
    exact ⟨x, Ev.step (fun k => by rw [laws_szMessageS.l0]) (ev_neg (by omega) (Ev.now _)), fun _ y hy => by simp at hy⟩
  · intro i hi ih x h0 h1
    have hz := hf l[i] (List.getElem_mem hi)
    have e := szMsg1 l[i] x hz.1 hz.2 h0 h1
    by_cases h : x - (l[i].f3.size : Int) - (l[i].f7.length : Int) < 0
    · rw [if_pos h] at e
      refine ⟨-1, Ev.step (fun k => by rw [laws_szMessageS.l0]) ?_, fun z => by omega⟩
      rw [rdIMsg l i hi]
      exact ev_pos (by omega) (ev_pos (by omega) (ev_b e (ev_pos (by omega) (Ev.now _))))
    · rw [if_neg h] at e
      obtain ⟨v, hv, hb⟩ := ih (x - (l[i].f3.size : Int) - (l[i].f7.length : Int)) (by omega) (by omega)
      refine ⟨v, Ev.step (fun k => by rw [laws_szMessageS.l0]) ?_, ?_⟩
      · rw [rdIMsg l i hi, wsucc hi hl]
        exact ev_pos (by omega) (ev_pos (by omega) (ev_b e (ev_neg h hv)))
      · intro z y hy
        rw [drop_at l i hi] at hy
        rcases List.mem_cons.mp hy with rfl | hy
        · omega
        · exact hb z y hy
def cvMsg (x : S79) : S81 := ⟨x.f0, x.f1, x.f2, x.f3, x.f4, x.f5, x.f6, x.f7⟩
theorem toLogEv (q : Int) (l : List S79) (hl : l.length ≤ 100000000) (hf : ∀ y ∈ l, y.f7.length ≤ 100000000) : Ev (fun k => laws_toLog.f k q l) (q, l.map cvMsg) := by
  have key := idx_ind l (fun i => ∀ x : List S81, x.length = l.length → (∀ j, j < i → x[j]? = (l.map cvMsg)[j]?) → Ev (fun k => laws_toMessageS.l0 k l x (i : Int)) (l.map cvMsg)) ?_ ?_
  · unfold laws_toLog.f laws_toMessageS.f
    refine Ev.bind (ev_pos (by omega) (ev_pos (by omega) ?_)) (Ev.now _)
    exact key 0 (Nat.zero_le _) _ (by simp) (fun j h => by omega)
  · intro x hx hj
    refine Ev.step (fun k => by rw [laws_toMessageS.l0]) ?_
    refine ev_neg (by omega) (ev_some ?_)
    apply List.ext_getElem?
    intro j
    rcases Nat.lt_or_ge j l.length with h | h
    · exact hj j h
    · rw [List.getElem?_eq_none (by omega), List.getElem?_eq_none (by simpa using h)]
  · intro i hi ih x hx hj
    refine Ev.step (fun k => by rw [laws_toMessageS.l0]) ?_
    unfold laws_toMessage.f
    rw [rdIMsg l i hi]
    refine ev_pos (by omega) (ev_pos (by omega) (Ev.bind (Ev.bind (toInts l[i].f7 (hf _ (List.getElem_mem hi))) (Ev.now _)) (ev_pos (by omega) ?_)))
    rw [wsucc hi (by omega)]
    refine ih _ (by simp [hx]) ?_
    intro j hj2
    by_cases e : j = i
    · subst e
      simp [hx, hi, cvMsg]
    · simp only [Int.toNat_natCast]
      rw [List.getElem?_set_ne (by omega)]
      exact hj j (by omega)
theorem eqLogEv (q : Int) (l : List S81) (hl : l.length ≤ 100000000) (hf : ∀ y ∈ l, y.f7.length ≤ 100000000) : Ev (fun k => laws_eqLog.f k q l q l) true := by
  unfold laws_eqLog.f laws_eqMessageS.f
  refine ev_pos rfl (Ev.bind (ev_pos rfl ?_) (ev_pos rfl (Ev.now _)))
  refine idx_ind l (fun i => Ev (fun k => laws_eqMessageS.l0 k l l (i : Int)) true) ?_ ?_ 0 (Nat.zero_le _)
  · refine Ev.step (fun k => by rw [laws_eqMessageS.l0]) ?_
    exact ev_neg (by omega) (Ev.now _)
  · intro i hi ih
    refine Ev.step (fun k => by rw [laws_eqMessageS.l0]) ?_
    unfold laws_eqMessage.f
    rw [rdOMsg l i hi, wsucc hi (by omega)]
    exact ev_pos (by omega) (ev_pos (by omega) (ev_pos (by omega) (Ev.bind (ev_pos rfl (ev_pos rfl (ev_pos rfl (ev_pos rfl (ev_pos rfl (ev_neg (by simp) (ev_pos rfl (Ev.bind (eqInts l[i].f7 (hf _ (List.getElem_mem hi))) (ev_pos rfl (Ev.now _)))))))))) (ev_pos rfl ih))))
theorem and4 (a b m c : Bool) : (a && b && m && c) = (a && (b && (m && c))) := by simp only [Bool.and_assoc]
theorem and5 (a b m c d : Bool) : (a && b && m && c && d) = (a && (b && (m && (c && d)))) := by simp only [Bool.and_assoc]
/-- Is a log right? -/
def logOkAt (a : Int) (m : S81) : Bool := msgV m && decide (m.f0 < a)
def msgLt (y x : S81) : Bool := decide (y.f0 < x.f0) && decide (y.f2 ≤ x.f2)
def logV (a : Int) (l : List S81) : Bool := chain (logOkAt a) msgLt none l && (decide (l.length ≤ 40) && inB a 1 1000000000)
theorem specLogIs (a : Int) (l : List S81) (hl : l.length ≤ 100000000) (hf : ∀ y ∈ l, y.f3.size ≤ 140737488351232 ∧ y.f7.length ≤ 100000000) : Ev (fun k => spec_l03Is.f k a l) (logV a l) := by
  have loop := idx_ind l (fun i => Ev (fun k => spec_l03Is.l0 k (l.length : Int) (i : Int) a l) (chain (logOkAt a) msgLt (prevOf l i) (l.drop i))) ?_ ?_ 0 (Nat.zero_le _)
  · have swap : logV a l = (decide (l.length ≤ 40) && (inB a 1 1000000000 && chain (logOkAt a) msgLt none l)) := by
      unfold logV
      cases chain (logOkAt a) msgLt none l <;> cases decide (l.length ≤ 40) <;> cases inB a 1 1000000000 <;> rfl
    rw [swap]
    unfold spec_l03Is.f
    exact ev_not (by simp only [decide_eq_true_eq]; omega) (fun _ => ev_and (ev_of (specIn _ _ _)) (fun _ => loop))
  · refine Ev.step (fun k => by rw [spec_l03Is.l0]) ?_
    refine ev_neg (by omega) (ev_some ?_)
    simp [chain]
  · intro i hi ih
    refine Ev.step (fun k => by rw [spec_l03Is.l0]) ?_
    rw [chain_at _ _ hi, wsucc hi (by omega), rdOMsg l i hi]
    rw [show logOkAt a l[i] = (msgV l[i] && decide (l[i].f0 < a)) from rfl, and4]
    refine ev_pos (by omega) (ev_pos (by omega) (ev_pos (by omega) (ev_and (specMsg l i hi (hf _ (List.getElem_mem hi))) (fun _ => ev_not (by simp only [decide_eq_true_eq]; omega) (fun _ => ?_)))))
    by_cases h0 : 0 < i
    · have e1 : wrap64 ((i : Int) - 1) = ((i - 1 : Nat) : Int) := by rw [w64 (by omega) (by omega)]; omega
      rw [e1, rdOMsg l (i - 1) (by omega), prevOf_pos hi h0]
      refine ev_pos (by omega) (ev_pos (by omega) (ev_pos (by omega) ?_))
      unfold msgLt
      simp only [Bool.and_assoc]
      exact ev_not (by simp only [decide_eq_true_eq]; omega) (fun _ => ev_not (by simp only [decide_eq_true_eq]; omega) (fun _ => ih))
    · rw [prevOf_zero h0]
      refine ev_neg (by omega) (ev_eq ih ?_)
      simp
theorem implLogIs (a : Int) (l : List S81) (hl : l.length ≤ 100000000) (hf : ∀ y ∈ l, y.f3.size ≤ 140737488351232 ∧ y.f7.length ≤ 100000000) : Ev (fun k => impl_ValidLog.f k a l) (logV a l) := by
  refine idx_ind l (fun i => Ev (fun k => impl_ValidLog.l0 k l (l.length : Int) (i : Int) a l) (chain (logOkAt a) msgLt (prevOf l i) (l.drop i) && (decide (l.length ≤ 40) && inB a 1 1000000000))) ?_ ?_ 0 (Nat.zero_le _)
  · refine Ev.step (fun k => by rw [impl_ValidLog.l0]) ?_
    refine ev_neg (by omega) ?_
    rw [List.drop_length, chain, Bool.true_and]
    by_cases c : (l.length : Int) ≤ 40
    · refine ev_pos c (ev_b (implIn _ _ _) (ev_some ?_))
      rw [decide_eq_true (show l.length ≤ 40 by omega)]; rfl
    · refine ev_neg c (ev_some ?_)
      rw [decide_eq_false (show ¬ l.length ≤ 40 by omega)]; rfl
  · intro i hi ih
    refine Ev.step (fun k => by rw [impl_ValidLog.l0]) ?_
    rw [chain_at _ _ hi, wsucc hi (by omega), rdOMsg l i hi]
    rw [show logOkAt a l[i] = (msgV l[i] && decide (l[i].f0 < a)) from rfl, and5]
    refine ev_pos (by omega) (ev_pos (by omega) (ev_pos (by omega) (ev_and (implMsg l[i] (hf _ (List.getElem_mem hi))) (fun _ => ev_not (by simp only [decide_eq_true_eq]; omega) (fun _ => ?_)))))
    by_cases h0 : 0 < i
    · have e1 : wrap64 ((i : Int) - 1) = ((i - 1 : Nat) : Int) := by rw [w64 (by omega) (by omega)]; omega
      rw [e1, rdOMsg l (i - 1) (by omega), prevOf_pos hi h0]
      refine ev_pos (by omega) (ev_pos (by omega) (ev_pos (by omega) ?_))
      unfold msgLt
      simp only [Bool.and_assoc] at ih ⊢
      exact ev_not (by simp only [decide_eq_true_eq]; omega) (fun _ => ev_not (by simp only [decide_eq_true_eq]; omega) (fun _ => ih))
    · rw [prevOf_zero h0]
      refine ev_neg (by omega) (ev_eq ih ?_)
      simp

/-- The first place of a number, from a message on. -/
def findD : List S81 → Int → Nat → Int
  | [], _, _ => -1
  | m :: r, n, i => if m.f0 = n then (i : Int) else findD r n (i + 1)
theorem findD_is : ∀ (l : List S81) (n : Int) (i : Nat), findD l n i = -1 ∨ ∃ j, ∃ h : j < l.length, findD l n i = ((i + j : Nat) : Int) ∧ l[j].f0 = n
  | [], n, i => .inl rfl
  | m :: r, n, i => by
    by_cases c : m.f0 = n
    · exact .inr ⟨0, by simp, by rw [findD, if_pos c]; rfl, c⟩
    · rcases findD_is r n (i + 1) with h | ⟨j, hj, h, e⟩
      · exact .inl (by rw [findD, if_neg c, h])
      · exact .inr ⟨j + 1, by simpa using hj, by rw [findD, if_neg c, h]; omega, by simpa using e⟩
def findV (l : List S81) (n : Int) : Int := findD l n 0
theorem specFind (a n : Int) (l : List S81) (hl : l.length ≤ 100000000) : Ev (fun k => spec_l03Find.f k a l n) (findV l n) := by
  refine idx_ind l (fun i => Ev (fun k => spec_l03Find.l0 k n (l.length : Int) (i : Int) a l) (findD (l.drop i) n i)) ?_ ?_ 0 (Nat.zero_le _)
  · refine Ev.step (fun k => by rw [spec_l03Find.l0]) ?_
    refine ev_neg (by omega) (ev_some ?_)
    simp [findD]
  · intro i hi ih
    refine Ev.step (fun k => by rw [spec_l03Find.l0]) ?_
    rw [drop_at l i hi, findD, wsucc hi (by omega), rdOMsg l i hi]
    refine ev_pos (by omega) (ev_pos (by omega) (ev_pos (by omega) ?_))
    by_cases c : l[i].f0 = n
    · rw [if_pos c]
      exact ev_pos c (Ev.now _)
    · rw [if_neg c]
      exact ev_neg c ih
theorem implFind (a n : Int) (l : List S81) (hl : l.length ≤ 100000000) : Ev (fun k => impl_Log_at.f k a l n) (findV l n) := by
  unfold impl_Log_at.f impl_Message_v2.f
  refine Ev.bind ?_ (Ev.now _)
  refine idx_ind l (fun i => Ev (fun k => impl_Message_v2.l0 k l (l.length : Int) (i : Int) n) (findD (l.drop i) n i)) ?_ ?_ 0 (Nat.zero_le _)
  · refine Ev.step (fun k => by rw [impl_Message_v2.l0]) ?_
    refine ev_neg (by omega) (ev_some ?_)
    simp [findD]
  · intro i hi ih
    refine Ev.step (fun k => by rw [impl_Message_v2.l0]) ?_
    rw [drop_at l i hi, findD, wsucc hi (by omega), rdOMsg l i hi]
    refine ev_pos (by omega) (ev_pos (by omega) (ev_pos (by omega) (ev_b rfl ?_)))
    by_cases c : l[i].f0 = n
    · rw [if_pos c]
      exact ev_pos (by simpa using c) (Ev.now _)
    · rw [if_neg c]
      exact ev_neg (by simpa using c) ih
theorem find_in {l : List S81} {n : Int} (h : ¬ findV l n < 0) : ∃ j, ∃ hj : j < l.length, findV l n = (j : Int) ∧ l[j].f0 = n := by
  rcases findD_is l n 0 with e | ⟨j, hj, e, q⟩
  · exact absurd (show findV l n < 0 by unfold findV; omega) h
  · exact ⟨j, hj, by unfold findV; rw [e]; omega, q⟩
theorem logV_msg {a : Int} {l : List S81} (h : logV a l = true) : ∀ j (hj : j < l.length), 1 ≤ l[j].f0 ∧ l[j].f0 ≤ 1000000000 ∧ 0 ≤ l[j].f6 ∧ l[j].f6 < l[j].f0 := by
  have all : ∀ (l : List S81) (p : Option S81), chain (logOkAt a) msgLt p l = true → ∀ m ∈ l, msgV m = true := by
    intro l
    induction l with
    | nil => intro p _ m hm; simp at hm
    | cons x r ih =>
      intro p hc m hm
      simp only [chain, Bool.and_eq_true] at hc
      rcases List.mem_cons.mp hm with rfl | hm
      · have := hc.1.1
        simp only [logOkAt, Bool.and_eq_true] at this
        exact this.1
      · exact ih _ hc.2 m hm
  intro j hj
  simp only [logV, Bool.and_eq_true] at h
  have hm := all l none h.1 l[j] (List.getElem_mem hj)
  simp only [msgV, inB, Bool.and_eq_true, decide_eq_true_eq] at hm
  have w := hm.2.2.2.2.2.1
  rw [w64 (by omega) (by omega)] at w
  omega
theorem roots (a : Int) (l : List S81) (hl : l.length ≤ 100000000) (hv : logV a l = true) : ∀ (N : Nat) (j : Nat) (hj : j < l.length), l[j].f0 ≤ N → findV l l[j].f0 = (j : Int) →
    ∃ r, Ev (fun k => spec_l03Root.l0 k (j : Int) a l) r ∧ Ev (fun k => impl_Log_root.l0 k l[j].f0 a l) r := by
  intro N
  induction N with
  | zero => intro j hj h _; have := logV_msg hv j hj; omega
  | succ N ih =>
    intro j hj hN hf
    have hm := logV_msg hv j hj
    by_cases c : findV l l[j].f6 < 0
    · refine ⟨l[j].f0, Ev.step (fun k => by rw [spec_l03Root.l0]) ?_, Ev.step (fun k => by rw [impl_Log_root.l0]) ?_⟩
      · rw [rdOMsg l j hj]
        exact ev_pos (by omega) (ev_pos (by omega) (Ev.bind (specFind a _ l hl) (ev_neg (by omega) (Ev.now _))))
      · refine Ev.bind (implFind a _ l hl) ?_
        rw [hf, rdOMsg l j hj]
        exact ev_pos (by omega) (ev_pos (by omega) (Ev.bind (implFind a _ l hl) (ev_pos c (Ev.now _))))
    · obtain ⟨i, hi, e, q⟩ := find_in c
      have e2 := e
      rw [← q] at e2
      obtain ⟨r, r1, r2⟩ := ih i hi (by omega) e2
      refine ⟨r, Ev.step (fun k => by rw [spec_l03Root.l0]) ?_, Ev.step (fun k => by rw [impl_Log_root.l0]) ?_⟩
      · rw [rdOMsg l j hj]
        refine ev_pos (by omega) (ev_pos (by omega) (Ev.bind (specFind a _ l hl) (ev_pos (by omega) (Ev.bind (specFind a _ l hl) ?_))))
        rw [e]
        exact r1
      · refine Ev.bind (implFind a _ l hl) ?_
        rw [hf, rdOMsg l j hj]
        refine ev_pos (by omega) (ev_pos (by omega) (Ev.bind (implFind a _ l hl) (ev_neg c ?_)))
        rw [← q]
        exact r2
theorem both (a n : Int) (l : List S81) (hl : l.length ≤ 100000000) (hf : ∀ y ∈ l, y.f3.size ≤ 140737488351232 ∧ y.f7.length ≤ 100000000) : ∃ r, Ev (fun k => spec_RootOf.f k a l n) r ∧ Ev (fun k => impl_RootOf.f k a l n) r := by
  unfold spec_RootOf.f impl_RootOf.f
  by_cases c : logV a l = true
  · by_cases d : findV l n < 0
    · exact ⟨(0, false), Ev.bind (specLogIs a l hl hf) (ev_pos c (Ev.bind (specFind a n l hl) (ev_pos d (Ev.now _)))), Ev.bind (implLogIs a l hl hf) (ev_pos c (Ev.bind (implFind a n l hl) (ev_pos d (Ev.now _))))⟩
    · obtain ⟨j, hj, e, q⟩ := find_in d
      have e2 := e
      rw [← q] at e2
      have hm := logV_msg c j hj
      obtain ⟨r, r1, r2⟩ := roots a l hl c l[j].f0.toNat j hj (by omega) e2
      refine ⟨(r, true), Ev.bind (specLogIs a l hl hf) (ev_pos c (Ev.bind (specFind a n l hl) (ev_neg d ?_))), Ev.bind (implLogIs a l hl hf) (ev_pos c (Ev.bind (implFind a n l hl) (ev_neg d ?_)))⟩
      · unfold spec_l03Root.f
        refine Ev.bind (Ev.bind (specFind a n l hl) ?_) (Ev.now _)
        rw [e]
        exact r1
      · unfold impl_Log_root.f
        rw [← q]
        exact Ev.bind r2 (Ev.now _)
  · exact ⟨(0, false), Ev.bind (specLogIs a l hl hf) (ev_neg c (Ev.now _)), Ev.bind (implLogIs a l hl hf) (ev_neg c (Ev.now _))⟩
theorem FnExactRootOf : laws_FnExactRootOf.Pure := by
  intro a l n _ hl _
  refine Ev.rounds ?_
  have hm : l.length ≤ 9223372036854775807 := by have := hl.1; unfold maxLen at this; omega
  have hf : ∀ y ∈ l, fitMsg y := fun y hy => by
    have z := hl.2.2 y hy
    exact ⟨z.2.2.2.1, by have := z.2.2.2.2.2.2.2.2.1; omega⟩
  obtain ⟨v, hv, hb⟩ := szLogEv a l hm hf
  unfold laws_FnExactRootOf.f
  refine Ev.bind hv ?_
  by_cases h : v < 0
  · exact ev_pos h (Ev.now _)
  · have h2 := hb (by omega)
    have tov := toLogEv a l (by omega) (fun y hy => by have := h2.2 y hy; omega)
    have fm : ∀ y ∈ l.map cvMsg, y.f3.size ≤ 140737488351232 ∧ y.f7.length ≤ 100000000 := by
      intro y hy
      obtain ⟨x, hx, rfl⟩ := List.mem_map.mp hy
      have := h2.2 x hx
      exact ⟨(hf x hx).1, by show x.f7.length ≤ _; omega⟩
    have lm : (l.map cvMsg).length ≤ 100000000 := by rw [List.length_map]; omega
    obtain ⟨r, r1, r2⟩ := both a n _ lm fm
    refine ev_neg h (Ev.bind tov (Ev.bind r1 (Ev.bind tov (Ev.bind r2 (ev_pos rfl ?_)))))
    refine Ev.step (fun k => by rw [laws_FnExactRootOf.j0]) ?_
    exact ev_neg (by simp) (Ev.bind tov (Ev.bind (eqLogEv a _ lm (fun y hy => (fm y hy).2)) (ev_pos rfl (Ev.now _))))

end Go.Proofs.Ytgmbgpjebpgpkaa.Pure
