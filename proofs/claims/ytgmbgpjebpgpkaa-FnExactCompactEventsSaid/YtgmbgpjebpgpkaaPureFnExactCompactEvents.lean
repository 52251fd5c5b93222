/- CompactEvents: the program and the reference answer alike, for every list of events; neither the list that came in nor a later answer is changed. -/
import Derived.Test.YtgmbgpjebpgpkaaQFnExactCompactEventsx10
namespace Go.Proofs.Ytgmbgpjebpgpkaa.Pure
open Go.RowKit Go.Proofs.Ytgmbgpjebpgpkaa.QFnExactCompactEvents Go.Proofs.YtgmbgpjebpgpkaaW.PrintWords Go.Proofs.YtgmbgpjebpgpkaaW.PrintLast Go.Proofs.YtgmbgpjebpgpkaaW.PrintMore
set_option linter.unusedVariables false

theorem w64 {n : Int} (h1 : -9223372036854775808 ≤ n) (h2 : n ≤ 9223372036854775807) : wrap64 n = n := by
  unfold wrap64
  omega
theorem wf64 {n : Int} (h : (Lit.int .i64 n).wf = true) : -9223372036854775808 ≤ n ∧ n ≤ 9223372036854775807 := by
  simp [Lit.wf, IntKind.min, IntKind.max, IntKind.signed, IntKind.bits] at h
  omega

theorem ev_pos {α : Type} {c : Prop} [Decidable c] {g f : Nat → Option α} {r : α} (h : c) (e : Ev g r) : Ev (fun k => if c then g k else f k) r := Ev.congr (fun _ => if_pos h) e
theorem ev_neg {α : Type} {c : Prop} [Decidable c] {g f : Nat → Option α} {r : α} (h : ¬ c) (e : Ev f r) : Ev (fun k => if c then g k else f k) r := Ev.congr (fun _ => if_neg h) e
theorem ev_b {α β : Type} {o : Option α} {a : α} {f : Nat → α → Option β} {r : β} (h : o = some a) (e : Ev (fun k => f k a) r) : Ev (fun k => o.bind (f k)) r := by subst h; exact e
theorem ev_eq {α : Type} {g : Nat → Option α} {r q : α} (e : Ev g r) (h : r = q) : Ev g q := h ▸ e
theorem ev_some {α : Type} {r q : α} (h : r = q) : Ev (fun _ => some r) q := h ▸ Ev.now r
/-- Down from a list's end. -/
theorem idx_ind {α : Type} (l : List α) (P : Nat → Prop) (hend : P l.length) (hstep : ∀ i, i < l.length → P (i + 1) → P i) : ∀ i, i ≤ l.length → P i := by
  have key : ∀ d i, i + d = l.length → P i := by
    intro d
    induction d with
    | zero => intro i h; have : i = l.length := by omega
              rw [this]; exact hend
    | succ d ih => intro i h; exact hstep i (by omega) (ih (i + 1) (by omega))
  intro i h
  exact key (l.length - i) i (by omega)
theorem rd_at (l : List Int) (i : Nat) (h : i < l.length) : rd l (i : Int) = l[i] := by
  simp [rd, List.getD, h]
theorem rdOf_at {α : Type} (d : α) (l : List α) (i : Nat) (h : i < l.length) : rdOf d l (i : Int) = l[i] := by
  simp [rdOf, List.getD, h]
theorem drop_at {α : Type} (l : List α) (i : Nat) (h : i < l.length) : l.drop i = l[i] :: l.drop (i + 1) := List.drop_eq_getElem_cons h
theorem wsucc {i n : Nat} (h : i < n) (hn : n ≤ 9223372036854775807) : wrap64 ((i : Int) + 1) = ((i + 1 : Nat) : Int) := by
  rw [w64 (by omega) (by omega)]; rfl

theorem implIn (a b c : Int) : impl_in_n29.f a b c = some (decide (b ≤ a ∧ a ≤ c)) := by
  unfold impl_in_n29.f
  by_cases h : a ≥ b
  · rw [if_pos h]; simp [h]
  · rw [if_neg h]; simp; intro h2; omega

theorem specIn (a b c : Int) : spec_l00In.f a b c = some (decide (b ≤ a ∧ a ≤ c)) := by
  unfold spec_l00In.f
  by_cases h : a ≥ b
  · rw [if_pos h]; simp [h]
  · rw [if_neg h]; simp; intro h2; omega

/-- Is every byte of a text from a place on between two bounds? -/
def betw (s : ByteArray) (lo hi : Int) : Nat → Nat → Bool
  | _, 0 => true
  | i, n + 1 => decide (lo ≤ bt s (i : Int) ∧ bt s (i : Int) ≤ hi) && betw s lo hi (i + 1) n
theorem nat_ind (n : Nat) (P : Nat → Prop) (hend : P n) (hstep : ∀ i, i < n → P (i + 1) → P i) : ∀ i, i ≤ n → P i := by
  have key : ∀ d i, i + d = n → P i := by
    intro d
    induction d with
    | zero => intro i h; have : i = n := by omega
              rw [this]; exact hend
    | succ d ih => intro i h; exact hstep i (by omega) (ih (i + 1) (by omega))
  intro i h
  exact key (n - i) i (by omega)
theorem betw_step (s : ByteArray) (lo hi : Int) {i n : Nat} (h : i < n) : betw s lo hi i (n - i) = (decide (lo ≤ bt s (i : Int) ∧ bt s (i : Int) ≤ hi) && betw s lo hi (i + 1) (n - (i + 1))) := by
  rw [show n - i = (n - (i + 1)) + 1 by omega, betw]
theorem betw_no (s : ByteArray) {lo hi : Int} {i n : Nat} (h : i < n) (c : ¬ (lo ≤ bt s (i : Int) ∧ bt s (i : Int) ≤ hi)) : betw s lo hi i (n - i) = false := by
  rw [betw_step s lo hi h, decide_eq_false c]; rfl
theorem betw_yes (s : ByteArray) {lo hi : Int} {i n : Nat} (h : i < n) (c : lo ≤ bt s (i : Int) ∧ bt s (i : Int) ≤ hi) : betw s lo hi i (n - i) = betw s lo hi (i + 1) (n - (i + 1)) := by
  rw [betw_step s lo hi h, decide_eq_true c]; rfl

theorem implText (s : ByteArray) (hs : s.size ≤ 140737488351232) : Ev (fun k => impl_IsText_n32.f k s) (betw s 32 126 0 s.size && decide (s.size ≤ 80)) := by
  have key := nat_ind s.size (fun i => Ev (fun k => impl_IsText_n32.l0 k s (s.size : Int) (i : Int)) (betw s 32 126 i (s.size - i) && decide (s.size ≤ 80))) ?_ ?_ 0 (Nat.zero_le _)
  · exact key
  · refine Ev.step (fun k => by rw [impl_IsText_n32.l0]) ?_
    refine ev_neg (by omega) (ev_some ?_)
    simp [betw]; omega
  · intro i hi ih
    refine Ev.step (fun k => by rw [impl_IsText_n32.l0]) ?_
    refine ev_pos (by omega) (ev_pos (by omega) (ev_pos (by omega) ?_))
    by_cases c1 : bt s (i : Int) < 32
    · refine ev_pos c1 (ev_some ?_)
      rw [betw_no s hi (by omega)]; rfl
    · refine ev_neg c1 ?_
      by_cases c2 : bt s (i : Int) > 126
      · refine ev_pos c2 (ev_some ?_)
        rw [betw_no s hi (by omega)]; rfl
      · refine ev_neg c2 ?_
        rw [betw_yes s hi (by omega), wsucc hi (by omega)]
        exact ih

theorem specText (s : ByteArray) (hs : s.size ≤ 140737488351232) : Ev (fun k => spec_l01IsText.f k s) (betw s 32 126 0 s.size && decide (s.size ≤ 80)) := by
  have key := nat_ind s.size (fun i => Ev (fun k => spec_l01IsText.l0 k s (i : Int)) (betw s 32 126 i (s.size - i) && decide (s.size ≤ 80))) ?_ ?_ 0 (Nat.zero_le _)
  · exact key
  · refine Ev.step (fun k => by rw [spec_l01IsText.l0]) ?_
    refine ev_neg (by omega) (ev_some ?_)
    simp [betw]; omega
  · intro i hi ih
    refine Ev.step (fun k => by rw [spec_l01IsText.l0]) ?_
    refine ev_pos (by omega) (ev_pos (by omega) ?_)
    by_cases c1 : bt s (i : Int) < 32
    · refine ev_pos c1 (ev_some ?_)
      rw [betw_no s hi (by omega)]; rfl
    · refine ev_neg c1 ?_
      by_cases c2 : bt s (i : Int) > 126
      · refine ev_pos c2 (ev_some ?_)
        rw [betw_no s hi (by omega)]; rfl
      · refine ev_neg c2 ?_
        rw [betw_yes s hi (by omega), wsucc hi (by omega)]
        exact ih

abbrev TI := S23
abbrev TE := S26
theorem rdTI (l : List TI) (i : Nat) (h : i < l.length) : rd_T23 l (i : Int) = l[i] := by
  simp [rd_T23, List.getD, h]
theorem rdTE (l : List TE) (i : Nat) (h : i < l.length) : rd_T26 l (i : Int) = l[i] := by
  simp [rd_T26, List.getD, h]
theorem rdSE (l : List TE) (i : Nat) (v : TE) (h : i < l.length) : rd_T26 (l.set i v) (i : Int) = v := by
  simp [rd_T26, List.getD, h]
theorem szEv1 (y : TI) (x : Int) (hs : y.f4.size ≤ 140737488351232) (h0 : 0 ≤ x) (h1 : x ≤ 1048576) : ∃ v, laws_szEvent.f y.f0 y.f1 y.f2 y.f3 y.f4 y.f5 x = some v ∧ v ≤ 1048576 := by
  unfold laws_szEvent.f
  rw [w64 (by omega) (by omega)]
  by_cases h : x - (y.f4.size : Int) < 0
  · exact ⟨-1, by rw [if_pos h], by omega⟩
  · exact ⟨_, by rw [if_neg h], by omega⟩
theorem szEvS (l : List TI) (hl : l.length ≤ 9223372036854775807) (hf : ∀ y ∈ l, y.f4.size ≤ 140737488351232) : ∃ v, Ev (fun k => laws_szEventS.f k l 1048576) v ∧ (0 ≤ v → l.length ≤ 1048576) := by
  have key := idx_ind l (fun i => ∀ x : Int, 0 ≤ x → x ≤ 1048576 → ∃ v, Ev (fun k => laws_szEventS.l0 k l x (i : Int)) v) ?_ ?_ 0 (Nat.zero_le _)
  · unfold laws_szEventS.f
    rw [w64 (by omega) (by omega)]
    by_cases h : l.length ≤ 1048576
    · obtain ⟨v, hv⟩ := key (1048576 - (l.length : Int)) (by omega) (by omega)
      exact ⟨v, ev_neg (by omega) hv, fun _ => h⟩
    · exact ⟨-1, ev_pos (by omega) (Ev.now _), fun z => by omega⟩
  · intro x _ _
    exact ⟨x, Ev.step (fun k => by rw [laws_szEventS.l0]) (ev_neg (by omega) (Ev.now _))⟩
  · intro i hi ih x h0 h1
    obtain ⟨v, hv, hv1⟩ := szEv1 l[i] x (hf _ (List.getElem_mem hi)) h0 h1
    by_cases h : v < 0
    · refine ⟨-1, Ev.step (fun k => by rw [laws_szEventS.l0]) ?_⟩
      rw [rdTI l i hi]
      exact ev_pos (by omega) (ev_pos (by omega) (ev_b hv (ev_pos h (Ev.now _))))
    · obtain ⟨u, hu⟩ := ih v (by omega) hv1
      refine ⟨u, Ev.step (fun k => by rw [laws_szEventS.l0]) ?_⟩
      rw [rdTI l i hi, wsucc hi hl]
      exact ev_pos (by omega) (ev_pos (by omega) (ev_b hv (ev_neg h hu)))
/-- An event, taken over. -/
def cvE (x : TI) : TE := ⟨x.f0, x.f1, x.f2, x.f3, x.f4, x.f5⟩
theorem toEvS (l : List TI) (hl : l.length ≤ 100000000) : Ev (fun k => laws_toEventS.f k l) (l.map cvE) := by
  have key := idx_ind l (fun i => ∀ x : List TE, x.length = l.length → (∀ j, j < i → x[j]? = (l.map cvE)[j]?) → Ev (fun k => laws_toEventS.l0 k l x (i : Int)) (l.map cvE)) ?_ ?_
  · unfold laws_toEventS.f
    refine ev_pos (by omega) (ev_pos (by omega) ?_)
    exact key 0 (Nat.zero_le _) _ (by simp) (fun j h => by omega)
  · intro x hx hj
    refine Ev.step (fun k => by rw [laws_toEventS.l0]) ?_
    refine ev_neg (by omega) (ev_some ?_)
    apply List.ext_getElem?
    intro j
    rcases Nat.lt_or_ge j l.length with h | h
    · exact hj j h
    · rw [List.getElem?_eq_none (by omega), List.getElem?_eq_none (by simpa using h)]
  · intro i hi ih x hx hj
    refine Ev.step (fun k => by rw [laws_toEventS.l0]) ?_
    refine ev_pos (by omega) (ev_pos (by omega) (ev_b rfl (ev_pos (by omega) ?_)))
    rw [wsucc hi (by omega), rdTI l i hi]
    refine ih _ (by simp [hx]) ?_
    intro j hj2
    by_cases e : j = i
    · subst e
      simp [hx, hi, cvE]
    · simp only [Int.toNat_natCast]
      rw [List.getElem?_set_ne (by omega)]
      exact hj j (by omega)
theorem eqEvS (l : List TE) (hl : l.length ≤ 100000000) : Ev (fun k => laws_eqEventS.f k l l) true := by
  unfold laws_eqEventS.f
  refine ev_pos rfl ?_
  refine idx_ind l (fun i => Ev (fun k => laws_eqEventS.l0 k l l (i : Int)) true) ?_ ?_ 0 (Nat.zero_le _)
  · refine Ev.step (fun k => by rw [laws_eqEventS.l0]) ?_
    exact ev_neg (by omega) (Ev.now _)
  · intro i hi ih
    refine Ev.step (fun k => by rw [laws_eqEventS.l0]) ?_
    refine ev_pos (by omega) (ev_pos (by omega) (ev_pos (by omega) (ev_b (a := true) (by simp [laws_eqEvent.f]) (ev_pos rfl ?_))))
    rw [wsucc hi (by omega)]
    exact ih

theorem mtxL : ∀ (n : Nat) (acc : ByteArray), acc.size + n ≤ 1000000000000 → ∃ t, Ev (fun k => laws_markText.l0 k (n : Int) acc) t := by
  intro n
  induction n using Nat.strongRecOn with
  | _ n ih =>
    intro acc ha
    by_cases h : n = 0
    · subst h
      refine ⟨(⟨#[109]⟩ : ByteArray) ++ acc, Ev.step (fun k => by rw [laws_markText.l0]) ?_⟩
      exact ev_neg (by simp) (ev_pos (by omega) (Ev.now _))
    · have e : wrap64 (Int.tdiv (n : Int) 10) = ((n / 10 : Nat) : Int) := by
        rw [Int.tdiv_eq_ediv_of_nonneg (by omega), w64 (by omega) (by omega)]; rfl
      have hz : ∀ c : Int, (strOfNums [c] ++ acc).size = 1 + acc.size := by intro c; rw [ByteArray.size_append, strOfNums_size]; rfl
      obtain ⟨t, ht⟩ := ih (n / 10) (by omega) (strOfNums [(wrap64 (48 + (Int.tmod (n : Int) 10))) % 256] ++ acc) (by rw [hz]; omega)
      refine ⟨t, Ev.step (fun k => by rw [laws_markText.l0]) ?_⟩
      rw [e]
      refine ev_pos (by omega) (ev_b rfl (ev_pos ?_ ht))
      rw [strOfNums_size]; simp; omega
theorem mtx_ex (n : Nat) (h : n ≤ 100000000000) : ∃ t, Ev (fun k => laws_markText.f k (n : Int)) t := by
  unfold laws_markText.f
  by_cases c : (n : Int) ≤ 0
  · exact ⟨_, ev_pos c (Ev.now _)⟩
  · obtain ⟨t, ht⟩ := mtxL n ⟨#[]⟩ (show 0 + n ≤ 1000000000000 by omega)
    exact ⟨t, ev_neg c ht⟩
open Classical in
/-- The text that marks have in the place of a number. -/
noncomputable def mtx (n : Nat) : ByteArray := if h : ∃ t, Ev (fun k => laws_markText.f k (n : Int)) t then h.choose else ⟨#[]⟩
theorem mtx_ev (n : Nat) (h : n ≤ 100000000000) : Ev (fun k => laws_markText.f k (n : Int)) (mtx n) := by
  unfold mtx
  rw [dif_pos (mtx_ex n h)]
  exact (mtx_ex n h).choose_spec

noncomputable def mkE (m j : Nat) : TE := ⟨((m + 6 * j : Nat) : Int), ((m + 6 * j + 1 : Nat) : Int), ((m + 6 * j + 2 : Nat) : Int), ((m + 6 * j + 3 : Nat) : Int), mtx (m + 6 * j + 4), ((m + 6 * j + 5 : Nat) : Int)⟩
theorem mark_w (m i : Nat) (hm : m ≤ 100000000) (hi : i ≤ 10000000) :
    wrap64 (((m + 6 * i : Nat) : Int) + 1) = ((m + 6 * i + 1 : Nat) : Int) ∧ wrap64 (((m + 6 * i + 1 : Nat) : Int) + 1) = ((m + 6 * i + 2 : Nat) : Int) ∧ wrap64 (((m + 6 * i + 2 : Nat) : Int) + 1) = ((m + 6 * i + 3 : Nat) : Int) ∧ wrap64 (((m + 6 * i + 3 : Nat) : Int) + 1) = ((m + 6 * i + 4 : Nat) : Int) ∧ wrap64 (((m + 6 * i + 4 : Nat) : Int) + 1) = ((m + 6 * i + 5 : Nat) : Int) ∧ wrap64 (((m + 6 * i + 5 : Nat) : Int) + 1) = ((m + 6 * (i + 1) : Nat) : Int) := by
  refine ⟨?_, ?_, ?_, ?_, ?_, ?_⟩ <;> rw [w64 (by omega) (by omega)] <;> omega
theorem markEvS (l : List TE) (m : Nat) (hl : l.length ≤ 10000000) (hm : m ≤ 100000000) : ∃ l2 : List TE, Ev (fun k => laws_markEventS.f k l (m : Int)) (((m + 6 * l.length : Nat) : Int), l2) ∧ l2.length = l.length ∧ ∀ j, j < l.length → l2[j]? = some (mkE m j) := by
  have key := idx_ind l (fun i => ∀ x : List TE, x.length = l.length → (∀ j, j < i → x[j]? = some (mkE m j)) → ∃ l2 : List TE, Ev (fun k => laws_markEventS.l0 k x ((m + 6 * i : Nat) : Int) (i : Int)) (((m + 6 * l.length : Nat) : Int), l2) ∧ l2.length = l.length ∧ ∀ j, j < l.length → l2[j]? = some (mkE m j)) ?_ ?_
  · obtain ⟨l2, h1, h2⟩ := key 0 (Nat.zero_le _) l rfl (fun j h => by omega)
    exact ⟨l2, h1, h2⟩
  · intro x hx hj
    refine ⟨x, ?_, hx, hj⟩
    refine Ev.step (fun k => by rw [laws_markEventS.l0]) ?_
    exact ev_neg (by omega) (Ev.now _)
  · intro i hi ih x hx hj
    obtain ⟨l2, h1, h2⟩ := ih (x.set i (mkE m i)) (by simp [hx]) (by
      intro j hj2
      by_cases e : j = i
      · subst e
        simp [hx, hi]
      · rw [List.getElem?_set_ne (by omega)]
        exact hj j (by omega))
    refine ⟨l2, ?_, h2⟩
    have hix : i < x.length := by omega
    have hi7 : i ≤ 10000000 := by omega
    have hb : m + 6 * i + 4 ≤ 100000000000 := by omega
    refine Ev.step (fun k => by rw [laws_markEventS.l0]) ?_
    refine ev_pos (by omega) (ev_pos (by omega) ?_)
    obtain ⟨a0, a1, a2, a3, a4, a5⟩ := mark_w m i hm hi7
    have e2 : wrap64 ((i : Int) + 1) = ((i + 1 : Nat) : Int) := wsucc hi (by omega)
    simp only [Option.bind_some, Int.toNat_natCast, e2, a0, a1, a2, a3, a4, a5, List.set_set, rdSE x i _ hix]
    refine Ev.bind (mtx_ev _ hb) ?_
    exact h1
theorem heldEvS (l : List TE) (m : Nat) (hl : l.length ≤ 10000000) (hm : m ≤ 100000000) (hj : ∀ j, j < l.length → l[j]? = some (mkE m j)) : Ev (fun k => laws_heldEventS.f k l (m : Int)) ((m + 6 * l.length : Nat) : Int) := by
  refine idx_ind l (fun i => Ev (fun k => laws_heldEventS.l0 k l ((m + 6 * i : Nat) : Int) (i : Int)) ((m + 6 * l.length : Nat) : Int)) ?_ ?_ 0 (Nat.zero_le _)
  · refine Ev.step (fun k => by rw [laws_heldEventS.l0]) ?_
    exact ev_neg (by omega) (Ev.now _)
  · intro i hi ih
    have hv : l[i] = mkE m i := by
      have := hj i hi
      rw [List.getElem?_eq_getElem hi] at this
      exact Option.some.inj this
    have hi7 : i ≤ 10000000 := by omega
    have hb : m + 6 * i + 4 ≤ 100000000000 := by omega
    refine Ev.step (fun k => by rw [laws_heldEventS.l0]) ?_
    refine ev_pos (by omega) (ev_pos (by omega) ?_)
    obtain ⟨a0, a1, a2, a3, a4, a5⟩ := mark_w m i hm hi7
    have e2 : wrap64 ((i : Int) + 1) = ((i + 1 : Nat) : Int) := wsucc hi (by omega)
    simp only [rdTE l i hi, hv, e2, a0, a1, a2, a3, a4, a5]
    exact ev_pos rfl (ev_pos rfl (ev_pos rfl (ev_pos rfl (Ev.bind (mtx_ev _ hb) (ev_pos rfl (ev_pos rfl ih))))))

def okText (s : ByteArray) : Bool := betw s 32 126 0 s.size && decide (s.size ≤ 80)
/-- Is an event in order? -/
def evOk (k n m a : Int) (t : ByteArray) (r : Int) : Bool :=
  if ¬ (1 ≤ n ∧ n ≤ 1000000000) ∨ ¬ (1 ≤ m ∧ m ≤ 1000) then false
  else if k = 0 then (if 0 ≤ a ∧ a ≤ 1000000 then (if okText t = true then decide (0 ≤ r ∧ r ≤ n - 1) else false) else false)
  else if k = 1 then (if a = 0 then (if okText t = true then r == 0 else false) else false)
  else if k = 2 ∨ k = 3 ∨ k = 4 then (if a = 0 then (if t.toList = ([] : List UInt8) then r == 0 else false) else false)
  else false
def evOkE (x : TE) : Bool := evOk x.f0 x.f1 x.f2 x.f3 x.f4 x.f5
theorem specEvent (l : List TE) (i : Nat) (hi : i < l.length) (ht : l[i].f4.size ≤ 140737488351232) : Ev (fun q => spec_l07Event_v0.f q l (i : Int)) (evOkE l[i]) := by
  unfold spec_l07Event_v0.f evOkE
  rw [rdTE l i hi]
  generalize l[i].f0 = k, l[i].f1 = n, l[i].f2 = m, l[i].f3 = a, l[i].f4 = t, l[i].f5 = r at ht
  refine ev_pos (by omega) (ev_pos (by omega) (ev_b (specIn _ _ _) ?_))
  by_cases h1 : 1 ≤ n ∧ n ≤ 1000000000
  · refine ev_pos (by simpa using h1) (ev_b (a := decide (1 ≤ m ∧ m ≤ 1000)) (by unfold spec_l01Member.f; rw [specIn]; rfl) ?_)
    by_cases h2 : 1 ≤ m ∧ m ≤ 1000
    · refine ev_pos (by simpa using h2) ?_
      unfold evOk
      rw [if_neg (show ¬ (¬ (1 ≤ n ∧ n ≤ 1000000000) ∨ ¬ (1 ≤ m ∧ m ≤ 1000)) by omega)]
      by_cases k0 : k = 0
      · refine ev_pos k0 ?_
        rw [if_pos k0]
        refine ev_b (a := decide (0 ≤ a ∧ a ≤ 1000000)) (by unfold spec_l01Tick.f; rw [specIn]; rfl) ?_
        by_cases ha : 0 ≤ a ∧ a ≤ 1000000
        · rw [if_pos ha]
          refine ev_pos (by simpa using ha) (Ev.bind (specText t ht) ?_)
          by_cases ho : okText t = true
          · rw [if_pos ho]
            refine ev_pos ho (ev_b (specIn _ _ _) (ev_some ?_))
            rw [w64 (by omega) (by omega)]
          · rw [if_neg ho]
            exact ev_neg ho (Ev.now _)
        · rw [if_neg ha]
          exact ev_neg (by simpa using ha) (Ev.now _)
      · refine ev_neg k0 ?_
        rw [if_neg k0]
        by_cases k1 : k = 1
        · refine ev_pos k1 ?_
          rw [if_pos k1]
          by_cases ha : a = 0
          · rw [if_pos ha]
            refine ev_pos ha (Ev.bind (specText t ht) ?_)
            by_cases ho : okText t = true
            · refine ev_pos ho ?_; rw [if_pos ho]; exact Ev.now _
            · refine ev_neg ho ?_; rw [if_neg ho]; exact Ev.now _
          · refine ev_neg ha ?_; rw [if_neg ha]; exact Ev.now _
        · refine ev_neg k1 ?_
          rw [if_neg k1]
          have tail : Ev (fun _ => if a = 0 then (if t.toList = ([] : List UInt8) then (some (r == 0)) else (some false)) else (some false)) (if a = 0 then (if t.toList = ([] : List UInt8) then r == 0 else false) else false) := by
            by_cases ha : a = 0
            · refine ev_pos ha ?_
              rw [if_pos ha]
              by_cases hz : t.toList = ([] : List UInt8)
              · refine ev_pos hz ?_; rw [if_pos hz]; exact Ev.now _
              · refine ev_neg hz ?_; rw [if_neg hz]; exact Ev.now _
            · refine ev_neg ha ?_; rw [if_neg ha]; exact Ev.now _
          by_cases k2 : k = 2
          · rw [if_pos (Or.inl k2)]; exact ev_pos k2 tail
          · refine ev_neg k2 ?_
            by_cases k3 : k = 3
            · rw [if_pos (Or.inr (Or.inl k3))]; exact ev_pos k3 tail
            · refine ev_neg k3 ?_
              by_cases k4 : k = 4
              · rw [if_pos (Or.inr (Or.inr k4))]; exact ev_pos k4 tail
              · rw [if_neg (show ¬ (k = 2 ∨ k = 3 ∨ k = 4) by omega)]; exact ev_neg k4 (Ev.now _)
    · refine ev_neg (by simpa using h2) (ev_some ?_)
      unfold evOk
      rw [if_pos (Or.inr h2)]
  · refine ev_neg (by simpa using h1) (ev_some ?_)
    unfold evOk
    rw [if_pos (Or.inl h1)]
theorem implMember (a : Int) : impl_isMember_n30.f a = some (decide (1 ≤ a ∧ a ≤ 1000)) := by unfold impl_isMember_n30.f; rw [implIn]; rfl
theorem implTick (a : Int) : impl_isTick_n31.f a = some (decide (0 ≤ a ∧ a ≤ 1000000)) := by unfold impl_isTick_n31.f; rw [implIn]; rfl
theorem implEvent (k n m a : Int) (t : ByteArray) (r : Int) (ht : t.size ≤ 140737488351232) : Ev (fun q => impl_ValidEvent_n11.f q k n m a t r) (evOk k n m a t r) := by
  unfold impl_ValidEvent_n11.f
  have no : evOk k n m a t r = false → Ev (fun q => impl_ValidEvent_n11.j0 q true k n m a t r) (evOk k n m a t r) := by
    intro h
    rw [h]
    exact Ev.step (fun q => by rw [impl_ValidEvent_n11.j0]) (ev_pos rfl (Ev.now _))
  refine ev_b (implIn _ _ _) ?_
  by_cases h0 : 0 ≤ k ∧ k ≤ 4
  · refine ev_pos (by simpa using h0) (ev_b (implIn _ _ _) ?_)
    by_cases h1 : 1 ≤ n ∧ n ≤ 1000000000
    · refine ev_pos (by simpa using h1) (ev_b (implMember _) ?_)
      by_cases h2 : 1 ≤ m ∧ m ≤ 1000
      · rw [decide_eq_true h2]
        refine Ev.step (fun q => by rw [impl_ValidEvent_n11.j0]) (ev_neg (by simp) ?_)
        unfold evOk
        rw [if_neg (show ¬ (¬ (1 ≤ n ∧ n ≤ 1000000000) ∨ ¬ (1 ≤ m ∧ m ≤ 1000)) by omega)]
        by_cases k0 : k = 0
        · refine ev_pos k0 (ev_b (implTick _) ?_)
          rw [if_pos k0]
          by_cases ha : 0 ≤ a ∧ a ≤ 1000000
          · rw [if_pos ha]
            refine ev_pos (by simpa using ha) (Ev.bind (implText t ht) ?_)
            by_cases ho : okText t = true
            · rw [if_pos ho]
              refine ev_pos ho (ev_b (implIn _ _ _) (ev_some ?_))
              rw [w64 (by omega) (by omega)]
            · rw [if_neg ho]
              exact ev_neg ho (Ev.now _)
          · rw [if_neg ha]
            exact ev_neg (by simpa using ha) (Ev.now _)
        · refine ev_neg k0 ?_
          rw [if_neg k0]
          by_cases k1 : k = 1
          · refine ev_pos k1 (Ev.bind (implText t ht) ?_)
            rw [if_pos k1]
            by_cases ho : okText t = true
            · refine ev_pos ho ?_
              by_cases ha : a = 0
              · refine ev_pos ha (ev_some ?_); rw [if_pos ha, if_pos ho]
              · refine ev_neg ha (ev_some ?_); rw [if_neg ha]
            · refine ev_neg ho (ev_some ?_)
              by_cases ha : a = 0
              · rw [if_pos ha, if_neg ho]
              · rw [if_neg ha]
          · refine ev_neg k1 ?_
            rw [if_neg k1, if_pos (show k = 2 ∨ k = 3 ∨ k = 4 by omega)]
            by_cases ha : a = 0
            · refine ev_pos ha ?_
              rw [if_pos ha]
              by_cases hz : t.toList = ([] : List UInt8)
              · refine ev_pos hz ?_; rw [if_pos hz]; exact Ev.now _
              · refine ev_neg hz ?_; rw [if_neg hz]; exact Ev.now _
            · refine ev_neg ha ?_; rw [if_neg ha]; exact Ev.now _
      · rw [decide_eq_false h2]
        exact no (by unfold evOk; rw [if_pos (Or.inr h2)])
    · exact ev_neg (by simpa using h1) (no (by unfold evOk; rw [if_pos (Or.inl h1)]))
  · refine ev_neg (by simpa using h0) (no ?_)
    unfold evOk
    split
    · rfl
    · rw [if_neg (show ¬ k = 0 by omega), if_neg (show ¬ k = 1 by omega), if_neg (show ¬ (k = 2 ∨ k = 3 ∨ k = 4) by omega)]
/-- Is a list of events in order? -/
def allOk (l : List TE) : Bool := l.all evOkE && decide (l.length ≤ 60)
theorem specEvents (l : List TE) (hl : l.length ≤ 100000000) (hf : ∀ y ∈ l, y.f4.size ≤ 140737488351232) : Ev (fun k => spec_l07Events.f k l) (allOk l) := by
  unfold spec_l07Events.f allOk
  refine idx_ind l (fun i => Ev (fun k => spec_l07Events.l0 k l (l.length : Int) (i : Int)) ((l.drop i).all evOkE && decide (l.length ≤ 60))) ?_ ?_ 0 (Nat.zero_le _)
  · refine Ev.step (fun k => by rw [spec_l07Events.l0]) ?_
    refine ev_neg (by omega) (ev_some ?_)
    rw [List.drop_length, List.all_nil, Bool.true_and, decide_eq_decide]; omega
  · intro i hi ih
    refine Ev.step (fun k => by rw [spec_l07Events.l0]) ?_
    rw [wsucc hi (by omega), drop_at l i hi, List.all_cons]
    refine ev_pos (by omega) (ev_pos (by omega) (ev_pos (by omega) (Ev.bind (specEvent l i hi (hf _ (List.getElem_mem hi))) ?_)))
    by_cases c : evOkE l[i] = true
    · exact ev_pos c (ev_eq ih (by rw [c, Bool.true_and]))
    · exact ev_neg c (ev_some (by rw [(Bool.not_eq_true _).mp c, Bool.false_and, Bool.false_and]))
theorem implEvents (l : List TE) (hl : l.length ≤ 100000000) (hf : ∀ y ∈ l, y.f4.size ≤ 140737488351232) : Ev (fun k => impl_eventsOk.f k l) (allOk l) := by
  have key := idx_ind l (fun i => ∃ v : Int, Ev (fun k => impl_Event_v3.l0 k l (l.length : Int) (i : Int)) v ∧ decide (v ≥ 0) = !(l.drop i).all evOkE) ?_ ?_ 0 (Nat.zero_le _)
  · obtain ⟨v, h1, h2⟩ := key
    unfold impl_eventsOk.f allOk
    by_cases c : (l.length : Int) ≤ 60
    · refine ev_pos c (Ev.bind (a := !l.all evOkE) ?_ (ev_some ?_))
      · unfold impl_Event_v2.f impl_Event_v3.f
        exact Ev.bind h1 (ev_some h2)
      · rw [decide_eq_true (by omega), Bool.not_not, Bool.and_true]
    · exact ev_neg c (ev_some (by rw [decide_eq_false (by omega), Bool.and_false]))
  · refine ⟨-1, Ev.step (fun k => by rw [impl_Event_v3.l0]) ?_, by simp⟩
    exact ev_neg (by omega) (Ev.now _)
  · intro i hi ⟨v, h1, h2⟩
    have hw := implEvent l[i].f0 l[i].f1 l[i].f2 l[i].f3 l[i].f4 l[i].f5 (hf _ (List.getElem_mem hi))
    by_cases c : evOkE l[i] = true
    · refine ⟨v, Ev.step (fun k => by rw [impl_Event_v3.l0]) ?_, by rw [h2, drop_at l i hi, List.all_cons, c, Bool.true_and]⟩
      rw [rdTE l i hi, wsucc hi (by omega)]
      refine ev_pos (by omega) (ev_pos (by omega) (ev_pos (by omega) (Ev.bind (a := false) ?_ (ev_neg (by simp) h1))))
      unfold impl_eventsOk_1_n63.f
      exact Ev.bind hw (ev_some (by rw [show evOk l[i].f0 l[i].f1 l[i].f2 l[i].f3 l[i].f4 l[i].f5 = true from c]; rfl))
    · have c' := (Bool.not_eq_true _).mp c
      refine ⟨(i : Int), Ev.step (fun k => by rw [impl_Event_v3.l0]) ?_, by rw [drop_at l i hi, List.all_cons, c', Bool.false_and, decide_eq_true (by omega)]; rfl⟩
      rw [rdTE l i hi]
      refine ev_pos (by omega) (ev_pos (by omega) (ev_pos (by omega) (Ev.bind (a := true) ?_ (ev_pos rfl (Ev.now _)))))
      unfold impl_eventsOk_1_n63.f
      exact Ev.bind hw (ev_some (by rw [show evOk l[i].f0 l[i].f1 l[i].f2 l[i].f3 l[i].f4 l[i].f5 = false from c']; rfl))
/-- A like, or its end. -/
def isL (x : TE) : Bool := if x.f0 = 3 then true else x.f0 == 4
def isG (n : Int) (x : TE) : Bool := if x.f0 = 2 then x.f1 == n else false
/-- Is a message taken away in this part? -/
def goneV (n : Int) (l : List TE) : Bool := l.any (isG n)
/-- The same opinion of the same message. -/
def same (e x : TE) : Bool := if isL x = true then (if x.f1 = e.f1 then x.f2 == e.f2 else false) else false
theorem same_gone {e x : TE} {n : Int} (h : same e x = true) : isG n x = false := by
  have hl : isL x = true := by
    by_cases c : isL x = true
    · exact c
    · unfold same at h; rw [if_neg c] at h; simp at h
  unfold isL at hl
  unfold isG
  by_cases c : x.f0 = 3
  · rw [if_neg (by omega)]
  · rw [if_neg c] at hl
    rw [if_neg (by simp at hl; omega)]
/-- How many of these count. -/
def cnt (e : TE) : List TE → Nat
  | [] => 0
  | x :: r => (if (same e x && !goneV e.f1 r) = true then 1 else 0) + cnt e r
theorem cnt_le (e : TE) : ∀ l : List TE, cnt e l ≤ l.length
  | [] => by simp [cnt]
  | x :: r => by have := cnt_le e r; unfold cnt; split <;> simp <;> omega
/-- The last that counts. -/
def lst (e : TE) : List TE → Nat → Nat → Nat
  | [], _, t => t
  | x :: r, k, t => lst e r (k + 1) (if (same e x && !goneV e.f1 r) = true then k else t)
theorem gone_tail {n : Int} {x : TE} {r : List TE} (h : goneV n (x :: r) = false) : goneV n r = false := by
  unfold goneV at h ⊢
  rw [List.any_cons, Bool.or_eq_false_iff] at h
  exact h.2
theorem lst_any (e : TE) : ∀ (l : List TE) (k t : Nat), goneV e.f1 l = false → t < k → (l.any (same e) = true → k ≤ lst e l k t) ∧ (l.any (same e) = false → lst e l k t = t)
  | [], k, t, _, _ => by simp [lst]
  | x :: r, k, t, hg, ht => by
    have hr := gone_tail hg
    unfold lst
    rw [List.any_cons, hr, Bool.not_false, Bool.and_true]
    cases c : same e x with
    | true =>
      rw [if_pos rfl, Bool.true_or]
      have := lst_any e r (k + 1) k hr (by omega)
      refine ⟨fun _ => ?_, fun z => by simp at z⟩
      cases d : r.any (same e) with
      | true => have := this.1 d; omega
      | false => have := this.2 d; omega
    | false =>
      rw [if_neg (by simp), Bool.false_or]
      have := lst_any e r (k + 1) t hr (by omega)
      exact ⟨fun z => by have := this.1 z; omega, this.2⟩
theorem lst_drop (e : TE) (l : List TE) (i : Nat) (hi : i ≤ l.length) : ∀ (d j t : Nat), j + d = i → ∃ t', lst e (l.drop j) j t = lst e (l.drop i) i t'
  | 0, j, t, h => ⟨t, by rw [show j = i by omega]⟩
  | d + 1, j, t, h => by
    rw [drop_at l j (by omega), lst]
    exact lst_drop e l i hi d (j + 1) _ (by omega)
theorem lst_is (l : List TE) (i : Nat) (hi : i < l.length) (hs : same l[i] l[i] = true) (hg : goneV l[i].f1 (l.drop (i + 1)) = false) (t : Nat) : decide (lst l[i] l 0 t = i) = !(l.drop (i + 1)).any (same l[i]) := by
  obtain ⟨t', h⟩ := lst_drop l[i] l i (by omega) i 0 t (by omega)
  rw [List.drop_zero] at h
  have e : lst l[i] (l.drop i) i t' = lst l[i] (l.drop (i + 1)) (i + 1) i := by
    rw [drop_at l i hi, lst, hs, hg]; rfl
  rw [h, e]
  have := lst_any l[i] (l.drop (i + 1)) (i + 1) i hg (by omega)
  cases d : (l.drop (i + 1)).any (same l[i]) with
  | true => have := this.1 d; rw [decide_eq_false (by omega)]; rfl
  | false => rw [decide_eq_true (this.2 d)]; rfl
/-- Is an event needed? -/
def keepV (l : List TE) (i : Nat) (e : TE) : Bool := if isL e = true then (if goneV e.f1 (l.drop (i + 1)) = true then false else (if cnt e l % 2 = 1 then !(l.drop (i + 1)).any (same e) else false)) else true
def outF (l : List TE) : List TE → Nat → List TE
  | [], _ => []
  | e :: r, i => if keepV l i e = true then e :: outF l r (i + 1) else outF l r (i + 1)
theorem specGone (l : List TE) (hl : l.length ≤ 100000000) (n : Int) : Ev (fun k => spec_l07Gone.f k l n) (goneV n l) := by
  unfold spec_l07Gone.f
  refine idx_ind l (fun i => Ev (fun k => spec_l07Gone.l0 k l n (l.length : Int) (i : Int)) (goneV n (l.drop i))) ?_ ?_ 0 (Nat.zero_le _)
  · refine Ev.step (fun k => by rw [spec_l07Gone.l0]) ?_
    exact ev_neg (by omega) (ev_some (by simp [goneV]))
  · intro i hi ih
    refine Ev.step (fun k => by rw [spec_l07Gone.l0]) ?_
    rw [rdTE l i hi, wsucc hi (by omega), drop_at l i hi]
    refine ev_pos (by omega) (ev_pos (by omega) (ev_pos (by omega) ?_))
    unfold goneV at ih ⊢
    rw [List.any_cons]
    by_cases c : l[i].f0 = 2
    · refine ev_pos c ?_
      by_cases d : l[i].f1 = n
      · exact ev_pos d (ev_some (by simp only [isG, if_pos c, d, beq_self_eq_true, Bool.true_or]))
      · exact ev_neg d (ev_eq ih (by simp only [isG, if_pos c, beq_eq_false_iff_ne.mpr d, Bool.false_or]))
    · exact ev_neg c (ev_eq ih (by simp only [isG, if_neg c, Bool.false_or]))
theorem specOpin (l : List TE) (i : Nat) (hi : i < l.length) : spec_l07Opinion_v1.f l (i : Int) = some (isL l[i]) := by
  unfold spec_l07Opinion_v1.f isL
  rw [rdTE l i hi, if_pos (by omega), if_pos (by omega)]
  split <;> rfl
theorem gone_same {e x : TE} {r : List TE} (h : same e x = true) : goneV e.f1 (x :: r) = goneV e.f1 r := by
  unfold goneV; rw [List.any_cons, same_gone h, Bool.false_or]
theorem specNeedL (l : List TE) (hl : l.length ≤ 100000000) (i : Nat) (hi : i < l.length) : ∀ j, j ≤ l.length → ∀ c t : Nat, c ≤ j → t ≤ l.length → Ev (fun k => spec_l07Needed.l0 k l (i : Int) (c : Int) (t : Int) (l.length : Int) (j : Int)) (if (c + cnt l[i] (l.drop j)) % 2 = 1 then decide (lst l[i] (l.drop j) j t = i) else false) := by
  refine idx_ind l _ ?_ ?_
  · intro c t _ _
    refine Ev.step (fun k => by rw [spec_l07Needed.l0]) ?_
    refine ev_neg (by omega) ?_
    rw [List.drop_length, cnt, lst, Nat.add_zero]
    by_cases h : c % 2 = 1
    · rw [if_pos h]
      refine ev_pos ?_ (ev_some ?_)
      · rw [Int.tmod_eq_emod_of_nonneg (by omega)]; omega
      · rw [Bool.eq_iff_iff]; simp; omega
    · rw [if_neg h]
      refine ev_neg ?_ (Ev.now _)
      rw [Int.tmod_eq_emod_of_nonneg (by omega)]; omega
  · intro j hj ih c t hc ht
    refine Ev.step (fun k => by rw [spec_l07Needed.l0]) ?_
    rw [rdTE l i hi, rdTE l j hj, wsucc hj (by omega), drop_at l j hj, cnt, lst]
    refine ev_pos (by omega) (ev_pos (by omega) (ev_pos (by omega) (ev_b (specOpin l j hj) ?_)))
    have no : same l[i] l[j] = false → Ev (fun k => spec_l07Needed.l0 k l (i : Int) (c : Int) (t : Int) (l.length : Int) ((j + 1 : Nat) : Int)) (if (c + ((if (same l[i] l[j] && !goneV l[i].f1 (l.drop (j + 1))) = true then 1 else 0) + cnt l[i] (l.drop (j + 1)))) % 2 = 1 then decide (lst l[i] (l.drop (j + 1)) (j + 1) (if (same l[i] l[j] && !goneV l[i].f1 (l.drop (j + 1))) = true then j else t) = i) else false) := by
      intro h
      simp only [h, Bool.false_and, Bool.false_eq_true, if_false, Nat.zero_add]
      exact ih c t (by omega) ht
    by_cases c1 : isL l[j] = true
    · refine ev_pos c1 ?_
      by_cases c2 : l[j].f1 = l[i].f1
      · refine ev_pos c2 ?_
        by_cases c3 : l[j].f2 = l[i].f2
        · have hs : same l[i] l[j] = true := by unfold same; rw [if_pos c1, if_pos c2]; simp [c3]
          have hd : (l.drop ((j : Int)).toNat).length ≤ 100000000 := by rw [List.length_drop]; omega
          refine ev_pos c3 (ev_pos (by omega) (Ev.bind (specGone _ hd _) ?_))
          rw [Int.toNat_natCast, drop_at l j hj, gone_same hs, hs, Bool.true_and]
          by_cases c4 : goneV l[i].f1 (l.drop (j + 1)) = true
          · refine ev_pos c4 (ev_eq (ih c t (by omega) ht) ?_)
            simp only [c4, Bool.not_true, Bool.false_eq_true, if_false, Nat.zero_add]
          · refine ev_neg c4 ?_
            rw [wsucc (i := c) (n := l.length + 1) (by omega) (by omega)]
            refine ev_eq (ih (c + 1) j (by omega) (by omega)) ?_
            simp only [(Bool.not_eq_true _).mp c4, Bool.not_false, if_true, ← Nat.add_assoc]
        · exact ev_neg c3 (no (by unfold same; rw [if_pos c1, if_pos c2]; simp [c3]))
      · exact ev_neg c2 (no (by unfold same; rw [if_pos c1, if_neg c2]))
    · exact ev_neg c1 (no (by unfold same; rw [if_neg c1]))
theorem specNeed (l : List TE) (hl : l.length ≤ 100000000) (i : Nat) (hi : i < l.length) : Ev (fun k => spec_l07Needed.f k l (i : Int)) (keepV l i l[i]) := by
  unfold spec_l07Needed.f keepV
  rw [rdTE l i hi]
  refine ev_pos (by omega) (ev_pos (by omega) (ev_b (specOpin l i hi) ?_))
  by_cases c1 : isL l[i] = true
  · have hs : same l[i] l[i] = true := by unfold same; rw [if_pos c1, if_pos rfl]; simp
    have hd : (l.drop ((i : Int)).toNat).length ≤ 100000000 := by rw [List.length_drop]; omega
    rw [if_pos c1]
    refine ev_pos c1 (ev_pos (by omega) (Ev.bind (specGone _ hd _) ?_))
    rw [Int.toNat_natCast, drop_at l i hi, gone_same hs]
    by_cases c2 : goneV l[i].f1 (l.drop (i + 1)) = true
    · rw [if_pos c2]; exact ev_pos c2 (Ev.now _)
    · rw [if_neg c2]
      refine ev_neg c2 (ev_eq (specNeedL l hl i hi 0 (Nat.zero_le _) 0 i (by omega) (by omega)) ?_)
      rw [Nat.zero_add, List.drop_zero, lst_is l i hi hs ((Bool.not_eq_true _).mp c2)]
  · rw [if_neg c1]
    exact ev_neg c1 (Ev.now _)
theorem specCompact (l : List TE) (hl : l.length ≤ 100000000) : Ev (fun k => spec_l07Compact.f k l) (outF l l 0) := by
  have key := idx_ind l (fun i => ∀ acc : List TE, acc.length ≤ i → Ev (fun k => spec_l07Compact.l0 k l acc (l.length : Int) (i : Int)) (acc ++ outF l (l.drop i) i)) ?_ ?_ 0 (Nat.zero_le _) [] (by simp)
  · unfold spec_l07Compact.f
    simpa using key
  · intro acc _
    refine Ev.step (fun k => by rw [spec_l07Compact.l0]) ?_
    exact ev_neg (by omega) (ev_some (by simp [outF]))
  · intro i hi ih acc ha
    refine Ev.step (fun k => by rw [spec_l07Compact.l0]) ?_
    rw [rdTE l i hi, wsucc hi (by omega), drop_at l i hi, outF]
    refine ev_pos (by omega) (Ev.bind (specNeed l hl i hi) ?_)
    by_cases c : keepV l i l[i] = true
    · rw [if_pos c]
      refine ev_pos c (ev_pos (by omega) (ev_pos (by omega) (ev_pos (by omega) ?_)))
      exact ev_eq (ih (acc ++ [l[i]]) (by simp; omega)) (by simp only [List.append_assoc, List.singleton_append])
    · rw [if_neg c]
      exact ev_neg c (ih acc (by omega))
theorem implLike (x : TE) : impl_isLike.f x.f0 x.f1 x.f2 x.f3 x.f4 x.f5 = some (isL x) := by
  unfold impl_isLike.f isL
  split <;> rfl
theorem implSame (e x : TE) : impl_compact_1_v4.f x.f0 x.f1 x.f2 x.f3 x.f4 x.f5 e.f0 e.f1 e.f2 e.f3 e.f4 e.f5 = some (same e x) := by
  unfold impl_compact_1_v4.f same
  rw [implLike, Option.bind_some]
  split
  · split <;> rfl
  · rfl
theorem implG (e x : TE) : impl_compact_2_1_v8.f x.f0 x.f1 x.f2 x.f3 x.f4 x.f5 e.f0 e.f1 e.f2 e.f3 e.f4 e.f5 = some (isG e.f1 x) := by
  unfold impl_compact_2_1_v8.f isG
  split <;> rfl
theorem implGone (l : List TE) (hl : l.length ≤ 100000000) (e : TE) : Ev (fun k => impl_compact_2_v5.f k l e.f0 e.f1 e.f2 e.f3 e.f4 e.f5) (goneV e.f1 l) := by
  have key := idx_ind l (fun i => ∃ v : Int, Ev (fun k => impl_Event_v7.l0 k l (l.length : Int) (i : Int) e.f0 e.f1 e.f2 e.f3 e.f4 e.f5) v ∧ decide (v ≥ 0) = goneV e.f1 (l.drop i)) ?_ ?_ 0 (Nat.zero_le _)
  · obtain ⟨v, h1, h2⟩ := key
    unfold impl_compact_2_v5.f impl_Event_v6.f impl_Event_v7.f
    exact Ev.bind (Ev.bind h1 (ev_some h2)) (Ev.now _)
  · refine ⟨-1, Ev.step (fun k => by rw [impl_Event_v7.l0]) ?_, by simp [goneV]⟩
    exact ev_neg (by omega) (Ev.now _)
  · intro i hi ⟨v, h1, h2⟩
    unfold goneV at h2 ⊢
    cases c : isG e.f1 l[i] with
    | true =>
      refine ⟨(i : Int), Ev.step (fun k => by rw [impl_Event_v7.l0]) ?_, by rw [drop_at l i hi, List.any_cons, c, Bool.true_or, decide_eq_true (by omega)]⟩
      rw [rdTE l i hi]
      exact ev_pos (by omega) (ev_pos (by omega) (ev_pos (by omega) (ev_b ((implG e l[i]).trans (by rw [c])) (ev_pos rfl (Ev.now _)))))
    | false =>
      refine ⟨v, Ev.step (fun k => by rw [impl_Event_v7.l0]) ?_, by rw [drop_at l i hi, List.any_cons, c, Bool.false_or, h2]⟩
      rw [rdTE l i hi, wsucc hi (by omega)]
      exact ev_pos (by omega) (ev_pos (by omega) (ev_pos (by omega) (ev_b ((implG e l[i]).trans (by rw [c])) (ev_neg (by simp) h1))))
theorem implAny (l : List TE) (hl : l.length ≤ 100000000) (e : TE) : Ev (fun k => impl_Event_v9.f k l e.f0 e.f1 e.f2 e.f3 e.f4 e.f5) (l.any (same e)) := by
  have key := idx_ind l (fun i => ∃ v : Int, Ev (fun k => impl_Event_v10.l0 k l (l.length : Int) (i : Int) e.f0 e.f1 e.f2 e.f3 e.f4 e.f5) v ∧ decide (v ≥ 0) = (l.drop i).any (same e)) ?_ ?_ 0 (Nat.zero_le _)
  · obtain ⟨v, h1, h2⟩ := key
    unfold impl_Event_v9.f impl_Event_v10.f
    exact Ev.bind h1 (ev_some h2)
  · refine ⟨-1, Ev.step (fun k => by rw [impl_Event_v10.l0]) ?_, by simp⟩
    exact ev_neg (by omega) (Ev.now _)
  · intro i hi ⟨v, h1, h2⟩
    cases c : same e l[i] with
    | true =>
      refine ⟨(i : Int), Ev.step (fun k => by rw [impl_Event_v10.l0]) ?_, by rw [drop_at l i hi, List.any_cons, c, Bool.true_or, decide_eq_true (by omega)]⟩
      rw [rdTE l i hi]
      exact ev_pos (by omega) (ev_pos (by omega) (ev_pos (by omega) (ev_b ((implSame e l[i]).trans (by rw [c])) (ev_pos rfl (Ev.now _)))))
    | false =>
      refine ⟨v, Ev.step (fun k => by rw [impl_Event_v10.l0]) ?_, by rw [drop_at l i hi, List.any_cons, c, Bool.false_or, h2]⟩
      rw [rdTE l i hi, wsucc hi (by omega)]
      exact ev_pos (by omega) (ev_pos (by omega) (ev_pos (by omega) (ev_b ((implSame e l[i]).trans (by rw [c])) (ev_neg (by simp) h1))))
/-- The count, and what comes behind it. -/
theorem implCount (l : List TE) (hl : l.length ≤ 100000000) (acc : List TE) (i : Nat) (hi : i < l.length) (ha : acc.length ≤ i) (r : List TE) (hL : isL l[i] = true)
    (yes : keepV l i l[i] = true → Ev (fun k => impl_compact.l0 k l (acc ++ [l[i]]) l (l.length : Int) ((i + 1 : Nat) : Int)) r)
    (no : keepV l i l[i] = false → Ev (fun k => impl_compact.l0 k l acc l (l.length : Int) ((i + 1 : Nat) : Int)) r) :
    ∀ j, j ≤ l.length → ∀ c : Nat, c ≤ j → c + cnt l[i] (l.drop j) = cnt l[i] l → Ev (fun k => impl_compact.l1 k l acc (i : Int) (c : Int) l (l.length : Int) (i : Int) l (l.length : Int) (j : Int) l[i].f0 l[i].f1 l[i].f2 l[i].f3 l[i].f4 l[i].f5) r := by
  have hd : (l.drop (i + 1)).length ≤ 100000000 := by rw [List.length_drop]; omega
  refine idx_ind l _ ?_ ?_
  · intro c _ he
    rw [List.drop_length, cnt, Nat.add_zero] at he
    refine Ev.step (fun k => by rw [impl_compact.l1]) ?_
    rw [wsucc hi (by omega), Int.toNat_natCast]
    refine ev_neg (by omega) (ev_pos (by omega) (ev_pos (by omega) (Ev.bind (implGone _ hd l[i]) ?_)))
    unfold keepV at yes no
    rw [if_pos hL] at yes no
    by_cases c1 : goneV l[i].f1 (l.drop (i + 1)) = true
    · rw [if_pos c1] at no
      exact ev_pos c1 (no rfl)
    · rw [if_neg c1] at yes no
      refine ev_neg c1 ?_
      rw [← he] at yes no
      by_cases c2 : c % 2 = 1
      · rw [if_pos c2] at yes no
        refine ev_pos ?_ (Ev.bind (implAny _ hd l[i]) ?_)
        · rw [Int.tmod_eq_emod_of_nonneg (by omega)]; omega
        · cases c3 : (l.drop (i + 1)).any (same l[i]) with
          | true => rw [c3] at no; exact ev_pos rfl (no rfl)
          | false => rw [c3] at yes; exact ev_neg (by simp) (ev_pos (by omega) (yes rfl))
      · rw [if_neg c2] at no
        refine ev_neg ?_ (no rfl)
        rw [Int.tmod_eq_emod_of_nonneg (by omega)]; omega
  · intro j hj ih c hc he
    have hdj : (l.drop (j + 1)).length ≤ 100000000 := by rw [List.length_drop]; omega
    rw [drop_at l j hj, cnt] at he
    refine Ev.step (fun k => by rw [impl_compact.l1]) ?_
    rw [rdTE l j hj, wsucc hj (by omega), Int.toNat_natCast]
    refine ev_pos (by omega) (ev_pos (by omega) (ev_pos (by omega) (ev_b (implSame l[i] l[j]) ?_)))
    by_cases c1 : same l[i] l[j] = true
    · rw [c1, Bool.true_and] at he
      refine ev_pos c1 (ev_pos (by omega) (ev_pos (by omega) (Ev.bind (implGone _ hdj l[i]) ?_)))
      by_cases c2 : goneV l[i].f1 (l.drop (j + 1)) = true
      · simp only [c2, Bool.not_true, Bool.false_eq_true, if_false, Nat.zero_add] at he
        exact ev_pos c2 (ih c (by omega) he)
      · simp only [(Bool.not_eq_true _).mp c2, Bool.not_false, if_true] at he
        refine ev_neg c2 ?_
        rw [wsucc (i := c) (n := l.length + 1) (by omega) (by omega)]
        exact ih (c + 1) (by omega) (by omega)
    · rw [(Bool.not_eq_true _).mp c1, Bool.false_and, if_neg (by simp), Nat.zero_add] at he
      exact ev_neg c1 (ih c (by omega) he)
theorem implCompact (l : List TE) (hl : l.length ≤ 100000000) : Ev (fun k => impl_compact.f k l) (outF l l 0) := by
  have key := idx_ind l (fun i => ∀ acc : List TE, acc.length ≤ i → Ev (fun k => impl_compact.l0 k l acc l (l.length : Int) (i : Int)) (acc ++ outF l (l.drop i) i)) ?_ ?_ 0 (Nat.zero_le _) [] (by simp)
  · unfold impl_compact.f
    simpa using key
  · intro acc _
    refine Ev.step (fun k => by rw [impl_compact.l0]) ?_
    exact ev_neg (by omega) (ev_some (by simp [outF]))
  · intro i hi ih acc ha
    refine Ev.step (fun k => by rw [impl_compact.l0]) ?_
    rw [rdTE l i hi, drop_at l i hi, outF]
    refine ev_pos (by omega) (ev_pos (by omega) (ev_pos (by omega) (ev_b (implLike l[i]) ?_)))
    have yes : keepV l i l[i] = true → Ev (fun k => impl_compact.l0 k l (acc ++ [l[i]]) l (l.length : Int) ((i + 1 : Nat) : Int)) (acc ++ if keepV l i l[i] = true then l[i] :: outF l (l.drop (i + 1)) (i + 1) else outF l (l.drop (i + 1)) (i + 1)) := by
      intro h
      rw [if_pos h]
      exact ev_eq (ih (acc ++ [l[i]]) (by simp; omega)) (by simp only [List.append_assoc, List.singleton_append])
    have no : keepV l i l[i] = false → Ev (fun k => impl_compact.l0 k l acc l (l.length : Int) ((i + 1 : Nat) : Int)) (acc ++ if keepV l i l[i] = true then l[i] :: outF l (l.drop (i + 1)) (i + 1) else outF l (l.drop (i + 1)) (i + 1)) := by
      intro h
      rw [if_neg (by rw [h]; simp)]
      exact ih acc (by omega)
    by_cases c : isL l[i] = true
    · exact ev_pos c (implCount l hl acc i hi ha _ c yes no 0 (Nat.zero_le _) 0 (by omega) (by simp))
    · refine ev_neg c (ev_pos (by omega) ?_)
      rw [wsucc hi (by omega)]
      exact yes (by unfold keepV; rw [if_neg c])
/-- What both answer. -/
def compV (l : List TE) : List TE × Bool := if allOk l = true then (outF l l 0, true) else ([], false)
theorem specAns (l : List TE) (hl : l.length ≤ 100000000) (hf : ∀ y ∈ l, y.f4.size ≤ 140737488351232) : Ev (fun k => spec_CompactEvents.f k l) (compV l) := by
  unfold spec_CompactEvents.f compV
  refine Ev.bind (specEvents l hl hf) ?_
  by_cases c : allOk l = true
  · rw [if_pos c]; exact ev_pos c (Ev.bind (specCompact l hl) (Ev.now _))
  · rw [if_neg c]; exact ev_neg c (Ev.now _)
theorem implAns (l : List TE) (hl : l.length ≤ 100000000) (hf : ∀ y ∈ l, y.f4.size ≤ 140737488351232) : Ev (fun k => impl_CompactEvents.f k l) (compV l) := by
  unfold impl_CompactEvents.f compV
  refine Ev.bind (implEvents l hl hf) ?_
  by_cases c : allOk l = true
  · rw [if_pos c]; exact ev_pos c (Ev.bind (implCompact l hl) (Ev.now _))
  · rw [if_neg c]; exact ev_neg c (Ev.now _)
theorem out_len (l : List TE) : ∀ (m : List TE) (i : Nat), (outF l m i).length ≤ m.length
  | [], _ => by simp [outF]
  | e :: r, i => by
    have := out_len l r (i + 1)
    unfold outF
    split <;> simp <;> omega
theorem FnExactCompactEvents : laws_FnExactCompactEvents.Pure := by
  intro l ⟨ha, hb, hc⟩
  refine Ev.rounds ?_
  unfold laws_FnExactCompactEvents.f
  unfold maxLen at ha
  have hfI : ∀ y ∈ l, y.f4.size ≤ 140737488351232 := fun y hy => (hc y hy).2.2.2.2.1
  obtain ⟨v, hv, hv2⟩ := szEvS l (by omega) hfI
  refine Ev.bind hv ?_
  by_cases c : v < 0
  · exact ev_pos c (Ev.now _)
  · have h3 := hv2 (by omega)
    have ts := toEvS l (by omega)
    have hL : (l.map cvE).length ≤ 1048576 := by simpa using h3
    have hf : ∀ y ∈ l.map cvE, y.f4.size ≤ 140737488351232 := by
      intro y hy
      obtain ⟨x, hx, rfl⟩ := List.mem_map.1 hy
      exact hfI x hx
    generalize l.map cvE = m at ts hL hf
    have hO : (compV m).1.length ≤ 1048576 := by
      unfold compV
      split
      · have := out_len m m 0; simp only; omega
      · simp
    have sp := specAns m (by omega) hf
    have im := implAns m (by omega) hf
    generalize compV m = r at sp im hO
    obtain ⟨m2, e1, e2, e3⟩ := markEvS m 1 (by omega) (by omega)
    obtain ⟨r2, f1, f2, f3⟩ := markEvS r.1 1 (by omega) (by omega)
    have hd := heldEvS r2 1 (by omega) (by omega) (by rw [f2]; exact f3)
    rw [f2] at hd
    refine ev_neg c (Ev.bind ts (Ev.bind sp (Ev.bind ts (Ev.bind im (Ev.bind (eqEvS r.1 (by omega)) (ev_pos rfl ?_))))))
    have hne : (r.2 != r.2) = false := by simp
    rw [hne]
    refine Ev.step (fun k => by rw [laws_FnExactCompactEvents.j0]) ?_
    refine ev_neg (by simp) (Ev.bind ts (Ev.bind (eqEvS m (by omega)) (ev_pos rfl (Ev.bind e1 (ev_neg (by simp; omega) (Ev.bind (eqEvS r.1 (by omega)) (ev_pos rfl ?_)))))))
    rw [hne]
    refine Ev.step (fun k => by rw [laws_FnExactCompactEvents.j1]) ?_
    refine ev_neg (by simp) (Ev.bind f1 (Ev.bind hd (ev_neg (by omega) (ev_pos rfl (Ev.bind ts (Ev.bind im (Ev.bind (eqEvS r.1 (by omega)) (ev_pos rfl ?_))))))))
    rw [hne]
    refine Ev.step (fun k => by rw [laws_FnExactCompactEvents.j2]) ?_
    exact ev_neg (by simp) (Ev.bind hd (ev_neg (by omega) (ev_pos rfl (Ev.now _))))

end Go.Proofs.Ytgmbgpjebpgpkaa.Pure
