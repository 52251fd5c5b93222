/- ReadEvent: the program and the reference read the same event out of every text. -/
import Derived.Test.YtgmbgpjebpgpkaaDoorQFnExactReadEventx7
namespace Go.Proofs.YtgmbgpjebpgpkaaDoor.Pure
open Go.RowKit Go.Proofs.YtgmbgpjebpgpkaaDoor.QFnExactReadEvent Go.Proofs.YtgmbgpjebpgpkaaDoorW.PrintWords Go.Proofs.YtgmbgpjebpgpkaaDoorW.PrintLast Go.Proofs.YtgmbgpjebpgpkaaDoorW.PrintMore
set_option linter.unusedVariables false

theorem w64 {n : Int} (h1 : -9223372036854775808 ≤ n) (h2 : n ≤ 9223372036854775807) : wrap64 n = n := by
  unfold wrap64
  omega
theorem wf64 {n : Int} (h : (Lit.int .i64 n).wf = true) : -9223372036854775808 ≤ n ∧ n ≤ 9223372036854775807 := by
  simp [Lit.wf, IntKind.min, IntKind.max, IntKind.signed, IntKind.bits] at h
  omega

theorem ev_pos {α : Type} {c : Prop} [Decidable c] {g f : Nat → Option α} {r : α} (h : c) (e : Ev g r) : Ev (fun k => if c then g k else f k) r := Ev.congr (fun _ => if_pos h) e
theorem ev_neg {α : Type} {c : Prop} [Decidable c] {g f : Nat → Option α} {r : α} (h : ¬ c) (e : Ev f r) : Ev (fun k => if c then g k else f k) r := Ev.congr (fun _ => if_neg h) e
theorem ev_b {α β : Type} {o : Option α} {a : α} {f : Nat → α → Option β} {r : β} (h : o = some a) (e : Ev (fun k => f k a) r) : Ev (fun k => o.bind (f k)) r := by subst h; exact e
theorem ev_eq {α : Type} {g : Nat → Option α} {r q : α} (e : Ev g r) (h : r = q) : Ev g q := h ▸ e
theorem ev_some {α : Type} {r q : α} (h : r = q) : Ev (fun _ => some r) q := h ▸ Ev.now r
/-- Down from a list's end. -/
theorem idx_ind {α : Type} (l : List α) (P : Nat → Prop) (hend : P l.length) (hstep : ∀ i, i < l.length → P (i + 1) → P i) : ∀ i, i ≤ l.length → P i := by
  have key : ∀ d i, i + d = l.length → P i := by
    intro d
    induction d with
    | zero => intro i h; have : i = l.length := by omega
              rw [this]; exact hend
    | succ d ih => intro i h; exact hstep i (by omega) (ih (i + 1) (by omega))
  intro i h
  exact key (l.length - i) i (by omega)
theorem rd_at (l : List Int) (i : Nat) (h : i < l.length) : rd l (i : Int) = l[i] := by
  simp [rd, List.getD, h]
theorem rdOf_at {α : Type} (d : α) (l : List α) (i : Nat) (h : i < l.length) : rdOf d l (i : Int) = l[i] := by
  simp [rdOf, List.getD, h]
theorem drop_at {α : Type} (l : List α) (i : Nat) (h : i < l.length) : l.drop i = l[i] :: l.drop (i + 1) := List.drop_eq_getElem_cons h
theorem wsucc {i n : Nat} (h : i < n) (hn : n ≤ 9223372036854775807) : wrap64 ((i : Int) + 1) = ((i + 1 : Nat) : Int) := by
  rw [w64 (by omega) (by omega)]; rfl

theorem implIn (a b c : Int) : impl_in.f a b c = some (decide (b ≤ a ∧ a ≤ c)) := by
  unfold impl_in.f
  by_cases h : a ≥ b
  · rw [if_pos h]; simp [h]
  · rw [if_neg h]; simp; intro h2; omega
theorem implTick (a : Int) : impl_isTick.f a = some (decide (0 ≤ a ∧ a ≤ 1000000)) := by
  unfold impl_isTick.f
  rw [implIn]; rfl

theorem specIn (a b c : Int) : spec_l00In.f a b c = some (decide (b ≤ a ∧ a ≤ c)) := by
  unfold spec_l00In.f
  by_cases h : a ≥ b
  · rw [if_pos h]; simp [h]
  · rw [if_neg h]; simp; intro h2; omega

/-- Is every byte of a text from a place on between two bounds? -/
def betw (s : ByteArray) (lo hi : Int) : Nat → Nat → Bool
  | _, 0 => true
  | i, n + 1 => decide (lo ≤ bt s (i : Int) ∧ bt s (i : Int) ≤ hi) && betw s lo hi (i + 1) n
theorem nat_ind (n : Nat) (P : Nat → Prop) (hend : P n) (hstep : ∀ i, i < n → P (i + 1) → P i) : ∀ i, i ≤ n → P i := by
  have key : ∀ d i, i + d = n → P i := by
    intro d
    induction d with
    | zero => intro i h; have : i = n := by omega
              rw [this]; exact hend
    | succ d ih => intro i h; exact hstep i (by omega) (ih (i + 1) (by omega))
  intro i h
  exact key (n - i) i (by omega)
theorem betw_step (s : ByteArray) (lo hi : Int) {i n : Nat} (h : i < n) : betw s lo hi i (n - i) = (decide (lo ≤ bt s (i : Int) ∧ bt s (i : Int) ≤ hi) && betw s lo hi (i + 1) (n - (i + 1))) := by
  rw [show n - i = (n - (i + 1)) + 1 by omega, betw]
theorem betw_no (s : ByteArray) {lo hi : Int} {i n : Nat} (h : i < n) (c : ¬ (lo ≤ bt s (i : Int) ∧ bt s (i : Int) ≤ hi)) : betw s lo hi i (n - i) = false := by
  rw [betw_step s lo hi h, decide_eq_false c]; rfl
theorem betw_yes (s : ByteArray) {lo hi : Int} {i n : Nat} (h : i < n) (c : lo ≤ bt s (i : Int) ∧ bt s (i : Int) ≤ hi) : betw s lo hi i (n - i) = betw s lo hi (i + 1) (n - (i + 1)) := by
  rw [betw_step s lo hi h, decide_eq_true c]; rfl

theorem implText (s : ByteArray) (hs : s.size ≤ 140737488351232) : Ev (fun k => impl_IsText.f k s) (betw s 32 126 0 s.size && decide (s.size ≤ 80)) := by
  have key := nat_ind s.size (fun i => Ev (fun k => impl_IsText.l0 k s (s.size : Int) (i : Int)) (betw s 32 126 i (s.size - i) && decide (s.size ≤ 80))) ?_ ?_ 0 (Nat.zero_le _)
  · exact key
  · refine Ev.step (fun k => by rw [impl_IsText.l0]) ?_
    refine ev_neg (by omega) (ev_some ?_)
    simp [betw]; omega
  · intro i hi ih
    refine Ev.step (fun k => by rw [impl_IsText.l0]) ?_
    refine ev_pos (by omega) (ev_pos (by omega) (ev_pos (by omega) ?_))
    by_cases c1 : bt s (i : Int) < 32
    · refine ev_pos c1 (ev_some ?_)
      rw [betw_no s hi (by omega)]; rfl
    · refine ev_neg c1 ?_
      by_cases c2 : bt s (i : Int) > 126
      · refine ev_pos c2 (ev_some ?_)
        rw [betw_no s hi (by omega)]; rfl
      · refine ev_neg c2 ?_
        rw [betw_yes s hi (by omega), wsucc hi (by omega)]
        exact ih

theorem specText (s : ByteArray) (hs : s.size ≤ 140737488351232) : Ev (fun k => spec_l01IsText.f k s) (betw s 32 126 0 s.size && decide (s.size ≤ 80)) := by
  have key := nat_ind s.size (fun i => Ev (fun k => spec_l01IsText.l0 k s (i : Int)) (betw s 32 126 i (s.size - i) && decide (s.size ≤ 80))) ?_ ?_ 0 (Nat.zero_le _)
  · exact key
  · refine Ev.step (fun k => by rw [spec_l01IsText.l0]) ?_
    refine ev_neg (by omega) (ev_some ?_)
    simp [betw]; omega
  · intro i hi ih
    refine Ev.step (fun k => by rw [spec_l01IsText.l0]) ?_
    refine ev_pos (by omega) (ev_pos (by omega) ?_)
    by_cases c1 : bt s (i : Int) < 32
    · refine ev_pos c1 (ev_some ?_)
      rw [betw_no s hi (by omega)]; rfl
    · refine ev_neg c1 ?_
      by_cases c2 : bt s (i : Int) > 126
      · refine ev_pos c2 (ev_some ?_)
        rw [betw_no s hi (by omega)]; rfl
      · refine ev_neg c2 ?_
        rw [betw_yes s hi (by omega), wsucc hi (by omega)]
        exact ih

theorem implMember (a : Int) : impl_isMember.f a = some (decide (1 ≤ a ∧ a ≤ 1000)) := by
  unfold impl_isMember.f
  rw [implIn]; rfl
def okText (s : ByteArray) : Bool := betw s 32 126 0 s.size && decide (s.size ≤ 80)
/-- Is an event in order? -/
def evOk (k n m a : Int) (t : ByteArray) (r : Int) : Bool :=
  if ¬ (1 ≤ n ∧ n ≤ 1000000000) ∨ ¬ (1 ≤ m ∧ m ≤ 1000) then false
  else if k = 0 then (if 0 ≤ a ∧ a ≤ 1000000 then (if okText t = true then decide (0 ≤ r ∧ r ≤ n - 1) else false) else false)
  else if k = 1 then (if a = 0 then (if okText t = true then r == 0 else false) else false)
  else if k = 2 ∨ k = 3 ∨ k = 4 then (if a = 0 then (if t.toList = ([] : List UInt8) then r == 0 else false) else false)
  else false
theorem specEvent (k n m a : Int) (t : ByteArray) (r : Int) (ht : t.size ≤ 140737488351232) : Ev (fun q => spec_l07Event.f q k n m a t r) (evOk k n m a t r) := by
  unfold spec_l07Event.f
  refine ev_b (specIn _ _ _) ?_
  by_cases h1 : 1 ≤ n ∧ n ≤ 1000000000
  · refine ev_pos (by simpa using h1) (ev_b (a := decide (1 ≤ m ∧ m ≤ 1000)) (by unfold spec_l01Member.f; rw [specIn]; rfl) ?_)
    refine Ev.step (fun q => by rw [spec_l07Event.j0]) ?_
    by_cases h2 : 1 ≤ m ∧ m ≤ 1000
    · refine ev_neg (by simpa using h2) ?_
      unfold evOk
      rw [if_neg (show ¬ (¬ (1 ≤ n ∧ n ≤ 1000000000) ∨ ¬ (1 ≤ m ∧ m ≤ 1000)) by omega)]
      by_cases k0 : k = 0
      · refine ev_pos k0 ?_
        rw [if_pos k0]
        refine ev_b (a := decide (0 ≤ a ∧ a ≤ 1000000)) (by unfold spec_l01Tick.f; rw [specIn]; rfl) ?_
        by_cases ha : 0 ≤ a ∧ a ≤ 1000000
        · rw [if_pos ha]
          refine ev_pos (by simpa using ha) (Ev.bind (specText t ht) ?_)
          by_cases ho : okText t = true
          · rw [if_pos ho]
            refine ev_pos ho (ev_b (specIn _ _ _) (ev_some ?_))
            rw [w64 (by omega) (by omega)]
          · rw [if_neg ho]
            exact ev_neg ho (Ev.now _)
        · rw [if_neg ha]
          exact ev_neg (by simpa using ha) (Ev.now _)
      · refine ev_neg k0 ?_
        rw [if_neg k0]
        by_cases k1 : k = 1
        · refine ev_pos k1 ?_
          rw [if_pos k1]
          by_cases ha : a = 0
          · rw [if_pos ha]
            refine ev_pos ha (Ev.bind (specText t ht) ?_)
            by_cases ho : okText t = true
            · refine ev_pos ho ?_; rw [if_pos ho]; exact Ev.now _
            · refine ev_neg ho ?_; rw [if_neg ho]; exact Ev.now _
          · refine ev_neg ha ?_; rw [if_neg ha]; exact Ev.now _
        · refine ev_neg k1 ?_
          rw [if_neg k1]
          have tail : Ev (fun _ => if a = 0 then (if t.toList = ([] : List UInt8) then (some (r == 0)) else (some false)) else (some false)) (if a = 0 then (if t.toList = ([] : List UInt8) then r == 0 else false) else false) := by
            by_cases ha : a = 0
            · refine ev_pos ha ?_
              rw [if_pos ha]
              by_cases hz : t.toList = ([] : List UInt8)
              · refine ev_pos hz ?_; rw [if_pos hz]; exact Ev.now _
              · refine ev_neg hz ?_; rw [if_neg hz]; exact Ev.now _
            · refine ev_neg ha ?_; rw [if_neg ha]; exact Ev.now _
          by_cases k2 : k = 2
          · rw [if_pos (Or.inl k2)]; exact ev_pos k2 tail
          · refine ev_neg k2 ?_
            by_cases k3 : k = 3
            · rw [if_pos (Or.inr (Or.inl k3))]; exact ev_pos k3 tail
            · refine ev_neg k3 ?_
              by_cases k4 : k = 4
              · rw [if_pos (Or.inr (Or.inr k4))]; exact ev_pos k4 tail
              · rw [if_neg (show ¬ (k = 2 ∨ k = 3 ∨ k = 4) by omega)]; exact ev_neg k4 (Ev.now _)
    · refine ev_pos (by rw [decide_eq_false h2]; rfl) (ev_some ?_)
      unfold evOk
      rw [if_pos (Or.inr h2)]
  · refine ev_neg (by simpa using h1) ?_
    refine Ev.step (fun q => by rw [spec_l07Event.j0]) ?_
    refine ev_pos rfl (ev_some ?_)
    unfold evOk
    rw [if_pos (Or.inl h1)]
theorem implEvent (k n m a : Int) (t : ByteArray) (r : Int) (ht : t.size ≤ 140737488351232) : Ev (fun q => impl_ValidEvent.f q k n m a t r) (evOk k n m a t r) := by
  unfold impl_ValidEvent.f
  have no : evOk k n m a t r = false → Ev (fun q => impl_ValidEvent.j0 q true k n m a t r) (evOk k n m a t r) := by
    intro h
    rw [h]
    refine Ev.step (fun q => by rw [impl_ValidEvent.j0]) ?_
    exact ev_pos rfl (Ev.now _)
  refine ev_b (implIn _ _ _) ?_
  by_cases hk : 0 ≤ k ∧ k ≤ 4
  · refine ev_pos (by simpa using hk) (ev_b (implIn _ _ _) ?_)
    by_cases h1 : 1 ≤ n ∧ n ≤ 1000000000
    · refine ev_pos (by simpa using h1) (ev_b (implMember _) ?_)
      by_cases h2 : 1 ≤ m ∧ m ≤ 1000
      · rw [decide_eq_true h2]
        refine Ev.step (fun q => by rw [impl_ValidEvent.j0]) ?_
        refine ev_neg (by simp) ?_
        unfold evOk
        rw [if_neg (show ¬ (¬ (1 ≤ n ∧ n ≤ 1000000000) ∨ ¬ (1 ≤ m ∧ m ≤ 1000)) by omega)]
        by_cases k0 : k = 0
        · refine ev_pos k0 ?_
          rw [if_pos k0]
          refine ev_b (implTick _) ?_
          by_cases ha : 0 ≤ a ∧ a ≤ 1000000
          · rw [if_pos ha]
            refine ev_pos (by simpa using ha) (Ev.bind (implText t ht) ?_)
            by_cases ho : okText t = true
            · rw [if_pos ho]
              refine ev_pos ho (ev_b (implIn _ _ _) (ev_some ?_))
              rw [w64 (by omega) (by omega)]
            · rw [if_neg ho]
              exact ev_neg ho (Ev.now _)
          · rw [if_neg ha]
            exact ev_neg (by simpa using ha) (Ev.now _)
        · refine ev_neg k0 ?_
          rw [if_neg k0]
          by_cases k1 : k = 1
          · refine ev_pos k1 ?_
            rw [if_pos k1]
            refine Ev.bind (implText t ht) ?_
            by_cases ho : okText t = true
            · rw [if_pos ho]
              refine ev_pos ho ?_
              by_cases ha : a = 0
              · refine ev_pos ha ?_; rw [if_pos ha]; exact Ev.now _
              · refine ev_neg ha ?_; rw [if_neg ha]; exact Ev.now _
            · rw [if_neg ho]
              refine ev_neg ho (ev_some ?_)
              split <;> rfl
          · refine ev_neg k1 ?_
            rw [if_neg k1, if_pos (show k = 2 ∨ k = 3 ∨ k = 4 by omega)]
            by_cases ha : a = 0
            · refine ev_pos ha ?_
              rw [if_pos ha]
              by_cases hz : t.toList = ([] : List UInt8)
              · refine ev_pos hz ?_; rw [if_pos hz]; exact Ev.now _
              · refine ev_neg hz ?_; rw [if_neg hz]; exact Ev.now _
            · refine ev_neg ha ?_; rw [if_neg ha]; exact Ev.now _
      · rw [decide_eq_false h2]
        exact no (by unfold evOk; rw [if_pos (Or.inr h2)])
    · exact ev_neg (by simpa using h1) (no (by unfold evOk; rw [if_pos (Or.inl h1)]))
  · refine ev_neg (by simpa using hk) (no ?_)
    unfold evOk
    split
    · rfl
    · rw [if_neg (show ¬ k = 0 by omega), if_neg (show ¬ k = 1 by omega), if_neg (show ¬ (k = 2 ∨ k = 3 ∨ k = 4) by omega)]

theorem toList_dl (s : ByteArray) : s.toList = s.data.toList := ByteArray.toList_eq s
theorem btL (s : ByteArray) (i : Nat) (h : i < s.data.toList.length) : bt s (i : Int) = ((s.data.toList[i]).toNat : Int) := by
  have h2 : i < s.size := by rw [Lib.size_eq]; exact h
  unfold bt
  rw [dif_pos (by simpa using h2)]
  simp only [Int.toNat_natCast]
  rfl
/-! ### numerals -/
theorem decLen : ∀ u : Nat, (Lib.decDigits u).length ≤ u + 1 := by
  intro u
  induction u using Nat.strongRecOn with
  | _ u ih =>
    rw [Lib.decDigits]
    split
    · simp
    · have := ih (u / 10) (by omega)
      rw [List.length_append]
      simp only [List.length_cons, List.length_nil]
      omega
def ints (l : List UInt8) : List Int := l.map fun b => (b.toNat : Int)
theorem strInts (l : List UInt8) : strOfNums (ints l) = ⟨l.toArray⟩ := by
  unfold strOfNums ints
  have h : (fun n : Int => UInt8.ofNat n.toNat) ∘ (fun b : UInt8 => (b.toNat : Int)) = id := by
    funext b
    simp
  rw [List.map_map, h, List.map_id]
theorem dig8 (v : Nat) : (UInt8.ofNat (48 + v % 10)).toNat = 48 + v % 10 := by
  rw [UInt8.toNat_ofNat']
  omega
/-- The numeral with its sign, as the reference lays it. -/
def fin0 (x0 : Int) (l : List UInt8) : List UInt8 := if x0 < 0 then 45 :: l else l
def sgn (x0 : Int) (v : Nat) : Int := if x0 < 0 then -(v : Int) else v
theorem specDecStep (x0 : Int) (v : Nat) (hv : v ≤ 1000000000) (l : List UInt8) (r : ByteArray) (hb : l.length + 2 < 140737488355328)
    (h : Ev (fun k => spec_l01Dec.l0 k x0 (ints (UInt8.ofNat (48 + v % 10) :: l)) (sgn x0 (v / 10))) r) : Ev (fun k => spec_l01Dec.j1 k x0 (ints l) (sgn x0 v) true) r := by
  refine Ev.step (fun k => by rw [spec_l01Dec.j1]) ?_
  have e1 : Int.tmod (v : Int) 10 = ((v % 10 : Nat) : Int) := by
    rw [Int.tmod_eq_emod_of_nonneg (by omega)]; rfl
  have e2 : Int.tdiv (v : Int) 10 = ((v / 10 : Nat) : Int) := by
    rw [Int.tdiv_eq_ediv_of_nonneg (by omega)]; rfl
  have h3 : ([((48 + v % 10 : Nat) : Int)] ++ ints l) = ints (UInt8.ofNat (48 + v % 10) :: l) := by
    simp only [ints, List.map_cons, dig8]; rfl
  have hz : ([((48 + v % 10 : Nat) : Int)]).length + (ints l).length < 140737488355328 := by simp [ints]; omega
  refine ev_pos rfl ?_
  by_cases hx : x0 < 0
  · have t1 : Int.tmod (sgn x0 v) 10 = -((v % 10 : Nat) : Int) := by unfold sgn; rw [if_pos hx, Int.neg_tmod, e1]
    have t2 : wrap64 (Int.tdiv (sgn x0 v) 10) = sgn x0 (v / 10) := by
      unfold sgn; rw [if_pos hx, if_pos hx, Int.neg_tdiv, e2, w64 (by omega) (by omega)]
    rw [t1, t2]
    by_cases h0 : v % 10 = 0
    · refine ev_neg (by omega) ?_
      have d : (wrap64 (48 + -((v % 10 : Nat) : Int))) % 256 = ((48 + v % 10 : Nat) : Int) := by rw [w64 (by omega) (by omega)]; omega
      rw [d]
      refine ev_b rfl (ev_pos hz ?_)
      rw [h3]; exact h
    · refine ev_pos (by omega) ?_
      have d : (wrap64 (48 + (wrap64 (-(-((v % 10 : Nat) : Int)))))) % 256 = ((48 + v % 10 : Nat) : Int) := by
        rw [w64 (n := -(-((v % 10 : Nat) : Int))) (by omega) (by omega), w64 (by omega) (by omega)]; omega
      rw [d]
      refine ev_b rfl (ev_pos hz ?_)
      rw [h3]; exact h
  · have t1 : Int.tmod (sgn x0 v) 10 = ((v % 10 : Nat) : Int) := by unfold sgn; rw [if_neg hx, e1]
    have t2 : wrap64 (Int.tdiv (sgn x0 v) 10) = sgn x0 (v / 10) := by
      unfold sgn; rw [if_neg hx, if_neg hx, e2, w64 (by omega) (by omega)]
    rw [t1, t2]
    refine ev_neg (by omega) ?_
    have d : (wrap64 (48 + ((v % 10 : Nat) : Int))) % 256 = ((48 + v % 10 : Nat) : Int) := by rw [w64 (by omega) (by omega)]; omega
    rw [d]
    refine ev_b rfl (ev_pos hz ?_)
    rw [h3]; exact h
theorem specDecEnd (x0 : Int) (l : List UInt8) (hl : l ≠ []) (hb : l.length + 2 < 140737488355328) : Ev (fun k => spec_l01Dec.l0 k x0 (ints l) (sgn x0 0)) ⟨(fin0 x0 l).toArray⟩ := by
  have hl2 : 0 < l.length := List.length_pos_iff.2 hl
  have hs : sgn x0 0 = 0 := by unfold sgn; split <;> rfl
  rw [hs]
  refine Ev.step (fun k => by rw [spec_l01Dec.l0]) ?_
  refine ev_neg (by simp [ints]; omega) ?_
  refine Ev.step (fun k => by rw [spec_l01Dec.j1]) ?_
  refine ev_neg (by simp) ?_
  by_cases hx : x0 < 0
  · have hf : fin0 x0 l = 45 :: l := by unfold fin0; rw [if_pos hx]
    rw [hf]
    refine ev_pos hx (ev_b rfl (ev_pos (by simp [ints]; omega) (ev_some ?_)))
    exact strInts (45 :: l)
  · have hf : fin0 x0 l = l := by unfold fin0; rw [if_neg hx]
    rw [hf]
    exact ev_neg hx (ev_some (strInts l))
theorem specDecL (x0 : Int) : ∀ (v : Nat) (l : List UInt8), v ≤ 1000000000 → (l = [] ∨ v ≠ 0) → l.length + v + 3 < 140737488355328 → Ev (fun k => spec_l01Dec.l0 k x0 (ints l) (sgn x0 v)) ⟨(fin0 x0 (Lib.decDigits v ++ l)).toArray⟩ := by
  intro v
  induction v using Nat.strongRecOn with
  | _ v ih =>
    intro l hv hl hb
    have hj : Ev (fun k => spec_l01Dec.j1 k x0 (ints l) (sgn x0 v) true) ⟨(fin0 x0 (Lib.decDigits v ++ l)).toArray⟩ := by
      refine specDecStep x0 v hv l _ (by omega) ?_
      by_cases h10 : v < 10
      · have h4 : v / 10 = 0 := by omega
        rw [h4, Lib.decDigits_one h10, Nat.mod_eq_of_lt h10]
        exact specDecEnd x0 _ (by simp) (by simp; omega)
      · have := ih (v / 10) (by omega) (UInt8.ofNat (48 + v % 10) :: l) (by omega) (.inr (by omega)) (by simp; omega)
        refine ev_eq this ?_
        rw [Lib.decDigits.eq_1 v, dif_neg h10]
        simp
    refine Ev.step (fun k => by rw [spec_l01Dec.l0]) ?_
    by_cases h0 : l = []
    · subst h0
      exact ev_pos rfl hj
    · have hl2 : 0 < l.length := List.length_pos_iff.2 h0
      have hv0 : v ≠ 0 := by rcases hl with h | h; exact absurd h h0; exact h
      refine ev_neg (by simp [ints]; omega) ?_
      have : (sgn x0 v != 0) = true := by
        have : sgn x0 v ≠ 0 := by unfold sgn; split <;> omega
        simp [this]
      rw [this]
      exact hj
theorem specDec (n : Int) (h1 : -1000000000 ≤ n) (h2 : n ≤ 1000000000) : Ev (fun k => spec_l01Dec.f k n) ⟨(Lib.itoa n).toArray⟩ := by
  unfold spec_l01Dec.f
  have h := specDecL n n.natAbs [] (by omega) (.inl rfl) (by simp; omega)
  have e : sgn n n.natAbs = n := by unfold sgn; split <;> omega
  rw [e, List.append_nil] at h
  refine ev_eq h ?_
  unfold fin0 Lib.itoa
  by_cases hx : n < 0
  · rw [if_pos hx, if_pos hx]
  · rw [if_neg hx, if_neg hx, show n.natAbs = n.toNat by omega]
theorem implDec (n : Int) (h1 : -1000000000 ≤ n) (h2 : n ≤ 1000000000) : impl_Decimal.f n = some ⟨(Lib.itoa n).toArray⟩ := by
  unfold impl_Decimal.f strconv_FormatInt_41.f
  rw [if_pos ⟨rfl, by omega, by omega⟩]
  rfl
/-! ### a number's text -/
/-- Is this the numeral of a number in bounds? -/
def okV (l : List UInt8) (v : Int) : Bool := decide (-1000000000 ≤ v ∧ v ≤ 1000000000) && decide (Lib.itoa v = l)
def ans (l : List UInt8) (v : Int) : Int × Bool := if okV l v = true then (v, true) else (0, false)
theorem ansY {l : List UInt8} {v : Int} (h : -1000000000 ≤ v ∧ v ≤ 1000000000) (h2 : Lib.itoa v = l) : ans l v = (v, true) := by
  unfold ans okV
  rw [decide_eq_true h, decide_eq_true h2]
  rfl
theorem ansN {l : List UInt8} {v : Int} (h : ¬ ((-1000000000 ≤ v ∧ v ≤ 1000000000) ∧ Lib.itoa v = l)) : ans l v = (0, false) := by
  unfold ans okV
  rw [if_neg (fun z => ?_)]
  simp only [Bool.and_eq_true, decide_eq_true_eq] at z
  exact h z
def vI (l : List UInt8) : Int × Bool := match Lib.parseIntB 64 l with
  | .ok v => ans l v
  | _ => (0, false)
theorem implVal (s : ByteArray) (hs : s.size ≤ 1048576) : impl_ReadDecimal.f s = some (vI s.data.toList) := by
  unfold impl_ReadDecimal.f strconv_ParseInt_40.f
  rw [if_pos ⟨rfl, rfl, by omega⟩]
  unfold vI
  cases hp : Lib.parseIntB 64 s.data.toList with
  | ok v =>
    show (if (none : Option Int).isNone = true then ((impl_in.f v (-1000000000) 1000000000).bind fun t250 => (if t250 = true then ((impl_Decimal.f v).bind fun t251 => (if t251.toList = s.toList then (some (v, true)) else (some (0, false)))) else (some (0, false)))) else (some (0, false))) = some (ans s.data.toList v)
    rw [if_pos (show (none : Option Int).isNone = true by rfl), implIn]
    unfold ans okV
    by_cases h : -1000000000 ≤ v ∧ v ≤ 1000000000
    · rw [decide_eq_true h, implDec v h.1 h.2]
      simp only [Option.bind_some, if_true, Bool.true_and, decide_eq_true_eq]
      have e : ((⟨(Lib.itoa v).toArray⟩ : ByteArray).toList = s.toList) = (Lib.itoa v = s.data.toList) := by rw [toList_dl, toList_dl]
      by_cases h2 : Lib.itoa v = s.data.toList
      · rw [if_pos (e.mpr h2), if_pos h2]
      · rw [if_neg (fun z => h2 (e.mp z)), if_neg h2]
    · rw [decide_eq_false h]
      simp
  | range => rfl
  | _ => rfl
/-- What the reference's digits spell. -/
def stepD (b : UInt8) (v : Int) : Int := if 48 ≤ b.toNat ∧ b.toNat ≤ 57 then wrap64 (wrap64 (10 * v) + (((b.toNat : Int) - 48) % 256)) else v
def foldD : List UInt8 → Int → Int
  | [], v => v
  | b :: r, v => foldD r (stepD b v)
theorem foldApp (a b : List UInt8) : ∀ v, foldD (a ++ b) v = foldD b (foldD a v) := by
  induction a with
  | nil => intro v; rfl
  | cons x a ih => intro v; exact ih _
def vS (l : List UInt8) : Int × Bool := if l.length < 1 ∨ l.length > 11 then (0, false) else ans l (if l.head?.map (·.toNat) = some 45 then wrap64 (-(foldD l 0)) else foldD l 0)
theorem specJ2 (s : ByteArray) (v : Int) : Ev (fun k => spec_l01Value.j2 k s v) (ans s.data.toList v) := by
  refine Ev.step (fun k => by rw [spec_l01Value.j2]) ?_
  refine ev_b (specIn _ _ _) ?_
  by_cases h : -1000000000 ≤ v ∧ v ≤ 1000000000
  · refine ev_pos (by simpa using h) (Ev.bind (specDec v h.1 h.2) ?_)
    have e : ((⟨(Lib.itoa v).toArray⟩ : ByteArray).toList = s.toList) = (Lib.itoa v = s.data.toList) := by rw [toList_dl, toList_dl]
    by_cases h2 : Lib.itoa v = s.data.toList
    · rw [ansY h h2]
      exact ev_pos (e.mpr h2) (Ev.now _)
    · rw [ansN (fun z => h2 z.2)]
      exact ev_neg (fun z => h2 (e.mp z)) (Ev.now _)
  · rw [ansN (fun z => h z.1)]
    exact ev_neg (by simpa using h) (Ev.now _)
theorem specVal (s : ByteArray) : Ev (fun k => spec_l01Value.f k s) (vS s.data.toList) := by
  have hz := Lib.size_eq s
  unfold spec_l01Value.f vS
  by_cases h1 : s.size < 1
  · rw [if_pos (by omega)]
    refine ev_pos (by omega) (Ev.step (fun k => by rw [spec_l01Value.j0]) (ev_pos rfl (Ev.now _)))
  · refine ev_neg (by omega) ?_
    by_cases h2 : s.size > 11
    · rw [if_pos (by omega)]
      refine Ev.step (fun k => by rw [spec_l01Value.j0]) (ev_pos (by simp; omega) (Ev.now _))
    · rw [if_neg (by omega)]
      refine Ev.step (fun k => by rw [spec_l01Value.j0]) (ev_neg (by simp; omega) ?_)
      have key := nat_ind s.size (fun i => ∀ v, Ev (fun k => spec_l01Value.l0 k s v (i : Int)) (ans s.data.toList (if s.data.toList.head?.map (·.toNat) = some 45 then wrap64 (-(foldD (s.data.toList.drop i) v)) else foldD (s.data.toList.drop i) v))) ?_ ?_ 0 (Nat.zero_le _) 0
      · exact key
      · intro v
        refine Ev.step (fun k => by rw [spec_l01Value.l0]) (ev_neg (by omega) (ev_pos (by omega) ?_))
        rw [hz, List.drop_length]
        show Ev _ (ans s.data.toList (if s.data.toList.head?.map (·.toNat) = some 45 then wrap64 (-v) else v))
        have hb := btL s 0 (by omega)
        have hh : s.data.toList.head?.map (·.toNat) = some (s.data.toList[0]'(by omega)).toNat := by
          rw [List.head?_eq_getElem?, List.getElem?_eq_getElem (by omega)]; rfl
        rw [hh]
        by_cases h45 : (s.data.toList[0]'(by omega)).toNat = 45
        · rw [if_pos (by rw [h45])]
          refine ev_pos ?_ (specJ2 s _)
          show bt s ((0 : Nat) : Int) = 45
          rw [hb, h45]; rfl
        · rw [if_neg (by simpa using h45)]
          refine ev_neg ?_ (specJ2 s _)
          show ¬ bt s ((0 : Nat) : Int) = 45
          rw [hb]; omega
      · intro i hi ih v
        have hil : i < s.data.toList.length := by omega
        refine Ev.step (fun k => by rw [spec_l01Value.l0]) (ev_pos (by omega) (ev_pos (by omega) ?_))
        rw [List.drop_eq_getElem_cons hil, btL s i hil, wsucc hi (by omega)]
        have e := ih (stepD (s.data.toList[i]) v)
        show Ev _ (ans s.data.toList (if s.data.toList.head?.map (·.toNat) = some 45 then wrap64 (-(foldD (s.data.toList.drop (i + 1)) (stepD (s.data.toList[i]) v))) else foldD (s.data.toList.drop (i + 1)) (stepD (s.data.toList[i]) v)))
        by_cases c1 : 48 ≤ (s.data.toList[i]).toNat
        · refine ev_pos (by omega) ?_
          by_cases c2 : (s.data.toList[i]).toNat ≤ 57
          · have hs : stepD (s.data.toList[i]) v = wrap64 (wrap64 (10 * v) + ((((s.data.toList[i]).toNat : Int) - 48) % 256)) := if_pos ⟨c1, c2⟩
            rw [hs] at e ⊢
            exact ev_pos (by omega) e
          · have hs : stepD (s.data.toList[i]) v = v := if_neg (fun z => c2 z.2)
            rw [hs] at e ⊢
            exact ev_neg (by omega) e
        · have hs : stepD (s.data.toList[i]) v = v := if_neg (fun z => c1 z.1)
          rw [hs] at e ⊢
          exact ev_neg (by omega) e
theorem foldDec (u : Nat) (hu : u ≤ 1000000000) : foldD (Lib.decDigits u) 0 = u := by
  induction u using Nat.strongRecOn with
  | _ u ih =>
    rw [Lib.decDigits]
    split
    · rename_i h
      have := dig8 u
      rw [Nat.mod_eq_of_lt h] at this
      simp only [foldD, stepD, this]
      rw [if_pos ⟨by omega, by omega⟩, w64 (n := 10 * 0) (by omega) (by omega), w64 (by omega) (by omega)]
      omega
    · rename_i h
      rw [foldApp, ih (u / 10) (by omega) (by omega)]
      have := dig8 u
      simp only [foldD, stepD, this]
      rw [if_pos ⟨by omega, by omega⟩, w64 (n := 10 * ((u / 10 : Nat) : Int)) (by omega) (by omega), w64 (by omega) (by omega)]
      omega
theorem parseApp (M : Nat) (a b : List UInt8) : ∀ acc v, Lib.parseUintM M acc a = .ok v → Lib.parseUintM M acc (a ++ b) = Lib.parseUintM M v b := by
  induction a with
  | nil =>
    intro acc v h
    have h : Lib.NumEnd.ok acc = Lib.NumEnd.ok v := h
    injection h with h
    subst h
    rfl
  | cons c r ih =>
    intro acc v h
    rw [List.cons_append, Lib.parseUintM]
    rw [Lib.parseUintM] at h
    split at h
    · rename_i h1
      rw [if_pos h1]
      split at h
      · cases h
      · rename_i h2
        rw [if_neg h2]
        split at h
        · cases h
        · rename_i h3
          rw [if_neg h3]
          exact ih _ _ h
    · cases h
theorem parseDec (M u : Nat) (hM : 10000000000 ≤ M) (hu : u ≤ 1000000000) : Lib.parseUintM M 0 (Lib.decDigits u) = .ok u := by
  induction u using Nat.strongRecOn with
  | _ u ih =>
    rw [Lib.decDigits]
    have hd := dig8 u
    split
    · rename_i h
      rw [Nat.mod_eq_of_lt h] at hd
      simp only [Lib.parseUintM, hd]
      rw [if_pos ⟨by omega, by omega⟩, if_neg (by omega), if_neg (by omega)]
      congr 1
      omega
    · rename_i h
      rw [parseApp M _ _ _ _ (ih (u / 10) (by omega) (by omega))]
      simp only [Lib.parseUintM, hd]
      rw [if_pos ⟨by omega, by omega⟩, if_neg (by omega), if_neg (by omega)]
      congr 1
      omega
theorem decHead (u : Nat) : ∃ c r, Lib.decDigits u = c :: r ∧ 48 ≤ c.toNat ∧ c.toNat ≤ 57 := by
  induction u using Nat.strongRecOn with
  | _ u ih =>
    rw [Lib.decDigits]
    have hd := dig8 u
    split
    · rename_i h
      rw [Nat.mod_eq_of_lt h] at hd
      exact ⟨_, [], rfl, by omega, by omega⟩
    · obtain ⟨c, r, e, h1, h2⟩ := ih (u / 10) (by omega)
      rw [e]
      exact ⟨c, _, rfl, h1, h2⟩
theorem decLenLe (u : Nat) (hu : u ≤ 1000000000) : (Lib.decDigits u).length ≤ 10 := by
  have key : ∀ (k u : Nat), u < 10 ^ (k + 1) → (Lib.decDigits u).length ≤ k + 1 := by
    intro k
    induction k with
    | zero => intro u h; rw [Lib.decDigits_one (by simpa using h)]; simp
    | succ k ih =>
      intro u h
      rw [Lib.decDigits]
      split
      · simp
      · rw [Nat.pow_succ] at h
        have := ih (u / 10) (by omega)
        rw [List.length_append]
        simp only [List.length_cons, List.length_nil]
        omega
  exact key 9 u (by omega)
theorem parseItoa (n : Int) (h1 : -1000000000 ≤ n) (h2 : n ≤ 1000000000) : Lib.parseIntB 64 (Lib.itoa n) = .ok n := by
  unfold Lib.itoa
  by_cases hn : n < 0
  · rw [if_pos hn]
    have hp := parseDec (2 ^ 64 - 1) n.natAbs (by decide) (by omega)
    obtain ⟨c, r, e, _, _⟩ := decHead n.natAbs
    have hne : Lib.decDigits n.natAbs ≠ [] := by rw [e]; simp
    unfold Lib.parseIntB
    simp only []
    rw [if_pos (show UInt8.toNat 45 = 43 ∨ UInt8.toNat 45 = 45 from Or.inr rfl)]
    unfold Lib.parseUintB
    rw [if_neg hne, hp]
    simp only []
    rw [if_neg (by simp), if_neg (by omega), if_pos (show UInt8.toNat 45 = 45 from rfl)]
    congr 1
    omega
  · rw [if_neg hn]
    have hp := parseDec (2 ^ 64 - 1) n.toNat (by decide) (by omega)
    obtain ⟨c, r, e, g1, g2⟩ := decHead n.toNat
    rw [e] at hp ⊢
    unfold Lib.parseIntB
    simp only []
    rw [if_neg (by omega)]
    unfold Lib.parseUintB
    rw [if_neg (by simp), hp]
    simp only []
    rw [if_neg (by omega), if_neg (by omega), if_neg (by omega)]
    congr 1
    omega
theorem foldItoa (n : Int) (h1 : -1000000000 ≤ n) (h2 : n ≤ 1000000000) : vS (Lib.itoa n) = (n, true) := by
  have hans : ans (Lib.itoa n) n = (n, true) := by
    unfold ans okV
    rw [if_pos (by simp; omega)]
  unfold vS
  by_cases hn : n < 0
  · have e : Lib.itoa n = 45 :: Lib.decDigits n.natAbs := by unfold Lib.itoa; rw [if_pos hn]
    have hl := decLenLe n.natAbs (by omega)
    have hf : foldD (Lib.itoa n) 0 = n.natAbs := by
      rw [e]
      show foldD (Lib.decDigits n.natAbs) 0 = _
      exact foldDec _ (by omega)
    rw [if_neg (by rw [e]; simp; omega), hf, if_pos (by rw [e]; rfl), w64 (by omega) (by omega), show -((n.natAbs : Nat) : Int) = n by omega]
    exact hans
  · have e : Lib.itoa n = Lib.decDigits n.toNat := by unfold Lib.itoa; rw [if_neg hn]
    have hl := decLenLe n.toNat (by omega)
    obtain ⟨c, r, e2, g1, g2⟩ := decHead n.toNat
    have hf : foldD (Lib.itoa n) 0 = n.toNat := by
      rw [e]
      exact foldDec _ (by omega)
    have hz : 1 ≤ (Lib.decDigits n.toNat).length := by rw [e2]; simp
    rw [if_neg (by rw [e]; omega), hf, if_neg (by rw [e, e2]; simp; omega), show ((n.toNat : Nat) : Int) = n by omega]
    exact hans
theorem vSame (l : List UInt8) : vS l = vI l := by
  by_cases h : ∃ n : Int, -1000000000 ≤ n ∧ n ≤ 1000000000 ∧ Lib.itoa n = l
  · obtain ⟨n, h1, h2, rfl⟩ := h
    rw [foldItoa n h1 h2]
    unfold vI
    rw [parseItoa n h1 h2]
    show _ = ans (Lib.itoa n) n
    unfold ans okV
    rw [if_pos (by simp; omega)]
  · have no : ∀ v, ans l v = (0, false) := by
      intro v
      unfold ans okV
      rw [if_neg (fun z => ?_)]
      simp only [Bool.and_eq_true, decide_eq_true_eq] at z
      exact h ⟨v, z.1.1, z.1.2, z.2⟩
    have a1 : vS l = (0, false) := by
      unfold vS
      split
      · rfl
      · exact no _
    have a2 : vI l = (0, false) := by
      unfold vI
      split
      · exact no _
      · rfl
    rw [a1, a2]
/-! ### pieces -/
/-- A row of bytes parted at each 44. -/
def sp : List UInt8 → List (List UInt8)
  | [] => [[]]
  | b :: r => if b = 44 then [] :: sp r else (b :: (sp r).headD []) :: (sp r).tail
def pre (p : List UInt8) (L : List (List UInt8)) : List (List UInt8) := (p ++ L.headD []) :: L.tail
theorem sp_ne (l : List UInt8) : ∃ h t, sp l = h :: t := by
  cases l with
  | nil => exact ⟨_, _, rfl⟩
  | cons b r =>
    unfold sp
    split
    · exact ⟨_, _, rfl⟩
    · exact ⟨_, _, rfl⟩
theorem pre_nil (l : List UInt8) : pre [] (sp l) = sp l := by
  obtain ⟨h, t, e⟩ := sp_ne l
  rw [e]
  rfl
theorem sp_app (r : List UInt8) : ∀ a : List UInt8, (∀ b ∈ a, b ≠ 44) → sp (a ++ 44 :: r) = a :: sp r
  | [], _ => by
    show sp (44 :: r) = [] :: sp r
    rw [sp, if_pos rfl]
  | b :: a, h => by
    have hb := h b (by simp)
    rw [List.cons_append, sp, if_neg hb, sp_app r a (fun x hx => h x (by simp [hx]))]
    rfl
theorem sp_none : ∀ a : List UInt8, (∀ b ∈ a, b ≠ 44) → sp a = [a]
  | [], _ => rfl
  | b :: a, h => by
    have hb := h b (by simp)
    rw [sp, if_neg hb, sp_none a (fun x hx => h x (by simp [hx]))]
    rfl
theorem splitSp : ∀ (n : Nat) (l : List UInt8), l.length ≤ n → Lib.splitK [44] 0 (Lib.count l [44]) l = sp l := by
  intro n
  induction n with
  | zero =>
    intro l h
    obtain rfl := List.eq_nil_of_length_eq_zero (Nat.le_zero.1 h)
    rw [Lib.count_miss (by rw [Lib.index_one]; rfl)]
    rfl
  | succ n ih =>
    intro l h
    have hg := Lib.indexByte_ge l 44
    by_cases hm : Lib.indexByte l 44 = -1
    · have hno := Lib.indexByte_none hm
      rw [Lib.count_miss (by rw [Lib.index_one]; exact hm), sp_none l (fun b hb e => by
        obtain ⟨k, hk, hkb⟩ := List.mem_iff_getElem.1 hb
        exact hno k (by rw [List.getElem?_eq_getElem hk, hkb, e]))]
      rfl
    · obtain ⟨o, ho⟩ : ∃ o : Nat, Lib.indexByte l 44 = o := ⟨(Lib.indexByte l 44).toNat, by omega⟩
      obtain ⟨hat, hno⟩ := Lib.indexByte_some ho
      obtain ⟨hol, hoe⟩ := List.getElem?_eq_some_iff.1 hat
      have hc : Lib.count l [44] = 1 + Lib.count (l.drop (o + 1)) [44] := Lib.count_hit (by simp) (by rw [Lib.index_one]; exact ho)
      have hl : l = l.take o ++ 44 :: l.drop (o + 1) := by
        have := List.take_append_drop o l
        rw [List.drop_eq_getElem_cons hol, hoe] at this
        exact this.symm
      have hs : sp l = l.take o :: sp (l.drop (o + 1)) := by
        conv => lhs; rw [hl]
        refine sp_app _ _ (fun b hb e => ?_)
        obtain ⟨k, hk, hkb⟩ := List.mem_iff_getElem.1 hb
        have hk2 : k < o := by simp at hk; omega
        refine hno k hk2 ?_
        rw [List.getElem_take] at hkb
        rw [List.getElem?_eq_getElem (by omega), hkb, e]
      rw [hc, Nat.add_comm, Lib.splitK, Lib.index_one, ho, if_neg (by simp), hs]
      have e1 : ((o : Int).toNat + 0) = o := by simp
      have e2 : ((o : Int).toNat + ([44] : List UInt8).length) = o + 1 := by simp
      rw [e1, e2, ih (l.drop (o + 1)) (by rw [List.length_drop]; omega)]
def comma : ByteArray := ⟨#[44]⟩
def pieces (s : ByteArray) : List ByteArray := (sp s.data.toList).map fun l => ⟨l.toArray⟩
theorem ofData {A : List ByteArray} {B : List (List UInt8)} (h : A.map (·.data.toList) = B) : A = B.map fun l => ⟨l.toArray⟩ := by
  subst h
  rw [List.map_map]
  have : (fun l : List UInt8 => (⟨l.toArray⟩ : ByteArray)) ∘ (fun x : ByteArray => x.data.toList) = id := by
    funext x
    rfl
  rw [this, List.map_id]
theorem implPieces (s : ByteArray) (hs : s.size ≤ 1048576) : strings_Split.f s comma = some (pieces s) := by
  unfold strings_Split.f
  have hle : Lib.countB s comma ≤ s.size := Lib.countB_le comma (by decide) s.size s (Nat.le_refl _)
  rw [if_pos ⟨by omega, by decide, by omega⟩]
  congr 1
  refine ofData ?_
  rw [Lib.splitB_data]
  exact splitSp _ _ (Nat.le_refl _)
theorem specPieces (s : ByteArray) (hs : s.size ≤ 1048576) : Ev (fun k => spec_l01Cut.f k s 44) (pieces s) := by
  have hz := Lib.size_eq s
  unfold spec_l01Cut.f
  have key := nat_ind s.size (fun i => ∀ (acc : List ByteArray) (from_ : Nat), from_ ≤ i → acc.length + (s.size - i) + 1 < 8796093022208 → ∃ L, Ev (fun k => spec_l01Cut.l0 k s 44 acc (from_ : Int) (i : Int)) (acc ++ L) ∧ L.map (·.data.toList) = pre ((s.data.toList.drop from_).take (i - from_)) (sp (s.data.toList.drop i))) ?_ ?_ 0 (Nat.zero_le _) [] 0 (Nat.le_refl _) (by simp; omega)
  · obtain ⟨L, hL, hm⟩ := key
    have e : L = pieces s := by
      refine ofData (hm.trans ?_)
      rw [List.drop_zero]
      exact pre_nil _
    rw [← e]
    exact hL
  · intro acc f hf hb
    refine ⟨[s.extract f s.size], Ev.step (fun k => by rw [spec_l01Cut.l0]) ?_, ?_⟩
    · refine ev_pos (by omega) (ev_pos rfl (ev_pos (by omega) (ev_pos (by omega) (ev_pos (by omega) ?_))))
      refine Ev.step (fun k => by rw [spec_l01Cut.l0]) ?_
      rw [w64 (by omega) (by omega)]
      refine ev_neg (by omega) (ev_some ?_)
      simp
    · rw [List.map_cons, List.map_nil, Lib.extract_data, hz, List.drop_length]
      show _ = [_ ++ []]
      rw [List.append_nil]
  · intro i hi ih acc f hf hb
    have hil : i < s.data.toList.length := by omega
    have hd := List.drop_eq_getElem_cons hil
    have hbt := btL s i hil
    by_cases hc : s.data.toList[i] = 44
    · obtain ⟨L, hL, hm⟩ := ih (acc ++ [s.extract f i]) (i + 1) (Nat.le_refl _) (by simp; omega)
      refine ⟨s.extract f i :: L, Ev.step (fun k => by rw [spec_l01Cut.l0]) ?_, ?_⟩
      · refine ev_pos (by omega) (ev_neg (by omega) (ev_pos (by omega) (ev_pos (by omega) (ev_pos (by rw [hbt, hc]; rfl) (ev_pos (by omega) (ev_pos (by omega) (ev_pos (by omega) ?_)))))))
        rw [wsucc hi (by omega), Int.toNat_natCast, Int.toNat_natCast]
        rw [List.append_assoc] at hL
        exact hL
      · rw [List.map_cons, hm, Lib.extract_data, hd, hc, sp, if_pos rfl, Nat.sub_self, List.take_zero, pre_nil]
        show _ = (_ ++ []) :: _
        rw [List.append_nil]
        rfl
    · obtain ⟨L, hL, hm⟩ := ih acc f (by omega) (by omega)
      refine ⟨L, Ev.step (fun k => by rw [spec_l01Cut.l0]) ?_, ?_⟩
      · refine ev_pos (by omega) (ev_neg (by omega) (ev_pos (by omega) (ev_pos (by omega) (ev_neg ?_ ?_))))
        · rw [hbt]
          intro z
          exact hc (UInt8.toNat_inj.1 (by have : (44 : UInt8).toNat = 44 := rfl; omega))
        · rw [wsucc hi (by omega)]
          exact hL
      · rw [hm, hd, sp, if_neg hc]
        show (_ ++ _) :: _ = (_ ++ (_ :: _)) :: _
        have ht : (s.data.toList.drop f).take (i + 1 - f) = (s.data.toList.drop f).take (i - f) ++ [s.data.toList[i]] := by
          have hif : i - f < (s.data.toList.drop f).length := by rw [List.length_drop]; omega
          rw [show i + 1 - f = (i - f) + 1 by omega, List.take_succ_eq_append_getElem hif, List.getElem_drop]
          congr 3
          omega
        rw [ht, List.append_assoc]
        rfl
theorem pieceSize (s : ByteArray) : ∀ x ∈ pieces s, x.size ≤ s.size := by
  have key : ∀ l : List UInt8, ∀ y ∈ sp l, y.length ≤ l.length := by
    intro l
    induction l with
    | nil => intro y hy; simp [sp] at hy; subst hy; simp
    | cons b r ih =>
      intro y hy
      obtain ⟨h, t, e⟩ := sp_ne r
      rw [sp] at hy
      split at hy
      · rcases List.mem_cons.1 hy with rfl | hy
        · simp
        · have := ih y hy; simp; omega
      · rcases List.mem_cons.1 hy with rfl | hy
        · have := ih h (by rw [e]; simp)
          rw [e]; simp; omega
        · have := ih y (by rw [e] at hy ⊢; simp at hy; simp [hy])
          simp; omega
  intro x hx
  obtain ⟨y, hy, rfl⟩ := List.mem_map.1 hx
  have := key _ y hy
  rw [Lib.size_eq s, Lib.size_eq]
  exact this
theorem piecesLen (s : ByteArray) : (pieces s).length ≤ s.size + 1 := by
  have key : ∀ l : List UInt8, (sp l).length ≤ l.length + 1 := by
    intro l
    induction l with
    | nil => simp [sp]
    | cons b r ih =>
      obtain ⟨h, t, e⟩ := sp_ne r
      rw [sp]
      split
      · simp; omega
      · rw [e] at ih ⊢
        simp at ih ⊢
        omega
  have := key s.data.toList
  rw [Lib.size_eq s]
  unfold pieces
  rw [List.length_map]
  exact this
/-! ### numbers -/
def nums : List ByteArray → List Int → List Int × Bool
  | [], acc => (acc, true)
  | p :: r, acc => if (vI p.data.toList).2 = true then nums r (acc ++ [(vI p.data.toList).1]) else ([], false)
def nums3 : List ByteArray → List Int → List Int × Bool
  | [], acc => (acc, true)
  | p :: r, acc => if (vI p.data.toList).2 = true then (if acc.length = 300 then ([], false) else nums3 r (acc ++ [(vI p.data.toList).1])) else ([], false)
theorem nums3_eq : ∀ (ps : List ByteArray) (acc : List Int), acc.length ≤ 300 → nums3 ps acc = if acc.length + ps.length > 300 then ([], false) else nums ps acc
  | [], acc, h => by
    rw [if_neg (by simp; omega)]
    rfl
  | p :: r, acc, h => by
    rw [nums3, nums]
    by_cases hv : (vI p.data.toList).2 = true
    · rw [if_pos hv, if_pos hv]
      by_cases h3 : acc.length = 300
      · rw [if_pos h3, if_pos (by simp; omega)]
      · rw [if_neg h3, nums3_eq r _ (by simp; omega)]
        by_cases h4 : acc.length + (r.length + 1) > 300
        · rw [if_pos (by simp; omega), if_pos (by simp; omega)]
        · rw [if_neg (by simp; omega), if_neg (by simp; omega)]
    · rw [if_neg hv, if_neg hv]
      split <;> rfl
theorem specNums (ps : List ByteArray) (hl : ps.length ≤ 1048577) : Ev (fun k => spec_l01Numbers.l0 k [] ps 0) (nums ps []) := by
  have key := idx_ind ps (fun i => ∀ acc : List Int, acc.length ≤ i → Ev (fun k => spec_l01Numbers.l0 k acc ps (i : Int)) (nums (ps.drop i) acc)) ?_ ?_ 0 (Nat.zero_le _) [] (by simp)
  · exact key
  · intro acc _
    refine Ev.step (fun k => by rw [spec_l01Numbers.l0]) (ev_neg (by omega) (ev_some ?_))
    rw [List.drop_length]
    rfl
  · intro i hi ih acc ha
    refine Ev.step (fun k => by rw [spec_l01Numbers.l0]) (ev_pos (by omega) (ev_pos (by omega) ?_))
    rw [rdOf_at _ ps i hi, drop_at ps i hi, nums]
    refine Ev.bind (vSame (ps[i]).data.toList ▸ specVal ps[i]) ?_
    by_cases hv : (vI (ps[i]).data.toList).2 = true
    · rw [if_pos hv]
      refine ev_pos hv (ev_pos (by omega) ?_)
      rw [wsucc hi (by omega)]
      exact ih _ (by simp; omega)
    · rw [if_neg hv]
      exact ev_neg hv (Ev.now _)
theorem implNums (ps : List ByteArray) (hl : ps.length ≤ 1048577) (hp : ∀ x ∈ ps, x.size ≤ 1048576) : Ev (fun k => impl_ReadList.l0 k [] ps (ps.length : Int) 0) (nums3 ps []) := by
  have key := idx_ind ps (fun i => ∀ acc : List Int, acc.length ≤ i → Ev (fun k => impl_ReadList.l0 k acc ps (ps.length : Int) (i : Int)) (nums3 (ps.drop i) acc)) ?_ ?_ 0 (Nat.zero_le _) [] (by simp)
  · exact key
  · intro acc _
    refine Ev.step (fun k => by rw [impl_ReadList.l0]) (ev_neg (by omega) (ev_some ?_))
    rw [List.drop_length]
    rfl
  · intro i hi ih acc ha
    refine Ev.step (fun k => by rw [impl_ReadList.l0]) (ev_pos (by omega) (ev_pos (by omega) (ev_pos (by omega) ?_)))
    rw [rdOf_at _ ps i hi, drop_at ps i hi, nums3]
    refine ev_b (implVal ps[i] (hp _ (List.getElem_mem hi))) ?_
    by_cases hv : (vI (ps[i]).data.toList).2 = true
    · rw [if_pos hv]
      refine ev_pos hv ?_
      by_cases h3 : acc.length = 300
      · rw [if_pos h3]
        exact ev_pos (by omega) (Ev.now _)
      · rw [if_neg h3]
        refine ev_neg (by omega) (ev_pos (by omega) ?_)
        rw [wsucc hi (by omega)]
        exact ih _ (by simp; omega)
    · rw [if_neg hv]
      exact ev_neg hv (Ev.now _)
def readNums (s : ByteArray) : List Int × Bool := if s.toList = ([110, 111, 110, 101] : List UInt8) then ([], true) else if (pieces s).length > 300 then ([], false) else nums (pieces s) []
theorem specRead (s : ByteArray) (hs : s.size ≤ 1048576) : Ev (fun k => spec_l01Numbers.f k s) (readNums s) := by
  unfold spec_l01Numbers.f
  refine ev_b rfl ?_
  unfold readNums
  by_cases h : s.toList = ([110, 111, 110, 101] : List UInt8)
  · rw [if_pos h]
    exact ev_pos h (Ev.now _)
  · rw [if_neg h]
    have hl := piecesLen s
    refine ev_neg h (Ev.bind (specPieces s hs) ?_)
    by_cases h3 : (pieces s).length > 300
    · rw [if_pos h3]
      exact ev_pos (by omega) (Ev.now _)
    · rw [if_neg h3]
      exact ev_neg (by omega) (specNums _ (by omega))
theorem implRead (s : ByteArray) (hs : s.size ≤ 1048576) : Ev (fun k => impl_ReadList.f k s) (readNums s) := by
  unfold impl_ReadList.f
  refine ev_b rfl ?_
  unfold readNums
  by_cases h : s.toList = ([110, 111, 110, 101] : List UInt8)
  · rw [if_pos h]
    exact ev_pos h (Ev.now _)
  · rw [if_neg h]
    have hl := piecesLen s
    refine ev_neg h (ev_b (implPieces s hs) ?_)
    refine ev_eq (implNums _ (by omega) (fun x hx => by have := pieceSize s x hx; omega)) ?_
    rw [nums3_eq _ _ (by simp)]
    simp
/-! ### the event -/
abbrev Rs : Type := Int × Int × Int × Int × ByteArray × Int × Bool
def zeros : Rs := (0, 0, 0, 0, (⟨#[]⟩ : ByteArray), 0, false)
def rd5 (L : List Int) (t : ByteArray) : Rs := if evOk (rd L 0) (rd L 1) (rd L 2) (rd L 3) t (rd L 4) = true then (rd L 0, rd L 1, rd L 2, rd L 3, t, rd L 4, true) else zeros
theorem rd5Y {L : List Int} {t : ByteArray} (h : evOk (rd L 0) (rd L 1) (rd L 2) (rd L 3) t (rd L 4) = true) : rd5 L t = (rd L 0, rd L 1, rd L 2, rd L 3, t, rd L 4, true) := if_pos h
theorem rd5N {L : List Int} {t : ByteArray} (h : ¬ evOk (rd L 0) (rd L 1) (rd L 2) (rd L 3) t (rd L 4) = true) : rd5 L t = zeros := if_neg h
def rdn (n : List Int × Bool) (t : ByteArray) : Rs := if n.2 = true then (if n.1.length = 5 then rd5 n.1 t else zeros) else zeros
theorem implJ0 (t : ByteArray) (ht : t.size ≤ 1048576) (L : List Int) (hl : L.length = 5) : Ev (fun k => impl_ReadEvent.j0 k t L false) (rd5 L t) := by
  refine Ev.step (fun k => by rw [impl_ReadEvent.j0]) ?_
  refine ev_neg (by simp) (ev_pos (by omega) (ev_pos (by omega) (ev_pos (by omega) (ev_pos (by omega) (ev_pos (by omega) ?_)))))
  refine Ev.bind (implEvent _ _ _ _ t _ (by omega)) ?_
  by_cases h : evOk (rd L 0) (rd L 1) (rd L 2) (rd L 3) t (rd L 4) = true
  · rw [rd5Y h]
    exact ev_pos h (Ev.now _)
  · rw [rd5N h]
    exact ev_neg h (Ev.now _)
theorem implZero (t : ByteArray) (L : List Int) : Ev (fun k => impl_ReadEvent.j0 k t L true) zeros := by
  refine Ev.step (fun k => by rw [impl_ReadEvent.j0]) ?_
  exact ev_pos rfl (Ev.now zeros)
theorem specZero (s : ByteArray) (o : Int) (L : List Int) : Ev (fun k => spec_l07Read.j2 k s o L true) zeros := by
  refine Ev.step (fun k => by rw [spec_l07Read.j2]) ?_
  exact ev_pos rfl (Ev.now zeros)
theorem specJ (s : ByteArray) (hs : s.size ≤ 1048576) (o : Nat) (ho : o < s.size) (L : List Int) (hl : L.length = 5) : Ev (fun k => spec_l07Read.j2 k s (o : Int) L false) (rd5 L (s.extract (o + 1) s.size)) := by
  refine Ev.step (fun k => by rw [spec_l07Read.j2]) ?_
  have hw := wsucc ho (by omega)
  rw [hw, Int.toNat_natCast]
  have ht : (s.extract (o + 1) s.size).size ≤ 1048576 := by
    rw [ByteArray.size_extract]
    omega
  refine ev_neg (by simp) (ev_pos (by omega) (ev_pos (by omega) (ev_pos (by omega) (ev_pos (by omega) (ev_pos (by omega) (ev_pos (by omega) (ev_pos (by omega) ?_)))))))
  refine Ev.bind (specEvent _ _ _ _ _ _ (by omega)) ?_
  by_cases h : evOk (rd L 0) (rd L 1) (rd L 2) (rd L 3) (s.extract (o + 1) s.size) (rd L 4) = true
  · rw [rd5Y h]
    exact ev_pos h (Ev.now _)
  · rw [rd5N h]
    exact ev_neg h (Ev.now _)
theorem ofDl {a b : ByteArray} (h : a.data.toList = b.data.toList) : a = b := by
  obtain ⟨⟨x⟩⟩ := a
  obtain ⟨⟨y⟩⟩ := b
  have h : x = y := h
  rw [h]
theorem bothRead (s : ByteArray) (hs : s.size ≤ 1048576) : ∃ r : Rs, Ev (fun k => spec_l07Read.f k s) r ∧ Ev (fun k => impl_ReadEvent.f k s) r := by
  have hz := Lib.size_eq s
  have hg := Lib.indexByte_ge s.data.toList 32
  unfold spec_l07Read.f impl_ReadEvent.f
  have hcut : strings_Cut.f s ⟨#[32]⟩ = some (⟨(Lib.cut s.data.toList [32]).1.toArray⟩, ⟨(Lib.cut s.data.toList [32]).2.1.toArray⟩, (Lib.cut s.data.toList [32]).2.2) := by
    unfold strings_Cut.f
    rw [if_pos (by omega)]
  have step : ∀ i, i < s.size → ∀ r : Rs, (h : i < s.data.toList.length) → s.data.toList[i] ≠ 32 → Ev (fun k => spec_l07Read.l0 k s ((i + 1 : Nat) : Int)) r → Ev (fun k => spec_l07Read.l0 k s (i : Int)) r := by
    intro i hi r h hne e
    refine Ev.step (fun k => by rw [spec_l07Read.l0]) (ev_pos (by omega) (ev_pos (by omega) (ev_neg ?_ ?_)))
    · rw [btL s i h]
      intro z
      exact hne (UInt8.toNat_inj.1 (by have : (32 : UInt8).toNat = 32 := rfl; omega))
    · rw [wsucc hi (by omega)]
      exact e
  by_cases hm : Lib.indexByte s.data.toList 32 = -1
  · have hno := Lib.indexByte_none hm
    have hc : Lib.cut s.data.toList [32] = (s.data.toList, [], false) := by
      unfold Lib.cut
      rw [Lib.index_one, hm, if_neg (by decide)]
    refine ⟨zeros, ?_, ?_⟩
    · refine nat_ind s.size (fun i => Ev (fun k => spec_l07Read.l0 k s (i : Int)) zeros) ?_ ?_ 0 (Nat.zero_le _)
      · refine Ev.step (fun k => by rw [spec_l07Read.l0]) (ev_neg (by omega) ?_)
        refine Ev.step (fun k => by rw [spec_l07Read.j1]) ?_
        exact ev_pos rfl (Ev.now zeros)
      · intro i hi ih
        have h : i < s.data.toList.length := by omega
        exact step i hi _ h (fun z => hno i (by rw [List.getElem?_eq_getElem h, z])) ih
    · rw [hc] at hcut
      have e : (⟨s.data.toList.toArray⟩ : ByteArray) = s := ofDl rfl
      rw [e] at hcut
      refine ev_b hcut (Ev.bind (implRead s hs) (ev_neg (by simp) (implZero _ _)))
  · obtain ⟨o, ho⟩ : ∃ o : Nat, Lib.indexByte s.data.toList 32 = o := ⟨(Lib.indexByte s.data.toList 32).toNat, by omega⟩
    obtain ⟨hat, hno⟩ := Lib.indexByte_some ho
    obtain ⟨hol, hoe⟩ := List.getElem?_eq_some_iff.1 hat
    have hos : o < s.size := by omega
    have hc : Lib.cut s.data.toList [32] = (s.data.toList.take o, s.data.toList.drop (o + 1), true) := by
      unfold Lib.cut
      rw [Lib.index_one, ho, if_pos (by omega)]
      simp
    have x1 : (⟨(s.data.toList.take o).toArray⟩ : ByteArray) = s.extract 0 o := ofDl (by rw [Lib.extract_data]; simp)
    have x2 : (⟨(s.data.toList.drop (o + 1)).toArray⟩ : ByteArray) = s.extract (o + 1) s.size := ofDl (by rw [Lib.extract_to_end])
    have z1 : (s.extract 0 o).size ≤ 1048576 := by rw [ByteArray.size_extract]; omega
    have z2 : (s.extract (o + 1) s.size).size ≤ 1048576 := by rw [ByteArray.size_extract]; omega
    rw [hc] at hcut
    simp only [x1, x2] at hcut
    refine ⟨rdn (readNums (s.extract 0 o)) (s.extract (o + 1) s.size), ?_, ?_⟩
    · have down : ∀ d i, i + d = o → Ev (fun k => spec_l07Read.l0 k s (i : Int)) (rdn (readNums (s.extract 0 o)) (s.extract (o + 1) s.size)) := by
        intro d
        induction d with
        | zero =>
          intro i hi
          obtain rfl : i = o := by omega
          refine Ev.step (fun k => by rw [spec_l07Read.l0]) (ev_pos (by omega) (ev_pos (by omega) (ev_pos ?_ ?_)))
          · rw [btL s i hol, hoe]
            rfl
          · refine Ev.step (fun k => by rw [spec_l07Read.j1]) (ev_neg (by omega) (ev_pos (by omega) (ev_pos (by omega) ?_)))
            rw [Int.toNat_natCast]
            refine Ev.bind (specRead _ z1) ?_
            unfold rdn
            by_cases h2 : (readNums (s.extract 0 i)).2 = true
            · rw [if_pos h2]
              refine ev_pos h2 ?_
              by_cases h5 : (readNums (s.extract 0 i)).1.length = 5
              · rw [if_pos h5, h5]
                exact specJ s hs i hos _ h5
              · rw [if_neg h5]
                have : (((readNums (s.extract 0 i)).1.length : Int) != 5) = true := by simp; omega
                rw [this]
                exact specZero _ _ _
            · rw [if_neg h2]
              exact ev_neg h2 (specZero _ _ _)
        | succ d ih =>
          intro i hi
          have h : i < s.data.toList.length := by omega
          exact step i (by omega) _ h (fun z => hno i (by omega) (by rw [List.getElem?_eq_getElem h, z])) (ih (i + 1) (by omega))
      exact down o 0 (by omega)
    · refine ev_b hcut (Ev.bind (implRead _ z1) (ev_pos rfl ?_))
      unfold rdn
      by_cases h2 : (readNums (s.extract 0 o)).2 = true
      · rw [if_pos h2]
        refine ev_pos h2 ?_
        by_cases h5 : (readNums (s.extract 0 o)).1.length = 5
        · rw [if_pos h5, h5]
          exact implJ0 _ z2 _ h5
        · rw [if_neg h5]
          have : (((readNums (s.extract 0 o)).1.length : Int) != 5) = true := by simp; omega
          rw [this]
          exact implZero _ _
      · rw [if_neg h2]
        exact ev_neg h2 (implZero _ _)
theorem FnExactReadEvent : laws_FnExactReadEvent.Pure := by
  intro s _
  refine Ev.rounds ?_
  unfold laws_FnExactReadEvent.f
  by_cases h : s.size ≤ 1048576
  · obtain ⟨⟨k, n, m, a, t, r, b⟩, h1, h2⟩ := bothRead s h
    refine ev_neg (by omega) ?_
    unfold spec_ReadEvent.f
    refine Ev.bind (Ev.bind h1 (Ev.now _)) (Ev.bind h2 (ev_b (a := true) ?_ ?_))
    · unfold laws_eqEvent.f
      simp
    · exact ev_pos rfl (ev_neg (by simp) (Ev.now _))
  · exact ev_pos (by omega) (Ev.now _)

end Go.Proofs.YtgmbgpjebpgpkaaDoor.Pure
