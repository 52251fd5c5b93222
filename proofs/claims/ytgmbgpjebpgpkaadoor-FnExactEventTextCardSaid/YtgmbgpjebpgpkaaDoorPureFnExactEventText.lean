/- EventText: the program and the reference write the same text for every event. -/
import Derived.Test.YtgmbgpjebpgpkaaDoorQFnExactEventTextx4
namespace Go.Proofs.YtgmbgpjebpgpkaaDoor.Pure
open Go.RowKit Go.Proofs.YtgmbgpjebpgpkaaDoor.QFnExactEventText Go.Proofs.YtgmbgpjebpgpkaaDoorW.PrintWords Go.Proofs.YtgmbgpjebpgpkaaDoorW.PrintLast Go.Proofs.YtgmbgpjebpgpkaaDoorW.PrintMore
set_option linter.unusedVariables false

theorem w64 {n : Int} (h1 : -9223372036854775808 ≤ n) (h2 : n ≤ 9223372036854775807) : wrap64 n = n := by
  unfold wrap64
  omega
theorem wf64 {n : Int} (h : (Lit.int .i64 n).wf = true) : -9223372036854775808 ≤ n ∧ n ≤ 9223372036854775807 := by
  simp [Lit.wf, IntKind.min, IntKind.max, IntKind.signed, IntKind.bits] at h
  omega

theorem ev_pos {α : Type} {c : Prop} [Decidable c] {g f : Nat → Option α} {r : α} (h : c) (e : Ev g r) : Ev (fun k => if c then g k else f k) r := Ev.congr (fun _ => if_pos h) e
theorem ev_neg {α : Type} {c : Prop} [Decidable c] {g f : Nat → Option α} {r : α} (h : ¬ c) (e : Ev f r) : Ev (fun k => if c then g k else f k) r := Ev.congr (fun _ => if_neg h) e
theorem ev_b {α β : Type} {o : Option α} {a : α} {f : Nat → α → Option β} {r : β} (h : o = some a) (e : Ev (fun k => f k a) r) : Ev (fun k => o.bind (f k)) r := by subst h; exact e
theorem ev_eq {α : Type} {g : Nat → Option α} {r q : α} (e : Ev g r) (h : r = q) : Ev g q := h ▸ e
theorem ev_some {α : Type} {r q : α} (h : r = q) : Ev (fun _ => some r) q := h ▸ Ev.now r
/-- Down from a list's end. -/
theorem idx_ind {α : Type} (l : List α) (P : Nat → Prop) (hend : P l.length) (hstep : ∀ i, i < l.length → P (i + 1) → P i) : ∀ i, i ≤ l.length → P i := by
  have key : ∀ d i, i + d = l.length → P i := by
    intro d
    induction d with
    | zero => intro i h; have : i = l.length := by omega
              rw [this]; exact hend
    | succ d ih => intro i h; exact hstep i (by omega) (ih (i + 1) (by omega))
  intro i h
  exact key (l.length - i) i (by omega)
theorem rd_at (l : List Int) (i : Nat) (h : i < l.length) : rd l (i : Int) = l[i] := by
  simp [rd, List.getD, h]
theorem rdOf_at {α : Type} (d : α) (l : List α) (i : Nat) (h : i < l.length) : rdOf d l (i : Int) = l[i] := by
  simp [rdOf, List.getD, h]
theorem drop_at {α : Type} (l : List α) (i : Nat) (h : i < l.length) : l.drop i = l[i] :: l.drop (i + 1) := List.drop_eq_getElem_cons h
theorem wsucc {i n : Nat} (h : i < n) (hn : n ≤ 9223372036854775807) : wrap64 ((i : Int) + 1) = ((i + 1 : Nat) : Int) := by
  rw [w64 (by omega) (by omega)]; rfl

theorem implIn (a b c : Int) : impl_in.f a b c = some (decide (b ≤ a ∧ a ≤ c)) := by
  unfold impl_in.f
  by_cases h : a ≥ b
  · rw [if_pos h]; simp [h]
  · rw [if_neg h]; simp; intro h2; omega
theorem implTick (a : Int) : impl_isTick.f a = some (decide (0 ≤ a ∧ a ≤ 1000000)) := by
  unfold impl_isTick.f
  rw [implIn]; rfl

theorem specIn (a b c : Int) : spec_l00In.f a b c = some (decide (b ≤ a ∧ a ≤ c)) := by
  unfold spec_l00In.f
  by_cases h : a ≥ b
  · rw [if_pos h]; simp [h]
  · rw [if_neg h]; simp; intro h2; omega

/-- Is every byte of a text from a place on between two bounds? -/
def betw (s : ByteArray) (lo hi : Int) : Nat → Nat → Bool
  | _, 0 => true
  | i, n + 1 => decide (lo ≤ bt s (i : Int) ∧ bt s (i : Int) ≤ hi) && betw s lo hi (i + 1) n
theorem nat_ind (n : Nat) (P : Nat → Prop) (hend : P n) (hstep : ∀ i, i < n → P (i + 1) → P i) : ∀ i, i ≤ n → P i := by
  have key : ∀ d i, i + d = n → P i := by
    intro d
    induction d with
    | zero => intro i h; have : i = n := by omega
              rw [this]; exact hend
    | succ d ih => intro i h; exact hstep i (by omega) (ih (i + 1) (by omega))
  intro i h
  exact key (n - i) i (by omega)
theorem betw_step (s : ByteArray) (lo hi : Int) {i n : Nat} (h : i < n) : betw s lo hi i (n - i) = (decide (lo ≤ bt s (i : Int) ∧ bt s (i : Int) ≤ hi) && betw s lo hi (i + 1) (n - (i + 1))) := by
  rw [show n - i = (n - (i + 1)) + 1 by omega, betw]
theorem betw_no (s : ByteArray) {lo hi : Int} {i n : Nat} (h : i < n) (c : ¬ (lo ≤ bt s (i : Int) ∧ bt s (i : Int) ≤ hi)) : betw s lo hi i (n - i) = false := by
  rw [betw_step s lo hi h, decide_eq_false c]; rfl
theorem betw_yes (s : ByteArray) {lo hi : Int} {i n : Nat} (h : i < n) (c : lo ≤ bt s (i : Int) ∧ bt s (i : Int) ≤ hi) : betw s lo hi i (n - i) = betw s lo hi (i + 1) (n - (i + 1)) := by
  rw [betw_step s lo hi h, decide_eq_true c]; rfl

theorem implText (s : ByteArray) (hs : s.size ≤ 140737488351232) : Ev (fun k => impl_IsText.f k s) (betw s 32 126 0 s.size && decide (s.size ≤ 80)) := by
  have key := nat_ind s.size (fun i => Ev (fun k => impl_IsText.l0 k s (s.size : Int) (i : Int)) (betw s 32 126 i (s.size - i) && decide (s.size ≤ 80))) ?_ ?_ 0 (Nat.zero_le _)
  · exact key
  · refine Ev.step (fun k => by rw [impl_IsText.l0]) ?_
    refine ev_neg (by omega) (ev_some ?_)
    simp [betw]; omega
  · intro i hi ih
    refine Ev.step (fun k => by rw [impl_IsText.l0]) ?_
    refine ev_pos (by omega) (ev_pos (by omega) (ev_pos (by omega) ?_))
    by_cases c1 : bt s (i : Int) < 32
    · refine ev_pos c1 (ev_some ?_)
      rw [betw_no s hi (by omega)]; rfl
    · refine ev_neg c1 ?_
      by_cases c2 : bt s (i : Int) > 126
      · refine ev_pos c2 (ev_some ?_)
        rw [betw_no s hi (by omega)]; rfl
      · refine ev_neg c2 ?_
        rw [betw_yes s hi (by omega), wsucc hi (by omega)]
        exact ih

theorem specText (s : ByteArray) (hs : s.size ≤ 140737488351232) : Ev (fun k => spec_l01IsText.f k s) (betw s 32 126 0 s.size && decide (s.size ≤ 80)) := by
  have key := nat_ind s.size (fun i => Ev (fun k => spec_l01IsText.l0 k s (i : Int)) (betw s 32 126 i (s.size - i) && decide (s.size ≤ 80))) ?_ ?_ 0 (Nat.zero_le _)
  · exact key
  · refine Ev.step (fun k => by rw [spec_l01IsText.l0]) ?_
    refine ev_neg (by omega) (ev_some ?_)
    simp [betw]; omega
  · intro i hi ih
    refine Ev.step (fun k => by rw [spec_l01IsText.l0]) ?_
    refine ev_pos (by omega) (ev_pos (by omega) ?_)
    by_cases c1 : bt s (i : Int) < 32
    · refine ev_pos c1 (ev_some ?_)
      rw [betw_no s hi (by omega)]; rfl
    · refine ev_neg c1 ?_
      by_cases c2 : bt s (i : Int) > 126
      · refine ev_pos c2 (ev_some ?_)
        rw [betw_no s hi (by omega)]; rfl
      · refine ev_neg c2 ?_
        rw [betw_yes s hi (by omega), wsucc hi (by omega)]
        exact ih

theorem implMember (a : Int) : impl_isMember.f a = some (decide (1 ≤ a ∧ a ≤ 1000)) := by
  unfold impl_isMember.f
  rw [implIn]; rfl
def okText (s : ByteArray) : Bool := betw s 32 126 0 s.size && decide (s.size ≤ 80)
/-- Is an event in order? -/
def evOk (k n m a : Int) (t : ByteArray) (r : Int) : Bool :=
  if ¬ (1 ≤ n ∧ n ≤ 1000000000) ∨ ¬ (1 ≤ m ∧ m ≤ 1000) then false
  else if k = 0 then (if 0 ≤ a ∧ a ≤ 1000000 then (if okText t = true then decide (0 ≤ r ∧ r ≤ n - 1) else false) else false)
  else if k = 1 then (if a = 0 then (if okText t = true then r == 0 else false) else false)
  else if k = 2 ∨ k = 3 ∨ k = 4 then (if a = 0 then (if t.toList = ([] : List UInt8) then r == 0 else false) else false)
  else false
theorem specEvent (k n m a : Int) (t : ByteArray) (r : Int) (ht : t.size ≤ 140737488351232) : Ev (fun q => spec_l07Event.f q k n m a t r) (evOk k n m a t r) := by
  unfold spec_l07Event.f
  refine ev_b (specIn _ _ _) ?_
  by_cases h1 : 1 ≤ n ∧ n ≤ 1000000000
  · refine ev_pos (by simpa using h1) (ev_b (a := decide (1 ≤ m ∧ m ≤ 1000)) (by unfold spec_l01Member.f; rw [specIn]; rfl) ?_)
    refine Ev.step (fun q => by rw [spec_l07Event.j0]) ?_
    by_cases h2 : 1 ≤ m ∧ m ≤ 1000
    · refine ev_neg (by simpa using h2) ?_
      unfold evOk
      rw [if_neg (show ¬ (¬ (1 ≤ n ∧ n ≤ 1000000000) ∨ ¬ (1 ≤ m ∧ m ≤ 1000)) by omega)]
      by_cases k0 : k = 0
      · refine ev_pos k0 ?_
        rw [if_pos k0]
        refine ev_b (a := decide (0 ≤ a ∧ a ≤ 1000000)) (by unfold spec_l01Tick.f; rw [specIn]; rfl) ?_
        by_cases ha : 0 ≤ a ∧ a ≤ 1000000
        · rw [if_pos ha]
          refine ev_pos (by simpa using ha) (Ev.bind (specText t ht) ?_)
          by_cases ho : okText t = true
          · rw [if_pos ho]
            refine ev_pos ho (ev_b (specIn _ _ _) (ev_some ?_))
            rw [w64 (by omega) (by omega)]
          · rw [if_neg ho]
            exact ev_neg ho (Ev.now _)
        · rw [if_neg ha]
          exact ev_neg (by simpa using ha) (Ev.now _)
      · refine ev_neg k0 ?_
        rw [if_neg k0]
        by_cases k1 : k = 1
        · refine ev_pos k1 ?_
          rw [if_pos k1]
          by_cases ha : a = 0
          · rw [if_pos ha]
            refine ev_pos ha (Ev.bind (specText t ht) ?_)
            by_cases ho : okText t = true
            · refine ev_pos ho ?_; rw [if_pos ho]; exact Ev.now _
            · refine ev_neg ho ?_; rw [if_neg ho]; exact Ev.now _
          · refine ev_neg ha ?_; rw [if_neg ha]; exact Ev.now _
        · refine ev_neg k1 ?_
          rw [if_neg k1]
          have tail : Ev (fun _ => if a = 0 then (if t.toList = ([] : List UInt8) then (some (r == 0)) else (some false)) else (some false)) (if a = 0 then (if t.toList = ([] : List UInt8) then r == 0 else false) else false) := by
            by_cases ha : a = 0
            · refine ev_pos ha ?_
              rw [if_pos ha]
              by_cases hz : t.toList = ([] : List UInt8)
              · refine ev_pos hz ?_; rw [if_pos hz]; exact Ev.now _
              · refine ev_neg hz ?_; rw [if_neg hz]; exact Ev.now _
            · refine ev_neg ha ?_; rw [if_neg ha]; exact Ev.now _
          by_cases k2 : k = 2
          · rw [if_pos (Or.inl k2)]; exact ev_pos k2 tail
          · refine ev_neg k2 ?_
            by_cases k3 : k = 3
            · rw [if_pos (Or.inr (Or.inl k3))]; exact ev_pos k3 tail
            · refine ev_neg k3 ?_
              by_cases k4 : k = 4
              · rw [if_pos (Or.inr (Or.inr k4))]; exact ev_pos k4 tail
              · rw [if_neg (show ¬ (k = 2 ∨ k = 3 ∨ k = 4) by omega)]; exact ev_neg k4 (Ev.now _)
    · refine ev_pos (by rw [decide_eq_false h2]; rfl) (ev_some ?_)
      unfold evOk
      rw [if_pos (Or.inr h2)]
  · refine ev_neg (by simpa using h1) ?_
    refine Ev.step (fun q => by rw [spec_l07Event.j0]) ?_
    refine ev_pos rfl (ev_some ?_)
    unfold evOk
    rw [if_pos (Or.inl h1)]
theorem implEvent (k n m a : Int) (t : ByteArray) (r : Int) (ht : t.size ≤ 140737488351232) : Ev (fun q => impl_ValidEvent.f q k n m a t r) (evOk k n m a t r) := by
  unfold impl_ValidEvent.f
  have no : evOk k n m a t r = false → Ev (fun q => impl_ValidEvent.j0 q true k n m a t r) (evOk k n m a t r) := by
    intro h
    rw [h]
    refine Ev.step (fun q => by rw [impl_ValidEvent.j0]) ?_
    exact ev_pos rfl (Ev.now _)
  refine ev_b (implIn _ _ _) ?_
  by_cases hk : 0 ≤ k ∧ k ≤ 4
  · refine ev_pos (by simpa using hk) (ev_b (implIn _ _ _) ?_)
    by_cases h1 : 1 ≤ n ∧ n ≤ 1000000000
    · refine ev_pos (by simpa using h1) (ev_b (implMember _) ?_)
      by_cases h2 : 1 ≤ m ∧ m ≤ 1000
      · rw [decide_eq_true h2]
        refine Ev.step (fun q => by rw [impl_ValidEvent.j0]) ?_
        refine ev_neg (by simp) ?_
        unfold evOk
        rw [if_neg (show ¬ (¬ (1 ≤ n ∧ n ≤ 1000000000) ∨ ¬ (1 ≤ m ∧ m ≤ 1000)) by omega)]
        by_cases k0 : k = 0
        · refine ev_pos k0 ?_
          rw [if_pos k0]
          refine ev_b (implTick _) ?_
          by_cases ha : 0 ≤ a ∧ a ≤ 1000000
          · rw [if_pos ha]
            refine ev_pos (by simpa using ha) (Ev.bind (implText t ht) ?_)
            by_cases ho : okText t = true
            · rw [if_pos ho]
              refine ev_pos ho (ev_b (implIn _ _ _) (ev_some ?_))
              rw [w64 (by omega) (by omega)]
            · rw [if_neg ho]
              exact ev_neg ho (Ev.now _)
          · rw [if_neg ha]
            exact ev_neg (by simpa using ha) (Ev.now _)
        · refine ev_neg k0 ?_
          rw [if_neg k0]
          by_cases k1 : k = 1
          · refine ev_pos k1 ?_
            rw [if_pos k1]
            refine Ev.bind (implText t ht) ?_
            by_cases ho : okText t = true
            · rw [if_pos ho]
              refine ev_pos ho ?_
              by_cases ha : a = 0
              · refine ev_pos ha ?_; rw [if_pos ha]; exact Ev.now _
              · refine ev_neg ha ?_; rw [if_neg ha]; exact Ev.now _
            · rw [if_neg ho]
              refine ev_neg ho (ev_some ?_)
              split <;> rfl
          · refine ev_neg k1 ?_
            rw [if_neg k1, if_pos (show k = 2 ∨ k = 3 ∨ k = 4 by omega)]
            by_cases ha : a = 0
            · refine ev_pos ha ?_
              rw [if_pos ha]
              by_cases hz : t.toList = ([] : List UInt8)
              · refine ev_pos hz ?_; rw [if_pos hz]; exact Ev.now _
              · refine ev_neg hz ?_; rw [if_neg hz]; exact Ev.now _
            · refine ev_neg ha ?_; rw [if_neg ha]; exact Ev.now _
      · rw [decide_eq_false h2]
        exact no (by unfold evOk; rw [if_pos (Or.inr h2)])
    · exact ev_neg (by simpa using h1) (no (by unfold evOk; rw [if_pos (Or.inl h1)]))
  · refine ev_neg (by simpa using hk) (no ?_)
    unfold evOk
    split
    · rfl
    · rw [if_neg (show ¬ k = 0 by omega), if_neg (show ¬ k = 1 by omega), if_neg (show ¬ (k = 2 ∨ k = 3 ∨ k = 4) by omega)]
theorem szEvent (k n m a : Int) (t : ByteArray) (r : Int) (ht : t.size ≤ 140737488351232) : laws_szEvent.f k n m a t r 1048576 = some (if t.size ≤ 1048576 then 1048576 - (t.size : Int) else -1) := by
  unfold laws_szEvent.f
  rw [w64 (by omega) (by omega)]
  by_cases h : t.size ≤ 1048576
  · rw [if_pos h, if_neg (by omega)]
  · rw [if_neg h, if_pos (by omega)]

def dec (u : Nat) : ByteArray := ⟨(Lib.decDigits u).toArray⟩
theorem decLen : ∀ u : Nat, (Lib.decDigits u).length ≤ u + 1 := by
  intro u
  induction u using Nat.strongRecOn with
  | _ u ih =>
    rw [Lib.decDigits]
    split
    · simp
    · have := ih (u / 10) (by omega)
      rw [List.length_append]
      simp only [List.length_cons, List.length_nil]
      omega
theorem decSize (u : Nat) : (dec u).size ≤ u + 1 := by
  have := decLen u
  simpa [dec, ByteArray.size] using this
def ints (l : List UInt8) : List Int := l.map fun b => (b.toNat : Int)
theorem strInts (l : List UInt8) : strOfNums (ints l) = ⟨l.toArray⟩ := by
  unfold strOfNums ints
  have h : (fun n : Int => UInt8.ofNat n.toNat) ∘ (fun b : UInt8 => (b.toNat : Int)) = id := by
    funext b
    simp
  rw [List.map_map, h, List.map_id]
theorem digit (v : Nat) : ((UInt8.ofNat (48 + v % 10)).toNat : Int) = (wrap64 (48 + Int.tmod (v : Int) 10)) % 256 := by
  have h1 : Int.tmod (v : Int) 10 = ((v % 10 : Nat) : Int) := by
    rw [Int.tmod_eq_emod_of_nonneg (by omega)]; rfl
  rw [h1, w64 (by omega) (by omega), UInt8.toNat_ofNat']
  omega
theorem specDecL (x0 : Int) (hx : 0 ≤ x0) : ∀ (v : Nat) (l : List UInt8), (l = [] ∨ v ≠ 0) → l.length + v + 1 < 140737488355328 → Ev (fun k => spec_l01Dec.l0 k x0 (ints l) (v : Int)) ⟨(Lib.decDigits v ++ l).toArray⟩ := by
  intro v
  induction v using Nat.strongRecOn with
  | _ v ih =>
    intro l hl hb
    have hj : Ev (fun k => spec_l01Dec.j1 k x0 (ints l) (v : Int) true) ⟨(Lib.decDigits v ++ l).toArray⟩ := by
      refine Ev.step (fun k => by rw [spec_l01Dec.j1]) ?_
      have h1 : Int.tmod (v : Int) 10 = ((v % 10 : Nat) : Int) := by
        rw [Int.tmod_eq_emod_of_nonneg (by omega)]; rfl
      refine ev_pos rfl (ev_neg (by omega) (ev_b rfl (ev_pos (by simp [ints]; omega) ?_)))
      have h2 : wrap64 (Int.tdiv (v : Int) 10) = ((v / 10 : Nat) : Int) := by
        rw [Int.tdiv_eq_ediv_of_nonneg (by omega), w64 (by omega) (by omega)]; rfl
      rw [h2, ← digit]
      have h3 : ([((UInt8.ofNat (48 + v % 10)).toNat : Int)] ++ ints l) = ints (UInt8.ofNat (48 + v % 10) :: l) := by simp [ints]
      rw [h3]
      by_cases hv : v < 10
      · have h4 : v / 10 = 0 := by omega
        rw [h4]
        refine Ev.step (fun k => by rw [spec_l01Dec.l0]) ?_
        refine ev_neg (by simp [ints]; omega) ?_
        refine Ev.step (fun k => by rw [spec_l01Dec.j1]) ?_
        refine ev_neg (by simp) (ev_neg (by omega) (ev_some ?_))
        rw [strInts, Lib.decDigits_one hv, Nat.mod_eq_of_lt hv]
        rfl
      · have := ih (v / 10) (by omega) (UInt8.ofNat (48 + v % 10) :: l) (.inr (by omega)) (by simp; omega)
        refine ev_eq this ?_
        rw [Lib.decDigits.eq_1 v, dif_neg hv]
        simp
    refine Ev.step (fun k => by rw [spec_l01Dec.l0]) ?_
    by_cases h0 : l = []
    · subst h0
      exact ev_pos rfl hj
    · have hl2 : 0 < l.length := List.length_pos_iff.2 h0
      have hv : v ≠ 0 := by rcases hl with h | h; exact absurd h h0; exact h
      refine ev_neg (by simp [ints]; omega) ?_
      have : ((v : Int) != 0) = true := by simp; omega
      rw [this]
      exact hj
theorem specDec (u : Nat) (hu : u ≤ 1000000000) : Ev (fun k => spec_l01Dec.f k (u : Int)) (dec u) := by
  unfold spec_l01Dec.f
  have := specDecL (u : Int) (by omega) u [] (.inl rfl) (by simp; omega)
  rw [List.append_nil] at this
  exact this
theorem implDec (u : Nat) (hu : u ≤ 1000000000) : impl_Decimal.f (u : Int) = some (dec u) := by
  unfold impl_Decimal.f strconv_FormatInt_41.f
  rw [if_pos ⟨rfl, by omega, by omega⟩, Lib.itoa_nonneg]
  rfl
def comma : ByteArray := ⟨#[44]⟩
theorem specTextStep (l : List Int) (i : Nat) (hi : i < l.length) (hn : l.length ≤ 9223372036854775807) (x : ByteArray) (hx : x.size ≤ 100000000000) (u : Nat) (hu : u ≤ 1000000000) (he : l[i] = (u : Int)) (r : ByteArray)
    (ih : Ev (fun k => spec_l01Text.l0 k l (x ++ (comma ++ dec u)) ((i + 1 : Nat) : Int)) r) : Ev (fun k => spec_l01Text.l0 k l x (i : Int)) r := by
  refine Ev.step (fun k => by rw [spec_l01Text.l0]) ?_
  have hd := decSize u
  refine ev_pos (by omega) (ev_pos (by omega) ?_)
  rw [rd_at l i hi, he]
  refine Ev.bind (specDec u hu) (ev_pos (by omega) (ev_pos ?_ ?_))
  · show x.size + (comma ++ dec u).size ≤ _
    rw [ByteArray.size_append]
    have : comma.size = 1 := rfl
    omega
  · rw [wsucc hi hn]
    exact ih
theorem implTextStep (l : List Int) (i : Nat) (hi : i < l.length) (hn : l.length ≤ 9223372036854775807) (xs : List ByteArray) (hx : xs.length < 8796093022208) (u : Nat) (hu : u ≤ 1000000000) (he : l[i] = (u : Int)) (r : ByteArray)
    (ih : Ev (fun k => impl_listText.l0 k (xs ++ [dec u]) l (l.length : Int) ((i + 1 : Nat) : Int)) r) : Ev (fun k => impl_listText.l0 k xs l (l.length : Int) (i : Int)) r := by
  refine Ev.step (fun k => by rw [impl_listText.l0]) ?_
  refine ev_pos (by omega) (ev_pos (by omega) (ev_pos (by omega) ?_))
  rw [rd_at l i hi, he]
  refine ev_b (implDec u hu) (ev_pos hx ?_)
  rw [wsucc hi hn]
  exact ih
def five (a b c d e : Nat) : ByteArray := (((dec a ++ (comma ++ dec b)) ++ (comma ++ dec c)) ++ (comma ++ dec d)) ++ (comma ++ dec e)
theorem fiveSize (a b c d e : Nat) : (five a b c d e).size = (dec a).size + (1 + (dec b).size) + (1 + (dec c).size) + (1 + (dec d).size) + (1 + (dec e).size) := by
  have : comma.size = 1 := rfl
  simp [five, ByteArray.size_append, this]
theorem specFive (a b c d e : Nat) (ha : a ≤ 1000000000) (hb : b ≤ 1000000000) (hc : c ≤ 1000000000) (hd : d ≤ 1000000000) (he : e ≤ 1000000000) : Ev (fun k => spec_l01Text.f k [(a : Int), (b : Int), (c : Int), (d : Int), (e : Int)]) (five a b c d e) := by
  have s1 := decSize a
  have s2 := decSize b
  have s3 := decSize c
  have s4 := decSize d
  have hk : comma.size = 1 := rfl
  unfold spec_l01Text.f
  refine ev_neg (by simp) (ev_pos (by simp) (Ev.bind (specDec a ha) ?_))
  refine specTextStep _ 1 (by simp) (by simp) _ (by omega) b hb rfl _ ?_
  refine specTextStep _ 2 (by simp) (by simp) _ (by simp only [ByteArray.size_append]; omega) c hc rfl _ ?_
  refine specTextStep _ 3 (by simp) (by simp) _ (by simp only [ByteArray.size_append]; omega) d hd rfl _ ?_
  refine specTextStep _ 4 (by simp) (by simp) _ (by simp only [ByteArray.size_append]; omega) e he rfl _ ?_
  refine Ev.step (fun k => by rw [spec_l01Text.l0]) ?_
  exact ev_neg (by simp) (ev_some rfl)
theorem implFive (a b c d e : Nat) (ha : a ≤ 1000000000) (hb : b ≤ 1000000000) (hc : c ≤ 1000000000) (hd : d ≤ 1000000000) (he : e ≤ 1000000000) : Ev (fun k => impl_listText.f k [(a : Int), (b : Int), (c : Int), (d : Int), (e : Int)]) (five a b c d e) := by
  have s1 := decSize a
  have s2 := decSize b
  have s3 := decSize c
  have s4 := decSize d
  have s5 := decSize e
  unfold impl_listText.f
  refine implTextStep _ 0 (by simp) (by simp) _ (by simp) a ha rfl _ ?_
  refine implTextStep _ 1 (by simp) (by simp) _ (by simp) b hb rfl _ ?_
  refine implTextStep _ 2 (by simp) (by simp) _ (by simp) c hc rfl _ ?_
  refine implTextStep _ 3 (by simp) (by simp) _ (by simp) d hd rfl _ ?_
  refine implTextStep _ 4 (by simp) (by simp) _ (by simp) e he rfl _ ?_
  refine Ev.step (fun k => by rw [impl_listText.l0]) ?_
  have hj : Lib.join ([dec a, dec b, dec c, dec d, dec e].map (·.data.toList)) comma.data.toList = (five a b c d e).data.toList := by
    simp [Lib.join, List.intercalate, five, comma, ByteArray.data_append]
  have hz : (five a b c d e).data.toList.length = (five a b c d e).size := rfl
  have hs := fiveSize a b c d e
  refine ev_neg (by simp) (ev_neg (by simp) (ev_b (a := five a b c d e) ?_ (Ev.now _)))
  unfold strings_Join.f
  show (if [dec a, dec b, dec c, dec d, dec e].length ≤ 140737488355328 ∧ (Lib.join ([dec a, dec b, dec c, dec d, dec e].map (·.data.toList)) comma.data.toList).length ≤ 140737488355328 then some (⟨(Lib.join ([dec a, dec b, dec c, dec d, dec e].map (·.data.toList)) comma.data.toList).toArray⟩ : ByteArray) else none) = _
  rw [hj, if_pos ⟨by simp, by omega⟩]
theorem evBounds {k n m a : Int} {t : ByteArray} {r : Int} (h : evOk k n m a t r = true) : (0 ≤ k ∧ k ≤ 1000000000) ∧ (0 ≤ n ∧ n ≤ 1000000000) ∧ (0 ≤ m ∧ m ≤ 1000000000) ∧ (0 ≤ a ∧ a ≤ 1000000000) ∧ (0 ≤ r ∧ r ≤ 1000000000) := by
  unfold evOk at h
  split at h
  · cases h
  · split at h
    · split at h
      · split at h
        · have := of_decide_eq_true h; omega
        · cases h
      · cases h
    · split at h
      · split at h
        · split at h
          · have := eq_of_beq h; omega
          · cases h
        · cases h
      · split at h
        · split at h
          · split at h
            · have := eq_of_beq h; omega
            · cases h
          · cases h
        · cases h
theorem FnExactEventText : laws_FnExactEventText.Pure := by
  intro k n m a t r _ _ _ _ ht _
  refine Ev.rounds ?_
  unfold laws_FnExactEventText.f
  refine ev_b (szEvent k n m a t r ht) ?_
  by_cases h : t.size ≤ 1048576
  · rw [if_pos h]
    refine ev_neg (by omega) (ev_b rfl ?_)
    unfold spec_EventText.f impl_EventText.f
    by_cases ho : evOk k n m a t r = true
    · obtain ⟨hk, hn, hm, ha, hr⟩ := evBounds ho
      obtain ⟨k, rfl⟩ := Int.eq_ofNat_of_zero_le hk.1
      obtain ⟨n, rfl⟩ := Int.eq_ofNat_of_zero_le hn.1
      obtain ⟨m, rfl⟩ := Int.eq_ofNat_of_zero_le hm.1
      obtain ⟨a, rfl⟩ := Int.eq_ofNat_of_zero_le ha.1
      obtain ⟨r, rfl⟩ := Int.eq_ofNat_of_zero_le hr.1
      have s1 := decSize k
      have s2 := decSize n
      have s3 := decSize m
      have s4 := decSize a
      have s5 := decSize r
      have hs := fiveSize k n m a r
      have e1 : (five k n m a r ++ (⟨#[32]⟩ : ByteArray)).size = (five k n m a r).size + 1 := ByteArray.size_append
      have hS : Ev (fun q => spec_l07Text.f q (k : Int) n m a t r) ((five k n m a r ++ (⟨#[32]⟩ : ByteArray)) ++ t) := by
        unfold spec_l07Text.f
        exact Ev.bind (specFive k n m a r (by omega) (by omega) (by omega) (by omega) (by omega)) (ev_pos (by omega) (ev_pos (by omega) (Ev.now _)))
      have hI : Ev (fun q => impl_eventText.f q (k : Int) n m a t r) ((five k n m a r ++ (⟨#[32]⟩ : ByteArray)) ++ t) := by
        unfold impl_eventText.f
        exact Ev.bind (implFive k n m a r (by omega) (by omega) (by omega) (by omega) (by omega)) (ev_pos (by omega) (ev_pos (by omega) (Ev.now _)))
      refine Ev.bind (Ev.bind (specEvent _ _ _ _ t _ ht) (ev_pos ho (Ev.bind hS (Ev.now _)))) (ev_b rfl (Ev.bind (Ev.bind (implEvent _ _ _ _ t _ ht) (ev_pos ho (Ev.bind hI (Ev.now _)))) ?_))
      exact ev_pos rfl (ev_neg (by simp) (Ev.now _))
    · refine Ev.bind (Ev.bind (specEvent k n m a t r ht) (ev_neg ho (Ev.now _))) (ev_b rfl (Ev.bind (Ev.bind (implEvent k n m a t r ht) (ev_neg ho (Ev.now _))) ?_))
      exact ev_pos rfl (ev_neg (by simp) (Ev.now _))
  · rw [if_neg h]
    exact ev_pos (by omega) (Ev.now _)

end Go.Proofs.YtgmbgpjebpgpkaaDoor.Pure
