/- Allowed: a greater role may do all that a lesser one may, a member is allowed what the role may, one who is quiet may only read, and nobody else is allowed anything; for every pair of byte strings. -/
import Derived.Test.YtdanachjdfiegaaQFnAllowedx6
import Derived.Laws.BitsLemmas
namespace Go.Proofs.Ytdanachjdfiegaa.Pure
open Go.RowKit Go.Proofs.Ytdanachjdfiegaa.QFnAllowed Go.Proofs.YtdanachjdfiegaaW.PrintWords Go.Proofs.YtdanachjdfiegaaW.PrintLast Go.Proofs.YtdanachjdfiegaaW.PrintMore
set_option linter.unusedVariables false

theorem w64 {n : Int} (h1 : -9223372036854775808 ≤ n) (h2 : n ≤ 9223372036854775807) : wrap64 n = n := by
  unfold wrap64
  omega
theorem wf64 {n : Int} (h : (Lit.int .i64 n).wf = true) : -9223372036854775808 ≤ n ∧ n ≤ 9223372036854775807 := by
  simp [Lit.wf, IntKind.min, IntKind.max, IntKind.signed, IntKind.bits] at h
  omega

theorem ev_pos {α : Type} {c : Prop} [Decidable c] {g f : Nat → Option α} {r : α} (h : c) (e : Ev g r) : Ev (fun k => if c then g k else f k) r := Ev.congr (fun _ => if_pos h) e
theorem ev_neg {α : Type} {c : Prop} [Decidable c] {g f : Nat → Option α} {r : α} (h : ¬ c) (e : Ev f r) : Ev (fun k => if c then g k else f k) r := Ev.congr (fun _ => if_neg h) e
theorem ev_b {α β : Type} {o : Option α} {a : α} {f : Nat → α → Option β} {r : β} (h : o = some a) (e : Ev (fun k => f k a) r) : Ev (fun k => o.bind (f k)) r := by subst h; exact e
theorem ev_eq {α : Type} {g : Nat → Option α} {r q : α} (e : Ev g r) (h : r = q) : Ev g q := h ▸ e
theorem ev_some {α : Type} {r q : α} (h : r = q) : Ev (fun _ => some r) q := h ▸ Ev.now r
/-- Down from a list's end. -/
theorem idx_ind {α : Type} (l : List α) (P : Nat → Prop) (hend : P l.length) (hstep : ∀ i, i < l.length → P (i + 1) → P i) : ∀ i, i ≤ l.length → P i := by
  have key : ∀ d i, i + d = l.length → P i := by
    intro d
    induction d with
    | zero => intro i h; have : i = l.length := by omega
              rw [this]; exact hend
    | succ d ih => intro i h; exact hstep i (by omega) (ih (i + 1) (by omega))
  intro i h
  exact key (l.length - i) i (by omega)
theorem rd_at (l : List Int) (i : Nat) (h : i < l.length) : rd l (i : Int) = l[i] := by
  simp [rd, List.getD, h]
theorem rdOf_at {α : Type} (d : α) (l : List α) (i : Nat) (h : i < l.length) : rdOf d l (i : Int) = l[i] := by
  simp [rdOf, List.getD, h]
theorem drop_at {α : Type} (l : List α) (i : Nat) (h : i < l.length) : l.drop i = l[i] :: l.drop (i + 1) := List.drop_eq_getElem_cons h
theorem wsucc {i n : Nat} (h : i < n) (hn : n ≤ 9223372036854775807) : wrap64 ((i : Int) + 1) = ((i + 1 : Nat) : Int) := by
  rw [w64 (by omega) (by omega)]; rfl

theorem implIn (a b c : Int) : impl_in.f a b c = some (decide (b ≤ a ∧ a ≤ c)) := by
  unfold impl_in.f
  by_cases h : a ≥ b
  · rw [if_pos h]; simp [h]
  · rw [if_neg h]; simp; intro h2; omega
theorem implTick (a : Int) : impl_isTick.f a = some (decide (0 ≤ a ∧ a ≤ 1000000)) := by
  unfold impl_isTick.f
  rw [implIn]; rfl

/-- Each is right, and each stands in order behind the one before. -/
def chain {α : Type} (ok : α → Bool) (lt : α → α → Bool) : Option α → List α → Bool
  | _, [] => true
  | p, x :: r => ok x && (match p with | none => true | some y => lt y x) && chain ok lt (some x) r
def prevOf {α : Type} (l : List α) (i : Nat) : Option α := if i = 0 then none else l[i - 1]?
theorem prevOf_succ {α : Type} {l : List α} {i : Nat} (h : i < l.length) : prevOf l (i + 1) = some l[i] := by
  unfold prevOf
  rw [if_neg (by omega), Nat.add_sub_cancel, List.getElem?_eq_getElem h]
theorem prevOf_pos {α : Type} {l : List α} {i : Nat} (h : i < l.length) (h0 : 0 < i) : prevOf l i = some (l[i - 1]'(by omega)) := by
  unfold prevOf
  rw [if_neg (by omega), List.getElem?_eq_getElem (by omega)]
theorem prevOf_zero {α : Type} {l : List α} {i : Nat} (h0 : ¬ 0 < i) : prevOf l i = none := by
  unfold prevOf; rw [if_pos (by omega)]
theorem chain_at {α : Type} (ok : α → Bool) (lt : α → α → Bool) {l : List α} {i : Nat} (h : i < l.length) : chain ok lt (prevOf l i) (l.drop i) = (ok l[i] && (match prevOf l i with | none => true | some y => lt y l[i]) && chain ok lt (prevOf l (i + 1)) (l.drop (i + 1))) := by
  rw [drop_at l i h, prevOf_succ h]
  rfl

abbrev TM := S36
abbrev TV := S71
abbrev TB := S73
/-- The place of the first that is meant. -/
def fnd {α : Type} (p : α → Bool) : List α → Nat → Int
  | [], _ => -1
  | x :: r, i => if p x = true then (i : Int) else fnd p r (i + 1)
theorem fnd_any {α : Type} (p : α → Bool) : ∀ (l : List α) (i : Nat), decide (fnd p l i ≥ 0) = l.any p
  | [], _ => rfl
  | x :: r, i => by
    unfold fnd
    by_cases h : p x = true
    · rw [if_pos h]; simp [h]
    · rw [if_neg h, fnd_any p r (i + 1)]; simp [h]
theorem fnd_lt {α : Type} (p : α → Bool) : ∀ (l : List α) (i : Nat), 0 ≤ fnd p l i → fnd p l i < ((i + l.length : Nat) : Int)
  | [], _, h => by simp [fnd] at h
  | x :: r, i, h => by
    unfold fnd at h ⊢
    by_cases hp : p x = true
    · rw [if_pos hp]; simp only [List.length_cons]; omega
    · rw [if_neg hp] at h ⊢
      have := fnd_lt p r (i + 1) h
      simp only [List.length_cons]; omega
theorem rdTM (l : List TM) (i : Nat) (h : i < l.length) : rd_T36 l (i : Int) = l[i] := by
  simp [rd_T36, List.getD, h]
theorem rdTV (l : List TV) (i : Nat) (h : i < l.length) : rd_T71 l (i : Int) = l[i] := by
  simp [rd_T71, List.getD, h]
theorem rdTB (l : List TB) (i : Nat) (h : i < l.length) : rd_T73 l (i : Int) = l[i] := by
  simp [rd_T73, List.getD, h]
def isM (id : Int) (x : TM) : Bool := x.f0 == id
def isV (id : Int) (x : TV) : Bool := x.f0 == id
theorem implFindM (l : List TM) (id : Int) (hl : l.length ≤ 100000000) : Ev (fun k => impl_Member_v0.f k l id) (fnd (isM id) l 0) := by
  unfold impl_Member_v0.f
  refine idx_ind l (fun i => Ev (fun k => impl_Member_v0.l0 k l (l.length : Int) (i : Int) id) (fnd (isM id) (l.drop i) i)) ?_ ?_ 0 (Nat.zero_le _)
  · refine Ev.step (fun k => by rw [impl_Member_v0.l0]) ?_
    exact ev_neg (by omega) (ev_some (by simp [fnd]))
  · intro i hi ih
    refine Ev.step (fun k => by rw [impl_Member_v0.l0]) ?_
    rw [rdTM l i hi, wsucc hi (by omega), drop_at l i hi]
    refine ev_pos (by omega) (ev_pos (by omega) (ev_pos (by omega) (ev_b rfl ?_)))
    unfold fnd
    by_cases h : isM id l[i] = true
    · exact ev_pos h (ev_some (by rw [if_pos h]))
    · rw [if_neg h]
      exact ev_neg h ih
theorem implHasM (o : Bool) (ms : List TM) (is : List TV) (bs : List TB) (id : Int) (hl : ms.length ≤ 100000000) : Ev (fun k => impl_Room_has.f k o ms is bs id) (ms.any (isM id)) := by
  unfold impl_Room_has.f impl_Room_at.f
  exact Ev.bind (Ev.bind (implFindM ms id hl) (Ev.now _)) (ev_some (fnd_any _ _ _))
theorem implFindV (l : List TV) (id : Int) (hl : l.length ≤ 100000000) : Ev (fun k => impl_Invite_v3.f k l id) (fnd (isV id) l 0) := by
  unfold impl_Invite_v3.f
  refine idx_ind l (fun i => Ev (fun k => impl_Invite_v3.l0 k l (l.length : Int) (i : Int) id) (fnd (isV id) (l.drop i) i)) ?_ ?_ 0 (Nat.zero_le _)
  · refine Ev.step (fun k => by rw [impl_Invite_v3.l0]) ?_
    exact ev_neg (by omega) (ev_some (by simp [fnd]))
  · intro i hi ih
    refine Ev.step (fun k => by rw [impl_Invite_v3.l0]) ?_
    rw [rdTV l i hi, wsucc hi (by omega), drop_at l i hi]
    refine ev_pos (by omega) (ev_pos (by omega) (ev_pos (by omega) (ev_b rfl ?_)))
    unfold fnd
    by_cases h : isV id l[i] = true
    · exact ev_pos h (ev_some (by rw [if_pos h]))
    · rw [if_neg h]
      exact ev_neg h ih
theorem implHasV (o : Bool) (ms : List TM) (is : List TV) (bs : List TB) (id : Int) (hl : is.length ≤ 100000000) : Ev (fun k => impl_Room_invited.f k o ms is bs id) (is.any (isV id)) := by
  unfold impl_Room_invited.f impl_Invite_v2.f
  exact Ev.bind (Ev.bind (implFindV is id hl) (Ev.now _)) (ev_some (fnd_any _ _ _))
def okM (x : TM) : Bool := decide (1 ≤ x.f0 ∧ x.f0 ≤ 1000) && decide (0 ≤ x.f1 ∧ x.f1 ≤ 3) && decide (0 ≤ x.f2 ∧ x.f2 ≤ 1000000) && decide (0 ≤ x.f3 ∧ x.f3 ≤ 1000000)
def ltM (y x : TM) : Bool := decide (y.f0 < x.f0)
def okV (ms : List TM) (x : TV) : Bool := decide (1 ≤ x.f0 ∧ x.f0 ≤ 1000) && decide (1 ≤ x.f1 ∧ x.f1 ≤ 1000) && decide (0 ≤ x.f2 ∧ x.f2 ≤ 1000000) && !ms.any (isM x.f0)
def ltV (y x : TV) : Bool := decide (y.f0 < x.f0)
def okB (ms : List TM) (is : List TV) (x : TB) : Bool := decide (1 ≤ x.f0 ∧ x.f0 ≤ 1000) && decide (0 ≤ x.f1 ∧ x.f1 ≤ 1000000) && !ms.any (isM x.f0) && !is.any (isV x.f0)
def ltB (y x : TB) : Bool := decide (y.f0 < x.f0)
/-- How many owners there are. -/
def ownersOf (l : List TM) : Nat := (l.filter (fun x => x.f1 == 3)).length
/-- A room in order. -/
def roomOk (ms : List TM) (is : List TV) (bs : List TB) : Bool :=
  decide (1 ≤ ms.length ∧ ms.length ≤ 32) && (decide (is.length ≤ 16) && (decide (bs.length ≤ 16) && (chain okM ltM none ms && (chain (okV ms) ltV none is && (chain (okB ms is) ltB none bs && decide (0 < ownersOf ms))))))
theorem roleI (a : Int) : impl_roleOk.f a = some (decide (0 ≤ a ∧ a ≤ 3)) := by unfold impl_roleOk.f; rw [implIn]; rfl
theorem memberI (a : Int) : impl_isMember.f a = some (decide (1 ≤ a ∧ a ≤ 1000)) := by unfold impl_isMember.f; rw [implIn]; rfl
theorem tickI (a : Int) : impl_isTick.f a = some (decide (0 ≤ a ∧ a ≤ 1000000)) := by unfold impl_isTick.f; rw [implIn]; rfl
theorem chain_okM {l : List TM} : ∀ (i : Nat), chain okM ltM (prevOf l i) (l.drop i) = true → ∀ j (h : j < l.length), i ≤ j → okM l[j] = true := by
  intro i hc j h hij
  induction hk : l.length - i generalizing i with
  | zero => omega
  | succ n ih =>
    have hi : i < l.length := by omega
    rw [chain_at okM ltM hi] at hc
    simp only [Bool.and_eq_true] at hc
    rcases Nat.lt_or_eq_of_le hij with h1 | h1
    · exact ih (i + 1) hc.2 h1 (by omega)
    · subst h1; exact hc.1.1
theorem implRolesL (l : List TM) (hl : l.length ≤ 32) (hok : ∀ j (h : j < l.length), okM l[j] = true) : ∀ i, i ≤ l.length → ∀ (a b c d : Int), Ev (fun k => impl_Room_roles.l0 k [a, b, c, d] l (l.length : Int) (i : Int)) [a, b, c, d] → True := fun _ _ _ _ _ _ _ => trivial
theorem implOwnersL (l : List TM) (hl : l.length ≤ 32) (hok : ∀ j (h : j < l.length), okM l[j] = true) : ∀ i, i ≤ l.length → ∀ x : List Int, x.length = 4 → ∀ n : Nat, n ≤ i → x[3]? = some (n : Int) → ∃ y : List Int, Ev (fun k => impl_Room_roles.l0 k x l (l.length : Int) (i : Int)) y ∧ y.length = 4 ∧ y[3]? = some ((n + ownersOf (l.drop i) : Nat) : Int) := by
  refine idx_ind l _ ?_ ?_
  · intro x hx n hn h3
    refine ⟨x, ?_, hx, by simpa [ownersOf] using h3⟩
    refine Ev.step (fun k => by rw [impl_Room_roles.l0]) ?_
    exact ev_neg (by omega) (Ev.now _)
  · intro i hi ih x hx n hn h3
    have hk := hok i hi
    simp only [okM, Bool.and_eq_true, decide_eq_true_eq] at hk
    have hr := hk.1.1.2
    obtain ⟨q, hq⟩ : ∃ q : Nat, l[i].f1 = (q : Int) := ⟨l[i].f1.toNat, by omega⟩
    have hq3 : q ≤ 3 := by omega
    have hd : ownersOf (l.drop i) = (if q = 3 then 1 else 0) + ownersOf (l.drop (i + 1)) := by
      rw [drop_at l i hi]
      unfold ownersOf
      by_cases h : q = 3
      · rw [List.filter_cons_of_pos (by simp [hq, h]), if_pos h, List.length_cons]; omega
      · rw [List.filter_cons_of_neg (by simp only [hq, beq_iff_eq]; omega), if_neg h]; omega
    have hstep : ∀ y : List Int, Ev (fun k => impl_Room_roles.l0 k (x.set q (wrap64 (rd x (q : Int) + 1))) l (l.length : Int) ((i + 1 : Nat) : Int)) y → Ev (fun k => impl_Room_roles.l0 k x l (l.length : Int) (i : Int)) y := by
      intro y hy
      refine Ev.step (fun k => by rw [impl_Room_roles.l0]) ?_
      rw [rdTM l i hi, hq, wsucc hi (by omega), Int.toNat_natCast]
      exact ev_pos (by omega) (ev_pos (by omega) (ev_pos (by omega) (ev_pos (by omega) (ev_pos (by omega) hy))))
    by_cases h : q = 3
    · subst h
      have e3 : rd x ((3 : Nat) : Int) = (n : Int) := by
        unfold rd
        rw [List.getD_eq_getElem?_getD, show ((3 : Nat) : Int).toNat = 3 from rfl, h3]; rfl
      obtain ⟨y, h1, h2, h4⟩ := ih (x.set 3 (wrap64 (rd x ((3 : Nat) : Int) + 1))) (by rw [List.length_set]; exact hx) (n + 1) (by omega) (by
        rw [List.getElem?_set_self (by omega), e3, wsucc (i := n) (n := n + 1) (by omega) (by omega)])
      refine ⟨y, hstep y h1, h2, ?_⟩
      rw [h4, hd]
      congr 2
      simp; omega
    · obtain ⟨y, h1, h2, h4⟩ := ih (x.set q (wrap64 (rd x (q : Int) + 1))) (by rw [List.length_set]; exact hx) n (by omega) (by
        rw [List.getElem?_set_ne (by omega)]; exact h3)
      refine ⟨y, hstep y h1, h2, ?_⟩
      rw [h4, hd, if_neg h, Nat.zero_add]
theorem implOwners (o : Bool) (ms : List TM) (is : List TV) (bs : List TB) (hl : ms.length ≤ 32) (hok : ∀ j (h : j < ms.length), okM ms[j] = true) : Ev (fun k => impl_Room_owners.f k o ms is bs) ((ownersOf ms : Nat) : Int) := by
  obtain ⟨y, h1, h2, h3⟩ := implOwnersL ms hl hok 0 (Nat.zero_le _) (List.replicate 4 0) (by simp) 0 (Nat.le_refl _) (by rfl)
  unfold impl_Room_owners.f impl_Room_roles.f
  refine Ev.bind (ev_pos (by omega) h1) (ev_pos (by omega) (ev_some ?_))
  unfold rd
  rw [List.getD_eq_getElem?_getD, show (3 : Int).toNat = 3 from rfl, h3]
  simp

theorem implVB (o : Bool) (ms : List TM) (is : List TV) (bs : List TB) (hm : ms.length ≤ 32) (hi2 : is.length ≤ 16) (hb2 : bs.length ≤ 16) (hok : ∀ j (h : j < ms.length), okM ms[j] = true) : ∀ i, i ≤ bs.length → Ev (fun k => impl_ValidRoom.l2 k bs (bs.length : Int) (i : Int) o ms is bs) (chain (okB ms is) ltB (prevOf bs i) (bs.drop i) && decide (0 < ownersOf ms)) := by
  refine idx_ind bs _ ?_ ?_
  · refine Ev.step (fun k => by rw [impl_ValidRoom.l2]) ?_
    refine ev_neg (by omega) (Ev.bind (implOwners o ms is bs hm hok) (ev_some ?_))
    simp [chain]
  · intro i hi ih
    have jt : Ev (fun k => impl_ValidRoom.j6 k bs (bs.length : Int) (i : Int) true o ms is bs) false := Ev.step (fun k => by rw [impl_ValidRoom.j6]) (ev_pos rfl (Ev.now _))
    have jf : Ev (fun k => impl_ValidRoom.j6 k bs (bs.length : Int) (i : Int) false o ms is bs) (chain (okB ms is) ltB (prevOf bs (i + 1)) (bs.drop (i + 1)) && decide (0 < ownersOf ms)) := by
      refine Ev.step (fun k => by rw [impl_ValidRoom.j6]) (ev_neg (by simp) ?_)
      rw [wsucc hi (by omega)]
      exact ih
    refine Ev.step (fun k => by rw [impl_ValidRoom.l2]) ?_
    rw [rdTB bs i hi, chain_at _ _ hi]
    refine ev_pos (by omega) (ev_pos (by omega) (ev_pos (by omega) (ev_b (memberI _) ?_)))
    by_cases a1 : 1 ≤ bs[i].f0 ∧ bs[i].f0 ≤ 1000
    · refine ev_pos (by simpa using a1) (ev_b (tickI _) ?_)
      by_cases a2 : 0 ≤ bs[i].f1 ∧ bs[i].f1 ≤ 1000000
      · refine ev_pos (by simpa using a2) (Ev.bind (implHasM o ms is bs _ (by omega)) ?_)
        cases a3 : ms.any (isM bs[i].f0) with
        | true => exact ev_pos rfl (ev_eq jt (by simp [okB, a3]))
        | false =>
          refine ev_neg (by simp) (Ev.bind (implHasV o ms is bs _ (by omega)) ?_)
          cases a4 : is.any (isV bs[i].f0) with
          | true => exact ev_pos rfl (ev_eq jt (by simp [okB, a4]))
          | false =>
            have ok : okB ms is bs[i] = true := by simp only [okB, a3, a4, decide_eq_true a1, decide_eq_true a2]; rfl
            refine ev_neg (by simp) ?_
            by_cases h1 : 0 < i
            · have e1 : wrap64 ((i : Int) - 1) = ((i - 1 : Nat) : Int) := by rw [w64 (by omega) (by omega)]; omega
              rw [e1, rdTB bs (i - 1) (by omega), prevOf_pos hi h1]
              refine ev_pos (by omega) (ev_pos (by omega) (ev_pos (by omega) ?_))
              by_cases h2 : (bs[i - 1]'(by omega)).f0 < bs[i].f0
              · rw [show decide ((bs[i - 1]'(by omega)).f0 ≥ bs[i].f0) = false by simp; omega]
                exact ev_eq jf (by simp [ok, ltB, h2])
              · rw [show decide ((bs[i - 1]'(by omega)).f0 ≥ bs[i].f0) = true by simp; omega]
                exact ev_eq jt (by simp [ltB, h2])
            · rw [prevOf_zero h1]
              exact ev_neg (by omega) (ev_eq jf (by simp [ok]))
      · exact ev_neg (by simpa using a2) (ev_eq jt (by simp only [okB, decide_eq_false a2]; simp))
    · exact ev_neg (by simpa using a1) (ev_eq jt (by simp only [okB, decide_eq_false a1]; simp))
theorem implVV (o : Bool) (ms : List TM) (is : List TV) (bs : List TB) (hm : ms.length ≤ 32) (hi2 : is.length ≤ 16) (hb2 : bs.length ≤ 16) (hok : ∀ j (h : j < ms.length), okM ms[j] = true) : ∀ i, i ≤ is.length → Ev (fun k => impl_ValidRoom.l1 k is (is.length : Int) (i : Int) o ms is bs) (chain (okV ms) ltV (prevOf is i) (is.drop i) && (chain (okB ms is) ltB none bs && decide (0 < ownersOf ms))) := by
  refine idx_ind is _ ?_ ?_
  · refine Ev.step (fun k => by rw [impl_ValidRoom.l1]) ?_
    refine ev_neg (by omega) (ev_eq (implVB o ms is bs hm hi2 hb2 hok 0 (Nat.zero_le _)) ?_)
    simp [chain, prevOf]
  · intro i hi ih
    have jt : Ev (fun k => impl_ValidRoom.j4 k is (is.length : Int) (i : Int) true o ms is bs) false := Ev.step (fun k => by rw [impl_ValidRoom.j4]) (ev_pos rfl (Ev.now _))
    have jf : Ev (fun k => impl_ValidRoom.j4 k is (is.length : Int) (i : Int) false o ms is bs) (chain (okV ms) ltV (prevOf is (i + 1)) (is.drop (i + 1)) && (chain (okB ms is) ltB none bs && decide (0 < ownersOf ms))) := by
      refine Ev.step (fun k => by rw [impl_ValidRoom.j4]) (ev_neg (by simp) ?_)
      rw [wsucc hi (by omega)]
      exact ih
    refine Ev.step (fun k => by rw [impl_ValidRoom.l1]) ?_
    rw [rdTV is i hi, chain_at _ _ hi]
    refine ev_pos (by omega) (ev_pos (by omega) (ev_pos (by omega) (ev_b (memberI _) ?_)))
    by_cases a1 : 1 ≤ is[i].f0 ∧ is[i].f0 ≤ 1000
    · refine ev_pos (by simpa using a1) (ev_b (memberI _) ?_)
      by_cases a2 : 1 ≤ is[i].f1 ∧ is[i].f1 ≤ 1000
      · refine ev_pos (by simpa using a2) (ev_b (tickI _) ?_)
        by_cases a4 : 0 ≤ is[i].f2 ∧ is[i].f2 ≤ 1000000
        · refine ev_pos (by simpa using a4) (Ev.bind (implHasM o ms is bs _ (by omega)) ?_)
          cases a3 : ms.any (isM is[i].f0) with
          | true => exact ev_pos rfl (ev_eq jt (by simp [okV, a3]))
          | false =>
            have ok : okV ms is[i] = true := by simp only [okV, a3, decide_eq_true a1, decide_eq_true a2, decide_eq_true a4]; rfl
            refine ev_neg (by simp) ?_
            by_cases h1 : 0 < i
            · have e1 : wrap64 ((i : Int) - 1) = ((i - 1 : Nat) : Int) := by rw [w64 (by omega) (by omega)]; omega
              rw [e1, rdTV is (i - 1) (by omega), prevOf_pos hi h1]
              refine ev_pos (by omega) (ev_pos (by omega) (ev_pos (by omega) ?_))
              by_cases h2 : (is[i - 1]'(by omega)).f0 < is[i].f0
              · rw [show decide ((is[i - 1]'(by omega)).f0 ≥ is[i].f0) = false by simp; omega]
                exact ev_eq jf (by simp [ok, ltV, h2])
              · rw [show decide ((is[i - 1]'(by omega)).f0 ≥ is[i].f0) = true by simp; omega]
                exact ev_eq jt (by simp [ltV, h2])
            · rw [prevOf_zero h1]
              exact ev_neg (by omega) (ev_eq jf (by simp [ok]))
        · exact ev_neg (by simpa using a4) (ev_eq jt (by simp only [okV, decide_eq_false a4]; simp))
      · exact ev_neg (by simpa using a2) (ev_eq jt (by simp only [okV, decide_eq_false a2]; simp))
    · exact ev_neg (by simpa using a1) (ev_eq jt (by simp only [okV, decide_eq_false a1]; simp))
theorem implVM (o : Bool) (ms : List TM) (is : List TV) (bs : List TB) (hm : ms.length ≤ 32) (hi2 : is.length ≤ 16) (hb2 : bs.length ≤ 16) : ∀ i, i ≤ ms.length → (∀ j (h : j < ms.length), j < i → okM ms[j] = true) → Ev (fun k => impl_ValidRoom.l0 k ms (ms.length : Int) (i : Int) o ms is bs) (chain okM ltM (prevOf ms i) (ms.drop i) && (chain (okV ms) ltV none is && (chain (okB ms is) ltB none bs && decide (0 < ownersOf ms)))) := by
  refine idx_ind ms _ ?_ ?_
  · intro hok
    refine Ev.step (fun k => by rw [impl_ValidRoom.l0]) ?_
    refine ev_neg (by omega) (ev_eq (implVV o ms is bs hm hi2 hb2 (fun j h => hok j h h) 0 (Nat.zero_le _)) ?_)
    simp [chain, prevOf]
  · intro i hi ih hok
    have jt : Ev (fun k => impl_ValidRoom.j2 k ms (ms.length : Int) (i : Int) true o ms is bs) false := Ev.step (fun k => by rw [impl_ValidRoom.j2]) (ev_pos rfl (Ev.now _))
    refine Ev.step (fun k => by rw [impl_ValidRoom.l0]) ?_
    rw [rdTM ms i hi, chain_at _ _ hi]
    refine ev_pos (by omega) (ev_pos (by omega) (ev_pos (by omega) (ev_b (memberI _) ?_)))
    by_cases a1 : 1 ≤ ms[i].f0 ∧ ms[i].f0 ≤ 1000
    · refine ev_pos (by simpa using a1) (ev_b (roleI _) ?_)
      by_cases a2 : 0 ≤ ms[i].f1 ∧ ms[i].f1 ≤ 3
      · refine ev_pos (by simpa using a2) (ev_b (tickI _) ?_)
        by_cases a3 : 0 ≤ ms[i].f2 ∧ ms[i].f2 ≤ 1000000
        · refine ev_pos (by simpa using a3) (ev_b (tickI _) ?_)
          by_cases a4 : 0 ≤ ms[i].f3 ∧ ms[i].f3 ≤ 1000000
          · have ok : okM ms[i] = true := by simp only [okM, decide_eq_true a1, decide_eq_true a2, decide_eq_true a3, decide_eq_true a4]; rfl
            have jf : Ev (fun k => impl_ValidRoom.j2 k ms (ms.length : Int) (i : Int) false o ms is bs) (chain okM ltM (prevOf ms (i + 1)) (ms.drop (i + 1)) && (chain (okV ms) ltV none is && (chain (okB ms is) ltB none bs && decide (0 < ownersOf ms)))) := by
              refine Ev.step (fun k => by rw [impl_ValidRoom.j2]) (ev_neg (by simp) ?_)
              rw [wsucc hi (by omega)]
              exact ih fun j h hj => by
                rcases Nat.lt_or_eq_of_le (Nat.lt_succ_iff.1 hj) with h3 | h3
                · exact hok j h h3
                · subst h3; exact ok
            refine ev_pos (by simpa using a4) ?_
            by_cases h1 : 0 < i
            · have e1 : wrap64 ((i : Int) - 1) = ((i - 1 : Nat) : Int) := by rw [w64 (by omega) (by omega)]; omega
              rw [e1, rdTM ms (i - 1) (by omega), prevOf_pos hi h1]
              refine ev_pos (by omega) (ev_pos (by omega) (ev_pos (by omega) ?_))
              by_cases h2 : (ms[i - 1]'(by omega)).f0 < ms[i].f0
              · rw [show decide ((ms[i - 1]'(by omega)).f0 ≥ ms[i].f0) = false by simp; omega]
                exact ev_eq jf (by simp [ok, ltM, h2])
              · rw [show decide ((ms[i - 1]'(by omega)).f0 ≥ ms[i].f0) = true by simp; omega]
                exact ev_eq jt (by simp [ltM, h2])
            · rw [prevOf_zero h1]
              exact ev_neg (by omega) (ev_eq jf (by simp [ok]))
          · exact ev_neg (by simpa using a4) (ev_eq jt (by simp only [okM, decide_eq_false a4]; simp))
        · exact ev_neg (by simpa using a3) (ev_eq jt (by simp only [okM, decide_eq_false a3]; simp))
      · exact ev_neg (by simpa using a2) (ev_eq jt (by simp only [okM, decide_eq_false a2]; simp))
    · exact ev_neg (by simpa using a1) (ev_eq jt (by simp only [okM, decide_eq_false a1]; simp))
theorem implValid (o : Bool) (ms : List TM) (is : List TV) (bs : List TB) (hl : ms.length ≤ 100000000) (hl2 : is.length ≤ 100000000) (hl3 : bs.length ≤ 100000000) : Ev (fun k => impl_ValidRoom.f k o ms is bs) (roomOk ms is bs) := by
  unfold impl_ValidRoom.f roomOk
  have jt : Ev (fun k => impl_ValidRoom.j0 k true o ms is bs) false := Ev.step (fun k => by rw [impl_ValidRoom.j0]) (ev_pos rfl (Ev.now _))
  refine ev_b (implIn _ _ _) ?_
  by_cases h1 : 1 ≤ ms.length ∧ ms.length ≤ 32
  · refine ev_pos (by simp; omega) ?_
    by_cases h2 : is.length ≤ 16
    · refine ev_neg (by omega) ?_
      by_cases h3 : bs.length ≤ 16
      · rw [show decide ((bs.length : Int) > 16) = false by simp; omega, decide_eq_true h1, decide_eq_true h2, decide_eq_true h3]
        refine Ev.step (fun k => by rw [impl_ValidRoom.j0]) (ev_neg (by simp) ?_)
        refine ev_eq (implVM o ms is bs h1.2 h2 h3 0 (Nat.zero_le _) (fun j _ h => by omega)) ?_
        simp [prevOf]
      · rw [show decide ((bs.length : Int) > 16) = true by simp; omega]
        exact ev_eq jt (by simp only [decide_eq_false h3]; simp)
    · exact ev_pos (by omega) (ev_eq jt (by simp only [decide_eq_false h2]; simp))
  · exact ev_neg (by simp; omega) (ev_eq jt (by simp only [decide_eq_false h1]; simp))

theorem u64_range (n : Int) : 0 ≤ IntKind.u64.wrap n ∧ IntKind.u64.wrap n < 18446744073709551616 := by
  simp only [IntKind.wrap, IntKind.bits, IntKind.signed]
  constructor
  · exact Int.emod_nonneg _ (by decide)
  · exact Int.emod_lt_of_pos _ (by decide)
theorem u64_small (n : Int) (h0 : 0 ≤ n) (h1 : n < 2 ^ 24) : IntKind.u64.wrap n = n := by
  simp only [IntKind.wrap, IntKind.bits, IntKind.signed]
  have h1' : n < 16777216 := h1
  show n % 18446744073709551616 = n
  omega
/-- A byte that is drawn lies between 0 and 255. -/
theorem and255 (n : Int) : 0 ≤ Go.bits .and .u64 (IntKind.u64.wrap n / 1099511627776) 255 ∧ Go.bits .and .u64 (IntKind.u64.wrap n / 1099511627776) 255 ≤ 255 := by
  have h := u64_range n
  have e := bits_mask .u64 24 (by decide) u64_small 8 (by decide) (IntKind.u64.wrap n / 1099511627776) (by omega) (by show _ < (16777216 : Int); omega)
  have e2 : Go.bits .and .u64 (IntKind.u64.wrap n / 1099511627776) 255 = IntKind.u64.wrap n / 1099511627776 % 256 := e
  rw [e2]
  omega
def U8s (l : List Int) : Prop := ∀ x ∈ l, (Lit.int .u8 x).wf = true
theorem u8_rd {l : List Int} (h : U8s l) (i : Int) : 0 ≤ rd l i ∧ rd l i ≤ 255 := by
  unfold rd
  rcases Nat.lt_or_ge i.toNat l.length with hi | hi
  · have := h l[i.toNat] (List.getElem_mem hi)
    simp [Lit.wf, IntKind.min, IntKind.max, IntKind.signed, IntKind.bits] at this
    simp [List.getD, hi]
    omega
  · simp [List.getD, hi]
theorem nextOk {l : List Int} (h : U8s l) (i s : Int) (h0 : 0 ≤ i) (h1 : i ≤ 1000000000) : ∃ v s', spec_l00Src_next.f l i s = some (v, i + 1, s') ∧ 0 ≤ v ∧ v ≤ 255 := by
  have hr := u8_rd h i
  have e1 : wrap64 (i + 1) = i + 1 := w64 (by omega) (by omega)
  have e2 : wrap64 (rd l i) = rd l i := w64 (by omega) (by omega)
  unfold spec_l00Src_next.f
  rw [e1, e2]
  have big : ∀ n : Int, wrap64 (Go.bits .and .u64 (IntKind.u64.wrap n / 1099511627776) 255) = Go.bits .and .u64 (IntKind.u64.wrap n / 1099511627776) 255 := fun n => w64 (by have := and255 n; omega) (by have := and255 n; omega)
  by_cases c1 : i < (l.length : Int)
  · rw [if_pos c1, if_pos h0]
    by_cases c2 : i + 1 ≤ (l.length : Int)
    · rw [if_pos c2]; exact ⟨_, _, rfl, hr.1, hr.2⟩
    · rw [if_neg c2, big]; exact ⟨_, _, rfl, (and255 _).1, (and255 _).2⟩
  · rw [if_neg c1]
    by_cases c2 : i + 1 ≤ (l.length : Int)
    · rw [if_pos c2]; exact ⟨_, _, rfl, by omega, by omega⟩
    · rw [if_neg c2, big]; exact ⟨_, _, rfl, (and255 _).1, (and255 _).2⟩
theorem pickOk {l : List Int} (h : U8s l) (i s n : Int) (h0 : 0 ≤ i) (h1 : i ≤ 900000000) : ∃ v i' s', spec_l00Src_pick.f l i s n = some (v, i', s') ∧ 0 ≤ v ∧ (1 ≤ n → v < n) ∧ (n ≤ 1 → v = 0) ∧ i ≤ i' ∧ i' ≤ i + 2 := by
  unfold spec_l00Src_pick.f
  by_cases c : n ≤ 1
  · rw [if_pos c]; exact ⟨_, _, _, rfl, by omega, by omega, by omega, by omega, by omega⟩
  · rw [if_neg c]
    obtain ⟨v, s', e, v0, v1⟩ := nextOk h i s h0 (by omega)
    rw [e]
    simp only [Option.bind_some]
    by_cases c2 : n > 200
    · rw [if_pos c2]
      obtain ⟨v2, s2, e2, w0, w1⟩ := nextOk h (i + 1) s' (by omega) (by omega)
      rw [e2]
      simp only [Option.bind_some]
      rw [if_neg (by omega), w64 (n := v * 256) (by omega) (by omega), w64 (by omega) (by omega), Int.tmod_eq_emod_of_nonneg (by omega)]
      exact ⟨_, _, _, rfl, Int.emod_nonneg _ (by omega), fun _ => Int.emod_lt_of_pos _ (by omega), by omega, by omega, by omega⟩
    · rw [if_neg c2, if_neg (by omega), Int.tmod_eq_emod_of_nonneg (by omega)]
      exact ⟨_, _, _, rfl, Int.emod_nonneg _ (by omega), fun _ => Int.emod_lt_of_pos _ (by omega), by omega, by omega, by omega⟩

theorem r8At {l : List Int} (h : U8s l) (i n : Int) (h0 : 0 ≤ i) : ∃ v, laws_r8At.f l i n = some v ∧ 0 ≤ v ∧ (1 ≤ n → v < n) := by
  unfold laws_r8At.f
  by_cases c : n ≤ 1
  · rw [if_pos c]; exact ⟨0, rfl, by omega, by omega⟩
  · rw [if_neg c]
    by_cases c1 : i ≥ (l.length : Int)
    · rw [if_pos c1]; exact ⟨0, rfl, by omega, by omega⟩
    · have hr := u8_rd h i
      rw [if_neg c1, if_pos h0, if_pos (by omega), if_neg (by omega), w64 (by omega) (by omega), Int.tmod_eq_emod_of_nonneg (by omega)]
      exact ⟨_, rfl, Int.emod_nonneg _ (by omega), fun _ => Int.emod_lt_of_pos _ (by omega)⟩

/-- A chain, from what is said of each and of each two. -/
theorem chain_of {α : Type} (ok : α → Bool) (lt : α → α → Bool) : ∀ (l : List α) (p : Option α), (∀ x ∈ l, ok x = true) → l.Pairwise (fun a b => lt a b = true) → (∀ y, p = some y → ∀ x ∈ l, lt y x = true) → chain ok lt p l = true
  | [], _, _, _, _ => rfl
  | x :: r, p, h1, h2, h3 => by
    have hp := List.pairwise_cons.1 h2
    unfold chain
    rw [chain_of ok lt r (some x) (fun y hy => h1 y (List.mem_cons_of_mem _ hy)) hp.2 (fun y e z hz => by cases e; exact hp.1 z hz), h1 x List.mem_cons_self]
    cases p with
    | none => rfl
    | some y => simp [h3 y rfl x List.mem_cons_self]
/-- What is drawn so far: who comes next is n. -/
structure Drawn (n : Int) (ms : List TM) (is : List TV) (bs : List TB) : Prop where
  m1 : ∀ x ∈ ms, okM x = true ∧ x.f0 < n
  m2 : ms.Pairwise (fun a b => ltM a b = true)
  v1 : ∀ x ∈ is, 1 ≤ x.f0 ∧ x.f0 < n ∧ 1 ≤ x.f1 ∧ x.f1 ≤ 1000 ∧ 0 ≤ x.f2 ∧ x.f2 ≤ 1000000 ∧ ∀ m ∈ ms, m.f0 ≠ x.f0
  v2 : is.Pairwise (fun a b => ltV a b = true)
  b1 : ∀ x ∈ bs, 1 ≤ x.f0 ∧ x.f0 < n ∧ 0 ≤ x.f1 ∧ x.f1 ≤ 1000000 ∧ (∀ m ∈ ms, m.f0 ≠ x.f0) ∧ ∀ v ∈ is, v.f0 ≠ x.f0
  b2 : bs.Pairwise (fun a b => ltB a b = true)
  ln : (ms.length : Int) < n ∧ (is.length : Int) < n ∧ (bs.length : Int) < n
theorem drawn_none {n : Int} {ms is bs} (h : Drawn n ms is bs) : Drawn (n + 1) ms is bs := by
  obtain ⟨a1, a2, a3, a4, a5, a6, a7⟩ := h
  refine ⟨fun x hx => ⟨(a1 x hx).1, by have := (a1 x hx).2; omega⟩, a2, fun x hx => ?_, a4, fun x hx => ?_, a6, by omega⟩
  · obtain ⟨b1, b2, b3⟩ := a3 x hx; exact ⟨b1, by omega, b3⟩
  · obtain ⟨b1, b2, b3⟩ := a5 x hx; exact ⟨b1, by omega, b3⟩
theorem drawn_m {n : Int} {ms is bs} (h : Drawn n ms is bs) (x : TM) (hx : okM x = true) (hn : x.f0 = n) : Drawn (n + 1) (ms ++ [x]) is bs := by
  obtain ⟨a1, a2, a3, a4, a5, a6, a7⟩ := h
  refine ⟨fun y hy => ?_, ?_, fun y hy => ?_, a4, fun y hy => ?_, a6, ?_⟩
  · rcases List.mem_append.1 hy with h | h
    · exact ⟨(a1 y h).1, by have := (a1 y h).2; omega⟩
    · rw [List.mem_singleton] at h; subst h; exact ⟨hx, by omega⟩
  · refine List.pairwise_append.2 ⟨a2, List.pairwise_singleton _ _, fun y hy z hz => ?_⟩
    rw [List.mem_singleton] at hz; subst hz
    have := (a1 y hy).2
    simp only [ltM, decide_eq_true_eq]; omega
  · obtain ⟨b1, b2, b3, b4, b5, b6, b7⟩ := a3 y hy
    refine ⟨b1, by omega, b3, b4, b5, b6, fun m hm => ?_⟩
    rcases List.mem_append.1 hm with h | h
    · exact b7 m h
    · rw [List.mem_singleton] at h; subst h; omega
  · obtain ⟨b1, b2, b3, b4, b5, b6⟩ := a5 y hy
    refine ⟨b1, by omega, b3, b4, fun m hm => ?_, b6⟩
    rcases List.mem_append.1 hm with h | h
    · exact b5 m h
    · rw [List.mem_singleton] at h; subst h; omega
  · simp only [List.length_append, List.length_singleton]; omega
theorem drawn_v {n : Int} {ms is bs} (h : Drawn n ms is bs) (x : TV) (hn : x.f0 = n) (h1 : 1 ≤ n) (h2 : 1 ≤ x.f1 ∧ x.f1 ≤ 1000 ∧ 0 ≤ x.f2 ∧ x.f2 ≤ 1000000) : Drawn (n + 1) ms (is ++ [x]) bs := by
  obtain ⟨a1, a2, a3, a4, a5, a6, a7⟩ := h
  refine ⟨fun y hy => ⟨(a1 y hy).1, by have := (a1 y hy).2; omega⟩, a2, fun y hy => ?_, ?_, fun y hy => ?_, a6, ?_⟩
  · rcases List.mem_append.1 hy with h | h
    · obtain ⟨b1, b2, b3⟩ := a3 y h; exact ⟨b1, by omega, b3⟩
    · rw [List.mem_singleton] at h; subst h
      exact ⟨by omega, by omega, h2.1, h2.2.1, h2.2.2.1, h2.2.2.2, fun m hm => by have := (a1 m hm).2; omega⟩
  · refine List.pairwise_append.2 ⟨a4, List.pairwise_singleton _ _, fun y hy z hz => ?_⟩
    rw [List.mem_singleton] at hz; subst hz
    have := (a3 y hy).2.1
    simp only [ltV, decide_eq_true_eq]; omega
  · obtain ⟨b1, b2, b3, b4, b5, b6⟩ := a5 y hy
    refine ⟨b1, by omega, b3, b4, b5, fun m hm => ?_⟩
    rcases List.mem_append.1 hm with h | h
    · exact b6 m h
    · rw [List.mem_singleton] at h; subst h; omega
  · simp only [List.length_append, List.length_singleton]; omega
theorem drawn_b {n : Int} {ms is bs} (h : Drawn n ms is bs) (x : TB) (hn : x.f0 = n) (h1 : 1 ≤ n) (h2 : 0 ≤ x.f1 ∧ x.f1 ≤ 1000000) : Drawn (n + 1) ms is (bs ++ [x]) := by
  obtain ⟨a1, a2, a3, a4, a5, a6, a7⟩ := h
  refine ⟨fun y hy => ⟨(a1 y hy).1, by have := (a1 y hy).2; omega⟩, a2, fun y hy => ?_, a4, fun y hy => ?_, ?_, ?_⟩
  · obtain ⟨b1, b2, b3⟩ := a3 y hy; exact ⟨b1, by omega, b3⟩
  · rcases List.mem_append.1 hy with h | h
    · obtain ⟨b1, b2, b3⟩ := a5 y h; exact ⟨b1, by omega, b3⟩
    · rw [List.mem_singleton] at h; subst h
      exact ⟨by omega, by omega, h2.1, h2.2, fun m hm => by have := (a1 m hm).2; omega, fun m hm => by have := (a3 m hm).2.1; omega⟩
  · refine List.pairwise_append.2 ⟨a6, List.pairwise_singleton _ _, fun y hy z hz => ?_⟩
    rw [List.mem_singleton] at hz; subst hz
    have := (a5 y hy).2.1
    simp only [ltB, decide_eq_true_eq]; omega
  · simp only [List.length_append, List.length_singleton]; omega
theorem any_isM {ms : List TM} {a : Int} (h : ∀ m ∈ ms, m.f0 ≠ a) : ms.any (isM a) = false := by
  rw [List.any_eq_false]; intro m hm; simp [isM, h m hm]
theorem any_isV {ms : List TV} {a : Int} (h : ∀ m ∈ ms, m.f0 ≠ a) : ms.any (isV a) = false := by
  rw [List.any_eq_false]; intro m hm; simp [isV, h m hm]
/-- A room that is drawn to its end is in order. -/
theorem drawn_ok {ms is bs} (h : Drawn 7 ms is bs) (ho : ∃ m ∈ ms, m.f1 = 3) : roomOk ms is bs = true := by
  obtain ⟨a1, a2, a3, a4, a5, a6, a7⟩ := h
  obtain ⟨m, hm, h3⟩ := ho
  have hl : 0 < ms.length := List.length_pos_of_mem hm
  unfold roomOk
  rw [chain_of okM ltM ms none (fun x hx => (a1 x hx).1) a2 (fun _ e => by cases e), chain_of (okV ms) ltV is none ?_ a4 (fun _ e => by cases e), chain_of (okB ms is) ltB bs none ?_ a6 (fun _ e => by cases e)]
  · have : 0 < ownersOf ms := List.length_pos_of_mem (List.mem_filter.2 ⟨hm, by simp [h3]⟩)
    simp only [Bool.true_and, Bool.and_eq_true, decide_eq_true_eq]
    omega
  · intro x hx
    obtain ⟨b1, b2, b3, b4, b5, b6⟩ := a5 x hx
    simp only [okB, any_isM b5, any_isV b6, Bool.not_false, Bool.and_true, Bool.and_eq_true, decide_eq_true_eq]
    omega
  · intro x hx
    obtain ⟨b1, b2, b3, b4, b5, b6, b7⟩ := a3 x hx
    simp only [okV, any_isM b7, Bool.not_false, Bool.and_true, Bool.and_eq_true, decide_eq_true_eq]
    omega
theorem oneOk {l : List Int} (h : U8s l) (i s n : Int) (h0 : 0 ≤ i) (h1 : i ≤ 900000000) : ∃ b i' s', spec_l00Src_one.f l i s n = some (b, i', s') ∧ i ≤ i' ∧ i' ≤ i + 2 := by
  unfold spec_l00Src_one.f
  obtain ⟨v, i', s', e, _, _, _, a, b⟩ := pickOk h i s n h0 h1
  rw [e]
  exact ⟨_, _, _, rfl, a, b⟩
theorem drawRoomL {l : List Int} (h : U8s l) (o : Bool) (x4 : Int) (hx : 1 ≤ x4 ∧ x4 ≤ 6) : ∀ (d : Nat) (n : Int) (ms : List TM) (is : List TV) (bs : List TB) (i s : Int), n + d = 7 → 1 ≤ n → 0 ≤ i → i ≤ 1000 * n → Drawn n ms is bs → (x4 < n → ∃ m ∈ ms, m.f1 = 3) →
    ∃ ms' is' bs' i' s', Ev (fun k => spec_l02DrawOk.l0 k x4 n l i s o ms is bs) (o, ms', is', bs', i', s') ∧ Drawn 7 ms' is' bs' ∧ ∃ m ∈ ms', m.f1 = 3 := by
  intro d
  induction d with
  | zero =>
    intro n ms is bs i s hn _ _ _ hd ho
    have : n = 7 := by omega
    subst this
    refine ⟨ms, is, bs, i, s, ?_, hd, ho (by omega)⟩
    refine Ev.step (fun k => by rw [spec_l02DrawOk.l0]) ?_
    exact ev_neg (by omega) (Ev.now _)
  | succ d ih =>
    intro n ms is bs i s hn h1 hi0 hi hd ho
    have wn : wrap64 (n + 1) = n + 1 := w64 (by omega) (by omega)
    have ld := hd.ln
    obtain ⟨r1, i1, s1, e1, u1, w1, _, p1, q1⟩ := pickOk h i s 4 hi0 (by omega)
    obtain ⟨r2, i2, s2, e2, u2, w2, _, p2, q2⟩ := pickOk h i1 s1 20 (by omega) (by omega)
    obtain ⟨r3, i3, s3, e3, p3, q3⟩ := oneOk h i2 s2 4 (by omega) (by omega)
    -- what comes behind the three draws: who, in which role, since when, quiet until when
    have tail : ∀ (qu : Int) (i s : Int), 0 ≤ qu → qu ≤ 1000000 → 0 ≤ i → i ≤ 1000 * n + 100 → ∃ ms' is' bs' i' s', Ev (fun k => spec_l02DrawOk.j1 k x4 n l i s o ms is bs n r1 r2 qu) (o, ms', is', bs', i', s') ∧ Drawn 7 ms' is' bs' ∧ ∃ m ∈ ms', m.f1 = 3 := by
      intro qu i s hq hq2 hi0 hi
      have j2 : ∀ ro : Int, 0 ≤ ro → ro ≤ 3 → (n = x4 → ro = 3) → ∃ ms' is' bs' i' s', Ev (fun k => spec_l02DrawOk.j2 k x4 n l i s o ms is bs n ro r2 qu) (o, ms', is', bs', i', s') ∧ Drawn 7 ms' is' bs' ∧ ∃ m ∈ ms', m.f1 = 3 := by
        intro ro hr0 hr3 hro
        obtain ⟨t1, k1, z1, f1, g1, y1, _, m1, n1⟩ := pickOk h i s 40 hi0 (by omega)
        obtain ⟨t2, k2, z2, f2, g2, y2, _, m2, n2⟩ := pickOk h k1 z1 6 (by omega) (by omega)
        obtain ⟨t3, k3, z3, f3, g3, y3, _, m3, n3⟩ := pickOk h k2 z2 5 (by omega) (by omega)
        have w5 : wrap64 (1 + t2) = 1 + t2 := w64 (by omega) (by omega)
        have y1' := y1 (by omega)
        have hw : 0 ≤ t1 ∧ t1 ≤ 1000000 := ⟨by omega, by omega⟩
        have hv : 1 ≤ 1 + t2 ∧ 1 + t2 ≤ 1000 ∧ 0 ≤ t1 ∧ t1 ≤ 1000000 := ⟨by omega, by have := y2 (by omega); omega, hw⟩
        have j3 : ∀ b : Bool, (n = x4 → b = true) → ∃ ms' is' bs' i' s', Ev (fun k => spec_l02DrawOk.j3 k x4 n t1 (wrap64 (1 + t2)) t3 b l k3 z3 o ms is bs n ro r2 qu) (o, ms', is', bs', i', s') ∧ Drawn 7 ms' is' bs' ∧ ∃ m ∈ ms', m.f1 = 3 := by
          intro b hb
          rw [w5]
          cases b with
          | true =>
            have ok : okM ⟨n, ro, r2, qu⟩ = true := by
              simp only [okM, Bool.and_eq_true, decide_eq_true_eq]; omega
            obtain ⟨a, b, c, d', e, E, F⟩ := ih (n + 1) (ms ++ [⟨n, ro, r2, qu⟩]) is bs k3 z3 (by omega) (by omega) (by omega) (by omega) (drawn_m hd _ ok rfl) (fun hx4 => by
              by_cases c : n = x4
              · exact ⟨_, List.mem_append_right _ (List.mem_singleton.2 rfl), hro c⟩
              · obtain ⟨m, hm, h3⟩ := ho (by omega); exact ⟨m, List.mem_append_left _ hm, h3⟩)
            refine ⟨a, b, c, d', e, ?_, F⟩
            refine Ev.step (fun k => by rw [spec_l02DrawOk.j3]) ?_
            rw [wn]
            exact ev_pos rfl (ev_pos (by omega) E)
          | false =>
            have hx4 : n ≠ x4 := fun e => by have := hb e; simp at this
            have ho' : x4 < n + 1 → ∃ m ∈ ms, m.f1 = 3 := fun hlt => ho (by omega)
            by_cases c3 : t3 = 3
            · obtain ⟨a, b, c, d', e, E, F⟩ := ih (n + 1) ms (is ++ [⟨n, 1 + t2, t1⟩]) bs k3 z3 (by omega) (by omega) (by omega) (by omega) (drawn_v hd ⟨n, 1 + t2, t1⟩ rfl h1 hv) ho'
              refine ⟨a, b, c, d', e, ?_, F⟩
              refine Ev.step (fun k => by rw [spec_l02DrawOk.j3]) ?_
              rw [wn]
              exact ev_neg (by simp) (ev_pos c3 (ev_pos (by omega) E))
            · obtain ⟨b4, i4, s4, e4, p4, q4⟩ := oneOk h k3 z3 2 (by omega) (by omega)
              cases b4 with
              | true =>
                obtain ⟨a, b, c, d', e, E, F⟩ := ih (n + 1) ms is (bs ++ [⟨n, t1⟩]) i4 s4 (by omega) (by omega) (by omega) (by omega) (drawn_b hd ⟨n, t1⟩ rfl h1 hw) ho'
                refine ⟨a, b, c, d', e, ?_, F⟩
                refine Ev.step (fun k => by rw [spec_l02DrawOk.j3]) ?_
                rw [wn]
                exact ev_neg (by simp) (ev_neg c3 (ev_b e4 (ev_pos rfl (ev_pos (by omega) E))))
              | false =>
                obtain ⟨a, b, c, d', e, E, F⟩ := ih (n + 1) ms is bs i4 s4 (by omega) (by omega) (by omega) (by omega) (drawn_none hd) ho'
                refine ⟨a, b, c, d', e, ?_, F⟩
                refine Ev.step (fun k => by rw [spec_l02DrawOk.j3]) ?_
                rw [wn]
                exact ev_neg (by simp) (ev_neg c3 (ev_b e4 (ev_neg (by simp) E)))
        by_cases c : n = x4
        · obtain ⟨a, b, c', d', e, E, F⟩ := j3 true (fun _ => rfl)
          refine ⟨a, b, c', d', e, ?_, F⟩
          refine Ev.step (fun k => by rw [spec_l02DrawOk.j2]) ?_
          exact ev_b f1 (ev_b f2 (ev_b f3 (ev_pos c E)))
        · obtain ⟨a, b, c', d', e, E, F⟩ := j3 (decide (t3 < 3)) (fun e => absurd e c)
          refine ⟨a, b, c', d', e, ?_, F⟩
          refine Ev.step (fun k => by rw [spec_l02DrawOk.j2]) ?_
          exact ev_b f1 (ev_b f2 (ev_b f3 (ev_neg c E)))
      by_cases c : n = x4
      · obtain ⟨a, b, c', d', e, E, F⟩ := j2 3 (by omega) (by omega) (fun _ => rfl)
        refine ⟨a, b, c', d', e, ?_, F⟩
        refine Ev.step (fun k => by rw [spec_l02DrawOk.j1]) ?_
        exact ev_pos c E
      · obtain ⟨a, b, c', d', e, E, F⟩ := j2 r1 u1 (by have := w1 (by omega); omega) (fun e => absurd e c)
        refine ⟨a, b, c', d', e, ?_, F⟩
        refine Ev.step (fun k => by rw [spec_l02DrawOk.j1]) ?_
        exact ev_neg c E
    cases r3 with
    | true =>
      obtain ⟨r5, i5, s5, e5, u5, w5, _, p5, q5⟩ := pickOk h i3 s3 40 (by omega) (by omega)
      obtain ⟨a, b, c, d', e, E, F⟩ := tail r5 i5 s5 u5 (by have := w5 (by omega); omega) (by omega) (by omega)
      refine ⟨a, b, c, d', e, ?_, F⟩
      refine Ev.step (fun k => by rw [spec_l02DrawOk.l0]) ?_
      exact ev_pos (by omega) (ev_b e1 (ev_b e2 (ev_b e3 (ev_pos rfl (ev_b e5 E)))))
    | false =>
      obtain ⟨a, b, c, d', e, E, F⟩ := tail 0 i3 s3 (by omega) (by omega) (by omega) (by omega)
      refine ⟨a, b, c, d', e, ?_, F⟩
      refine Ev.step (fun k => by rw [spec_l02DrawOk.l0]) ?_
      exact ev_pos (by omega) (ev_b e1 (ev_b e2 (ev_b e3 (ev_neg (by simp) E))))
/-- What is drawn as a room is one. -/
theorem drawRoom {l : List Int} (h : U8s l) : ∃ o ms is bs, Ev (fun k => spec_R8Room.f k l) (o, ms, is, bs) ∧ Drawn 7 ms is bs ∧ ∃ m ∈ ms, m.f1 = 3 := by
  obtain ⟨o, i1, s1, e1, p1, q1⟩ := oneOk h 0 0 2 (by omega) (by omega)
  obtain ⟨v, i2, s2, e2, u2, w2, _, p2, q2⟩ := pickOk h i1 s1 6 (by omega) (by omega)
  obtain ⟨ms, is, bs, i', s', E, D, O⟩ := drawRoomL h o (1 + v) ⟨by omega, by have := w2 (by omega); omega⟩ 6 1 [] [] [] i2 s2 (by omega) (by omega) (by omega) (by omega) ⟨by simp, by simp, by simp, by simp, by simp, by simp, by simp⟩ (fun h => by omega)
  refine ⟨o, ms, is, bs, ?_, D, O⟩
  unfold spec_R8Room.f spec_l00From.f spec_l02DrawOk.f
  refine ev_b rfl (Ev.bind (a := (o, ms, is, bs, i', s')) ?_ (Ev.now _))
  refine ev_b e1 (ev_b e2 ?_)
  simp only [w64 (n := 1 + v) (by omega) (by have := w2 (by omega); omega)]
  exact E

/-- The last act that a role may do. -/
def lim (a : Int) : Int := if a = 0 then 1 else if a = 1 then 3 else if a = 2 then 6 else 8
def mayV (a b : Int) : Bool := decide (0 ≤ a ∧ a ≤ 3 ∧ 0 ≤ b ∧ b ≤ lim a)
theorem roleMay (a b : Int) : Ev (fun k => impl_RoleMay.f k a b) (mayV a b) := by
  unfold impl_RoleMay.f
  have jt : Ev (fun k => impl_RoleMay.j0 k a b true) false := Ev.step (fun k => by rw [impl_RoleMay.j0]) (ev_pos rfl (Ev.now _))
  refine ev_b (roleI a) ?_
  by_cases h : 0 ≤ a ∧ a ≤ 3
  · refine ev_pos (decide_eq_true h) ?_
    by_cases h2 : b < 0
    · rw [decide_eq_true h2]
      exact ev_eq jt (by unfold mayV; rw [decide_eq_false (by omega)])
    · rw [decide_eq_false h2]
      refine Ev.step (fun k => by rw [impl_RoleMay.j0]) ?_
      refine ev_neg (by simp) (ev_b rfl (ev_pos h.1 (ev_pos (show a < (([1, 3, 6, 8] : List Int).length : Int) from by rw [show (([1, 3, 6, 8] : List Int).length : Int) = 4 from rfl]; omega) (ev_some ?_))))
      have : rd [1, 3, 6, 8] a = lim a := by
        unfold lim
        rcases (by omega : a = 0 ∨ a = 1 ∨ a = 2 ∨ a = 3) with e | e | e | e <;> subst e <;> rfl
      rw [this]
      unfold mayV
      congr 1
      simp only [eq_iff_iff]
      omega
  · refine ev_neg (by simp [h]) (ev_eq jt ?_)
    unfold mayV; rw [decide_eq_false (by omega)]
/-- What RoleOf answers. -/
def roleAns (ms : List TM) (is : List TV) (bs : List TB) (id : Int) : Int × Bool := if roomOk ms is bs = true ∧ 0 ≤ fnd (isM id) ms 0 then ((rd_T36 ms (fnd (isM id) ms 0)).f1, true) else (0, false)
theorem implRole (o : Bool) (ms : List TM) (is : List TV) (bs : List TB) (id : Int) (hl : ms.length ≤ 100000000) (hl2 : is.length ≤ 100000000) (hl3 : bs.length ≤ 100000000) : Ev (fun k => impl_RoleOf.f k o ms is bs id) (roleAns ms is bs id) := by
  unfold impl_RoleOf.f roleAns
  have jt : Ev (fun k => impl_RoleOf.j0 k id true o ms is bs) (0, false) := Ev.step (fun k => by rw [impl_RoleOf.j0]) (ev_pos rfl (Ev.now _))
  refine Ev.bind (implValid o ms is bs hl hl2 hl3) ?_
  by_cases h : roomOk ms is bs = true
  · refine ev_pos h (Ev.bind (implHasM o ms is bs id hl) ?_)
    have ha := fnd_any (isM id) ms 0
    by_cases h2 : 0 ≤ fnd (isM id) ms 0
    · rw [decide_eq_true h2] at ha
      rw [← ha, if_pos ⟨h, h2⟩]
      have hlt := fnd_lt (isM id) ms 0 h2
      refine Ev.step (fun k => by rw [impl_RoleOf.j0]) (ev_neg (by simp) ?_)
      unfold impl_Room_at.f
      exact Ev.bind (Ev.bind (implFindM ms id hl) (Ev.now _)) (ev_pos h2 (ev_pos (by omega) (Ev.now _)))
    · rw [decide_eq_false h2] at ha
      rw [← ha, if_neg fun z => h2 z.2]
      exact jt
  · rw [if_neg fun z => h z.1]
    exact ev_neg h jt
theorem fnd_get {α : Type} (p : α → Bool) : ∀ (l : List α) (i : Nat), 0 ≤ fnd p l i → ∃ j, ∃ h : j < l.length, fnd p l i = ((i + j : Nat) : Int) ∧ p l[j] = true
  | [], i, h => by simp [fnd] at h
  | x :: r, i, h => by
    unfold fnd at h ⊢
    by_cases hp : p x = true
    · rw [if_pos hp]; exact ⟨0, by simp, by simp, hp⟩
    · rw [if_neg hp] at h ⊢
      obtain ⟨j, hj, e, f⟩ := fnd_get p r (i + 1) h
      exact ⟨j + 1, by simpa using hj, by rw [e]; omega, by simpa using f⟩
/-- The tick until which the last of an id is quiet. -/
def scanQ (id : Int) : List TM → Int → Int
  | [], q => q
  | x :: r, q => scanQ id r (if x.f0 = id then x.f3 else q)
theorem scanQ_no (id : Int) : ∀ (l : List TM) (q : Int), (∀ x ∈ l, x.f0 ≠ id) → scanQ id l q = q
  | [], _, _ => rfl
  | x :: r, q, h => by
    unfold scanQ
    rw [if_neg (h x List.mem_cons_self)]
    exact scanQ_no id r q fun y hy => h y (List.mem_cons_of_mem _ hy)
theorem scanQ_at (id : Int) : ∀ (l : List TM) (q : Int) (j : Nat) (h : j < l.length), l.Pairwise (fun a b => ltM a b = true) → l[j].f0 = id → scanQ id l q = l[j].f3
  | [], _, j, h, _, _ => by simp at h
  | x :: r, q, 0, h, hp, e => by
    have hp2 := List.pairwise_cons.1 hp
    unfold scanQ
    rw [if_pos (by simpa using e)]
    refine scanQ_no id r x.f3 fun y hy => ?_
    have := hp2.1 y hy
    simp only [ltM, decide_eq_true_eq] at this
    have e2 : x.f0 = id := by simpa using e
    omega
  | x :: r, q, j + 1, h, hp, e => by
    unfold scanQ
    exact scanQ_at id r _ j (by simpa using h) (List.pairwise_cons.1 hp).2 (by simpa using e)
theorem FnAllowed : laws_FnAllowed.Pure := by
  intro l0 l1 _ _ h0 _ _ h1
  refine Ev.rounds ?_
  unfold laws_FnAllowed.f laws_r8Long.f
  by_cases hb : ((l0.length : Int) > 48) ∨ ((l1.length : Int) > 48)
  · refine ev_b (a := true) ?_ (ev_pos rfl (Ev.now _))
    by_cases c : (l0.length : Int) > 48
    · rw [if_pos c]
    · rw [if_neg c]; congr 1; simpa using by omega
  · refine ev_b (a := false) ?_ (ev_neg (by simp) ?_)
    · rw [if_neg (by omega)]; congr 1; simpa using by omega
    · obtain ⟨o, ms, is, bs, E, D, O⟩ := drawRoom (show U8s l0 from h0)
      have ok := drawn_ok D O
      have ld := D.ln
      obtain ⟨act, ea, a0, a1⟩ := r8At (show U8s l1 from h1) 0 9 (by omega)
      have a2 := a1 (by omega)
      obtain ⟨at', et, t0, t1⟩ := r8At (show U8s l1 from h1) 1 40 (by omega)
      have t2 := t1 (by omega)
      refine Ev.bind E (ev_b ea (ev_b et (Ev.bind (implValid o ms is bs (by omega) (by omega) (by omega)) (ev_pos ok ?_))))
      have m4 : mayV 4 act = false := by simp [mayV]
      have m9 : mayV 3 9 = false := by decide
      have m3 : mayV 3 act = true := by simp only [mayV, lim]; simp; omega
      refine Ev.bind (roleMay 4 act) ?_
      rw [m4]
      refine ev_neg (by simp) (Ev.bind (roleMay 3 9) ?_)
      rw [m9]
      refine ev_neg (by simp) (Ev.bind (roleMay 3 act) ?_)
      rw [m3]
      -- all members
      have who : ∀ (d : Nat) (id : Int), id + d = 8 → 1 ≤ id → Ev (fun k => laws_FnAllowed.l1 k act at' id o ms is bs) true := by
        intro d
        induction d with
        | zero =>
          intro id hd _
          refine Ev.step (fun k => by rw [laws_FnAllowed.l1]) ?_
          exact ev_neg (by omega) (Ev.now _)
        | succ d ih =>
          intro id hd h1
          have nx := ih (id + 1) (by omega) (by omega)
          have wi : wrap64 (id + 1) = id + 1 := w64 (by omega) (by omega)
          -- behind what IsAllowed answers
          have j5 : ∀ b : Bool, Ev (fun k => impl_IsAllowed.f k o ms is bs id act at') b → Ev (fun k => laws_FnAllowed.j5 k act at' id b o ms is bs) true := by
            intro b hb
            refine Ev.step (fun k => by rw [laws_FnAllowed.j5]) ?_
            refine Ev.bind hb (ev_neg (by simp) ?_)
            rw [wi]
            exact nx
          have allow : ∀ b : Bool, Ev (fun k => impl_Room_allowed.f k o ms is bs id act at') b → Ev (fun k => impl_IsAllowed.f k o ms is bs id act at') b := by
            intro b hb
            unfold impl_IsAllowed.f
            exact Ev.bind (implValid o ms is bs (by omega) (by omega) (by omega)) (ev_pos ok (Ev.bind hb (Ev.now _)))
          have scan : ∀ (ro : Int) (me : Bool), Ev (fun k => laws_FnAllowed.l2 k act at' id ro me (scanQ id ms 0) (ms.length : Int) o ms is bs) true → Ev (fun k => laws_FnAllowed.l2 k act at' id ro me 0 0 o ms is bs) true := by
            intro ro me hend
            have key := idx_ind ms (fun i => ∀ q, scanQ id (ms.drop i) q = scanQ id ms 0 → Ev (fun k => laws_FnAllowed.l2 k act at' id ro me q (i : Int) o ms is bs) true) ?_ ?_ 0 (Nat.zero_le _) 0 rfl
            · exact key
            · intro q hq
              have : q = scanQ id ms 0 := by rw [← hq]; simp [scanQ]
              subst this
              exact hend
            · intro i hi ih2 q hq
              rw [drop_at ms i hi, scanQ] at hq
              refine Ev.step (fun k => by rw [laws_FnAllowed.l2]) ?_
              rw [rdTM ms i hi, wsucc hi (by omega)]
              refine ev_pos (by omega) (ev_pos (by omega) ?_)
              by_cases c : ms[i].f0 = id
              · rw [if_pos c] at hq
                exact ev_pos c (ih2 _ hq)
              · rw [if_neg c] at hq
                exact ev_neg c (ih2 _ hq)
          refine Ev.step (fun k => by rw [laws_FnAllowed.l1]) ?_
          refine ev_pos (by omega) (Ev.bind (implRole o ms is bs id (by omega) (by omega) (by omega)) (scan _ _ ?_))
          refine Ev.step (fun k => by rw [laws_FnAllowed.l2]) (ev_neg (by omega) ?_)
          by_cases hf : 0 ≤ fnd (isM id) ms 0
          · have ra : roleAns ms is bs id = ((rd_T36 ms (fnd (isM id) ms 0)).f1, true) := by unfold roleAns; rw [if_pos ⟨ok, hf⟩]
            rw [ra]
            obtain ⟨j, hj, e, f⟩ := fnd_get (isM id) ms 0 hf
            rw [Nat.zero_add] at e
            have f' : ms[j].f0 = id := by simpa [isM] using f
            rw [scanQ_at id ms 0 j hj D.m2 f', e, rdTM ms j hj]
            have al : ∀ b : Bool, Ev (fun k => impl_Room_allowed.j0 k act at' (j : Int) false o ms is bs) b → Ev (fun k => impl_Room_allowed.f k o ms is bs id act at') b := by
              intro b hb
              unfold impl_Room_allowed.f impl_Room_at.f
              refine Ev.bind (Ev.bind (implFindM ms id (by omega)) (Ev.now _)) ?_
              rw [e]
              refine ev_neg (by omega) (ev_b (tickI _) ?_)
              rw [decide_eq_true (show 0 ≤ at' ∧ at' ≤ 1000000 by omega)]
              exact hb
            have al2 : ∀ b : Bool, Ev (fun k => if mayV ms[j].f1 act = true then (if ms[j].f3 ≤ at' then some true else some (act == 0)) else some false) b → Ev (fun k => impl_Room_allowed.j0 k act at' (j : Int) false o ms is bs) b := by
              intro b hb
              refine Ev.step (fun k => by rw [impl_Room_allowed.j0]) (ev_neg (by simp) (ev_pos (by omega) (ev_pos (by omega) ?_)))
              rw [rdTM ms j hj]
              exact Ev.bind (roleMay _ _) hb
            refine ev_pos rfl (Ev.bind (roleMay _ _) ?_)
            by_cases c1 : mayV ms[j].f1 act = true
            · refine ev_pos c1 ?_
              by_cases c2 : act = 0
              · refine ev_pos c2 (j5 true (allow _ (al _ (al2 _ (ev_pos c1 ?_)))))
                by_cases c3 : ms[j].f3 ≤ at'
                · exact ev_pos c3 (Ev.now _)
                · exact ev_neg c3 (ev_some (by simp [c2]))
              · refine ev_neg c2 (j5 _ (allow _ (al _ (al2 _ (ev_pos c1 ?_)))))
                by_cases c3 : ms[j].f3 ≤ at'
                · exact ev_pos c3 (ev_some (by simp [c3]))
                · exact ev_neg c3 (ev_some (by simp [c2, c3]))
            · exact ev_neg c1 (j5 false (allow _ (al _ (al2 _ (ev_neg c1 (Ev.now _))))))
          · have ra : roleAns ms is bs id = (0, false) := by unfold roleAns; rw [if_neg (fun z => hf z.2)]
            rw [ra]
            refine ev_neg (by simp) (j5 false (allow _ ?_))
            unfold impl_Room_allowed.f impl_Room_at.f
            refine Ev.bind (Ev.bind (implFindM ms id (by omega)) (Ev.now _)) (ev_pos (by omega) ?_)
            exact Ev.step (fun k => by rw [impl_Room_allowed.j0]) (ev_pos rfl (Ev.now _))
      -- all roles
      have roles : ∀ (d : Nat) (r : Int), r + d = 4 → 1 ≤ r → Ev (fun k => laws_FnAllowed.l0 k act at' r o ms is bs) true := by
        intro d
        induction d with
        | zero =>
          intro r hd _
          refine Ev.step (fun k => by rw [laws_FnAllowed.l0]) ?_
          exact ev_neg (by omega) (who 7 1 (by omega) (by omega))
        | succ d ih =>
          intro r hd h1
          have nx := ih (r + 1) (by omega) (by omega)
          have jf : Ev (fun k => laws_FnAllowed.j2 k act at' r false o ms is bs) true := by
            refine Ev.step (fun k => by rw [laws_FnAllowed.j2]) (ev_neg (by simp) ?_)
            rw [w64 (n := r + 1) (by omega) (by omega)]
            exact nx
          refine Ev.step (fun k => by rw [laws_FnAllowed.l0]) ?_
          rw [w64 (n := r - 1) (by omega) (by omega)]
          refine ev_pos (by omega) (Ev.bind (roleMay _ _) ?_)
          by_cases c : mayV (r - 1) act = true
          · refine ev_pos c (Ev.bind (roleMay _ _) ?_)
            have : mayV r act = true := by
              simp only [mayV, lim] at c ⊢
              rcases (by omega : r = 1 ∨ r = 2 ∨ r = 3) with e | e | e <;> subst e <;> simp at c ⊢ <;> omega
            rw [this]
            exact jf
          · exact ev_neg c jf
      refine Ev.step (fun k => by rw [laws_FnAllowed.j0]) (ev_neg (by simp) ?_)
      exact roles 3 1 (by omega) (by omega)

end Go.Proofs.Ytdanachjdfiegaa.Pure
