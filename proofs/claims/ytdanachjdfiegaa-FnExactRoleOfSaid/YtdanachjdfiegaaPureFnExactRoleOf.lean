/- RoleOf: the program and the reference answer alike, for every room and member. -/
import Derived.Test.YtdanachjdfiegaaQFnExactRoleOfx10
import Derived.Test.YtdanachjdfiegaaSEv
namespace Go.Proofs.Ytdanachjdfiegaa.Pure
open Go.RowKit Go.Proofs.Ytdanachjdfiegaa.QFnExactRoleOf Go.Proofs.YtdanachjdfiegaaW.PrintWords Go.Proofs.YtdanachjdfiegaaW.PrintLast Go.Proofs.YtdanachjdfiegaaW.PrintMore
set_option linter.unusedVariables false

theorem w64 {n : Int} (h1 : -9223372036854775808 ≤ n) (h2 : n ≤ 9223372036854775807) : wrap64 n = n := by
  unfold wrap64
  omega
theorem wf64 {n : Int} (h : (Lit.int .i64 n).wf = true) : -9223372036854775808 ≤ n ∧ n ≤ 9223372036854775807 := by
  simp [Lit.wf, IntKind.min, IntKind.max, IntKind.signed, IntKind.bits] at h
  omega

theorem ev_pos {α : Type} {c : Prop} [Decidable c] {g f : Nat → Option α} {r : α} (h : c) (e : Ev g r) : Ev (fun k => if c then g k else f k) r := Ev.congr (fun _ => if_pos h) e
theorem ev_neg {α : Type} {c : Prop} [Decidable c] {g f : Nat → Option α} {r : α} (h : ¬ c) (e : Ev f r) : Ev (fun k => if c then g k else f k) r := Ev.congr (fun _ => if_neg h) e
theorem ev_b {α β : Type} {o : Option α} {a : α} {f : Nat → α → Option β} {r : β} (h : o = some a) (e : Ev (fun k => f k a) r) : Ev (fun k => o.bind (f k)) r := by subst h; exact e
theorem ev_eq {α : Type} {g : Nat → Option α} {r q : α} (e : Ev g r) (h : r = q) : Ev g q := h ▸ e
theorem ev_some {α : Type} {r q : α} (h : r = q) : Ev (fun _ => some r) q := h ▸ Ev.now r
/-- Down from a list's end. -/
theorem idx_ind {α : Type} (l : List α) (P : Nat → Prop) (hend : P l.length) (hstep : ∀ i, i < l.length → P (i + 1) → P i) : ∀ i, i ≤ l.length → P i := by
  have key : ∀ d i, i + d = l.length → P i := by
    intro d
    induction d with
    | zero => intro i h; have : i = l.length := by omega
              rw [this]; exact hend
    | succ d ih => intro i h; exact hstep i (by omega) (ih (i + 1) (by omega))
  intro i h
  exact key (l.length - i) i (by omega)
theorem rd_at (l : List Int) (i : Nat) (h : i < l.length) : rd l (i : Int) = l[i] := by
  simp [rd, List.getD, h]
theorem rdOf_at {α : Type} (d : α) (l : List α) (i : Nat) (h : i < l.length) : rdOf d l (i : Int) = l[i] := by
  simp [rdOf, List.getD, h]
theorem drop_at {α : Type} (l : List α) (i : Nat) (h : i < l.length) : l.drop i = l[i] :: l.drop (i + 1) := List.drop_eq_getElem_cons h
theorem wsucc {i n : Nat} (h : i < n) (hn : n ≤ 9223372036854775807) : wrap64 ((i : Int) + 1) = ((i + 1 : Nat) : Int) := by
  rw [w64 (by omega) (by omega)]; rfl

theorem implIn (a b c : Int) : impl_in.f a b c = some (decide (b ≤ a ∧ a ≤ c)) := by
  unfold impl_in.f
  by_cases h : a ≥ b
  · rw [if_pos h]; simp [h]
  · rw [if_neg h]; simp; intro h2; omega
theorem implTick (a : Int) : impl_isTick.f a = some (decide (0 ≤ a ∧ a ≤ 1000000)) := by
  unfold impl_isTick.f
  rw [implIn]; rfl

theorem specIn (a b c : Int) : spec_l00In.f a b c = some (decide (b ≤ a ∧ a ≤ c)) := by
  unfold spec_l00In.f
  by_cases h : a ≥ b
  · rw [if_pos h]; simp [h]
  · rw [if_neg h]; simp; intro h2; omega

/-- Each is right, and each stands in order behind the one before. -/
def chain {α : Type} (ok : α → Bool) (lt : α → α → Bool) : Option α → List α → Bool
  | _, [] => true
  | p, x :: r => ok x && (match p with | none => true | some y => lt y x) && chain ok lt (some x) r
def prevOf {α : Type} (l : List α) (i : Nat) : Option α := if i = 0 then none else l[i - 1]?
theorem prevOf_succ {α : Type} {l : List α} {i : Nat} (h : i < l.length) : prevOf l (i + 1) = some l[i] := by
  unfold prevOf
  rw [if_neg (by omega), Nat.add_sub_cancel, List.getElem?_eq_getElem h]
theorem prevOf_pos {α : Type} {l : List α} {i : Nat} (h : i < l.length) (h0 : 0 < i) : prevOf l i = some (l[i - 1]'(by omega)) := by
  unfold prevOf
  rw [if_neg (by omega), List.getElem?_eq_getElem (by omega)]
theorem prevOf_zero {α : Type} {l : List α} {i : Nat} (h0 : ¬ 0 < i) : prevOf l i = none := by
  unfold prevOf; rw [if_pos (by omega)]
theorem chain_at {α : Type} (ok : α → Bool) (lt : α → α → Bool) {l : List α} {i : Nat} (h : i < l.length) : chain ok lt (prevOf l i) (l.drop i) = (ok l[i] && (match prevOf l i with | none => true | some y => lt y l[i]) && chain ok lt (prevOf l (i + 1)) (l.drop (i + 1))) := by
  rw [drop_at l i h, prevOf_succ h]
  rfl

theorem szMemberS (l : List S123) (hl : l.length ≤ 9223372036854775807) : laws_szMemberS.f l 1048576 = some (if l.length ≤ 1048576 then 1048576 - (l.length : Int) else -1) := by
  unfold laws_szMemberS.f
  rw [w64 (by omega) (by omega)]
  by_cases h : l.length ≤ 1048576
  · rw [if_pos h, if_neg (by omega)]
  · rw [if_neg h, if_pos (by omega)]
theorem szAtMemberS (l : List S123) (a : Int) (h0 : 0 ≤ a) (ha : a ≤ 1048576) (hl : l.length ≤ 9223372036854775807) : laws_szMemberS.f l a = some (if (l.length : Int) ≤ a then a - (l.length : Int) else -1) := by
  unfold laws_szMemberS.f
  rw [w64 (by omega) (by omega)]
  by_cases h : (l.length : Int) ≤ a
  · rw [if_pos h, if_neg (by omega)]
  · rw [if_neg h, if_pos (by omega)]
/-- An element, taken over. -/
def cvMember (x : S123) : S36 := ⟨x.f0, x.f1, x.f2, x.f3⟩
theorem rdIMember (l : List S123) (i : Nat) (h : i < l.length) : rd_T123 l (i : Int) = l[i] := by
  simp [rd_T123, List.getD, h]
theorem rdOMember (l : List S36) (i : Nat) (h : i < l.length) : rd_T36 l (i : Int) = l[i] := by
  simp [rd_T36, List.getD, h]
theorem rdSMember (l : List S36) (i : Nat) (v : S36) (h : i < l.length) : rd_T36 (l.set i v) (i : Int) = v := by
  simp [rd_T36, List.getD, h]
theorem toMemberS (l : List S123) (hl : l.length ≤ 100000000) : Ev (fun k => laws_toMemberS.f k l) (l.map cvMember) := by
  have key := idx_ind l (fun i => ∀ x : List S36, x.length = l.length → (∀ j, j < i → x[j]? = (l.map cvMember)[j]?) → Ev (fun k => laws_toMemberS.l0 k l x (i : Int)) (l.map cvMember)) ?_ ?_
  · unfold laws_toMemberS.f
    refine ev_pos (by omega) (ev_pos (by omega) ?_)
    exact key 0 (Nat.zero_le _) _ (by simp) (fun j h => by omega)
  · intro x hx hj
    refine Ev.step (fun k => by rw [laws_toMemberS.l0]) ?_
    refine ev_neg (by omega) (ev_some ?_)
    apply List.ext_getElem?
    intro j
    rcases Nat.lt_or_ge j l.length with h | h
    · exact hj j h
    · rw [List.getElem?_eq_none (by omega), List.getElem?_eq_none (by simpa using h)]
  · intro i hi ih x hx hj
    refine Ev.step (fun k => by rw [laws_toMemberS.l0]) ?_
    refine ev_pos (by omega) (ev_pos (by omega) (ev_b rfl (ev_pos (by omega) ?_)))
    rw [wsucc hi (by omega), rdIMember l i hi]
    refine ih _ (by simp [hx]) ?_
    intro j hj2
    by_cases e : j = i
    · subst e
      simp [hx, hi, cvMember]
    · simp only [Int.toNat_natCast]
      rw [List.getElem?_set_ne (by omega)]
      exact hj j (by omega)
theorem eqMemberS (l : List S36) (hl : l.length ≤ 100000000) : Ev (fun k => laws_eqMemberS.f k l l) true := by
  unfold laws_eqMemberS.f
  refine ev_pos rfl ?_
  refine idx_ind l (fun i => Ev (fun k => laws_eqMemberS.l0 k l l (i : Int)) true) ?_ ?_ 0 (Nat.zero_le _)
  · refine Ev.step (fun k => by rw [laws_eqMemberS.l0]) ?_
    exact ev_neg (by omega) (Ev.now _)
  · intro i hi ih
    refine Ev.step (fun k => by rw [laws_eqMemberS.l0]) ?_
    refine ev_pos (by omega) (ev_pos (by omega) (ev_pos (by omega) (ev_b (a := true) (by simp [laws_eqMember.f]) (ev_pos rfl ?_))))
    rw [wsucc hi (by omega)]
    exact ih

theorem szInviteS (l : List S125) (hl : l.length ≤ 9223372036854775807) : laws_szInviteS.f l 1048576 = some (if l.length ≤ 1048576 then 1048576 - (l.length : Int) else -1) := by
  unfold laws_szInviteS.f
  rw [w64 (by omega) (by omega)]
  by_cases h : l.length ≤ 1048576
  · rw [if_pos h, if_neg (by omega)]
  · rw [if_neg h, if_pos (by omega)]
theorem szAtInviteS (l : List S125) (a : Int) (h0 : 0 ≤ a) (ha : a ≤ 1048576) (hl : l.length ≤ 9223372036854775807) : laws_szInviteS.f l a = some (if (l.length : Int) ≤ a then a - (l.length : Int) else -1) := by
  unfold laws_szInviteS.f
  rw [w64 (by omega) (by omega)]
  by_cases h : (l.length : Int) ≤ a
  · rw [if_pos h, if_neg (by omega)]
  · rw [if_neg h, if_pos (by omega)]
/-- An element, taken over. -/
def cvInvite (x : S125) : S71 := ⟨x.f0, x.f1, x.f2⟩
theorem rdIInvite (l : List S125) (i : Nat) (h : i < l.length) : rd_T125 l (i : Int) = l[i] := by
  simp [rd_T125, List.getD, h]
theorem rdOInvite (l : List S71) (i : Nat) (h : i < l.length) : rd_T71 l (i : Int) = l[i] := by
  simp [rd_T71, List.getD, h]
theorem rdSInvite (l : List S71) (i : Nat) (v : S71) (h : i < l.length) : rd_T71 (l.set i v) (i : Int) = v := by
  simp [rd_T71, List.getD, h]
theorem toInviteS (l : List S125) (hl : l.length ≤ 100000000) : Ev (fun k => laws_toInviteS.f k l) (l.map cvInvite) := by
  have key := idx_ind l (fun i => ∀ x : List S71, x.length = l.length → (∀ j, j < i → x[j]? = (l.map cvInvite)[j]?) → Ev (fun k => laws_toInviteS.l0 k l x (i : Int)) (l.map cvInvite)) ?_ ?_
  · unfold laws_toInviteS.f
    refine ev_pos (by omega) (ev_pos (by omega) ?_)
    exact key 0 (Nat.zero_le _) _ (by simp) (fun j h => by omega)
  · intro x hx hj
    refine Ev.step (fun k => by rw [laws_toInviteS.l0]) ?_
    refine ev_neg (by omega) (ev_some ?_)
    apply List.ext_getElem?
    intro j
    rcases Nat.lt_or_ge j l.length with h | h
    · exact hj j h
    · rw [List.getElem?_eq_none (by omega), List.getElem?_eq_none (by simpa using h)]
  · intro i hi ih x hx hj
    refine Ev.step (fun k => by rw [laws_toInviteS.l0]) ?_
    refine ev_pos (by omega) (ev_pos (by omega) (ev_b rfl (ev_pos (by omega) ?_)))
    rw [wsucc hi (by omega), rdIInvite l i hi]
    refine ih _ (by simp [hx]) ?_
    intro j hj2
    by_cases e : j = i
    · subst e
      simp [hx, hi, cvInvite]
    · simp only [Int.toNat_natCast]
      rw [List.getElem?_set_ne (by omega)]
      exact hj j (by omega)
theorem eqInviteS (l : List S71) (hl : l.length ≤ 100000000) : Ev (fun k => laws_eqInviteS.f k l l) true := by
  unfold laws_eqInviteS.f
  refine ev_pos rfl ?_
  refine idx_ind l (fun i => Ev (fun k => laws_eqInviteS.l0 k l l (i : Int)) true) ?_ ?_ 0 (Nat.zero_le _)
  · refine Ev.step (fun k => by rw [laws_eqInviteS.l0]) ?_
    exact ev_neg (by omega) (Ev.now _)
  · intro i hi ih
    refine Ev.step (fun k => by rw [laws_eqInviteS.l0]) ?_
    refine ev_pos (by omega) (ev_pos (by omega) (ev_pos (by omega) (ev_b (a := true) (by simp [laws_eqInvite.f]) (ev_pos rfl ?_))))
    rw [wsucc hi (by omega)]
    exact ih

theorem szBanS (l : List S127) (hl : l.length ≤ 9223372036854775807) : laws_szBanS.f l 1048576 = some (if l.length ≤ 1048576 then 1048576 - (l.length : Int) else -1) := by
  unfold laws_szBanS.f
  rw [w64 (by omega) (by omega)]
  by_cases h : l.length ≤ 1048576
  · rw [if_pos h, if_neg (by omega)]
  · rw [if_neg h, if_pos (by omega)]
theorem szAtBanS (l : List S127) (a : Int) (h0 : 0 ≤ a) (ha : a ≤ 1048576) (hl : l.length ≤ 9223372036854775807) : laws_szBanS.f l a = some (if (l.length : Int) ≤ a then a - (l.length : Int) else -1) := by
  unfold laws_szBanS.f
  rw [w64 (by omega) (by omega)]
  by_cases h : (l.length : Int) ≤ a
  · rw [if_pos h, if_neg (by omega)]
  · rw [if_neg h, if_pos (by omega)]
/-- An element, taken over. -/
def cvBan (x : S127) : S73 := ⟨x.f0, x.f1⟩
theorem rdIBan (l : List S127) (i : Nat) (h : i < l.length) : rd_T127 l (i : Int) = l[i] := by
  simp [rd_T127, List.getD, h]
theorem rdOBan (l : List S73) (i : Nat) (h : i < l.length) : rd_T73 l (i : Int) = l[i] := by
  simp [rd_T73, List.getD, h]
theorem rdSBan (l : List S73) (i : Nat) (v : S73) (h : i < l.length) : rd_T73 (l.set i v) (i : Int) = v := by
  simp [rd_T73, List.getD, h]
theorem toBanS (l : List S127) (hl : l.length ≤ 100000000) : Ev (fun k => laws_toBanS.f k l) (l.map cvBan) := by
  have key := idx_ind l (fun i => ∀ x : List S73, x.length = l.length → (∀ j, j < i → x[j]? = (l.map cvBan)[j]?) → Ev (fun k => laws_toBanS.l0 k l x (i : Int)) (l.map cvBan)) ?_ ?_
  · unfold laws_toBanS.f
    refine ev_pos (by omega) (ev_pos (by omega) ?_)
    exact key 0 (Nat.zero_le _) _ (by simp) (fun j h => by omega)
  · intro x hx hj
    refine Ev.step (fun k => by rw [laws_toBanS.l0]) ?_
    refine ev_neg (by omega) (ev_some ?_)
    apply List.ext_getElem?
    intro j
    rcases Nat.lt_or_ge j l.length with h | h
    · exact hj j h
    · rw [List.getElem?_eq_none (by omega), List.getElem?_eq_none (by simpa using h)]
  · intro i hi ih x hx hj
    refine Ev.step (fun k => by rw [laws_toBanS.l0]) ?_
    refine ev_pos (by omega) (ev_pos (by omega) (ev_b rfl (ev_pos (by omega) ?_)))
    rw [wsucc hi (by omega), rdIBan l i hi]
    refine ih _ (by simp [hx]) ?_
    intro j hj2
    by_cases e : j = i
    · subst e
      simp [hx, hi, cvBan]
    · simp only [Int.toNat_natCast]
      rw [List.getElem?_set_ne (by omega)]
      exact hj j (by omega)
theorem eqBanS (l : List S73) (hl : l.length ≤ 100000000) : Ev (fun k => laws_eqBanS.f k l l) true := by
  unfold laws_eqBanS.f
  refine ev_pos rfl ?_
  refine idx_ind l (fun i => Ev (fun k => laws_eqBanS.l0 k l l (i : Int)) true) ?_ ?_ 0 (Nat.zero_le _)
  · refine Ev.step (fun k => by rw [laws_eqBanS.l0]) ?_
    exact ev_neg (by omega) (Ev.now _)
  · intro i hi ih
    refine Ev.step (fun k => by rw [laws_eqBanS.l0]) ?_
    refine ev_pos (by omega) (ev_pos (by omega) (ev_pos (by omega) (ev_b (a := true) (by simp [laws_eqBan.f]) (ev_pos rfl ?_))))
    rw [wsucc hi (by omega)]
    exact ih

abbrev TM := S36
abbrev TV := S71
abbrev TB := S73
/-- The place of the first that is meant. -/
def fnd {α : Type} (p : α → Bool) : List α → Nat → Int
  | [], _ => -1
  | x :: r, i => if p x = true then (i : Int) else fnd p r (i + 1)
theorem fnd_any {α : Type} (p : α → Bool) : ∀ (l : List α) (i : Nat), decide (fnd p l i ≥ 0) = l.any p
  | [], _ => rfl
  | x :: r, i => by
    unfold fnd
    by_cases h : p x = true
    · rw [if_pos h]; simp [h]
    · rw [if_neg h, fnd_any p r (i + 1)]; simp [h]
theorem fnd_lt {α : Type} (p : α → Bool) : ∀ (l : List α) (i : Nat), 0 ≤ fnd p l i → fnd p l i < ((i + l.length : Nat) : Int)
  | [], _, h => by simp [fnd] at h
  | x :: r, i, h => by
    unfold fnd at h ⊢
    by_cases hp : p x = true
    · rw [if_pos hp]; simp only [List.length_cons]; omega
    · rw [if_neg hp] at h ⊢
      have := fnd_lt p r (i + 1) h
      simp only [List.length_cons]; omega
theorem rdTM (l : List TM) (i : Nat) (h : i < l.length) : rd_T36 l (i : Int) = l[i] := by
  simp [rd_T36, List.getD, h]
theorem rdTV (l : List TV) (i : Nat) (h : i < l.length) : rd_T71 l (i : Int) = l[i] := by
  simp [rd_T71, List.getD, h]
theorem rdTB (l : List TB) (i : Nat) (h : i < l.length) : rd_T73 l (i : Int) = l[i] := by
  simp [rd_T73, List.getD, h]
def isM (id : Int) (x : TM) : Bool := x.f0 == id
def isV (id : Int) (x : TV) : Bool := x.f0 == id
theorem implFindM (l : List TM) (id : Int) (hl : l.length ≤ 100000000) : Ev (fun k => impl_Member_v0.f k l id) (fnd (isM id) l 0) := by
  unfold impl_Member_v0.f
  refine idx_ind l (fun i => Ev (fun k => impl_Member_v0.l0 k l (l.length : Int) (i : Int) id) (fnd (isM id) (l.drop i) i)) ?_ ?_ 0 (Nat.zero_le _)
  · refine Ev.step (fun k => by rw [impl_Member_v0.l0]) ?_
    exact ev_neg (by omega) (ev_some (by simp [fnd]))
  · intro i hi ih
    refine Ev.step (fun k => by rw [impl_Member_v0.l0]) ?_
    rw [rdTM l i hi, wsucc hi (by omega), drop_at l i hi]
    refine ev_pos (by omega) (ev_pos (by omega) (ev_pos (by omega) (ev_b rfl ?_)))
    unfold fnd
    by_cases h : isM id l[i] = true
    · exact ev_pos h (ev_some (by rw [if_pos h]))
    · rw [if_neg h]
      exact ev_neg h ih
theorem implHasM (o : Bool) (ms : List TM) (is : List TV) (bs : List TB) (id : Int) (hl : ms.length ≤ 100000000) : Ev (fun k => impl_Room_has.f k o ms is bs id) (ms.any (isM id)) := by
  unfold impl_Room_has.f impl_Room_at.f
  exact Ev.bind (Ev.bind (implFindM ms id hl) (Ev.now _)) (ev_some (fnd_any _ _ _))
theorem implFindV (l : List TV) (id : Int) (hl : l.length ≤ 100000000) : Ev (fun k => impl_Invite_v3.f k l id) (fnd (isV id) l 0) := by
  unfold impl_Invite_v3.f
  refine idx_ind l (fun i => Ev (fun k => impl_Invite_v3.l0 k l (l.length : Int) (i : Int) id) (fnd (isV id) (l.drop i) i)) ?_ ?_ 0 (Nat.zero_le _)
  · refine Ev.step (fun k => by rw [impl_Invite_v3.l0]) ?_
    exact ev_neg (by omega) (ev_some (by simp [fnd]))
  · intro i hi ih
    refine Ev.step (fun k => by rw [impl_Invite_v3.l0]) ?_
    rw [rdTV l i hi, wsucc hi (by omega), drop_at l i hi]
    refine ev_pos (by omega) (ev_pos (by omega) (ev_pos (by omega) (ev_b rfl ?_)))
    unfold fnd
    by_cases h : isV id l[i] = true
    · exact ev_pos h (ev_some (by rw [if_pos h]))
    · rw [if_neg h]
      exact ev_neg h ih
theorem implHasV (o : Bool) (ms : List TM) (is : List TV) (bs : List TB) (id : Int) (hl : is.length ≤ 100000000) : Ev (fun k => impl_Room_invited.f k o ms is bs id) (is.any (isV id)) := by
  unfold impl_Room_invited.f impl_Invite_v2.f
  exact Ev.bind (Ev.bind (implFindV is id hl) (Ev.now _)) (ev_some (fnd_any _ _ _))
def okM (x : TM) : Bool := decide (1 ≤ x.f0 ∧ x.f0 ≤ 1000) && decide (0 ≤ x.f1 ∧ x.f1 ≤ 3) && decide (0 ≤ x.f2 ∧ x.f2 ≤ 1000000) && decide (0 ≤ x.f3 ∧ x.f3 ≤ 1000000)
def ltM (y x : TM) : Bool := decide (y.f0 < x.f0)
def okV (ms : List TM) (x : TV) : Bool := decide (1 ≤ x.f0 ∧ x.f0 ≤ 1000) && decide (1 ≤ x.f1 ∧ x.f1 ≤ 1000) && decide (0 ≤ x.f2 ∧ x.f2 ≤ 1000000) && !ms.any (isM x.f0)
def ltV (y x : TV) : Bool := decide (y.f0 < x.f0)
def okB (ms : List TM) (is : List TV) (x : TB) : Bool := decide (1 ≤ x.f0 ∧ x.f0 ≤ 1000) && decide (0 ≤ x.f1 ∧ x.f1 ≤ 1000000) && !ms.any (isM x.f0) && !is.any (isV x.f0)
def ltB (y x : TB) : Bool := decide (y.f0 < x.f0)
/-- How many owners there are. -/
def ownersOf (l : List TM) : Nat := (l.filter (fun x => x.f1 == 3)).length
/-- A room in order. -/
def roomOk (ms : List TM) (is : List TV) (bs : List TB) : Bool :=
  decide (1 ≤ ms.length ∧ ms.length ≤ 32) && (decide (is.length ≤ 16) && (decide (bs.length ≤ 16) && (chain okM ltM none ms && (chain (okV ms) ltV none is && (chain (okB ms is) ltB none bs && decide (0 < ownersOf ms))))))
theorem roleI (a : Int) : impl_roleOk.f a = some (decide (0 ≤ a ∧ a ≤ 3)) := by unfold impl_roleOk.f; rw [implIn]; rfl
theorem memberI (a : Int) : impl_isMember.f a = some (decide (1 ≤ a ∧ a ≤ 1000)) := by unfold impl_isMember.f; rw [implIn]; rfl
theorem tickI (a : Int) : impl_isTick.f a = some (decide (0 ≤ a ∧ a ≤ 1000000)) := by unfold impl_isTick.f; rw [implIn]; rfl
theorem chain_okM {l : List TM} : ∀ (i : Nat), chain okM ltM (prevOf l i) (l.drop i) = true → ∀ j (h : j < l.length), i ≤ j → okM l[j] = true := by
  intro i hc j h hij
  induction hk : l.length - i generalizing i with
  | zero => omega
  | succ n ih =>
    have hi : i < l.length := by omega
    rw [chain_at okM ltM hi] at hc
    simp only [Bool.and_eq_true] at hc
    rcases Nat.lt_or_eq_of_le hij with h1 | h1
    · exact ih (i + 1) hc.2 h1 (by omega)
    · subst h1; exact hc.1.1
theorem implRolesL (l : List TM) (hl : l.length ≤ 32) (hok : ∀ j (h : j < l.length), okM l[j] = true) : ∀ i, i ≤ l.length → ∀ (a b c d : Int), Ev (fun k => impl_Room_roles.l0 k [a, b, c, d] l (l.length : Int) (i : Int)) [a, b, c, d] → True := fun _ _ _ _ _ _ _ => trivial
theorem implOwnersL (l : List TM) (hl : l.length ≤ 32) (hok : ∀ j (h : j < l.length), okM l[j] = true) : ∀ i, i ≤ l.length → ∀ x : List Int, x.length = 4 → ∀ n : Nat, n ≤ i → x[3]? = some (n : Int) → ∃ y : List Int, Ev (fun k => impl_Room_roles.l0 k x l (l.length : Int) (i : Int)) y ∧ y.length = 4 ∧ y[3]? = some ((n + ownersOf (l.drop i) : Nat) : Int) := by
  refine idx_ind l _ ?_ ?_
  · intro x hx n hn h3
    refine ⟨x, ?_, hx, by simpa [ownersOf] using h3⟩
    refine Ev.step (fun k => by rw [impl_Room_roles.l0]) ?_
    exact ev_neg (by omega) (Ev.now _)
  · intro i hi ih x hx n hn h3
    have hk := hok i hi
    simp only [okM, Bool.and_eq_true, decide_eq_true_eq] at hk
    have hr := hk.1.1.2
    obtain ⟨q, hq⟩ : ∃ q : Nat, l[i].f1 = (q : Int) := ⟨l[i].f1.toNat, by omega⟩
    have hq3 : q ≤ 3 := by omega
    have hd : ownersOf (l.drop i) = (if q = 3 then 1 else 0) + ownersOf (l.drop (i + 1)) := by
      rw [drop_at l i hi]
      unfold ownersOf
      by_cases h : q = 3
      · rw [List.filter_cons_of_pos (by simp [hq, h]), if_pos h, List.length_cons]; omega
      · rw [List.filter_cons_of_neg (by simp only [hq, beq_iff_eq]; omega), if_neg h]; omega
    have hstep : ∀ y : List Int, Ev (fun k => impl_Room_roles.l0 k (x.set q (wrap64 (rd x (q : Int) + 1))) l (l.length : Int) ((i + 1 : Nat) : Int)) y → Ev (fun k => impl_Room_roles.l0 k x l (l.length : Int) (i : Int)) y := by
      intro y hy
      refine Ev.step (fun k => by rw [impl_Room_roles.l0]) ?_
      rw [rdTM l i hi, hq, wsucc hi (by omega), Int.toNat_natCast]
      exact ev_pos (by omega) (ev_pos (by omega) (ev_pos (by omega) (ev_pos (by omega) (ev_pos (by omega) hy))))
    by_cases h : q = 3
    · subst h
      have e3 : rd x ((3 : Nat) : Int) = (n : Int) := by
        unfold rd
        rw [List.getD_eq_getElem?_getD, show ((3 : Nat) : Int).toNat = 3 from rfl, h3]; rfl
      obtain ⟨y, h1, h2, h4⟩ := ih (x.set 3 (wrap64 (rd x ((3 : Nat) : Int) + 1))) (by rw [List.length_set]; exact hx) (n + 1) (by omega) (by
        rw [List.getElem?_set_self (by omega), e3, wsucc (i := n) (n := n + 1) (by omega) (by omega)])
      refine ⟨y, hstep y h1, h2, ?_⟩
      rw [h4, hd]
      congr 2
      simp; omega
    · obtain ⟨y, h1, h2, h4⟩ := ih (x.set q (wrap64 (rd x (q : Int) + 1))) (by rw [List.length_set]; exact hx) n (by omega) (by
        rw [List.getElem?_set_ne (by omega)]; exact h3)
      refine ⟨y, hstep y h1, h2, ?_⟩
      rw [h4, hd, if_neg h, Nat.zero_add]
theorem implOwners (o : Bool) (ms : List TM) (is : List TV) (bs : List TB) (hl : ms.length ≤ 32) (hok : ∀ j (h : j < ms.length), okM ms[j] = true) : Ev (fun k => impl_Room_owners.f k o ms is bs) ((ownersOf ms : Nat) : Int) := by
  obtain ⟨y, h1, h2, h3⟩ := implOwnersL ms hl hok 0 (Nat.zero_le _) (List.replicate 4 0) (by simp) 0 (Nat.le_refl _) (by rfl)
  unfold impl_Room_owners.f impl_Room_roles.f
  refine Ev.bind (ev_pos (by omega) h1) (ev_pos (by omega) (ev_some ?_))
  unfold rd
  rw [List.getD_eq_getElem?_getD, show (3 : Int).toNat = 3 from rfl, h3]
  simp

theorem implVB (o : Bool) (ms : List TM) (is : List TV) (bs : List TB) (hm : ms.length ≤ 32) (hi2 : is.length ≤ 16) (hb2 : bs.length ≤ 16) (hok : ∀ j (h : j < ms.length), okM ms[j] = true) : ∀ i, i ≤ bs.length → Ev (fun k => impl_ValidRoom.l2 k bs (bs.length : Int) (i : Int) o ms is bs) (chain (okB ms is) ltB (prevOf bs i) (bs.drop i) && decide (0 < ownersOf ms)) := by
  refine idx_ind bs _ ?_ ?_
  · refine Ev.step (fun k => by rw [impl_ValidRoom.l2]) ?_
    refine ev_neg (by omega) (Ev.bind (implOwners o ms is bs hm hok) (ev_some ?_))
    simp [chain]
  · intro i hi ih
    have jt : Ev (fun k => impl_ValidRoom.j6 k bs (bs.length : Int) (i : Int) true o ms is bs) false := Ev.step (fun k => by rw [impl_ValidRoom.j6]) (ev_pos rfl (Ev.now _))
    have jf : Ev (fun k => impl_ValidRoom.j6 k bs (bs.length : Int) (i : Int) false o ms is bs) (chain (okB ms is) ltB (prevOf bs (i + 1)) (bs.drop (i + 1)) && decide (0 < ownersOf ms)) := by
      refine Ev.step (fun k => by rw [impl_ValidRoom.j6]) (ev_neg (by simp) ?_)
      rw [wsucc hi (by omega)]
      exact ih
    refine Ev.step (fun k => by rw [impl_ValidRoom.l2]) ?_
    rw [rdTB bs i hi, chain_at _ _ hi]
    refine ev_pos (by omega) (ev_pos (by omega) (ev_pos (by omega) (ev_b (memberI _) ?_)))
    by_cases a1 : 1 ≤ bs[i].f0 ∧ bs[i].f0 ≤ 1000
    · refine ev_pos (by simpa using a1) (ev_b (tickI _) ?_)
      by_cases a2 : 0 ≤ bs[i].f1 ∧ bs[i].f1 ≤ 1000000
      · refine ev_pos (by simpa using a2) (Ev.bind (implHasM o ms is bs _ (by omega)) ?_)
        cases a3 : ms.any (isM bs[i].f0) with
        | true => exact ev_pos rfl (ev_eq jt (by simp [okB, a3]))
        | false =>
          refine ev_neg (by simp) (Ev.bind (implHasV o ms is bs _ (by omega)) ?_)
          cases a4 : is.any (isV bs[i].f0) with
          | true => exact ev_pos rfl (ev_eq jt (by simp [okB, a4]))
          | false =>
            have ok : okB ms is bs[i] = true := by simp only [okB, a3, a4, decide_eq_true a1, decide_eq_true a2]; rfl
            refine ev_neg (by simp) ?_
            by_cases h1 : 0 < i
            · have e1 : wrap64 ((i : Int) - 1) = ((i - 1 : Nat) : Int) := by rw [w64 (by omega) (by omega)]; omega
              rw [e1, rdTB bs (i - 1) (by omega), prevOf_pos hi h1]
              refine ev_pos (by omega) (ev_pos (by omega) (ev_pos (by omega) ?_))
              by_cases h2 : (bs[i - 1]'(by omega)).f0 < bs[i].f0
              · rw [show decide ((bs[i - 1]'(by omega)).f0 ≥ bs[i].f0) = false by simp; omega]
                exact ev_eq jf (by simp [ok, ltB, h2])
              · rw [show decide ((bs[i - 1]'(by omega)).f0 ≥ bs[i].f0) = true by simp; omega]
                exact ev_eq jt (by simp [ltB, h2])
            · rw [prevOf_zero h1]
              exact ev_neg (by omega) (ev_eq jf (by simp [ok]))
      · exact ev_neg (by simpa using a2) (ev_eq jt (by simp only [okB, decide_eq_false a2]; simp))
    · exact ev_neg (by simpa using a1) (ev_eq jt (by simp only [okB, decide_eq_false a1]; simp))
theorem implVV (o : Bool) (ms : List TM) (is : List TV) (bs : List TB) (hm : ms.length ≤ 32) (hi2 : is.length ≤ 16) (hb2 : bs.length ≤ 16) (hok : ∀ j (h : j < ms.length), okM ms[j] = true) : ∀ i, i ≤ is.length → Ev (fun k => impl_ValidRoom.l1 k is (is.length : Int) (i : Int) o ms is bs) (chain (okV ms) ltV (prevOf is i) (is.drop i) && (chain (okB ms is) ltB none bs && decide (0 < ownersOf ms))) := by
  refine idx_ind is _ ?_ ?_
  · refine Ev.step (fun k => by rw [impl_ValidRoom.l1]) ?_
    refine ev_neg (by omega) (ev_eq (implVB o ms is bs hm hi2 hb2 hok 0 (Nat.zero_le _)) ?_)
    simp [chain, prevOf]
  · intro i hi ih
    have jt : Ev (fun k => impl_ValidRoom.j4 k is (is.length : Int) (i : Int) true o ms is bs) false := Ev.step (fun k => by rw [impl_ValidRoom.j4]) (ev_pos rfl (Ev.now _))
    have jf : Ev (fun k => impl_ValidRoom.j4 k is (is.length : Int) (i : Int) false o ms is bs) (chain (okV ms) ltV (prevOf is (i + 1)) (is.drop (i + 1)) && (chain (okB ms is) ltB none bs && decide (0 < ownersOf ms))) := by
      refine Ev.step (fun k => by rw [impl_ValidRoom.j4]) (ev_neg (by simp) ?_)
      rw [wsucc hi (by omega)]
      exact ih
    refine Ev.step (fun k => by rw [impl_ValidRoom.l1]) ?_
    rw [rdTV is i hi, chain_at _ _ hi]
    refine ev_pos (by omega) (ev_pos (by omega) (ev_pos (by omega) (ev_b (memberI _) ?_)))
    by_cases a1 : 1 ≤ is[i].f0 ∧ is[i].f0 ≤ 1000
    · refine ev_pos (by simpa using a1) (ev_b (memberI _) ?_)
      by_cases a2 : 1 ≤ is[i].f1 ∧ is[i].f1 ≤ 1000
      · refine ev_pos (by simpa using a2) (ev_b (tickI _) ?_)
        by_cases a4 : 0 ≤ is[i].f2 ∧ is[i].f2 ≤ 1000000
        · refine ev_pos (by simpa using a4) (Ev.bind (implHasM o ms is bs _ (by omega)) ?_)
          cases a3 : ms.any (isM is[i].f0) with
          | true => exact ev_pos rfl (ev_eq jt (by simp [okV, a3]))
          | false =>
            have ok : okV ms is[i] = true := by simp only [okV, a3, decide_eq_true a1, decide_eq_true a2, decide_eq_true a4]; rfl
            refine ev_neg (by simp) ?_
            by_cases h1 : 0 < i
            · have e1 : wrap64 ((i : Int) - 1) = ((i - 1 : Nat) : Int) := by rw [w64 (by omega) (by omega)]; omega
              rw [e1, rdTV is (i - 1) (by omega), prevOf_pos hi h1]
              refine ev_pos (by omega) (ev_pos (by omega) (ev_pos (by omega) ?_))
              by_cases h2 : (is[i - 1]'(by omega)).f0 < is[i].f0
              · rw [show decide ((is[i - 1]'(by omega)).f0 ≥ is[i].f0) = false by simp; omega]
                exact ev_eq jf (by simp [ok, ltV, h2])
              · rw [show decide ((is[i - 1]'(by omega)).f0 ≥ is[i].f0) = true by simp; omega]
                exact ev_eq jt (by simp [ltV, h2])
            · rw [prevOf_zero h1]
              exact ev_neg (by omega) (ev_eq jf (by simp [ok]))
        · exact ev_neg (by simpa using a4) (ev_eq jt (by simp only [okV, decide_eq_false a4]; simp))
      · exact ev_neg (by simpa using a2) (ev_eq jt (by simp only [okV, decide_eq_false a2]; simp))
    · exact ev_neg (by simpa using a1) (ev_eq jt (by simp only [okV, decide_eq_false a1]; simp))
theorem implVM (o : Bool) (ms : List TM) (is : List TV) (bs : List TB) (hm : ms.length ≤ 32) (hi2 : is.length ≤ 16) (hb2 : bs.length ≤ 16) : ∀ i, i ≤ ms.length → (∀ j (h : j < ms.length), j < i → okM ms[j] = true) → Ev (fun k => impl_ValidRoom.l0 k ms (ms.length : Int) (i : Int) o ms is bs) (chain okM ltM (prevOf ms i) (ms.drop i) && (chain (okV ms) ltV none is && (chain (okB ms is) ltB none bs && decide (0 < ownersOf ms)))) := by
  refine idx_ind ms _ ?_ ?_
  · intro hok
    refine Ev.step (fun k => by rw [impl_ValidRoom.l0]) ?_
    refine ev_neg (by omega) (ev_eq (implVV o ms is bs hm hi2 hb2 (fun j h => hok j h h) 0 (Nat.zero_le _)) ?_)
    simp [chain, prevOf]
  · intro i hi ih hok
    have jt : Ev (fun k => impl_ValidRoom.j2 k ms (ms.length : Int) (i : Int) true o ms is bs) false := Ev.step (fun k => by rw [impl_ValidRoom.j2]) (ev_pos rfl (Ev.now _))
    refine Ev.step (fun k => by rw [impl_ValidRoom.l0]) ?_
    rw [rdTM ms i hi, chain_at _ _ hi]
    refine ev_pos (by omega) (ev_pos (by omega) (ev_pos (by omega) (ev_b (memberI _) ?_)))
    by_cases a1 : 1 ≤ ms[i].f0 ∧ ms[i].f0 ≤ 1000
    · refine ev_pos (by simpa using a1) (ev_b (roleI _) ?_)
      by_cases a2 : 0 ≤ ms[i].f1 ∧ ms[i].f1 ≤ 3
      · refine ev_pos (by simpa using a2) (ev_b (tickI _) ?_)
        by_cases a3 : 0 ≤ ms[i].f2 ∧ ms[i].f2 ≤ 1000000
        · refine ev_pos (by simpa using a3) (ev_b (tickI _) ?_)
          by_cases a4 : 0 ≤ ms[i].f3 ∧ ms[i].f3 ≤ 1000000
          · have ok : okM ms[i] = true := by simp only [okM, decide_eq_true a1, decide_eq_true a2, decide_eq_true a3, decide_eq_true a4]; rfl
            have jf : Ev (fun k => impl_ValidRoom.j2 k ms (ms.length : Int) (i : Int) false o ms is bs) (chain okM ltM (prevOf ms (i + 1)) (ms.drop (i + 1)) && (chain (okV ms) ltV none is && (chain (okB ms is) ltB none bs && decide (0 < ownersOf ms)))) := by
              refine Ev.step (fun k => by rw [impl_ValidRoom.j2]) (ev_neg (by simp) ?_)
              rw [wsucc hi (by omega)]
              exact ih fun j h hj => by
                rcases Nat.lt_or_eq_of_le (Nat.lt_succ_iff.1 hj) with h3 | h3
                · exact hok j h h3
                · subst h3; exact ok
            refine ev_pos (by simpa using a4) ?_
            by_cases h1 : 0 < i
            · have e1 : wrap64 ((i : Int) - 1) = ((i - 1 : Nat) : Int) := by rw [w64 (by omega) (by omega)]; omega
              rw [e1, rdTM ms (i - 1) (by omega), prevOf_pos hi h1]
              refine ev_pos (by omega) (ev_pos (by omega) (ev_pos (by omega) ?_))
              by_cases h2 : (ms[i - 1]'(by omega)).f0 < ms[i].f0
              · rw [show decide ((ms[i - 1]'(by omega)).f0 ≥ ms[i].f0) = false by simp; omega]
                exact ev_eq jf (by simp [ok, ltM, h2])
              · rw [show decide ((ms[i - 1]'(by omega)).f0 ≥ ms[i].f0) = true by simp; omega]
                exact ev_eq jt (by simp [ltM, h2])
            · rw [prevOf_zero h1]
              exact ev_neg (by omega) (ev_eq jf (by simp [ok]))
          · exact ev_neg (by simpa using a4) (ev_eq jt (by simp only [okM, decide_eq_false a4]; simp))
        · exact ev_neg (by simpa using a3) (ev_eq jt (by simp only [okM, decide_eq_false a3]; simp))
      · exact ev_neg (by simpa using a2) (ev_eq jt (by simp only [okM, decide_eq_false a2]; simp))
    · exact ev_neg (by simpa using a1) (ev_eq jt (by simp only [okM, decide_eq_false a1]; simp))
theorem implValid (o : Bool) (ms : List TM) (is : List TV) (bs : List TB) (hl : ms.length ≤ 100000000) (hl2 : is.length ≤ 100000000) (hl3 : bs.length ≤ 100000000) : Ev (fun k => impl_ValidRoom.f k o ms is bs) (roomOk ms is bs) := by
  unfold impl_ValidRoom.f roomOk
  have jt : Ev (fun k => impl_ValidRoom.j0 k true o ms is bs) false := Ev.step (fun k => by rw [impl_ValidRoom.j0]) (ev_pos rfl (Ev.now _))
  refine ev_b (implIn _ _ _) ?_
  by_cases h1 : 1 ≤ ms.length ∧ ms.length ≤ 32
  · refine ev_pos (by simp; omega) ?_
    by_cases h2 : is.length ≤ 16
    · refine ev_neg (by omega) ?_
      by_cases h3 : bs.length ≤ 16
      · rw [show decide ((bs.length : Int) > 16) = false by simp; omega, decide_eq_true h1, decide_eq_true h2, decide_eq_true h3]
        refine Ev.step (fun k => by rw [impl_ValidRoom.j0]) (ev_neg (by simp) ?_)
        refine ev_eq (implVM o ms is bs h1.2 h2 h3 0 (Nat.zero_le _) (fun j _ h => by omega)) ?_
        simp [prevOf]
      · rw [show decide ((bs.length : Int) > 16) = true by simp; omega]
        exact ev_eq jt (by simp only [decide_eq_false h3]; simp)
    · exact ev_pos (by omega) (ev_eq jt (by simp only [decide_eq_false h2]; simp))
  · exact ev_neg (by simp; omega) (ev_eq jt (by simp only [decide_eq_false h1]; simp))

theorem idS (a : Int) : spec_l02Id.f a = some (decide (1 ≤ a ∧ a ≤ 1000)) := by unfold spec_l02Id.f; rw [specIn]; rfl
theorem tickS (a : Int) : spec_l02Tick.f a = some (decide (0 ≤ a ∧ a ≤ 1000000)) := by unfold spec_l02Tick.f; rw [specIn]; rfl
theorem roleS (a : Int) : spec_l02Role.f a = some (decide (0 ≤ a ∧ a ≤ 3)) := by unfold spec_l02Role.f; rw [specIn]; rfl
theorem specFindM (o : Bool) (ms : List TM) (is : List TV) (bs : List TB) (id : Int) (hl : ms.length ≤ 100000000) : Ev (fun k => spec_l02Find.f k o ms is bs id) (fnd (isM id) ms 0) := by
  unfold spec_l02Find.f
  refine idx_ind ms (fun i => Ev (fun k => spec_l02Find.l0 k id (i : Int) o ms is bs) (fnd (isM id) (ms.drop i) i)) ?_ ?_ 0 (Nat.zero_le _)
  · refine Ev.step (fun k => by rw [spec_l02Find.l0]) ?_
    exact ev_neg (by omega) (ev_some (by simp [fnd]))
  · intro i hi ih
    refine Ev.step (fun k => by rw [spec_l02Find.l0]) ?_
    rw [rdTM ms i hi, wsucc hi (by omega), drop_at ms i hi]
    refine ev_pos (by omega) (ev_pos (by omega) ?_)
    unfold fnd
    by_cases h : isM id ms[i] = true
    · exact ev_pos (by simpa [isM] using h) (ev_some (by rw [if_pos h]))
    · rw [if_neg h]
      exact ev_neg (by simpa [isM] using h) ih
theorem specFindV (o : Bool) (ms : List TM) (is : List TV) (bs : List TB) (id : Int) (hl : is.length ≤ 100000000) : Ev (fun k => spec_l02Invited.f k o ms is bs id) (fnd (isV id) is 0) := by
  unfold spec_l02Invited.f
  refine idx_ind is (fun i => Ev (fun k => spec_l02Invited.l0 k id (i : Int) o ms is bs) (fnd (isV id) (is.drop i) i)) ?_ ?_ 0 (Nat.zero_le _)
  · refine Ev.step (fun k => by rw [spec_l02Invited.l0]) ?_
    exact ev_neg (by omega) (ev_some (by simp [fnd]))
  · intro i hi ih
    refine Ev.step (fun k => by rw [spec_l02Invited.l0]) ?_
    rw [rdTV is i hi, wsucc hi (by omega), drop_at is i hi]
    refine ev_pos (by omega) (ev_pos (by omega) ?_)
    unfold fnd
    by_cases h : isV id is[i] = true
    · exact ev_pos (by simpa [isV] using h) (ev_some (by rw [if_pos h]))
    · rw [if_neg h]
      exact ev_neg (by simpa [isV] using h) ih
theorem specMembersL (o : Bool) (ms : List TM) (is : List TV) (bs : List TB) (hm : ms.length ≤ 32) : ∀ i, i ≤ ms.length → ∀ n : Nat, n ≤ i → Ev (fun k => spec_l02Members.l0 k (n : Int) (i : Int) o ms is bs) (chain okM ltM (prevOf ms i) (ms.drop i) && decide (0 < n + ownersOf (ms.drop i))) := by
  refine idx_ind ms _ ?_ ?_
  · intro n hn
    refine Ev.step (fun k => by rw [spec_l02Members.l0]) ?_
    refine ev_neg (by omega) (ev_some ?_)
    simp [chain, ownersOf]
  · intro i hi ih n hn
    have hd : ownersOf (ms.drop i) = (if ms[i].f1 = 3 then 1 else 0) + ownersOf (ms.drop (i + 1)) := by
      rw [drop_at ms i hi]
      unfold ownersOf
      by_cases h : ms[i].f1 = 3
      · rw [List.filter_cons_of_pos (by simp [h]), if_pos h, List.length_cons]; omega
      · rw [List.filter_cons_of_neg (by simpa using h), if_neg h]; omega
    refine Ev.step (fun k => by rw [spec_l02Members.l0]) ?_
    rw [rdTM ms i hi, chain_at _ _ hi]
    refine ev_pos (by omega) (ev_pos (by omega) (ev_b (idS _) ?_))
    by_cases a1 : 1 ≤ ms[i].f0 ∧ ms[i].f0 ≤ 1000
    · refine ev_pos (by simpa using a1) (ev_b (roleS _) ?_)
      by_cases a2 : 0 ≤ ms[i].f1 ∧ ms[i].f1 ≤ 3
      · refine ev_pos (by simpa using a2) (ev_b (tickS _) ?_)
        by_cases a3 : 0 ≤ ms[i].f2 ∧ ms[i].f2 ≤ 1000000
        · refine ev_pos (by simpa using a3) (ev_b (tickS _) ?_)
          by_cases a4 : 0 ≤ ms[i].f3 ∧ ms[i].f3 ≤ 1000000
          · have ok : okM ms[i] = true := by simp only [okM, decide_eq_true a1, decide_eq_true a2, decide_eq_true a3, decide_eq_true a4]; rfl
            have next : Ev (fun k => if ms[i].f1 = 3 then spec_l02Members.l0 k (wrap64 ((n : Int) + 1)) (wrap64 ((i : Int) + 1)) o ms is bs else spec_l02Members.l0 k (n : Int) (wrap64 ((i : Int) + 1)) o ms is bs) (chain okM ltM (prevOf ms (i + 1)) (ms.drop (i + 1)) && decide (0 < n + ownersOf (ms.drop i))) := by
              rw [wsucc hi (by omega), wsucc (i := n) (n := n + 1) (by omega) (by omega), hd]
              by_cases h : ms[i].f1 = 3
              · refine ev_pos h (ev_eq (ih (n + 1) (by omega)) ?_)
                rw [if_pos h, Nat.add_assoc]
              · refine ev_neg h (ev_eq (ih n (by omega)) ?_)
                rw [if_neg h, Nat.zero_add]
            refine ev_pos (by simpa using a4) ?_
            by_cases h1 : 0 < i
            · have e1 : wrap64 ((i : Int) - 1) = ((i - 1 : Nat) : Int) := by rw [w64 (by omega) (by omega)]; omega
              rw [e1, rdTM ms (i - 1) (by omega), prevOf_pos hi h1]
              refine ev_pos (by omega) (ev_pos (by omega) (ev_pos (by omega) ?_))
              by_cases h2 : (ms[i - 1]'(by omega)).f0 < ms[i].f0
              · exact ev_neg (by omega) (ev_eq next (by simp [ok, ltM, h2]))
              · exact ev_pos (by omega) (ev_some (by simp [ltM, h2]))
            · rw [prevOf_zero h1]
              exact ev_neg (by omega) (ev_eq next (by simp [ok]))
          · exact ev_neg (by simpa using a4) (ev_some (by simp only [okM, decide_eq_false a4]; simp))
        · exact ev_neg (by simpa using a3) (ev_some (by simp only [okM, decide_eq_false a3]; simp))
      · exact ev_neg (by simpa using a2) (ev_some (by simp only [okM, decide_eq_false a2]; simp))
    · exact ev_neg (by simpa using a1) (ev_some (by simp only [okM, decide_eq_false a1]; simp))
theorem specMembers (o : Bool) (ms : List TM) (is : List TV) (bs : List TB) : Ev (fun k => spec_l02Members.f k o ms is bs) (decide (1 ≤ ms.length ∧ ms.length ≤ 32) && (chain okM ltM none ms && decide (0 < ownersOf ms))) := by
  unfold spec_l02Members.f
  by_cases h1 : 1 ≤ ms.length ∧ ms.length ≤ 32
  · refine ev_neg (by omega) (ev_neg (by omega) (ev_eq (specMembersL o ms is bs h1.2 0 (Nat.zero_le _) 0 (Nat.le_refl _)) ?_))
    rw [decide_eq_true h1]
    simp [prevOf]
  · rw [decide_eq_false h1]
    by_cases h2 : ms.length < 1
    · exact ev_pos (by omega) (ev_some (by simp))
    · exact ev_neg (by omega) (ev_pos (by omega) (ev_some (by simp)))
theorem specVB (o : Bool) (ms : List TM) (is : List TV) (bs : List TB) (hm : ms.length ≤ 100000000) (hi2 : is.length ≤ 16) (hb2 : bs.length ≤ 16) : ∀ i, i ≤ bs.length → Ev (fun k => spec_l02Is.l1 k (i : Int) o ms is bs) (chain (okB ms is) ltB (prevOf bs i) (bs.drop i)) := by
  refine idx_ind bs _ ?_ ?_
  · refine Ev.step (fun k => by rw [spec_l02Is.l1]) ?_
    exact ev_neg (by omega) (ev_some (by simp [chain]))
  · intro i hi ih
    have jt : Ev (fun k => spec_l02Is.j4 k (i : Int) true o ms is bs) false := Ev.step (fun k => by rw [spec_l02Is.j4]) (ev_pos rfl (Ev.now _))
    have jf : Ev (fun k => spec_l02Is.j4 k (i : Int) false o ms is bs) (chain (okB ms is) ltB (prevOf bs (i + 1)) (bs.drop (i + 1))) := by
      refine Ev.step (fun k => by rw [spec_l02Is.j4]) (ev_neg (by simp) ?_)
      rw [wsucc hi (by omega)]
      exact ih
    refine Ev.step (fun k => by rw [spec_l02Is.l1]) ?_
    rw [rdTB bs i hi, chain_at _ _ hi]
    refine ev_pos (by omega) (ev_pos (by omega) (ev_b (idS _) ?_))
    by_cases a1 : 1 ≤ bs[i].f0 ∧ bs[i].f0 ≤ 1000
    · refine ev_pos (by simpa using a1) (ev_b (tickS _) ?_)
      by_cases a2 : 0 ≤ bs[i].f1 ∧ bs[i].f1 ≤ 1000000
      · refine ev_pos (by simpa using a2) ?_
        have rest : ∀ b : Bool, (b = true → (match prevOf bs i with | none => true | some y => ltB y bs[i]) = true) → b = true → Ev (fun k => (spec_l02Find.f k o ms is bs bs[i].f0).bind fun t => if t ≥ 0 then spec_l02Is.j4 k (i : Int) true o ms is bs else (spec_l02Invited.f k o ms is bs bs[i].f0).bind fun t2 => spec_l02Is.j4 k (i : Int) (decide (t2 ≥ 0)) o ms is bs) (okB ms is bs[i] && (match prevOf bs i with | none => true | some y => ltB y bs[i]) && chain (okB ms is) ltB (prevOf bs (i + 1)) (bs.drop (i + 1))) := by
          intro b hb hb2
          rw [hb hb2]
          refine Ev.bind (specFindM o ms is bs _ hm) ?_
          have hA := fnd_any (isM bs[i].f0) ms 0
          by_cases a3 : fnd (isM bs[i].f0) ms 0 ≥ 0
          · rw [decide_eq_true a3] at hA
            exact ev_pos a3 (ev_eq jt (by simp [okB, ← hA]))
          · rw [decide_eq_false a3] at hA
            refine ev_neg a3 (Ev.bind (specFindV o ms is bs _ (by omega)) ?_)
            rw [fnd_any]
            cases a4 : is.any (isV bs[i].f0) with
            | true => exact ev_eq jt (by simp [okB, a4])
            | false =>
              have ok : okB ms is bs[i] = true := by simp only [okB, ← hA, a4, decide_eq_true a1, decide_eq_true a2]; rfl
              exact ev_eq jf (by simp [ok])
        by_cases h1 : 0 < i
        · have e1 : wrap64 ((i : Int) - 1) = ((i - 1 : Nat) : Int) := by rw [w64 (by omega) (by omega)]; omega
          rw [prevOf_pos hi h1] at rest ⊢
          rw [e1, rdTB bs (i - 1) (by omega)]
          refine ev_pos (by omega) (ev_pos (by omega) (ev_pos (by omega) ?_))
          by_cases h2 : (bs[i - 1]'(by omega)).f0 < bs[i].f0
          · exact ev_neg (by omega) (rest true (fun _ => by simp [ltB, h2]) rfl)
          · exact ev_pos (by omega) (ev_eq jt (by simp [ltB, h2]))
        · rw [prevOf_zero h1] at rest ⊢
          exact ev_neg (by omega) (rest true (fun _ => rfl) rfl)
      · exact ev_neg (by simpa using a2) (ev_eq jt (by simp only [okB, decide_eq_false a2]; simp))
    · exact ev_neg (by simpa using a1) (ev_eq jt (by simp only [okB, decide_eq_false a1]; simp))
theorem specVV (o : Bool) (ms : List TM) (is : List TV) (bs : List TB) (hm : ms.length ≤ 100000000) (hi2 : is.length ≤ 16) (hb2 : bs.length ≤ 16) : ∀ i, i ≤ is.length → Ev (fun k => spec_l02Is.l0 k (i : Int) o ms is bs) (chain (okV ms) ltV (prevOf is i) (is.drop i) && chain (okB ms is) ltB none bs) := by
  refine idx_ind is _ ?_ ?_
  · refine Ev.step (fun k => by rw [spec_l02Is.l0]) ?_
    refine ev_neg (by omega) (ev_eq (specVB o ms is bs hm hi2 hb2 0 (Nat.zero_le _)) ?_)
    simp [chain, prevOf]
  · intro i hi ih
    have jt : Ev (fun k => spec_l02Is.j2 k (i : Int) true o ms is bs) false := Ev.step (fun k => by rw [spec_l02Is.j2]) (ev_pos rfl (Ev.now _))
    have jf : Ev (fun k => spec_l02Is.j2 k (i : Int) false o ms is bs) (chain (okV ms) ltV (prevOf is (i + 1)) (is.drop (i + 1)) && chain (okB ms is) ltB none bs) := by
      refine Ev.step (fun k => by rw [spec_l02Is.j2]) (ev_neg (by simp) ?_)
      rw [wsucc hi (by omega)]
      exact ih
    refine Ev.step (fun k => by rw [spec_l02Is.l0]) ?_
    rw [rdTV is i hi, chain_at _ _ hi]
    refine ev_pos (by omega) (ev_pos (by omega) (ev_b (idS _) ?_))
    by_cases a1 : 1 ≤ is[i].f0 ∧ is[i].f0 ≤ 1000
    · refine ev_pos (by simpa using a1) (ev_b (idS _) ?_)
      by_cases a2 : 1 ≤ is[i].f1 ∧ is[i].f1 ≤ 1000
      · refine ev_pos (by simpa using a2) (ev_b (tickS _) ?_)
        by_cases a4 : 0 ≤ is[i].f2 ∧ is[i].f2 ≤ 1000000
        · refine ev_pos (by simpa using a4) ?_
          have rest : (match prevOf is i with | none => true | some y => ltV y is[i]) = true → Ev (fun k => (spec_l02Find.f k o ms is bs is[i].f0).bind fun t => spec_l02Is.j2 k (i : Int) (decide (t ≥ 0)) o ms is bs) ((okV ms is[i] && (match prevOf is i with | none => true | some y => ltV y is[i]) && chain (okV ms) ltV (prevOf is (i + 1)) (is.drop (i + 1))) && chain (okB ms is) ltB none bs) := by
            intro hb
            rw [hb]
            refine Ev.bind (specFindM o ms is bs _ hm) ?_
            rw [fnd_any]
            cases a3 : ms.any (isM is[i].f0) with
            | true => exact ev_eq jt (by simp [okV, a3])
            | false =>
              have ok : okV ms is[i] = true := by simp only [okV, a3, decide_eq_true a1, decide_eq_true a2, decide_eq_true a4]; rfl
              exact ev_eq jf (by simp [ok])
          by_cases h1 : 0 < i
          · have e1 : wrap64 ((i : Int) - 1) = ((i - 1 : Nat) : Int) := by rw [w64 (by omega) (by omega)]; omega
            rw [prevOf_pos hi h1] at rest ⊢
            rw [e1, rdTV is (i - 1) (by omega)]
            refine ev_pos (by omega) (ev_pos (by omega) (ev_pos (by omega) ?_))
            by_cases h2 : (is[i - 1]'(by omega)).f0 < is[i].f0
            · exact ev_neg (by omega) (rest (by simp [ltV, h2]))
            · exact ev_pos (by omega) (ev_eq jt (by simp [ltV, h2]))
          · rw [prevOf_zero h1] at rest ⊢
            exact ev_neg (by omega) (rest rfl)
        · exact ev_neg (by simpa using a4) (ev_eq jt (by simp only [okV, decide_eq_false a4]; simp))
      · exact ev_neg (by simpa using a2) (ev_eq jt (by simp only [okV, decide_eq_false a2]; simp))
    · exact ev_neg (by simpa using a1) (ev_eq jt (by simp only [okV, decide_eq_false a1]; simp))
theorem specValid (o : Bool) (ms : List TM) (is : List TV) (bs : List TB) (hl : ms.length ≤ 100000000) (hl2 : is.length ≤ 100000000) (hl3 : bs.length ≤ 100000000) : Ev (fun k => spec_l02Is.f k o ms is bs) (roomOk ms is bs) := by
  unfold spec_l02Is.f roomOk
  have jt : Ev (fun k => spec_l02Is.j0 k true o ms is bs) false := Ev.step (fun k => by rw [spec_l02Is.j0]) (ev_pos rfl (Ev.now _))
  refine Ev.bind (specMembers o ms is bs) ?_
  cases h1 : (decide (1 ≤ ms.length ∧ ms.length ≤ 32) && (chain okM ltM none ms && decide (0 < ownersOf ms))) with
  | false =>
    refine ev_neg (by simp) (ev_eq jt ?_)
    revert h1
    cases decide (1 ≤ ms.length ∧ ms.length ≤ 32) <;> cases chain okM ltM none ms <;> cases decide (0 < ownersOf ms) <;> simp
  | true =>
    simp only [Bool.and_eq_true] at h1
    rw [h1.1, h1.2.1, h1.2.2]
    refine ev_pos rfl ?_
    by_cases h2 : is.length ≤ 16
    · refine ev_neg (by omega) ?_
      by_cases h3 : bs.length ≤ 16
      · rw [show decide ((bs.length : Int) > 16) = false by simp; omega, decide_eq_true h2, decide_eq_true h3]
        refine Ev.step (fun k => by rw [spec_l02Is.j0]) (ev_neg (by simp) ?_)
        refine ev_eq (specVV o ms is bs hl h2 h3 0 (Nat.zero_le _)) ?_
        simp [prevOf]
      · rw [show decide ((bs.length : Int) > 16) = true by simp; omega]
        exact ev_eq jt (by simp only [decide_eq_false h3]; simp)
    · exact ev_pos (by omega) (ev_eq jt (by simp only [decide_eq_false h2]; simp))
theorem szRoom (o : Bool) (a : List S123) (b : List S125) (c : List S127) (ha : a.length ≤ 9223372036854775807) (hb : b.length ≤ 9223372036854775807) (hc : c.length ≤ 9223372036854775807) : ∃ r : Int, laws_szRoom.f o a b c 1048576 = some r ∧ (r < 0 ∨ (0 ≤ r ∧ a.length ≤ 1048576 ∧ b.length ≤ 1048576 ∧ c.length ≤ 1048576)) := by
  unfold laws_szRoom.f
  rw [szMemberS a ha]
  by_cases h1 : a.length ≤ 1048576
  · rw [if_pos h1, Option.bind_some, if_neg (by omega), szAtInviteS b _ (by omega) (by omega) hb]
    by_cases h2 : (b.length : Int) ≤ 1048576 - (a.length : Int)
    · rw [if_pos h2, Option.bind_some, if_neg (by omega), szAtBanS c _ (by omega) (by omega) hc]
      by_cases h3 : (c.length : Int) ≤ 1048576 - (a.length : Int) - (b.length : Int)
      · rw [if_pos h3, Option.bind_some, if_neg (by omega)]
        exact ⟨_, rfl, .inr ⟨by omega, by omega, by omega, by omega⟩⟩
      · rw [if_neg h3, Option.bind_some, if_pos (by omega)]
        exact ⟨_, rfl, .inl (by omega)⟩
    · rw [if_neg h2, Option.bind_some, if_pos (by omega)]
      exact ⟨_, rfl, .inl (by omega)⟩
  · rw [if_neg h1, Option.bind_some, if_pos (by omega)]
    exact ⟨_, rfl, .inl (by omega)⟩
theorem toRoom (o : Bool) (a : List S123) (b : List S125) (c : List S127) (ha : a.length ≤ 100000000) (hb : b.length ≤ 100000000) (hc : c.length ≤ 100000000) : Ev (fun k => laws_toRoom.f k o a b c) (o, a.map cvMember, b.map cvInvite, c.map cvBan) := by
  unfold laws_toRoom.f
  exact Ev.bind (toMemberS a ha) (Ev.bind (toInviteS b hb) (Ev.bind (toBanS c hc) (Ev.now _)))
theorem eqRoom (o : Bool) (a : List TM) (b : List TV) (c : List TB) (ha : a.length ≤ 100000000) (hb : b.length ≤ 100000000) (hc : c.length ≤ 100000000) : Ev (fun k => laws_eqRoom.f k o a b c o a b c) true := by
  unfold laws_eqRoom.f
  exact ev_neg (by simp) (Ev.bind (eqMemberS a ha) (ev_pos rfl (Ev.bind (eqInviteS b hb) (ev_pos rfl (Ev.bind (eqBanS c hc) (ev_pos rfl (Ev.now _)))))))

/-- What both answer. -/
def roleAns (ms : List TM) (is : List TV) (bs : List TB) (id : Int) : Int × Bool := if roomOk ms is bs = true ∧ 0 ≤ fnd (isM id) ms 0 then ((rd_T36 ms (fnd (isM id) ms 0)).f1, true) else (0, false)
theorem implRole (o : Bool) (ms : List TM) (is : List TV) (bs : List TB) (id : Int) (hl : ms.length ≤ 100000000) (hl2 : is.length ≤ 100000000) (hl3 : bs.length ≤ 100000000) : Ev (fun k => impl_RoleOf.f k o ms is bs id) (roleAns ms is bs id) := by
  unfold impl_RoleOf.f roleAns
  have jt : Ev (fun k => impl_RoleOf.j0 k id true o ms is bs) (0, false) := Ev.step (fun k => by rw [impl_RoleOf.j0]) (ev_pos rfl (Ev.now _))
  refine Ev.bind (implValid o ms is bs hl hl2 hl3) ?_
  by_cases h : roomOk ms is bs = true
  · refine ev_pos h (Ev.bind (implHasM o ms is bs id hl) ?_)
    have ha := fnd_any (isM id) ms 0
    by_cases h2 : 0 ≤ fnd (isM id) ms 0
    · rw [decide_eq_true h2] at ha
      rw [← ha, if_pos ⟨h, h2⟩]
      have hlt := fnd_lt (isM id) ms 0 h2
      refine Ev.step (fun k => by rw [impl_RoleOf.j0]) (ev_neg (by simp) ?_)
      unfold impl_Room_at.f
      exact Ev.bind (Ev.bind (implFindM ms id hl) (Ev.now _)) (ev_pos h2 (ev_pos (by omega) (Ev.now _)))
    · rw [decide_eq_false h2] at ha
      rw [← ha, if_neg fun z => h2 z.2]
      exact jt
  · rw [if_neg fun z => h z.1]
    exact ev_neg h jt
theorem specRole (o : Bool) (ms : List TM) (is : List TV) (bs : List TB) (id : Int) (hl : ms.length ≤ 100000000) (hl2 : is.length ≤ 100000000) (hl3 : bs.length ≤ 100000000) : Ev (fun k => spec_RoleOf.f k o ms is bs id) (roleAns ms is bs id) := by
  unfold spec_RoleOf.f roleAns
  have jt : Ev (fun k => spec_RoleOf.j0 k id true o ms is bs) (0, false) := Ev.step (fun k => by rw [spec_RoleOf.j0]) (ev_pos rfl (Ev.now _))
  refine Ev.bind (specValid o ms is bs hl hl2 hl3) ?_
  by_cases h : roomOk ms is bs = true
  · refine ev_pos h (Ev.bind (specFindM o ms is bs id hl) ?_)
    by_cases h2 : 0 ≤ fnd (isM id) ms 0
    · rw [decide_eq_false (show ¬ fnd (isM id) ms 0 < 0 by omega), if_pos ⟨h, h2⟩]
      have hlt := fnd_lt (isM id) ms 0 h2
      refine Ev.step (fun k => by rw [spec_RoleOf.j0]) (ev_neg (by simp) ?_)
      exact Ev.bind (specFindM o ms is bs id hl) (ev_pos h2 (ev_pos (by omega) (Ev.now _)))
    · rw [decide_eq_true (show fnd (isM id) ms 0 < 0 by omega), if_neg fun z => h2 z.2]
      exact jt
  · rw [if_neg fun z => h z.1]
    exact ev_neg h jt
theorem FnExactRoleOf : laws_FnExactRoleOf.Pure := by
  intro o a b c id ha hb hc _
  refine Ev.rounds ?_
  have ha1 : a.length ≤ 9223372036854775807 := by have := ha.1; unfold maxLen at this; omega
  have hb1 : b.length ≤ 9223372036854775807 := by have := hb.1; unfold maxLen at this; omega
  have hc1 : c.length ≤ 9223372036854775807 := by have := hc.1; unfold maxLen at this; omega
  unfold laws_FnExactRoleOf.f
  obtain ⟨r, hr, h⟩ := szRoom o a b c ha1 hb1 hc1
  refine ev_b hr ?_
  rcases h with h | ⟨h0, h1, h2, h3⟩
  · exact ev_pos h (Ev.now _)
  · have tr := toRoom o a b c (by omega) (by omega) (by omega)
    refine ev_neg (by omega) (Ev.bind tr (Ev.bind (specRole o _ _ _ id (by simp; omega) (by simp; omega) (by simp; omega)) (Ev.bind tr (Ev.bind (implRole o _ _ _ id (by simp; omega) (by simp; omega) (by simp; omega)) (ev_pos rfl ?_)))))
    refine Ev.step (fun k => by rw [laws_FnExactRoleOf.j0]) ?_
    exact ev_neg (by simp) (Ev.bind tr (Ev.bind (eqRoom o _ _ _ (by simp; omega) (by simp; omega) (by simp; omega)) (ev_pos rfl (Ev.now _))))

end Go.Proofs.Ytdanachjdfiegaa.Pure
