/- NewRoom: the program and the reference answer alike, twice, for every owner, tick and openness. -/
import Derived.Test.YtdanachjdfiegaaQFnExactNewRoomx7
import Derived.Test.YtdanachjdfiegaaSEv
namespace Go.Proofs.Ytdanachjdfiegaa.Pure
open Go.RowKit Go.Proofs.Ytdanachjdfiegaa.QFnExactNewRoom Go.Proofs.YtdanachjdfiegaaW.PrintWords Go.Proofs.YtdanachjdfiegaaW.PrintLast Go.Proofs.YtdanachjdfiegaaW.PrintMore
set_option linter.unusedVariables false

theorem w64 {n : Int} (h1 : -9223372036854775808 ≤ n) (h2 : n ≤ 9223372036854775807) : wrap64 n = n := by
  unfold wrap64
  omega
theorem wf64 {n : Int} (h : (Lit.int .i64 n).wf = true) : -9223372036854775808 ≤ n ∧ n ≤ 9223372036854775807 := by
  simp [Lit.wf, IntKind.min, IntKind.max, IntKind.signed, IntKind.bits] at h
  omega

theorem ev_pos {α : Type} {c : Prop} [Decidable c] {g f : Nat → Option α} {r : α} (h : c) (e : Ev g r) : Ev (fun k => if c then g k else f k) r := Ev.congr (fun _ => if_pos h) e
theorem ev_neg {α : Type} {c : Prop} [Decidable c] {g f : Nat → Option α} {r : α} (h : ¬ c) (e : Ev f r) : Ev (fun k => if c then g k else f k) r := Ev.congr (fun _ => if_neg h) e
theorem ev_b {α β : Type} {o : Option α} {a : α} {f : Nat → α → Option β} {r : β} (h : o = some a) (e : Ev (fun k => f k a) r) : Ev (fun k => o.bind (f k)) r := by subst h; exact e
theorem ev_eq {α : Type} {g : Nat → Option α} {r q : α} (e : Ev g r) (h : r = q) : Ev g q := h ▸ e
theorem ev_some {α : Type} {r q : α} (h : r = q) : Ev (fun _ => some r) q := h ▸ Ev.now r
/-- Down from a list's end. -/
theorem idx_ind {α : Type} (l : List α) (P : Nat → Prop) (hend : P l.length) (hstep : ∀ i, i < l.length → P (i + 1) → P i) : ∀ i, i ≤ l.length → P i := by
  have key : ∀ d i, i + d = l.length → P i := by
    intro d
    induction d with
    | zero => intro i h; have : i = l.length := by omega
              rw [this]; exact hend
    | succ d ih => intro i h; exact hstep i (by omega) (ih (i + 1) (by omega))
  intro i h
  exact key (l.length - i) i (by omega)
theorem rd_at (l : List Int) (i : Nat) (h : i < l.length) : rd l (i : Int) = l[i] := by
  simp [rd, List.getD, h]
theorem rdOf_at {α : Type} (d : α) (l : List α) (i : Nat) (h : i < l.length) : rdOf d l (i : Int) = l[i] := by
  simp [rdOf, List.getD, h]
theorem drop_at {α : Type} (l : List α) (i : Nat) (h : i < l.length) : l.drop i = l[i] :: l.drop (i + 1) := List.drop_eq_getElem_cons h
theorem wsucc {i n : Nat} (h : i < n) (hn : n ≤ 9223372036854775807) : wrap64 ((i : Int) + 1) = ((i + 1 : Nat) : Int) := by
  rw [w64 (by omega) (by omega)]; rfl

theorem implIn (a b c : Int) : impl_in.f a b c = some (decide (b ≤ a ∧ a ≤ c)) := by
  unfold impl_in.f
  by_cases h : a ≥ b
  · rw [if_pos h]; simp [h]
  · rw [if_neg h]; simp; intro h2; omega
theorem implTick (a : Int) : impl_isTick.f a = some (decide (0 ≤ a ∧ a ≤ 1000000)) := by
  unfold impl_isTick.f
  rw [implIn]; rfl

theorem specIn (a b c : Int) : spec_l00In.f a b c = some (decide (b ≤ a ∧ a ≤ c)) := by
  unfold spec_l00In.f
  by_cases h : a ≥ b
  · rw [if_pos h]; simp [h]
  · rw [if_neg h]; simp; intro h2; omega

theorem rdMem (l : List S36) (i : Nat) (h : i < l.length) : rd_T36 l (i : Int) = l[i] := by
  simp [rd_T36, List.getD, h]
theorem rdInv (l : List S71) (i : Nat) (h : i < l.length) : rd_T71 l (i : Int) = l[i] := by
  simp [rd_T71, List.getD, h]
theorem rdBan (l : List S73) (i : Nat) (h : i < l.length) : rd_T73 l (i : Int) = l[i] := by
  simp [rd_T73, List.getD, h]
theorem eqMems (l : List S36) (hl : l.length ≤ 100000000) : Ev (fun k => laws_eqMemberS.f k l l) true := by
  unfold laws_eqMemberS.f
  refine ev_pos rfl ?_
  refine idx_ind l (fun i => Ev (fun k => laws_eqMemberS.l0 k l l (i : Int)) true) ?_ ?_ 0 (Nat.zero_le _)
  · refine Ev.step (fun k => by rw [laws_eqMemberS.l0]) ?_
    exact ev_neg (by omega) (Ev.now _)
  · intro i hi ih
    refine Ev.step (fun k => by rw [laws_eqMemberS.l0]) ?_
    refine ev_pos (by omega) (ev_pos (by omega) (ev_pos (by omega) (ev_b (a := true) (by simp [laws_eqMember.f]) (ev_pos rfl ?_))))
    rw [wsucc hi (by omega)]
    exact ih
theorem eqInvs (l : List S71) (hl : l.length ≤ 100000000) : Ev (fun k => laws_eqInviteS.f k l l) true := by
  unfold laws_eqInviteS.f
  refine ev_pos rfl ?_
  refine idx_ind l (fun i => Ev (fun k => laws_eqInviteS.l0 k l l (i : Int)) true) ?_ ?_ 0 (Nat.zero_le _)
  · refine Ev.step (fun k => by rw [laws_eqInviteS.l0]) ?_
    exact ev_neg (by omega) (Ev.now _)
  · intro i hi ih
    refine Ev.step (fun k => by rw [laws_eqInviteS.l0]) ?_
    refine ev_pos (by omega) (ev_pos (by omega) (ev_pos (by omega) (ev_b (a := true) (by simp [laws_eqInvite.f]) (ev_pos rfl ?_))))
    rw [wsucc hi (by omega)]
    exact ih
theorem eqBans (l : List S73) (hl : l.length ≤ 100000000) : Ev (fun k => laws_eqBanS.f k l l) true := by
  unfold laws_eqBanS.f
  refine ev_pos rfl ?_
  refine idx_ind l (fun i => Ev (fun k => laws_eqBanS.l0 k l l (i : Int)) true) ?_ ?_ 0 (Nat.zero_le _)
  · refine Ev.step (fun k => by rw [laws_eqBanS.l0]) ?_
    exact ev_neg (by omega) (Ev.now _)
  · intro i hi ih
    refine Ev.step (fun k => by rw [laws_eqBanS.l0]) ?_
    refine ev_pos (by omega) (ev_pos (by omega) (ev_pos (by omega) (ev_b (a := true) (by simp [laws_eqBan.f]) (ev_pos rfl ?_))))
    rw [wsucc hi (by omega)]
    exact ih
theorem eqRooms (b : Bool) (l : List S36) (m : List S71) (n : List S73) (hl : l.length ≤ 100000000) (hm : m.length ≤ 100000000) (hn : n.length ≤ 100000000) : Ev (fun k => laws_eqRoom.f k b l m n b l m n) true := by
  unfold laws_eqRoom.f
  exact ev_neg (by simp) (Ev.bind (eqMems l hl) (ev_pos rfl (Ev.bind (eqInvs m hm) (ev_pos rfl (Ev.bind (eqBans n hn) (ev_pos rfl (Ev.now _)))))))

set_option linter.unusedSimpArgs false
def one (a b : Int) : S36 := ⟨a, 3, b, 0⟩
theorem role3 : impl_roleOk.f 3 = some true := by unfold impl_roleOk.f; rw [implIn]; rfl
theorem member1 (a : Int) : impl_isMember.f a = some (decide (1 ≤ a ∧ a ≤ 1000)) := by unfold impl_isMember.f; rw [implIn]; rfl
theorem w1 : wrap64 ((0 : Int) + 1) = 1 := by rw [w64 (by omega) (by omega)]; rfl
theorem ownersOne (o : Bool) (a b : Int) : Ev (fun k => impl_Room_owners.f k o [one a b] [] []) 1 := by
  unfold impl_Room_owners.f
  refine Ev.bind (a := [0, 0, 0, 1]) ?_ (ev_pos (by simp) (ev_some rfl))
  exact Ev.of (fun k => impl_Room_roles.mono _ _ _ _ k) (k := 4) (by simp [impl_Room_roles.f, impl_Room_roles.l0, one, rd_T36, rd, wrap64, List.replicate])
theorem validOne (o : Bool) (a b : Int) : Ev (fun k => impl_ValidRoom.f k o [one a b] [] []) (decide (1 ≤ a ∧ a ≤ 1000) && decide (0 ≤ b ∧ b ≤ 1000000)) := by
  unfold impl_ValidRoom.f
  refine ev_b (implIn _ _ _) (ev_pos (by simp) (ev_neg (by simp) ?_))
  show Ev (fun k => impl_ValidRoom.j0 k false o [one a b] [] []) _
  refine Ev.step (fun k => by rw [impl_ValidRoom.j0]) ?_
  refine ev_neg (by simp) ?_
  have no : Ev (fun k => impl_ValidRoom.j2 k [one a b] 1 0 true o [one a b] [] []) false := by
    refine Ev.step (fun k => by rw [impl_ValidRoom.j2]) ?_
    exact ev_pos rfl (Ev.now _)
  have yes : Ev (fun k => impl_ValidRoom.j2 k [one a b] 1 0 false o [one a b] [] []) true := by
    refine Ev.step (fun k => by rw [impl_ValidRoom.j2]) ?_
    rw [w1]
    refine ev_neg (by simp) (Ev.step (fun k => by rw [impl_ValidRoom.l0]) ?_)
    refine ev_neg (by simp) (Ev.step (fun k => by rw [impl_ValidRoom.l1]) ?_)
    refine ev_neg (by simp) (Ev.step (fun k => by rw [impl_ValidRoom.l2]) ?_)
    exact ev_neg (by simp) (Ev.bind (ownersOne o a b) (ev_some rfl))
  refine Ev.step (fun k => by rw [impl_ValidRoom.l0]) ?_
  refine ev_pos (by simp) (ev_pos (by simp) (ev_pos (by simp) ?_))
  refine ev_b (member1 a) ?_
  by_cases ha : 1 ≤ a ∧ a ≤ 1000
  · refine ev_pos (by simpa using ha) (ev_b role3 (ev_pos rfl (ev_b (implTick b) ?_)))
    by_cases hb : 0 ≤ b ∧ b ≤ 1000000
    · refine ev_pos (by simpa using hb) (ev_b (implTick 0) (ev_pos (by simp) (ev_neg (by simp) (ev_eq yes ?_))))
      simp [ha, hb]
    · refine ev_neg (by simpa using hb) (ev_eq no ?_)
      rw [decide_eq_false hb, Bool.and_false]
  · refine ev_neg (by simpa using ha) (ev_eq no ?_)
    rw [decide_eq_false ha, Bool.false_and]
def newAns (a b : Int) (o : Bool) : Bool × List S36 × List S71 × List S73 × Bool :=
  if (decide (1 ≤ a ∧ a ≤ 1000) && decide (0 ≤ b ∧ b ≤ 1000000)) = true then (o, [one a b], [], [], true) else (false, [], [], [], false)
theorem implNew (a b : Int) (o : Bool) : Ev (fun k => impl_NewRoom.f k a b o) (newAns a b o) := by
  unfold impl_NewRoom.f newAns
  refine ev_b rfl (Ev.bind (validOne o a b) ?_)
  by_cases c : (decide (1 ≤ a ∧ a ≤ 1000) && decide (0 ≤ b ∧ b ≤ 1000000)) = true
  · refine ev_pos c (ev_some ?_)
    rw [if_pos c]; rfl
  · refine ev_neg c (ev_some ?_)
    rw [if_neg c]
theorem specNew (a b : Int) (o : Bool) : Ev (fun k => spec_NewRoom.f k a b o) (newAns a b o) := by
  have id1 : spec_l02Id.f a = some (decide (1 ≤ a ∧ a ≤ 1000)) := by unfold spec_l02Id.f; rw [specIn]; rfl
  have tk1 : spec_l02Tick.f b = some (decide (0 ≤ b ∧ b ≤ 1000000)) := by unfold spec_l02Tick.f; rw [specIn]; rfl
  have no : Ev (fun k => spec_NewRoom.j0 k a b o true) (false, [], [], [], false) := by
    refine Ev.step (fun k => by rw [spec_NewRoom.j0]) ?_
    exact ev_pos rfl (Ev.now _)
  have yes : Ev (fun k => spec_NewRoom.j0 k a b o false) (o, [one a b], [], [], true) := by
    refine Ev.step (fun k => by rw [spec_NewRoom.j0]) ?_
    exact ev_neg (by simp) (Ev.now _)
  unfold spec_NewRoom.f newAns
  refine ev_b id1 ?_
  by_cases ha : 1 ≤ a ∧ a ≤ 1000
  · refine ev_pos (by simpa using ha) (ev_b tk1 ?_)
    by_cases hb : 0 ≤ b ∧ b ≤ 1000000
    · rw [if_pos (by simp [ha, hb]), decide_eq_true hb]
      exact yes
    · rw [if_neg (by simp [hb]), decide_eq_false hb]
      exact no
  · refine ev_neg (by simpa using ha) ?_
    rw [if_neg (by simp [ha])]
    exact no
theorem lawRest (a b : Int) (o : Bool) (p : Bool) (l m' : List S36) (q : Bool) (n : Int) (h : newAns a b o = (p, l, [], [], q)) (hl : l.length ≤ 1)
    (hm : Ev (fun k => laws_markRoom.f k p l [] [] 1) (n, m', [], [])) (hh : Ev (fun k => laws_heldRoom.f k p m' [] [] 1) n) (hn : ¬ n < 0) :
    Ev (fun k => laws_FnExactNewRoom.j0 k a b o q false p l [] [] p l [] []) true := by
  refine Ev.step (fun k => by rw [laws_FnExactNewRoom.j0]) ?_
  refine ev_neg (by simp) (Ev.bind hm (Ev.bind hh (ev_neg hn (ev_pos rfl (Ev.bind (implNew a b o) ?_)))))
  rw [h]
  refine Ev.bind (eqRooms p l [] [] (by omega) (by simp) (by simp)) (ev_pos rfl ?_)
  refine Ev.step (fun k => by rw [laws_FnExactNewRoom.j1]) ?_
  exact ev_neg (by simp) (Ev.bind hh (ev_neg hn (ev_pos rfl (Ev.now _))))
theorem FnExactNewRoom : laws_FnExactNewRoom.Pure := by
  intro a b o _ _
  refine Ev.rounds ?_
  unfold laws_FnExactNewRoom.f
  refine Ev.bind (specNew a b o) (Ev.bind (implNew a b o) ?_)
  by_cases c : (decide (1 ≤ a ∧ a ≤ 1000) && decide (0 ≤ b ∧ b ≤ 1000000)) = true
  · have h : newAns a b o = (o, [one a b], [], [], true) := by unfold newAns; rw [if_pos c]
    rw [h]
    refine Ev.bind (eqRooms o [one a b] [] [] (by simp) (by simp) (by simp)) (ev_pos rfl ?_)
    refine lawRest a b o o [one a b] [⟨1, 2, 3, 4⟩] true 5 h (by simp) ?_ ?_ (by omega)
    · exact Ev.of (fun k => laws_markRoom.mono _ _ _ _ _ k) (k := 4) (by simp [laws_markRoom.f, laws_markMemberS.f, laws_markMemberS.l0, laws_markInviteS.f, laws_markInviteS.l0, laws_markBanS.f, laws_markBanS.l0, one, rd_T36, wrap64])
    · exact Ev.of (fun k => laws_heldRoom.mono _ _ _ _ _ k) (k := 4) (by simp [laws_heldRoom.f, laws_heldMemberS.f, laws_heldMemberS.l0, laws_heldInviteS.f, laws_heldInviteS.l0, laws_heldBanS.f, laws_heldBanS.l0, rd_T36, wrap64])
  · have h : newAns a b o = (false, [], [], [], false) := by unfold newAns; rw [if_neg c]
    rw [h]
    refine Ev.bind (eqRooms false [] [] [] (by simp) (by simp) (by simp)) (ev_pos rfl ?_)
    refine lawRest a b o false [] [] false 1 h (by simp) ?_ ?_ (by omega)
    · exact Ev.of (fun k => laws_markRoom.mono _ _ _ _ _ k) (k := 4) (by simp [laws_markRoom.f, laws_markMemberS.f, laws_markMemberS.l0, laws_markInviteS.f, laws_markInviteS.l0, laws_markBanS.f, laws_markBanS.l0, one, rd_T36, wrap64])
    · exact Ev.of (fun k => laws_heldRoom.mono _ _ _ _ _ k) (k := 4) (by simp [laws_heldRoom.f, laws_heldMemberS.f, laws_heldMemberS.l0, laws_heldInviteS.f, laws_heldInviteS.l0, laws_heldBanS.f, laws_heldBanS.l0, rd_T36, wrap64])

end Go.Proofs.Ytdanachjdfiegaa.Pure
