-- written by a program of this session, on the lines of the kit's print
import Derived.Test.YtgfilednbllkmaaQFnJoinedPresencex0
import Derived.Test.YtgfilednbllkmaaQFnJoinedPresencex1
import Derived.Test.YtgfilednbllkmaaQFnJoinedPresencex2
import Derived.Test.YtgfilednbllkmaaQFnJoinedPresencex3
namespace Go.Proofs.Ytgfilednbllkmaa.QFnJoinedPresence
open Go.RowKit Go.Proofs.YtgfilednbllkmaaW.PrintWords Go.Proofs.YtgfilednbllkmaaW.PrintLast Go.Proofs.YtgfilednbllkmaaW.PrintMore
attribute [local go_sem] max2_int min2_int max_two min_two max_three min_three max_four min_four   -- for this text's walks alone
set_option linter.unusedVariables false
set_option linter.unusedSimpArgs false

attribute [local go_sem high] eqA63 eqA73
/-! ### impl_Lease_84: function 84 -/
def impl_Lease_84.l0 : Nat → List (S63) → List (S63) → Int → Int → Option (Bool)
  | 0, _, _, _, _ => none
  | k + 1, x0, x1, x12, x13 => if x13 < x12 then (if 0 ≤ x13 then (if x13 < (x0.length : Int) then (if x13 < (x1.length : Int) then (if (!(((rd_T63 x0 x13).f0) == ((rd_T63 x1 x13).f0)) || (!(((rd_T63 x0 x13).f1) == ((rd_T63 x1 x13).f1)))) = true then (some false) else (impl_Lease_84.l0 k x0 x1 x12 (wrap64 (x13 + 1)))) else (none)) else (none)) else (none)) else (some true)
def impl_Lease_84.f (k : Nat) (l0 : List (S63)) (l1 : List (S63)) : Option (Bool) := if (l0.length : Int) = (l1.length : Int) then (impl_Lease_84.l0 k l0 l1 (l0.length : Int) 0) else (some false)
theorem impl_Lease_84.mono_l : ∀ k, (∀ y0 y1 y2 y3, LeO (impl_Lease_84.l0 k y0 y1 y2 y3) (impl_Lease_84.l0 (k + 1) y0 y1 y2 y3))
  | 0 => fun _ _ _ _ r h => by simp [impl_Lease_84.l0] at h
  | k + 1 => by
    have ih0 := impl_Lease_84.mono_l k
    · intro y0 y1 y2 y3
      unfold impl_Lease_84.l0
      repeat' first
      | (with_reducible exact ih0 _ _ _ _)
      | (with_reducible exact LeO.refl _)
      | (with_reducible exact LeO.none _)
      | (with_reducible refine LeO.ite ?_ ?_)
      | (with_reducible refine LeO.bind ?_ (fun _ => ?_))
      | exact ih0 _ _ _ _
      | exact LeO.none _
      | refine LeO.ite ?_ ?_
      | refine LeO.bind ?_ (fun _ => ?_)
theorem impl_Lease_84.mono : ∀ a0 a1 k, LeO (impl_Lease_84.f k a0 a1) (impl_Lease_84.f (k + 1) a0 a1) := by
  intro a0 a1 k
  have ih0 := impl_Lease_84.mono_l k
  unfold impl_Lease_84.f
  repeat' first
      | (with_reducible exact ih0 _ _ _ _)
      | (with_reducible exact LeO.refl _)
      | (with_reducible exact LeO.none _)
      | (with_reducible refine LeO.ite ?_ ?_)
      | (with_reducible refine LeO.bind ?_ (fun _ => ?_))
      | exact ih0 _ _ _ _
      | exact LeO.none _
      | refine LeO.ite ?_ ?_
      | refine LeO.bind ?_ (fun _ => ?_)
set_option maxHeartbeats 8000000 in
set_option maxRecDepth 100000 in
theorem impl_Lease_84.calls (k : Nat) (A0 : Option Addr) (c0 : Nat) (l0 : List (S63)) (A1 : Option Addr) (c1 : Nat) (l1 : List (S63)) (r : Bool) (w : World) (hr0 : Kd.C k63 w A0 l0.length l0) (hc0 : l0.length ≤ c0) (hr1 : Kd.C k63 w A1 l1.length l1) (hc1 : l1.length ≤ c1) (h : impl_Lease_84.f k l0 l1 = some r) :
    Calls Try.prog 84 #[.slice A0 l0.length c0, .slice A1 l1.length c1] w fun e w' => e = .returned (.bool r) ∧ Drawn0 w w' := by
  have hu63 := Try.underlying63
  have HR0 := A_ hr0
  have HC0 := A_ hc0
  clear hr0 hc0
  have HR1 := A_ hr1
  have HC1 := A_ hc1
  clear hr1 hc1
  have H : (if (l0.length : Int) = (l1.length : Int) then (impl_Lease_84.l0 k l0 l1 (l0.length : Int) 0) else (some false)) = some r := h
  clear h
  by_cases c3 : (l0.length : Int) = (l1.length : Int)
  · rw [if_pos c3] at H
    have c3b0 : ((l0.length : Int) == (l1.length : Int)) = true := beq_iff_eq.mpr c3
    have c3b1 : ((l0.length : Int) != (l1.length : Int)) = false := bne_eq_false_iff_eq.mpr c3
    have c3b2 : (l0.length == l1.length) = true := by first | simpa using c3 | (simp at c3 ⊢; omega)
    clear c3
    have H' := A_ H
    clear H
    go_enter Try.func84, Try.ntmps84
    go_wp2
    repeat (go_quiet (fail); try go_wp2)
    go_loopg [13] k (fun kq v13 w' => ∃ (x13_1 : Int), v13 = .int .i64 x13_1 ∧ Aside0 (impl_Lease_84.l0 kq l0 l1 (l0.length : Int) x13_1 = some r) ∧ Aside0 (kq ≤ k) ∧ Drawn0 w w')
    case atStart => exact ⟨(0), (by first | rfl | (simp; done) | (simp [*]; done)), H', ⟨Nat.le_refl _⟩, by repeat (first | exact Drawn0.refl _ | apply Drawn0.step)⟩
    case round =>
      clear H'
      try clear c1
      try clear p2
      try clear c3
      try clear c3b0
      try clear c3b1
      try clear c3b2
      obtain ⟨x13_1, rfl, HA, HK1, ⟨m1, rfl⟩⟩ := hrel
      cases gk with
      | zero => exact absurd HA.out (by simp [impl_Lease_84.l0])
      | succ k1 =>
        have H := HA.out
        clear HA
        simp only [impl_Lease_84.l0] at H
        by_cases c4 : x13_1 < (l0.length : Int)
        · rw [if_pos c4] at H
          have c4b0 : decide (x13_1 < (l0.length : Int)) = true := decide_eq_true c4
          clear c4
          by_cases c5 : 0 ≤ x13_1
          · rw [if_pos c5] at H
            have c5b0 : decide (0 ≤ x13_1) = true := decide_eq_true c5
            clear c5
            by_cases c6 : x13_1 < (l0.length : Int)
            · rw [if_pos c6] at H
              have c6b0 : decide (x13_1 < (l0.length : Int)) = true := decide_eq_true c6
              clear c6
              by_cases c7 : x13_1 < (l1.length : Int)
              · rw [if_pos c7] at H
                have c7b0 : decide (x13_1 < (l1.length : Int)) = true := decide_eq_true c7
                clear c7
                by_cases c8 : (!(((rd_T63 l0 x13_1).f0) == ((rd_T63 l1 x13_1).f0)) || (!(((rd_T63 l0 x13_1).f1) == ((rd_T63 l1 x13_1).f1)))) = true
                · rw [if_pos c8] at H
                  have c8b0 : (!(((rd_T63 l0 x13_1).f0) == ((rd_T63 l1 x13_1).f0)) || (!(((rd_T63 l0 x13_1).f1) == ((rd_T63 l1 x13_1).f1)))) = true := c8
                  clear c8
                  obtain rfl := Option.some.inj H
                  have p506 : 0 ≤ (x13_1 : Int) := o1_
                  have q506 : x13_1 < (l0.length : Int) := o1_
                  obtain ⟨ad506, e506, hx506_0, hx506_1⟩ := at_T63 HR0.out x13_1 p506 q506
                  cases e506
                  replace p506 := eq_true p506
                  replace q506 := eq_true q506
                  have p507 : 0 ≤ (x13_1 : Int) := o1_
                  have q507 : x13_1 < (l1.length : Int) := o1_
                  obtain ⟨ad507, e507, hx507_0, hx507_1⟩ := at_T63 HR1.out x13_1 p507 q507
                  cases e507
                  replace p507 := eq_true p507
                  replace q507 := eq_true q507
                  go_wp2
                  repeat (go_quiet (fail); try go_wp2)
                  go_ret
                  exact ⟨by first | rfl | (simp; done) | (simp [*]; done), by repeat (first | exact Drawn0.refl _ | apply Drawn0.step)⟩
                · rw [if_neg c8] at H
                  have c8b0 : (!(((rd_T63 l0 x13_1).f0) == ((rd_T63 l1 x13_1).f0)) || (!(((rd_T63 l0 x13_1).f1) == ((rd_T63 l1 x13_1).f1)))) = false := by simpa using c8
                  clear c8
                  have H' := A_ H
                  clear H
                  have p506 : 0 ≤ (x13_1 : Int) := o1_
                  have q506 : x13_1 < (l0.length : Int) := o1_
                  obtain ⟨ad506, e506, hx506_0, hx506_1⟩ := at_T63 HR0.out x13_1 p506 q506
                  cases e506
                  replace p506 := eq_true p506
                  replace q506 := eq_true q506
                  have p507 : 0 ≤ (x13_1 : Int) := o1_
                  have q507 : x13_1 < (l1.length : Int) := o1_
                  obtain ⟨ad507, e507, hx507_0, hx507_1⟩ := at_T63 HR1.out x13_1 p507 q507
                  cases e507
                  replace p507 := eq_true p507
                  replace q507 := eq_true q507
                  go_wp2
                  repeat (go_quiet (fail); try go_wp2)
                  go_roundg k1
                  case measure => have := HK1.out; omega
                  case rel => exact ⟨(wrap64 (x13_1 + 1)), (by first | rfl | (simp; done) | (simp [*]; done)), H', ⟨by have := HK1.out; omega⟩, by repeat (first | exact Drawn0.refl _ | apply Drawn0.step)⟩
              · rw [if_neg c7] at H
                exact absurd H (by simp)
            · rw [if_neg c6] at H
              exact absurd H (by simp)
          · rw [if_neg c5] at H
            exact absurd H (by simp)
        · rw [if_neg c4] at H
          have c4b0 : decide (x13_1 < (l0.length : Int)) = false := decide_eq_false c4
          clear c4
          obtain rfl := Option.some.inj H
          go_wp2
          repeat (go_quiet (fail); try go_wp2)
          go_ret
          exact ⟨by first | rfl | (simp; done) | (simp [*]; done), by repeat (first | exact Drawn0.refl _ | apply Drawn0.step)⟩
  · rw [if_neg c3] at H
    have c3b0 : ((l0.length : Int) == (l1.length : Int)) = false := beq_eq_false_iff_ne.mpr c3
    have c3b1 : ((l0.length : Int) != (l1.length : Int)) = true := bne_iff_ne.mpr c3
    have c3b2 : (l0.length == l1.length) = false := by first | simpa using c3 | (simp at c3 ⊢; omega)
    obtain rfl := Option.some.inj H
    go_enter Try.func84, Try.ntmps84
    go_wp2
    repeat (go_quiet (fail); try go_wp2)
    go_ret
    exact ⟨by first | rfl | (simp; done) | (simp [*]; done), by repeat (first | exact Drawn0.refl _ | apply Drawn0.step)⟩

/-! ### impl_Mark_85: function 85 -/
def impl_Mark_85.l0 : Nat → List (S73) → List (S73) → Int → Int → Option (Bool)
  | 0, _, _, _, _ => none
  | k + 1, x0, x1, x12, x13 => if x13 < x12 then (if 0 ≤ x13 then (if x13 < (x0.length : Int) then (if x13 < (x1.length : Int) then (if (!(((rd_T73 x0 x13).f0) == ((rd_T73 x1 x13).f0)) || (!(((rd_T73 x0 x13).f1) == ((rd_T73 x1 x13).f1)))) = true then (some false) else (impl_Mark_85.l0 k x0 x1 x12 (wrap64 (x13 + 1)))) else (none)) else (none)) else (none)) else (some true)
def impl_Mark_85.f (k : Nat) (l0 : List (S73)) (l1 : List (S73)) : Option (Bool) := if (l0.length : Int) = (l1.length : Int) then (impl_Mark_85.l0 k l0 l1 (l0.length : Int) 0) else (some false)
theorem impl_Mark_85.mono_l : ∀ k, (∀ y0 y1 y2 y3, LeO (impl_Mark_85.l0 k y0 y1 y2 y3) (impl_Mark_85.l0 (k + 1) y0 y1 y2 y3))
  | 0 => fun _ _ _ _ r h => by simp [impl_Mark_85.l0] at h
  | k + 1 => by
    have ih0 := impl_Mark_85.mono_l k
    · intro y0 y1 y2 y3
      unfold impl_Mark_85.l0
      repeat' first
      | (with_reducible exact ih0 _ _ _ _)
      | (with_reducible exact LeO.refl _)
      | (with_reducible exact LeO.none _)
      | (with_reducible refine LeO.ite ?_ ?_)
      | (with_reducible refine LeO.bind ?_ (fun _ => ?_))
      | exact ih0 _ _ _ _
      | exact LeO.none _
      | refine LeO.ite ?_ ?_
      | refine LeO.bind ?_ (fun _ => ?_)
theorem impl_Mark_85.mono : ∀ a0 a1 k, LeO (impl_Mark_85.f k a0 a1) (impl_Mark_85.f (k + 1) a0 a1) := by
  intro a0 a1 k
  have ih0 := impl_Mark_85.mono_l k
  unfold impl_Mark_85.f
  repeat' first
      | (with_reducible exact ih0 _ _ _ _)
      | (with_reducible exact LeO.refl _)
      | (with_reducible exact LeO.none _)
      | (with_reducible refine LeO.ite ?_ ?_)
      | (with_reducible refine LeO.bind ?_ (fun _ => ?_))
      | exact ih0 _ _ _ _
      | exact LeO.none _
      | refine LeO.ite ?_ ?_
      | refine LeO.bind ?_ (fun _ => ?_)
set_option maxHeartbeats 8000000 in
set_option maxRecDepth 100000 in
theorem impl_Mark_85.calls (k : Nat) (A0 : Option Addr) (c0 : Nat) (l0 : List (S73)) (A1 : Option Addr) (c1 : Nat) (l1 : List (S73)) (r : Bool) (w : World) (hr0 : Kd.C k73 w A0 l0.length l0) (hc0 : l0.length ≤ c0) (hr1 : Kd.C k73 w A1 l1.length l1) (hc1 : l1.length ≤ c1) (h : impl_Mark_85.f k l0 l1 = some r) :
    Calls Try.prog 85 #[.slice A0 l0.length c0, .slice A1 l1.length c1] w fun e w' => e = .returned (.bool r) ∧ Drawn0 w w' := by
  have hu73 := Try.underlying73
  have HR0 := A_ hr0
  have HC0 := A_ hc0
  clear hr0 hc0
  have HR1 := A_ hr1
  have HC1 := A_ hc1
  clear hr1 hc1
  have H : (if (l0.length : Int) = (l1.length : Int) then (impl_Mark_85.l0 k l0 l1 (l0.length : Int) 0) else (some false)) = some r := h
  clear h
  by_cases c3 : (l0.length : Int) = (l1.length : Int)
  · rw [if_pos c3] at H
    have c3b0 : ((l0.length : Int) == (l1.length : Int)) = true := beq_iff_eq.mpr c3
    have c3b1 : ((l0.length : Int) != (l1.length : Int)) = false := bne_eq_false_iff_eq.mpr c3
    have c3b2 : (l0.length == l1.length) = true := by first | simpa using c3 | (simp at c3 ⊢; omega)
    clear c3
    have H' := A_ H
    clear H
    go_enter Try.func85, Try.ntmps85
    go_wp2
    repeat (go_quiet (fail); try go_wp2)
    go_loopg [13] k (fun kq v13 w' => ∃ (x13_1 : Int), v13 = .int .i64 x13_1 ∧ Aside0 (impl_Mark_85.l0 kq l0 l1 (l0.length : Int) x13_1 = some r) ∧ Aside0 (kq ≤ k) ∧ Drawn0 w w')
    case atStart => exact ⟨(0), (by first | rfl | (simp; done) | (simp [*]; done)), H', ⟨Nat.le_refl _⟩, by repeat (first | exact Drawn0.refl _ | apply Drawn0.step)⟩
    case round =>
      clear H'
      try clear c1
      try clear p2
      try clear c3
      try clear c3b0
      try clear c3b1
      try clear c3b2
      obtain ⟨x13_1, rfl, HA, HK1, ⟨m1, rfl⟩⟩ := hrel
      cases gk with
      | zero => exact absurd HA.out (by simp [impl_Mark_85.l0])
      | succ k1 =>
        have H := HA.out
        clear HA
        simp only [impl_Mark_85.l0] at H
        by_cases c4 : x13_1 < (l0.length : Int)
        · rw [if_pos c4] at H
          have c4b0 : decide (x13_1 < (l0.length : Int)) = true := decide_eq_true c4
          clear c4
          by_cases c5 : 0 ≤ x13_1
          · rw [if_pos c5] at H
            have c5b0 : decide (0 ≤ x13_1) = true := decide_eq_true c5
            clear c5
            by_cases c6 : x13_1 < (l0.length : Int)
            · rw [if_pos c6] at H
              have c6b0 : decide (x13_1 < (l0.length : Int)) = true := decide_eq_true c6
              clear c6
              by_cases c7 : x13_1 < (l1.length : Int)
              · rw [if_pos c7] at H
                have c7b0 : decide (x13_1 < (l1.length : Int)) = true := decide_eq_true c7
                clear c7
                by_cases c8 : (!(((rd_T73 l0 x13_1).f0) == ((rd_T73 l1 x13_1).f0)) || (!(((rd_T73 l0 x13_1).f1) == ((rd_T73 l1 x13_1).f1)))) = true
                · rw [if_pos c8] at H
                  have c8b0 : (!(((rd_T73 l0 x13_1).f0) == ((rd_T73 l1 x13_1).f0)) || (!(((rd_T73 l0 x13_1).f1) == ((rd_T73 l1 x13_1).f1)))) = true := c8
                  clear c8
                  obtain rfl := Option.some.inj H
                  have p508 : 0 ≤ (x13_1 : Int) := o1_
                  have q508 : x13_1 < (l0.length : Int) := o1_
                  obtain ⟨ad508, e508, hx508_0, hx508_1⟩ := at_T73 HR0.out x13_1 p508 q508
                  cases e508
                  replace p508 := eq_true p508
                  replace q508 := eq_true q508
                  have p509 : 0 ≤ (x13_1 : Int) := o1_
                  have q509 : x13_1 < (l1.length : Int) := o1_
                  obtain ⟨ad509, e509, hx509_0, hx509_1⟩ := at_T73 HR1.out x13_1 p509 q509
                  cases e509
                  replace p509 := eq_true p509
                  replace q509 := eq_true q509
                  go_wp2
                  repeat (go_quiet (fail); try go_wp2)
                  go_ret
                  exact ⟨by first | rfl | (simp; done) | (simp [*]; done), by repeat (first | exact Drawn0.refl _ | apply Drawn0.step)⟩
                · rw [if_neg c8] at H
                  have c8b0 : (!(((rd_T73 l0 x13_1).f0) == ((rd_T73 l1 x13_1).f0)) || (!(((rd_T73 l0 x13_1).f1) == ((rd_T73 l1 x13_1).f1)))) = false := by simpa using c8
                  clear c8
                  have H' := A_ H
                  clear H
                  have p508 : 0 ≤ (x13_1 : Int) := o1_
                  have q508 : x13_1 < (l0.length : Int) := o1_
                  obtain ⟨ad508, e508, hx508_0, hx508_1⟩ := at_T73 HR0.out x13_1 p508 q508
                  cases e508
                  replace p508 := eq_true p508
                  replace q508 := eq_true q508
                  have p509 : 0 ≤ (x13_1 : Int) := o1_
                  have q509 : x13_1 < (l1.length : Int) := o1_
                  obtain ⟨ad509, e509, hx509_0, hx509_1⟩ := at_T73 HR1.out x13_1 p509 q509
                  cases e509
                  replace p509 := eq_true p509
                  replace q509 := eq_true q509
                  go_wp2
                  repeat (go_quiet (fail); try go_wp2)
                  go_roundg k1
                  case measure => have := HK1.out; omega
                  case rel => exact ⟨(wrap64 (x13_1 + 1)), (by first | rfl | (simp; done) | (simp [*]; done)), H', ⟨by have := HK1.out; omega⟩, by repeat (first | exact Drawn0.refl _ | apply Drawn0.step)⟩
              · rw [if_neg c7] at H
                exact absurd H (by simp)
            · rw [if_neg c6] at H
              exact absurd H (by simp)
          · rw [if_neg c5] at H
            exact absurd H (by simp)
        · rw [if_neg c4] at H
          have c4b0 : decide (x13_1 < (l0.length : Int)) = false := decide_eq_false c4
          clear c4
          obtain rfl := Option.some.inj H
          go_wp2
          repeat (go_quiet (fail); try go_wp2)
          go_ret
          exact ⟨by first | rfl | (simp; done) | (simp [*]; done), by repeat (first | exact Drawn0.refl _ | apply Drawn0.step)⟩
  · rw [if_neg c3] at H
    have c3b0 : ((l0.length : Int) == (l1.length : Int)) = false := beq_eq_false_iff_ne.mpr c3
    have c3b1 : ((l0.length : Int) != (l1.length : Int)) = true := bne_iff_ne.mpr c3
    have c3b2 : (l0.length == l1.length) = false := by first | simpa using c3 | (simp at c3 ⊢; omega)
    obtain rfl := Option.some.inj H
    go_enter Try.func85, Try.ntmps85
    go_wp2
    repeat (go_quiet (fail); try go_wp2)
    go_ret
    exact ⟨by first | rfl | (simp; done) | (simp [*]; done), by repeat (first | exact Drawn0.refl _ | apply Drawn0.step)⟩

/-! ### impl_SamePresence: function 38 -/
abbrev impl_SamePresence.T : Bool := true
abbrev impl_SamePresence.F : Bool := false
def impl_SamePresence.f (k : Nat) (l0_0 : List (S63)) (l0_1 : List (S63)) (l0_2 : List (S73)) (l1_0 : List (S63)) (l1_1 : List (S63)) (l1_2 : List (S73)) : Option (Bool) := (impl_Lease_84.f k l0_0 l1_0).bind fun t512 => (if t512 = true then ((impl_Lease_84.f k l0_1 l1_1).bind fun t513 => (if t513 = true then ((impl_Mark_85.f k l0_2 l1_2).bind fun t514 => (some t514)) else (some false))) else (some false))
theorem impl_SamePresence.mono : ∀ a0 a1 a2 a3 a4 a5 k, LeO (impl_SamePresence.f k a0 a1 a2 a3 a4 a5) (impl_SamePresence.f (k + 1) a0 a1 a2 a3 a4 a5) := by
  intro a0 a1 a2 a3 a4 a5 k
  unfold impl_SamePresence.f
  repeat' first
      | (with_reducible exact impl_Lease_84.mono _ _ _)
      | (with_reducible exact impl_Mark_85.mono _ _ _)
      | (with_reducible exact LeO.refl _)
      | (with_reducible exact LeO.none _)
      | (with_reducible refine LeO.ite ?_ ?_)
      | (with_reducible refine LeO.bind ?_ (fun _ => ?_))
      | exact impl_Lease_84.mono _ _ _
      | exact impl_Mark_85.mono _ _ _
      | exact LeO.none _
      | refine LeO.ite ?_ ?_
      | refine LeO.bind ?_ (fun _ => ?_)
set_option maxHeartbeats 8000000 in
set_option maxRecDepth 100000 in
theorem impl_SamePresence.calls (k : Nat) (A0_0 : Option Addr) (c0_0 : Nat) (l0_0 : List (S63)) (A0_1 : Option Addr) (c0_1 : Nat) (l0_1 : List (S63)) (A0_2 : Option Addr) (c0_2 : Nat) (l0_2 : List (S73)) (A1_0 : Option Addr) (c1_0 : Nat) (l1_0 : List (S63)) (A1_1 : Option Addr) (c1_1 : Nat) (l1_1 : List (S63)) (A1_2 : Option Addr) (c1_2 : Nat) (l1_2 : List (S73)) (r : Bool) (w : World) (hr0_0 : Kd.C k63 w A0_0 l0_0.length l0_0) (hc0_0 : l0_0.length ≤ c0_0) (hr0_1 : Kd.C k63 w A0_1 l0_1.length l0_1) (hc0_1 : l0_1.length ≤ c0_1) (hr0_2 : Kd.C k73 w A0_2 l0_2.length l0_2) (hc0_2 : l0_2.length ≤ c0_2) (hr1_0 : Kd.C k63 w A1_0 l1_0.length l1_0) (hc1_0 : l1_0.length ≤ c1_0) (hr1_1 : Kd.C k63 w A1_1 l1_1.length l1_1) (hc1_1 : l1_1.length ≤ c1_1) (hr1_2 : Kd.C k73 w A1_2 l1_2.length l1_2) (hc1_2 : l1_2.length ≤ c1_2) (h : impl_SamePresence.f k l0_0 l0_1 l0_2 l1_0 l1_1 l1_2 = some r) :
    Calls Try.prog 38 #[.agg #[.slice A0_0 l0_0.length c0_0, .slice A0_1 l0_1.length c0_1, .slice A0_2 l0_2.length c0_2], .agg #[.slice A1_0 l1_0.length c1_0, .slice A1_1 l1_1.length c1_1, .slice A1_2 l1_2.length c1_2]] w fun e w' => e = .returned (.bool r) ∧ Below w.heap.size w w' := by
 have hu27 := Try.underlying27
 have HR0_0 := A_ hr0_0
 have HC0_0 := A_ hc0_0
 clear hr0_0 hc0_0
 have HR0_1 := A_ hr0_1
 have HC0_1 := A_ hc0_1
 clear hr0_1 hc0_1
 have HR0_2 := A_ hr0_2
 have HC0_2 := A_ hc0_2
 clear hr0_2 hc0_2
 have HR1_0 := A_ hr1_0
 have HC1_0 := A_ hc1_0
 clear hr1_0 hc1_0
 have HR1_1 := A_ hr1_1
 have HC1_1 := A_ hc1_1
 clear hr1_1 hc1_1
 have HR1_2 := A_ hr1_2
 have HC1_2 := A_ hc1_2
 clear hr1_2 hc1_2
 have HB := A_ (Below.refl w.heap.size w)
 have H : ((impl_Lease_84.f k l0_0 l1_0).bind fun t512 => (if t512 = true then ((impl_Lease_84.f k l0_1 l1_1).bind fun t513 => (if t513 = true then ((impl_Mark_85.f k l0_2 l1_2).bind fun t514 => (some t514)) else (some false))) else (some false))) = some r := h
 clear h
 replace H := Option.bind_eq_some_iff.mp H
 obtain ⟨t512, A30, H⟩ := H
 replace H : (if t512 = true then ((impl_Lease_84.f k l0_1 l1_1).bind fun t513 => (if t513 = true then ((impl_Mark_85.f k l0_2 l1_2).bind fun t514 => (some t514)) else (some false))) else (some false)) = some r := H
 have A3 := A_ A30
 clear A30
 by_cases c4 : t512 = true
 {
 subst c4
 have H1 : ((impl_Lease_84.f k l0_1 l1_1).bind fun t513 => (if t513 = true then ((impl_Mark_85.f k l0_2 l1_2).bind fun t514 => (some t514)) else (some false))) = some r := by rw [if_pos rfl] at H; exact H
 clear H
 have H := H1
 clear H1
 replace H := Option.bind_eq_some_iff.mp H
 obtain ⟨t513, A50, H⟩ := H
 replace H : (if t513 = true then ((impl_Mark_85.f k l0_2 l1_2).bind fun t514 => (some t514)) else (some false)) = some r := H
 have A5 := A_ A50
 clear A50
 by_cases c6 : t513 = true
 {
 subst c6
 have H1 : ((impl_Mark_85.f k l0_2 l1_2).bind fun t514 => (some t514)) = some r := by rw [if_pos rfl] at H; exact H
 clear H
 have H := H1
 clear H1
 replace H := Option.bind_eq_some_iff.mp H
 obtain ⟨t514, A70, H⟩ := H
 replace H : (some t514) = some r := H
 have A7 := A_ A70
 clear A70
 obtain rfl := Option.some.inj H
 go_enter Try.func38, Try.ntmps38
 go_wp2_with (first | ((with_reducible refine gate_dst (N := 2) rfl ?_); refine bx_ 2 #[.slice A0_0 l0_0.length c0_0, .slice A0_1 l0_1.length c0_1, .slice A0_2 l0_2.length c0_2] 27 ?_; intro gb510 hg w8 hbox hb; have GW510 := b6_ hg HB; have GE510 := b6_ hg HB; replace HB := A_ (below_step (y1_ HB.out) hb); have BK510 := A_ (hbox); clear hb hbox hg) | ((with_reducible refine gate_dst (N := 3) rfl ?_); refine bx_ 3 #[.slice A1_0 l1_0.length c1_0, .slice A1_1 l1_1.length c1_1, .slice A1_2 l1_2.length c1_2] 27 ?_; intro gb511 hg w9 hbox hb; have GW511 := b6_ hg HB; have GE511 := b6_ hg HB; have NB510_511 := b4_ hg BK510; have NB511_510 := b5_ hg BK510; replace BK510 := b3_ BK510 hb; replace HB := A_ (below_step (y1_ HB.out) hb); have BK511 := A_ (hbox); clear hb hbox hg; have hnb10 := NB510_511.out; have hnc10 := NB511_510.out; have hcz11_0 := c1_ BK510 0 (.slice A0_0 l0_0.length c0_0); have hcz11_1 := c1_ BK510 1 (.slice A0_1 l0_1.length c0_1); have hcz11_2 := c1_ BK510 2 (.slice A0_2 l0_2.length c0_2); have hfz11_0 := f1_ BK510 0; have hfz11_1 := f1_ BK510 1; have hfz11_2 := f1_ BK510 2; have hcz12_0 := c1_ BK511 0 (.slice A1_0 l1_0.length c1_0); have hcz12_1 := c1_ BK511 1 (.slice A1_1 l1_1.length c1_1); have hcz12_2 := c1_ BK511 2 (.slice A1_2 l1_2.length c1_2); have hfz12_0 := f1_ BK511 0; have hfz12_1 := f1_ BK511 1; have hfz12_2 := f1_ BK511 2) | ((with_reducible refine gate_callee (f := 84) rfl ?_); refine goesL_ (some 9) rfl rfl Try.func84 s2_ rfl #[.slice A0_0 l0_0.length c0_0, .slice A1_0 l1_0.length c1_0] rfl s3_ ?_; (with_reducible refine (impl_Lease_84.calls k _ _ l0_0 _ _ l1_0 true _ ?side1 ?side2 ?side3 ?side4 A3.out).mono ?_); (case side1 => exact y2_ (Kd.C_below HR0_0.out HB.out)); (case side2 => exact HC0_0.out); (case side3 => exact y2_ (Kd.C_below HR1_0.out HB.out)); (case side4 => exact HC1_0.out); rintro e w' ⟨rfl, ⟨nd, rfl⟩⟩; refine ⟨_, rfl, ?_⟩) | (go_at_call 84; (with_reducible refine (impl_Lease_84.calls k _ _ l0_1 _ _ l1_1 true _ ?side1 ?side2 ?side3 ?side4 A5.out).mono ?_); (case side1 => exact y2_ (Kd.C_below HR0_1.out (y1_ HB.out))); (case side2 => exact HC0_1.out); (case side3 => exact y2_ (Kd.C_below HR1_1.out (y1_ HB.out))); (case side4 => exact HC1_1.out); rintro e w' ⟨rfl, ⟨nd, rfl⟩⟩) | (go_at_call 85; (with_reducible refine (impl_Mark_85.calls k _ _ l0_2 _ _ l1_2 t514 _ ?side1 ?side2 ?side3 ?side4 A7.out).mono ?_); (case side1 => exact y2_ (Kd.C_below HR0_2.out (y1_ HB.out))); (case side2 => exact HC0_2.out); (case side3 => exact y2_ (Kd.C_below HR1_2.out (y1_ HB.out))); (case side4 => exact HC1_2.out); rintro e w' ⟨rfl, ⟨nd, rfl⟩⟩))
 go_ret
 exact ⟨e1_, y1_ HB.out⟩}
 {
 replace c6 := Bool.eq_false_iff.mpr c6
 subst c6
 have H1 : (some false) = some r := by rw [if_neg (show ¬ (false = true) by decide)] at H; exact H
 clear H
 have H := H1
 clear H1
 obtain rfl := Option.some.inj H
 go_enter Try.func38, Try.ntmps38
 go_wp2_with (first | ((with_reducible refine gate_dst (N := 2) rfl ?_); refine bx_ 2 #[.slice A0_0 l0_0.length c0_0, .slice A0_1 l0_1.length c0_1, .slice A0_2 l0_2.length c0_2] 27 ?_; intro gb510 hg w13 hbox hb; have GW510 := b6_ hg HB; have GE510 := b6_ hg HB; replace HB := A_ (below_step (y1_ HB.out) hb); have BK510 := A_ (hbox); clear hb hbox hg) | ((with_reducible refine gate_dst (N := 3) rfl ?_); refine bx_ 3 #[.slice A1_0 l1_0.length c1_0, .slice A1_1 l1_1.length c1_1, .slice A1_2 l1_2.length c1_2] 27 ?_; intro gb511 hg w14 hbox hb; have GW511 := b6_ hg HB; have GE511 := b6_ hg HB; have NB510_511 := b4_ hg BK510; have NB511_510 := b5_ hg BK510; replace BK510 := b3_ BK510 hb; replace HB := A_ (below_step (y1_ HB.out) hb); have BK511 := A_ (hbox); clear hb hbox hg; have hnb15 := NB510_511.out; have hnc15 := NB511_510.out; have hcz16_0 := c1_ BK510 0 (.slice A0_0 l0_0.length c0_0); have hcz16_1 := c1_ BK510 1 (.slice A0_1 l0_1.length c0_1); have hcz16_2 := c1_ BK510 2 (.slice A0_2 l0_2.length c0_2); have hfz16_0 := f1_ BK510 0; have hfz16_1 := f1_ BK510 1; have hfz16_2 := f1_ BK510 2; have hcz17_0 := c1_ BK511 0 (.slice A1_0 l1_0.length c1_0); have hcz17_1 := c1_ BK511 1 (.slice A1_1 l1_1.length c1_1); have hcz17_2 := c1_ BK511 2 (.slice A1_2 l1_2.length c1_2); have hfz17_0 := f1_ BK511 0; have hfz17_1 := f1_ BK511 1; have hfz17_2 := f1_ BK511 2) | ((with_reducible refine gate_callee (f := 84) rfl ?_); refine goesL_ (some 9) rfl rfl Try.func84 s2_ rfl #[.slice A0_0 l0_0.length c0_0, .slice A1_0 l1_0.length c1_0] rfl s3_ ?_; (with_reducible refine (impl_Lease_84.calls k _ _ l0_0 _ _ l1_0 true _ ?side1 ?side2 ?side3 ?side4 A3.out).mono ?_); (case side1 => exact y2_ (Kd.C_below HR0_0.out HB.out)); (case side2 => exact HC0_0.out); (case side3 => exact y2_ (Kd.C_below HR1_0.out HB.out)); (case side4 => exact HC1_0.out); rintro e w' ⟨rfl, ⟨nd, rfl⟩⟩; refine ⟨_, rfl, ?_⟩) | (go_at_call 84; (with_reducible refine (impl_Lease_84.calls k _ _ l0_1 _ _ l1_1 false _ ?side1 ?side2 ?side3 ?side4 A5.out).mono ?_); (case side1 => exact y2_ (Kd.C_below HR0_1.out (y1_ HB.out))); (case side2 => exact HC0_1.out); (case side3 => exact y2_ (Kd.C_below HR1_1.out (y1_ HB.out))); (case side4 => exact HC1_1.out); rintro e w' ⟨rfl, ⟨nd, rfl⟩⟩))
 go_ret
 exact ⟨e1_, y1_ HB.out⟩}}
 {
 replace c4 := Bool.eq_false_iff.mpr c4
 subst c4
 have H1 : (some false) = some r := by rw [if_neg (show ¬ (false = true) by decide)] at H; exact H
 clear H
 have H := H1
 clear H1
 obtain rfl := Option.some.inj H
 go_enter Try.func38, Try.ntmps38
 go_wp2_with (first | ((with_reducible refine gate_dst (N := 2) rfl ?_); refine bx_ 2 #[.slice A0_0 l0_0.length c0_0, .slice A0_1 l0_1.length c0_1, .slice A0_2 l0_2.length c0_2] 27 ?_; intro gb510 hg w18 hbox hb; have GW510 := b6_ hg HB; have GE510 := b6_ hg HB; replace HB := A_ (below_step (y1_ HB.out) hb); have BK510 := A_ (hbox); clear hb hbox hg) | ((with_reducible refine gate_dst (N := 3) rfl ?_); refine bx_ 3 #[.slice A1_0 l1_0.length c1_0, .slice A1_1 l1_1.length c1_1, .slice A1_2 l1_2.length c1_2] 27 ?_; intro gb511 hg w19 hbox hb; have GW511 := b6_ hg HB; have GE511 := b6_ hg HB; have NB510_511 := b4_ hg BK510; have NB511_510 := b5_ hg BK510; replace BK510 := b3_ BK510 hb; replace HB := A_ (below_step (y1_ HB.out) hb); have BK511 := A_ (hbox); clear hb hbox hg; have hnb20 := NB510_511.out; have hnc20 := NB511_510.out; have hcz21_0 := c1_ BK510 0 (.slice A0_0 l0_0.length c0_0); have hcz21_1 := c1_ BK510 1 (.slice A0_1 l0_1.length c0_1); have hcz21_2 := c1_ BK510 2 (.slice A0_2 l0_2.length c0_2); have hfz21_0 := f1_ BK510 0; have hfz21_1 := f1_ BK510 1; have hfz21_2 := f1_ BK510 2; have hcz22_0 := c1_ BK511 0 (.slice A1_0 l1_0.length c1_0); have hcz22_1 := c1_ BK511 1 (.slice A1_1 l1_1.length c1_1); have hcz22_2 := c1_ BK511 2 (.slice A1_2 l1_2.length c1_2); have hfz22_0 := f1_ BK511 0; have hfz22_1 := f1_ BK511 1; have hfz22_2 := f1_ BK511 2) | ((with_reducible refine gate_callee (f := 84) rfl ?_); refine goesL_ (some 9) rfl rfl Try.func84 s2_ rfl #[.slice A0_0 l0_0.length c0_0, .slice A1_0 l1_0.length c1_0] rfl s3_ ?_; (with_reducible refine (impl_Lease_84.calls k _ _ l0_0 _ _ l1_0 false _ ?side1 ?side2 ?side3 ?side4 A3.out).mono ?_); (case side1 => exact y2_ (Kd.C_below HR0_0.out HB.out)); (case side2 => exact HC0_0.out); (case side3 => exact y2_ (Kd.C_below HR1_0.out HB.out)); (case side4 => exact HC1_0.out); rintro e w' ⟨rfl, ⟨nd, rfl⟩⟩; refine ⟨_, rfl, ?_⟩))
 go_ret
 exact ⟨e1_, y1_ HB.out⟩}

/-! ### spec_l00Rises: function 109 -/
abbrev spec_l00Rises.T : Bool := true
abbrev spec_l00Rises.F : Bool := false
def spec_l00Rises.l0 : Nat → List Int → Int → Int → Int → Option (Bool)
  | 0, _, _, _, _ => none
  | k + 1, x0, x1, x2, x7 => if x7 < (x0.length : Int) then (if 0 ≤ x7 then ((spec_l00In.f (rd x0 x7) x1 x2).bind fun t516 => (if t516 = true then (if x7 > 0 then (if 0 ≤ (wrap64 (x7 - 1)) then (if (wrap64 (x7 - 1)) < (x0.length : Int) then (if (rd x0 (wrap64 (x7 - 1))) ≥ (rd x0 x7) then (some false) else (spec_l00Rises.l0 k x0 x1 x2 (wrap64 (x7 + 1)))) else (none)) else (none)) else (spec_l00Rises.l0 k x0 x1 x2 (wrap64 (x7 + 1)))) else (some false))) else (none)) else (some true)
def spec_l00Rises.f (k : Nat) (l0 : List Int) (a1 : Int) (a2 : Int) : Option (Bool) := spec_l00Rises.l0 k l0 a1 a2 0
theorem spec_l00Rises.mono_l : ∀ k, (∀ y0 y1 y2 y3, LeO (spec_l00Rises.l0 k y0 y1 y2 y3) (spec_l00Rises.l0 (k + 1) y0 y1 y2 y3))
  | 0 => fun _ _ _ _ r h => by simp [spec_l00Rises.l0] at h
  | k + 1 => by
    have ih0 := spec_l00Rises.mono_l k
    · intro y0 y1 y2 y3
      unfold spec_l00Rises.l0
      repeat' first
      | (with_reducible exact ih0 _ _ _ _)
      | (with_reducible exact LeO.refl _)
      | (with_reducible exact LeO.none _)
      | (with_reducible refine LeO.ite ?_ ?_)
      | (with_reducible refine LeO.bind ?_ (fun _ => ?_))
      | exact ih0 _ _ _ _
      | exact LeO.none _
      | refine LeO.ite ?_ ?_
      | refine LeO.bind ?_ (fun _ => ?_)
theorem spec_l00Rises.mono : ∀ a0 a1 a2 k, LeO (spec_l00Rises.f k a0 a1 a2) (spec_l00Rises.f (k + 1) a0 a1 a2) := by
  intro a0 a1 a2 k
  have ih0 := spec_l00Rises.mono_l k
  unfold spec_l00Rises.f
  repeat' first
      | (with_reducible exact ih0 _ _ _ _)
      | (with_reducible exact LeO.refl _)
      | (with_reducible exact LeO.none _)
      | (with_reducible refine LeO.ite ?_ ?_)
      | (with_reducible refine LeO.bind ?_ (fun _ => ?_))
      | exact ih0 _ _ _ _
      | exact LeO.none _
      | refine LeO.ite ?_ ?_
      | refine LeO.bind ?_ (fun _ => ?_)
set_option maxHeartbeats 8000000 in
set_option maxRecDepth 100000 in
theorem spec_l00Rises.calls (k : Nat) (A0 : Option Addr) (c0 : Nat) (l0 : List Int) (a1 : Int) (a2 : Int) (r : Bool) (w : World) (hr0 : Kd.C (Kd.int .i64) w A0 l0.length l0) (hc0 : l0.length ≤ c0) (h : spec_l00Rises.f k l0 a1 a2 = some r) :
    Calls Try.prog 109 #[.slice A0 l0.length c0, .int .i64 a1, .int .i64 a2] w fun e w' => e = .returned (.bool r) ∧ Drawn0 w w' := by
 have HR0 := A_ hr0
 have HC0 := A_ hc0
 clear hr0 hc0
 have H : (spec_l00Rises.l0 k l0 a1 a2 0) = some r := h
 clear h
 have H' := A_ H
 clear H
 go_enter Try.func109, Try.ntmps109
 go_wp2
 repeat (go_quiet (fail); try go_wp2)
 go_loopg [7] k (fun kq v7 w' => ∃ (x7_1 : Int), v7 = .int .i64 x7_1 ∧ Aside0 (spec_l00Rises.l0 kq l0 a1 a2 x7_1 = some r) ∧ Aside0 (kq ≤ k) ∧ Drawn0 w w')
 case atStart => exact ⟨(0), s1_, H', ⟨Nat.le_refl _⟩, by repeat (first | exact Drawn0.refl _ | apply Drawn0.step)⟩
 case round =>
  skip
  {
 clear H'
 try clear c1
 try clear p2
 obtain ⟨x7_1, rfl, HA, HK1, ⟨m1, rfl⟩⟩ := hrel
 cases gk with
 | zero => exact absurd HA.out (by simp [spec_l00Rises.l0])
 | succ k1 =>
  skip
  {
 have H := HA.out
 clear HA
 simp only [spec_l00Rises.l0] at H
 by_cases c4 : x7_1 < (l0.length : Int)
 {
 rw [if_pos c4] at H
 have c4b0 : decide (x7_1 < (l0.length : Int)) = true := decide_eq_true c4
 clear c4
 by_cases c5 : 0 ≤ x7_1
 {
 rw [if_pos c5] at H
 have c5b0 : decide (0 ≤ x7_1) = true := decide_eq_true c5
 clear c5
 replace H := Option.bind_eq_some_iff.mp H
 obtain ⟨t516, A60, H⟩ := H
 replace H : (if t516 = true then (if x7_1 > 0 then (if 0 ≤ (wrap64 (x7_1 - 1)) then (if (wrap64 (x7_1 - 1)) < (l0.length : Int) then (if (rd l0 (wrap64 (x7_1 - 1))) ≥ (rd l0 x7_1) then (some false) else (spec_l00Rises.l0 k1 l0 a1 a2 (wrap64 (x7_1 + 1)))) else (none)) else (none)) else (spec_l00Rises.l0 k1 l0 a1 a2 (wrap64 (x7_1 + 1)))) else (some false)) = some r := H
 have A6 := A_ A60
 clear A60
 by_cases c7 : t516 = true
 {
 subst c7
 have H1 : (if x7_1 > 0 then (if 0 ≤ (wrap64 (x7_1 - 1)) then (if (wrap64 (x7_1 - 1)) < (l0.length : Int) then (if (rd l0 (wrap64 (x7_1 - 1))) ≥ (rd l0 x7_1) then (some false) else (spec_l00Rises.l0 k1 l0 a1 a2 (wrap64 (x7_1 + 1)))) else (none)) else (none)) else (spec_l00Rises.l0 k1 l0 a1 a2 (wrap64 (x7_1 + 1)))) = some r := by rw [if_pos rfl] at H; exact H
 clear H
 have H := H1
 clear H1
 by_cases c8 : x7_1 > 0
 {
 rw [if_pos c8] at H
 have c8b0 : decide (0 < x7_1) = true := decide_eq_true c8
 clear c8
 obtain ⟨ji9, hji9⟩ : ∃ j_ : Int, (wrap64 (x7_1 - 1)) = j_ := ⟨_, rfl⟩
 replace H : (if 0 ≤ (ji9) then (if (ji9) < (l0.length : Int) then (if (rd l0 (ji9)) ≥ (rd l0 x7_1) then (some false) else (spec_l00Rises.l0 k1 l0 a1 a2 (wrap64 (x7_1 + 1)))) else (none)) else (none)) = some r := by first | (rw [hji9] at H; exact H) | (simp only [hji9] at H ⊢; exact H)
 (try rw [hji9] at A6)
 have hji9w : (IntKind.i64.wrap (x7_1 - 1)) = ji9 := (i64_w _).trans hji9
 by_cases c10 : 0 ≤ (ji9)
 {
 rw [if_pos c10] at H
 have c10b0 : decide (0 ≤ (ji9)) = true := decide_eq_true c10
 clear c10
 by_cases c11 : (ji9) < (l0.length : Int)
 {
 rw [if_pos c11] at H
 have c11b0 : decide ((ji9) < (l0.length : Int)) = true := decide_eq_true c11
 clear c11
 by_cases c12 : (rd l0 (ji9)) ≥ (rd l0 x7_1)
 {
 rw [if_pos c12] at H
 have c12b0 : decide ((rd l0 x7_1) ≤ (rd l0 (ji9))) = true := decide_eq_true c12
 clear c12
 obtain rfl := Option.some.inj H
 have p515 : 0 ≤ (x7_1 : Int) := o1_
 have q515 : x7_1 < (l0.length : Int) := o1_
 obtain ⟨ad515, e515, hx515_0⟩ := Kd.at_int HR0.out x7_1 p515 q515
 cases e515
 replace p515 := eq_true p515
 replace q515 := eq_true q515
 have p517 : 0 ≤ ((ji9) : Int) := o1_
 have q517 : (ji9) < (l0.length : Int) := o1_
 obtain ⟨ad517, e517, hx517_0⟩ := Kd.at_int HR0.out (ji9) p517 q517
 obtain rfl : ad515 = ad517 := (by injection e517)
 replace p517 := eq_true p517
 replace q517 := eq_true q517
 have p518 : 0 ≤ (x7_1 : Int) := o1_
 have q518 : x7_1 < (l0.length : Int) := o1_
 obtain ⟨ad518, e518, hx518_0⟩ := Kd.at_int HR0.out x7_1 p518 q518
 obtain rfl : ad515 = ad518 := (by injection e518)
 replace p518 := eq_true p518
 replace q518 := eq_true q518
 go_wp2_with (first | (go_at_call 99; (with_reducible refine (spec_l00In.calls (rd l0 x7_1) a1 a2 true _ A6.out).mono ?_); rintro e w' ⟨rfl, ⟨nd, rfl⟩⟩; (try exact d1_)))
 repeat (go_quiet (first | (go_at_call 99; (with_reducible refine (spec_l00In.calls (rd l0 x7_1) a1 a2 true _ A6.out).mono ?_); rintro e w' ⟨rfl, ⟨nd, rfl⟩⟩; (try exact d1_))); try go_wp2_with (first | (go_at_call 99; (with_reducible refine (spec_l00In.calls (rd l0 x7_1) a1 a2 true _ A6.out).mono ?_); rintro e w' ⟨rfl, ⟨nd, rfl⟩⟩; (try exact d1_))))
 go_ret
 exact ⟨by first | rfl | (simp; done) | (simp only [← hji9] <;> (first | rfl | simp)) | (simp [*]; done), by repeat (first | exact Drawn0.refl _ | apply Drawn0.step)⟩}
 {
 rw [if_neg c12] at H
 have c12b0 : decide ((rd l0 x7_1) ≤ (rd l0 (ji9))) = false := decide_eq_false c12
 clear c12
 have H' := A_ H
 clear H
 have p515 : 0 ≤ (x7_1 : Int) := o1_
 have q515 : x7_1 < (l0.length : Int) := o1_
 obtain ⟨ad515, e515, hx515_0⟩ := Kd.at_int HR0.out x7_1 p515 q515
 cases e515
 replace p515 := eq_true p515
 replace q515 := eq_true q515
 have p517 : 0 ≤ ((ji9) : Int) := o1_
 have q517 : (ji9) < (l0.length : Int) := o1_
 obtain ⟨ad517, e517, hx517_0⟩ := Kd.at_int HR0.out (ji9) p517 q517
 obtain rfl : ad515 = ad517 := (by injection e517)
 replace p517 := eq_true p517
 replace q517 := eq_true q517
 have p518 : 0 ≤ (x7_1 : Int) := o1_
 have q518 : x7_1 < (l0.length : Int) := o1_
 obtain ⟨ad518, e518, hx518_0⟩ := Kd.at_int HR0.out x7_1 p518 q518
 obtain rfl : ad515 = ad518 := (by injection e518)
 replace p518 := eq_true p518
 replace q518 := eq_true q518
 go_wp2_with (first | (go_at_call 99; (with_reducible refine (spec_l00In.calls (rd l0 x7_1) a1 a2 true _ A6.out).mono ?_); rintro e w' ⟨rfl, ⟨nd, rfl⟩⟩; (try exact d1_)))
 repeat (go_quiet (first | (go_at_call 99; (with_reducible refine (spec_l00In.calls (rd l0 x7_1) a1 a2 true _ A6.out).mono ?_); rintro e w' ⟨rfl, ⟨nd, rfl⟩⟩; (try exact d1_))); try go_wp2_with (first | (go_at_call 99; (with_reducible refine (spec_l00In.calls (rd l0 x7_1) a1 a2 true _ A6.out).mono ?_); rintro e w' ⟨rfl, ⟨nd, rfl⟩⟩; (try exact d1_))))
 go_roundg k1
 case measure => have := HK1.out; omega
 case rel => exact ⟨(wrap64 (x7_1 + 1)), s1_, H', ⟨by have := HK1.out; omega⟩, by repeat (first | exact Drawn0.refl _ | apply Drawn0.step)⟩}}
 {
 rw [if_neg c11] at H
 exact absurd H (by simp)}}
 {
 rw [if_neg c10] at H
 exact absurd H (by simp)}}
 {
 rw [if_neg c8] at H
 have c8b0 : decide (0 < x7_1) = false := decide_eq_false c8
 clear c8
 have H' := A_ H
 clear H
 have p515 : 0 ≤ (x7_1 : Int) := o1_
 have q515 : x7_1 < (l0.length : Int) := o1_
 obtain ⟨ad515, e515, hx515_0⟩ := Kd.at_int HR0.out x7_1 p515 q515
 cases e515
 replace p515 := eq_true p515
 replace q515 := eq_true q515
 go_wp2_with (first | (go_at_call 99; (with_reducible refine (spec_l00In.calls (rd l0 x7_1) a1 a2 true _ A6.out).mono ?_); rintro e w' ⟨rfl, ⟨nd, rfl⟩⟩; (try exact d1_)))
 repeat (go_quiet (first | (go_at_call 99; (with_reducible refine (spec_l00In.calls (rd l0 x7_1) a1 a2 true _ A6.out).mono ?_); rintro e w' ⟨rfl, ⟨nd, rfl⟩⟩; (try exact d1_))); try go_wp2_with (first | (go_at_call 99; (with_reducible refine (spec_l00In.calls (rd l0 x7_1) a1 a2 true _ A6.out).mono ?_); rintro e w' ⟨rfl, ⟨nd, rfl⟩⟩; (try exact d1_))))
 go_roundg k1
 case measure => have := HK1.out; omega
 case rel => exact ⟨(wrap64 (x7_1 + 1)), s1_, H', ⟨by have := HK1.out; omega⟩, by repeat (first | exact Drawn0.refl _ | apply Drawn0.step)⟩}}
 {
 replace c7 := Bool.eq_false_iff.mpr c7
 subst c7
 have H1 : (some false) = some r := by rw [if_neg (show ¬ (false = true) by decide)] at H; exact H
 clear H
 have H := H1
 clear H1
 obtain rfl := Option.some.inj H
 have p515 : 0 ≤ (x7_1 : Int) := o1_
 have q515 : x7_1 < (l0.length : Int) := o1_
 obtain ⟨ad515, e515, hx515_0⟩ := Kd.at_int HR0.out x7_1 p515 q515
 cases e515
 replace p515 := eq_true p515
 replace q515 := eq_true q515
 go_wp2_with (first | (go_at_call 99; (with_reducible refine (spec_l00In.calls (rd l0 x7_1) a1 a2 false _ A6.out).mono ?_); rintro e w' ⟨rfl, ⟨nd, rfl⟩⟩; (try exact d1_)))
 repeat (go_quiet (first | (go_at_call 99; (with_reducible refine (spec_l00In.calls (rd l0 x7_1) a1 a2 false _ A6.out).mono ?_); rintro e w' ⟨rfl, ⟨nd, rfl⟩⟩; (try exact d1_))); try go_wp2_with (first | (go_at_call 99; (with_reducible refine (spec_l00In.calls (rd l0 x7_1) a1 a2 false _ A6.out).mono ?_); rintro e w' ⟨rfl, ⟨nd, rfl⟩⟩; (try exact d1_))))
 go_ret
 exact ⟨by first | rfl | (simp; done) | (simp [*]; done), by repeat (first | exact Drawn0.refl _ | apply Drawn0.step)⟩}}
 {
 rw [if_neg c5] at H
 exact absurd H (by simp)}}
 {
 rw [if_neg c4] at H
 have c4b0 : decide (x7_1 < (l0.length : Int)) = false := decide_eq_false c4
 clear c4
 obtain rfl := Option.some.inj H
 go_wp2
 repeat (go_quiet (fail); try go_wp2)
 go_ret
 exact ⟨by first | rfl | (simp; done) | (simp [*]; done), by repeat (first | exact Drawn0.refl _ | apply Drawn0.step)⟩}}}

/-! ### spec_l01Members: function 86 -/
def spec_l01Members.f (k : Nat) (l0 : List Int) : Option (Bool) := (spec_l00Rises.f k l0 1 1000).bind fun t519 => (some t519)
theorem spec_l01Members.mono : ∀ a0 k, LeO (spec_l01Members.f k a0) (spec_l01Members.f (k + 1) a0) := by
  intro a0 k
  unfold spec_l01Members.f
  repeat' first
      | (with_reducible exact spec_l00Rises.mono _ _ _ _)
      | (with_reducible exact LeO.refl _)
      | (with_reducible exact LeO.none _)
      | (with_reducible refine LeO.ite ?_ ?_)
      | (with_reducible refine LeO.bind ?_ (fun _ => ?_))
      | exact spec_l00Rises.mono _ _ _ _
      | exact LeO.none _
      | refine LeO.ite ?_ ?_
      | refine LeO.bind ?_ (fun _ => ?_)
set_option maxHeartbeats 8000000 in
set_option maxRecDepth 100000 in
theorem spec_l01Members.calls (k : Nat) (A0 : Option Addr) (c0 : Nat) (l0 : List Int) (r : Bool) (w : World) (hr0 : Kd.C (Kd.int .i64) w A0 l0.length l0) (hc0 : l0.length ≤ c0) (h : spec_l01Members.f k l0 = some r) :
    Calls Try.prog 86 #[.slice A0 l0.length c0] w fun e w' => e = .returned (.bool r) ∧ Drawn0 w w' := by
  have HR0 := A_ hr0
  have HC0 := A_ hc0
  clear hr0 hc0
  have H : ((spec_l00Rises.f k l0 1 1000).bind fun t519 => (some t519)) = some r := h
  clear h
  replace H := Option.bind_eq_some_iff.mp H
  obtain ⟨t519, A20, H⟩ := H
  replace H : (some t519) = some r := H
  have A2 := A_ A20
  clear A20
  obtain rfl := Option.some.inj H
  go_enter Try.func86, Try.ntmps86
  go_wp2_with (first | ((with_reducible refine gate_callee (f := 109) rfl ?_); refine goesL_ (some 4) rfl rfl Try.func109 (by kernel_rfl) rfl #[.slice A0 l0.length c0, .int .i64 1, .int .i64 1000] rfl (by (try simp only [List.map_toArray, List.map_cons, List.map_nil]); first | done | rfl | (simp only [List.length_drop, List.length_take]; rfl)) ?_; (with_reducible refine (spec_l00Rises.calls k _ _ l0 1 1000 t519 _ ?side1 ?side2 A2.out).mono ?_); (case side1 => repeat (first | exact HR0.out | (with_reducible refine Kd.C_alloc ?_ _) | (with_reducible refine Kd.C_drewN ?_ _) | (with_reducible refine Kd.C_drew ?_))); (case side2 => exact HC0.out); rintro e w' ⟨rfl, ⟨nd, rfl⟩⟩; refine ⟨_, rfl, ?_⟩))
  go_ret
  exact ⟨by first | rfl | (simp; done) | (simp [*]; done), by repeat (first | exact Drawn0.refl _ | apply Drawn0.step)⟩

/-! ### spec_l00Own: function 110 -/
def spec_l00Own.f (l0 : List Int) : Option (List Int) := (some (([] : List Int) : List Int)).bind fun y520 => (if y520.length + l0.length < 17592186044416 then (some (y520 ++ l0)) else (none))
set_option maxHeartbeats 8000000 in
set_option maxRecDepth 100000 in
theorem spec_l00Own.calls (A0 : Option Addr) (c0 : Nat) (l0 : List Int) (r : List Int) (w : World) (hr0 : Kd.C (Kd.int .i64) w A0 l0.length l0) (hc0 : l0.length ≤ c0) (h : spec_l00Own.f l0 = some r) :
    Calls Try.prog 110 #[.slice A0 l0.length c0] w fun e w' => ∃ v0_ : Value, e = .returned (v0_) ∧ Kd.R (Kd.int .i64) 2 w' w.heap.size (fun _ => True) v0_ r ∧ Below w.heap.size w w' := by
  have HR0 := A_ hr0
  have HC0 := A_ hc0
  clear hr0 hc0
  have HB := A_ (Below.refl w.heap.size w)
  have H : ((some (([] : List Int) : List Int)).bind fun y520 => (if y520.length + l0.length < 17592186044416 then (some (y520 ++ l0)) else (none))) = some r := h
  clear h
  obtain ⟨y520, hy520⟩ : ∃ y_ : List Int, y_ = (([] : List Int)) := ⟨_, rfl⟩
  replace H : (if y520.length + l0.length < 17592186044416 then (some (y520 ++ l0)) else (none)) = some r := by first | (rw [hy520]; with_reducible exact H) | (have H2_ := (Option.bind_some _ _).symm.trans H; rw [hy520]; with_reducible exact H2_) | (have H2_ := (Option.bind_some _ _).symm.trans H; with_reducible exact H2_) | with_reducible exact H | (rw [hy520]; exact H) | exact H
  have Ny520 := A_ hy520
  clear hy520
  by_cases c2 : y520.length + l0.length < 17592186044416
  · rw [if_pos c2] at H
    have LMc2 := A_ c2
    clear c2
    obtain ⟨y523, hy523⟩ : ∃ y_ : List Int, y_ = (y520 ++ l0) := ⟨_, rfl⟩
    replace H : (some y523) = some r := by first | (rw [hy523]; with_reducible exact H) | (have H2_ := (Option.bind_some _ _).symm.trans H; rw [hy523]; with_reducible exact H2_) | (have H2_ := (Option.bind_some _ _).symm.trans H; with_reducible exact H2_) | with_reducible exact H | (rw [hy523]; exact H) | exact H
    have Ny523 := A_ hy523
    clear hy523
    obtain rfl := Option.some.inj H
    go_enter Try.func110, Try.ntmps110
    go_wp2_with (first | ((with_reducible refine gate_dst (N := 3) rfl ?_); refine Kd.R_lit (Kd.int .i64) _ 2 ?hg (N := 3) ?hd (xs := ([] : List Int)) (inner := []) (ok := fun _ => True) (okp := fun _ => True) ?hr ?hp (fun _ hk => hk) trivial (Below.refl _ _) (Nat.le_refl _) (by simp) ?_; (case hd => rfl); (case hg => rfl); (case hr => first | (go_simp; done) | (go_simp; rfl)); (case hp => exact (Reps.none _ _)); intro v521 w3 ho4 hb hg_ hnew_; clear hg_ hnew_; (first | rw [← Ny520.out] at ho4 | (simp only [Int.reduceToNat] at ho4; rw [← Ny520.out] at ho4)); have HO522 := A_ (Kd.R_lower ho4 (below_size (y1_ HB.out))); replace HB := A_ (below_step (y1_ HB.out) hb); clear hb ho4) | ((with_reducible refine gate_builtin (b := .append) (xs := #[.tmp 3, .tmp 4]) rfl ?_); at_builtin; refine Kd.R_append_rows (Kd.int .i64) (w0 := w) w.heap.size rfl (.tmp 3) (.tmp 4) 32 2 (.int .i64 0) 8 rfl Try.underlying32 info2 rfl (by decide) (by omega) v521 y520 l0 _ _ _ (fun _ => True) (fun _ => False) rfl rfl ?aO ?aR (fun _ _ h => h) (fun _ h => h.elim) ?aF ?aB ?aS ?aL ?_; (case aR => repeat (first | exact (Kd.C_below HR0.out HB.out) | (with_reducible refine Kd.C_alloc ?_ _) | (with_reducible refine Kd.C_drewN ?_ _) | (with_reducible refine Kd.C_drew ?_))); (case aB => exact (y1_ HB.out)); (case aF => exact (fun _ _ => trivial)); (case aO => exact (b2_ HO522.out)); (case aS => exact (below_size (y1_ HB.out))); (case aL => have := LMc2.out; omega); intro v524 w5 ho hb hg hat; rw [← Ny523.out] at ho; replace HB := A_ (hb); have HO525 := A_ (ho); clear HO522; clear ho hb hg hat))
    go_ret
    exact ⟨_, e1_, b2_ HO525.out, y1_ HB.out⟩
  · rw [if_neg c2] at H
    exact absurd H (by simp)

end Go.Proofs.Ytgfilednbllkmaa.QFnJoinedPresence
