-- written by a program of this session, on the lines of the kit's print
import Derived.Test.YtgmbgpjebpgpkaaDoorQFnExactReadEventx0
namespace Go.Proofs.YtgmbgpjebpgpkaaDoor.QFnExactReadEvent
open Go.RowKit Go.Proofs.YtgmbgpjebpgpkaaDoorW.PrintWords Go.Proofs.YtgmbgpjebpgpkaaDoorW.PrintLast Go.Proofs.YtgmbgpjebpgpkaaDoorW.PrintMore
attribute [local go_sem] max2_int min2_int max_two min_two max_three min_three max_four min_four   -- for this text's walks alone
set_option linter.unusedVariables false
set_option linter.unusedSimpArgs false

/-! ### spec_l00In: function 19 -/
def spec_l00In.f (a0 : Int) (a1 : Int) (a2 : Int) : Option (Bool) := if a0 ≥ a1 then (some (decide (a0 ≤ a2))) else (some false)
set_option maxHeartbeats 8000000 in
set_option maxRecDepth 100000 in
theorem spec_l00In.calls (a0 : Int) (a1 : Int) (a2 : Int) (r : Bool) (w : World) (h : spec_l00In.f a0 a1 a2 = some r) :
    Calls Tryd.prog 19 #[.int .i64 a0, .int .i64 a1, .int .i64 a2] w fun e w' => e = .returned (.bool r) ∧ Drawn0 w w' := by
  have H : (if a0 ≥ a1 then (some (decide (a0 ≤ a2))) else (some false)) = some r := h
  clear h
  by_cases c4 : a0 ≥ a1
  · rw [if_pos c4] at H
    have c4b0 : decide (a1 ≤ a0) = true := decide_eq_true c4
    clear c4
    obtain rfl := Option.some.inj H
    go_enter Tryd.func19, Tryd.ntmps19
    go_wp2
    go_ret
    exact ⟨by first | rfl | (simp; done) | (simp [*]; done), by repeat (first | exact Drawn0.refl _ | apply Drawn0.step)⟩
  · rw [if_neg c4] at H
    have c4b0 : decide (a1 ≤ a0) = false := decide_eq_false c4
    clear c4
    obtain rfl := Option.some.inj H
    go_enter Tryd.func19, Tryd.ntmps19
    go_wp2
    go_ret
    exact ⟨by first | rfl | (simp; done) | (simp [*]; done), by repeat (first | exact Drawn0.refl _ | apply Drawn0.step)⟩

/-! ### spec_l01Member: function 20 -/
def spec_l01Member.f (a0 : Int) : Option (Bool) := (spec_l00In.f a0 1 1000).bind fun t101 => (some t101)
set_option maxHeartbeats 8000000 in
set_option maxRecDepth 100000 in
theorem spec_l01Member.calls (a0 : Int) (r : Bool) (w : World) (h : spec_l01Member.f a0 = some r) :
    Calls Tryd.prog 20 #[.int .i64 a0] w fun e w' => e = .returned (.bool r) ∧ Drawn0 w w' := by
  have H : ((spec_l00In.f a0 1 1000).bind fun t101 => (some t101)) = some r := h
  clear h
  replace H := Option.bind_eq_some_iff.mp H
  obtain ⟨t101, A20, H⟩ := H
  replace H : (some t101) = some r := H
  have A2 := Aside0.mk A20
  clear A20
  obtain rfl := Option.some.inj H
  go_enter Tryd.func20, Tryd.ntmps20
  go_wp2_with (first | ((with_reducible refine gate_callee (f := 19) rfl ?_); refine goesL_ (some 4) rfl rfl Tryd.func19 (by kernel_rfl) rfl #[.int .i64 a0, .int .i64 1, .int .i64 1000] rfl (by (try simp only [List.map_toArray, List.map_cons, List.map_nil]); first | done | rfl | (simp only [List.length_drop, List.length_take]; rfl)) ?_; (with_reducible refine (spec_l00In.calls a0 1 1000 t101 _ A2.out).mono ?_); rintro e w' ⟨rfl, ⟨nd, rfl⟩⟩; refine ⟨_, rfl, ?_⟩))
  go_ret
  exact ⟨by first | rfl | (simp; done) | (simp [*]; done), by repeat (first | exact Drawn0.refl _ | apply Drawn0.step)⟩

/-! ### spec_l01Tick: function 21 -/
def spec_l01Tick.f (a0 : Int) : Option (Bool) := (spec_l00In.f a0 0 1000000).bind fun t102 => (some t102)
set_option maxHeartbeats 8000000 in
set_option maxRecDepth 100000 in
theorem spec_l01Tick.calls (a0 : Int) (r : Bool) (w : World) (h : spec_l01Tick.f a0 = some r) :
    Calls Tryd.prog 21 #[.int .i64 a0] w fun e w' => e = .returned (.bool r) ∧ Drawn0 w w' := by
  have H : ((spec_l00In.f a0 0 1000000).bind fun t102 => (some t102)) = some r := h
  clear h
  replace H := Option.bind_eq_some_iff.mp H
  obtain ⟨t102, A20, H⟩ := H
  replace H : (some t102) = some r := H
  have A2 := Aside0.mk A20
  clear A20
  obtain rfl := Option.some.inj H
  go_enter Tryd.func21, Tryd.ntmps21
  go_wp2_with (first | ((with_reducible refine gate_callee (f := 19) rfl ?_); refine goesL_ (some 4) rfl rfl Tryd.func19 (by kernel_rfl) rfl #[.int .i64 a0, .int .i64 0, .int .i64 1000000] rfl (by (try simp only [List.map_toArray, List.map_cons, List.map_nil]); first | done | rfl | (simp only [List.length_drop, List.length_take]; rfl)) ?_; (with_reducible refine (spec_l00In.calls a0 0 1000000 t102 _ A2.out).mono ?_); rintro e w' ⟨rfl, ⟨nd, rfl⟩⟩; refine ⟨_, rfl, ?_⟩))
  go_ret
  exact ⟨by first | rfl | (simp; done) | (simp [*]; done), by repeat (first | exact Drawn0.refl _ | apply Drawn0.step)⟩

/-! ### spec_l01IsText: function 22 -/
def spec_l01IsText.l0 : Nat → ByteArray → Int → Option (Bool)
  | 0, _, _ => none
  | k + 1, x0, x3 => if x3 < (x0.size : Int) then (if 0 ≤ x3 then (if (bt x0 x3) < 32 then (some false) else (if (bt x0 x3) > 126 then (some false) else (spec_l01IsText.l0 k x0 (wrap64 (x3 + 1))))) else (none)) else (some (decide ((x0.size : Int) ≤ 80)))
def spec_l01IsText.f (k : Nat) (a0 : ByteArray) : Option (Bool) := spec_l01IsText.l0 k a0 0
theorem spec_l01IsText.mono_l : ∀ k, (∀ y0 y1, LeO (spec_l01IsText.l0 k y0 y1) (spec_l01IsText.l0 (k + 1) y0 y1))
  | 0 => fun _ _ r h => by simp [spec_l01IsText.l0] at h
  | k + 1 => by
    have ih0 := spec_l01IsText.mono_l k
    · intro y0 y1
      unfold spec_l01IsText.l0
      repeat' first
      | (with_reducible exact ih0 _ _)
      | (with_reducible exact LeO.refl _)
      | (with_reducible exact LeO.none _)
      | (with_reducible refine LeO.ite ?_ ?_)
      | (with_reducible refine LeO.bind ?_ (fun _ => ?_))
      | exact ih0 _ _
      | exact LeO.none _
      | refine LeO.ite ?_ ?_
      | refine LeO.bind ?_ (fun _ => ?_)
theorem spec_l01IsText.mono : ∀ a0 k, LeO (spec_l01IsText.f k a0) (spec_l01IsText.f (k + 1) a0) := by
  intro a0 k
  have ih0 := spec_l01IsText.mono_l k
  unfold spec_l01IsText.f
  repeat' first
      | (with_reducible exact ih0 _ _)
      | (with_reducible exact LeO.refl _)
      | (with_reducible exact LeO.none _)
      | (with_reducible refine LeO.ite ?_ ?_)
      | (with_reducible refine LeO.bind ?_ (fun _ => ?_))
      | exact ih0 _ _
      | exact LeO.none _
      | refine LeO.ite ?_ ?_
      | refine LeO.bind ?_ (fun _ => ?_)
set_option maxHeartbeats 8000000 in
set_option maxRecDepth 100000 in
theorem spec_l01IsText.calls (k : Nat) (a0 : ByteArray) (r : Bool) (w : World) (h : spec_l01IsText.f k a0 = some r) :
    Calls Tryd.prog 22 #[.string a0] w fun e w' => e = .returned (.bool r) ∧ Drawn0 w w' := by
  have H : (spec_l01IsText.l0 k a0 0) = some r := h
  clear h
  have H' := Aside0.mk H
  clear H
  go_enter Tryd.func22, Tryd.ntmps22
  go_wp2
  go_loopg [3] k (fun kq v3 w' => ∃ (x3_1 : Int), v3 = .int .i64 x3_1 ∧ Aside0 (spec_l01IsText.l0 kq a0 x3_1 = some r) ∧ Aside0 (kq ≤ k) ∧ Drawn0 w w')
  case atStart => exact ⟨(0), (by first | rfl | (simp; done) | (simp [*]; done)), H', ⟨Nat.le_refl _⟩, by repeat (first | exact Drawn0.refl _ | apply Drawn0.step)⟩
  case round =>
    clear H'
    obtain ⟨x3_1, rfl, HA, HK1, ⟨m1, rfl⟩⟩ := hrel
    cases gk with
    | zero => exact absurd HA.out (by simp [spec_l01IsText.l0])
    | succ k1 =>
      have H := HA.out
      clear HA
      simp only [spec_l01IsText.l0] at H
      by_cases c2 : x3_1 < (a0.size : Int)
      · rw [if_pos c2] at H
        have c2b0 : decide (x3_1 < (a0.size : Int)) = true := decide_eq_true c2
        clear c2
        by_cases c3 : 0 ≤ x3_1
        · rw [if_pos c3] at H
          have c3b0 : decide (0 ≤ x3_1) = true := decide_eq_true c3
          clear c3
          by_cases c5 : (bt a0 x3_1) < 32
          · rw [if_pos c5] at H
            have c5b0 : decide ((bt a0 x3_1) < 32) = true := decide_eq_true c5
            clear c5
            obtain rfl := Option.some.inj H
            have p4 : 0 ≤ (x3_1 : Int) := of_decide_eq_true (by first | (with_reducible assumption) | assumption)
            have q4 : x3_1 < (a0.size : Int) := of_decide_eq_true (by first | (with_reducible assumption) | assumption)
            have hx4 := bt_at a0 x3_1
            replace p4 := eq_true p4
            replace q4 := eq_true q4
            go_wp2
            go_ret
            exact ⟨by first | rfl | (simp; done) | (simp [*]; done), by repeat (first | exact Drawn0.refl _ | apply Drawn0.step)⟩
          · rw [if_neg c5] at H
            have c5b0 : decide ((bt a0 x3_1) < 32) = false := decide_eq_false c5
            clear c5
            by_cases c7 : (bt a0 x3_1) > 126
            · rw [if_pos c7] at H
              have c7b0 : decide (126 < (bt a0 x3_1)) = true := decide_eq_true c7
              clear c7
              obtain rfl := Option.some.inj H
              have p4 : 0 ≤ (x3_1 : Int) := of_decide_eq_true (by first | (with_reducible assumption) | assumption)
              have q4 : x3_1 < (a0.size : Int) := of_decide_eq_true (by first | (with_reducible assumption) | assumption)
              have hx4 := bt_at a0 x3_1
              replace p4 := eq_true p4
              replace q4 := eq_true q4
              have p6 : 0 ≤ (x3_1 : Int) := of_decide_eq_true (by first | (with_reducible assumption) | assumption)
              have q6 : x3_1 < (a0.size : Int) := of_decide_eq_true (by first | (with_reducible assumption) | assumption)
              have hx6 := bt_at a0 x3_1
              replace p6 := eq_true p6
              replace q6 := eq_true q6
              go_wp2
              go_ret
              exact ⟨by first | rfl | (simp; done) | (simp [*]; done), by repeat (first | exact Drawn0.refl _ | apply Drawn0.step)⟩
            · rw [if_neg c7] at H
              have c7b0 : decide (126 < (bt a0 x3_1)) = false := decide_eq_false c7
              clear c7
              have H' := Aside0.mk H
              clear H
              have p4 : 0 ≤ (x3_1 : Int) := of_decide_eq_true (by first | (with_reducible assumption) | assumption)
              have q4 : x3_1 < (a0.size : Int) := of_decide_eq_true (by first | (with_reducible assumption) | assumption)
              have hx4 := bt_at a0 x3_1
              replace p4 := eq_true p4
              replace q4 := eq_true q4
              have p6 : 0 ≤ (x3_1 : Int) := of_decide_eq_true (by first | (with_reducible assumption) | assumption)
              have q6 : x3_1 < (a0.size : Int) := of_decide_eq_true (by first | (with_reducible assumption) | assumption)
              have hx6 := bt_at a0 x3_1
              replace p6 := eq_true p6
              replace q6 := eq_true q6
              go_wp2
              go_roundg k1
              case measure => have := HK1.out; omega
              case rel => exact ⟨(wrap64 (x3_1 + 1)), (by first | rfl | (simp; done) | (simp [*]; done)), H', ⟨by have := HK1.out; omega⟩, by repeat (first | exact Drawn0.refl _ | apply Drawn0.step)⟩
        · rw [if_neg c3] at H
          exact absurd H (by simp)
      · rw [if_neg c2] at H
        have c2b0 : decide (x3_1 < (a0.size : Int)) = false := decide_eq_false c2
        clear c2
        obtain rfl := Option.some.inj H
        go_wp2
        go_ret
        exact ⟨by first | rfl | (simp; done) | (simp [*]; done), by repeat (first | exact Drawn0.refl _ | apply Drawn0.step)⟩

/-! ### spec_l07Event: function 12 -/
abbrev spec_l07Event.T : Bool := true
abbrev spec_l07Event.F : Bool := false
theorem spec_l07Event.b1_ {P Q : Prop} (q : Q) (h : Q → P := by intro q_; (with_reducible repeat (first | refine blk_drewN ?_ _ | refine blk_drew ?_ | refine blk_alloc ?_ _)); exact q_) : P := h q
theorem spec_l07Event.c1_ {w : World} {g : Nat} {t : TypeId} {cs : Array Value} (q : Aside0 (w.heap[g]? = some (.cells cs t (0, 0)))) (i : Nat) (v : Value) (h : cs[i]? = some v := by rfl) : w.cell? ⟨g, i, none⟩ = some v := (blk_cell q.out i).trans h
theorem spec_l07Event.f1_ {w : World} {g : Nat} {t : TypeId} {cs : Array Value} (q : Aside0 (w.heap[g]? = some (.cells cs t (0, 0)))) (i : Nat) : w.frozen? ⟨g, i, none⟩ = false := blk_frozen q.out i
def spec_l07Event.j0 : Nat → Bool → Int → Int → Int → Int → ByteArray → Int → Option (Bool)
  | 0, _, _, _, _, _, _, _ => none
  | k + 1, x16, x1000, x1001, x1002, x1003, x1004, x1005 => if x16 = true then (some false) else (if x1000 = 0 then ((spec_l01Tick.f x1003).bind fun t105 => (if t105 = true then ((spec_l01IsText.f k x1004).bind fun t106 => (if t106 = true then ((spec_l00In.f x1005 0 (wrap64 (x1001 - 1))).bind fun t107 => (some t107)) else (some false))) else (some false))) else (if x1000 = 1 then (if x1003 = 0 then ((spec_l01IsText.f k x1004).bind fun t108 => (if t108 = true then (some (x1005 == 0)) else (some false))) else (some false)) else (if x1000 = 2 then (if x1003 = 0 then (if x1004.toList = ([] : List UInt8) then (some (x1005 == 0)) else (some false)) else (some false)) else (if x1000 = 3 then (if x1003 = 0 then (if x1004.toList = ([] : List UInt8) then (some (x1005 == 0)) else (some false)) else (some false)) else (if x1000 = 4 then (if x1003 = 0 then (if x1004.toList = ([] : List UInt8) then (some (x1005 == 0)) else (some false)) else (some false)) else (some false))))))
def spec_l07Event.f (k : Nat) (a0_0 : Int) (a0_1 : Int) (a0_2 : Int) (a0_3 : Int) (a0_4 : ByteArray) (a0_5 : Int) : Option (Bool) := (spec_l00In.f a0_1 1 1000000000).bind fun t103 => (if t103 = true then ((spec_l01Member.f a0_2).bind fun t104 => (spec_l07Event.j0 k (!t104) a0_0 a0_1 a0_2 a0_3 a0_4 a0_5)) else (spec_l07Event.j0 k true a0_0 a0_1 a0_2 a0_3 a0_4 a0_5))
theorem spec_l07Event.mono_l : ∀ k, (∀ y0 y1 y2 y3 y4 y5 y6, LeO (spec_l07Event.j0 k y0 y1 y2 y3 y4 y5 y6) (spec_l07Event.j0 (k + 1) y0 y1 y2 y3 y4 y5 y6))
  | 0 => fun _ _ _ _ _ _ _ r h => by simp [spec_l07Event.j0] at h
  | k + 1 => by
    have ih0 := spec_l07Event.mono_l k
    · intro y0 y1 y2 y3 y4 y5 y6
      unfold spec_l07Event.j0
      repeat' first
      | (with_reducible exact ih0 _ _ _ _ _ _ _)
      | (with_reducible exact spec_l01IsText.mono _ _)
      | (with_reducible exact LeO.refl _)
      | (with_reducible exact LeO.none _)
      | (with_reducible refine LeO.ite ?_ ?_)
      | (with_reducible refine LeO.bind ?_ (fun _ => ?_))
      | exact ih0 _ _ _ _ _ _ _
      | exact spec_l01IsText.mono _ _
      | exact LeO.none _
      | refine LeO.ite ?_ ?_
      | refine LeO.bind ?_ (fun _ => ?_)
theorem spec_l07Event.mono : ∀ a0 a1 a2 a3 a4 a5 k, LeO (spec_l07Event.f k a0 a1 a2 a3 a4 a5) (spec_l07Event.f (k + 1) a0 a1 a2 a3 a4 a5) := by
  intro a0 a1 a2 a3 a4 a5 k
  have ih0 := spec_l07Event.mono_l k
  unfold spec_l07Event.f
  repeat' first
      | (with_reducible exact ih0 _ _ _ _ _ _ _)
      | (with_reducible exact spec_l01IsText.mono _ _)
      | (with_reducible exact LeO.refl _)
      | (with_reducible exact LeO.none _)
      | (with_reducible refine LeO.ite ?_ ?_)
      | (with_reducible refine LeO.bind ?_ (fun _ => ?_))
      | exact ih0 _ _ _ _ _ _ _
      | exact spec_l01IsText.mono _ _
      | exact LeO.none _
      | refine LeO.ite ?_ ?_
      | refine LeO.bind ?_ (fun _ => ?_)
set_option maxHeartbeats 8000000 in
set_option maxRecDepth 100000 in
theorem spec_l07Event.calls (k : Nat) (g0_ : Nat) (a0_0 : Int) (a0_1 : Int) (a0_2 : Int) (a0_3 : Int) (a0_4 : ByteArray) (a0_5 : Int) (r : Bool) (w : World) (hbk0 : w.heap[g0_]? = some (.cells #[.int .i64 a0_0, .int .i64 a0_1, .int .i64 a0_2, .int .i64 a0_3, .string a0_4, .int .i64 a0_5] 27 (0, 0))) (h : spec_l07Event.f k a0_0 a0_1 a0_2 a0_3 a0_4 a0_5 = some r) :
    Calls Tryd.prog 12 #[.pointer (some ⟨g0_, 0, none⟩)] w fun e w' => e = .returned (.bool r) ∧ Below w.heap.size w w' := by
 have BK0 := Aside0.mk hbk0
 clear hbk0
 have HB := Aside0.mk (Below.refl w.heap.size w)
 have H : ((spec_l00In.f a0_1 1 1000000000).bind fun t103 => (if t103 = true then ((spec_l01Member.f a0_2).bind fun t104 => (spec_l07Event.j0 k (!t104) a0_0 a0_1 a0_2 a0_3 a0_4 a0_5)) else (spec_l07Event.j0 k true a0_0 a0_1 a0_2 a0_3 a0_4 a0_5))) = some r := h
 clear h
 have HC2 := Aside0.mk H
 clear H
 go_enter Tryd.func12, Tryd.ntmps12
 go_upto_region 1 with (fail)
 repeat (go_quiet (fail); go_upto_region 1 with (fail))
 go_cut [16] (fun v16 wc => ∃ (kq : Nat) (x16_1 : Bool), v16 = .bool x16_1 ∧ Aside0 (spec_l07Event.j0 kq x16_1 a0_0 a0_1 a0_2 a0_3 a0_4 a0_5 = some r) ∧ Aside0 (kq ≤ k) ∧ Aside0 (wc.heap[g0_]? = some (.cells #[.int .i64 a0_0, .int .i64 a0_1, .int .i64 a0_2, .int .i64 a0_3, .string a0_4, .int .i64 a0_5] 27 (0, 0))) ∧ Aside0 (Below w.heap.size w wc))
 case first =>
  skip
  {
 have H := HC2.out
 clear HC2
 replace H := Option.bind_eq_some_iff.mp H
 obtain ⟨t103, A30, H⟩ := H
 replace H : (if t103 = true then ((spec_l01Member.f a0_2).bind fun t104 => (spec_l07Event.j0 k (!t104) a0_0 a0_1 a0_2 a0_3 a0_4 a0_5)) else (spec_l07Event.j0 k true a0_0 a0_1 a0_2 a0_3 a0_4 a0_5)) = some r := H
 have A3 := Aside0.mk A30
 clear A30
 by_cases c4 : t103 = true
 {
 subst c4
 have H1 : ((spec_l01Member.f a0_2).bind fun t104 => (spec_l07Event.j0 k (!t104) a0_0 a0_1 a0_2 a0_3 a0_4 a0_5)) = some r := by rw [if_pos rfl] at H; exact H
 clear H
 have H := H1
 clear H1
 replace H := Option.bind_eq_some_iff.mp H
 obtain ⟨t104, A50, H⟩ := H
 replace H : (spec_l07Event.j0 k (!t104) a0_0 a0_1 a0_2 a0_3 a0_4 a0_5) = some r := H
 have A5 := Aside0.mk A50
 clear A50
 have H' := Aside0.mk H
 clear H
 have hcz6_0 := c1_ BK0 0 (.int .i64 a0_0)
 have hcz6_1 := c1_ BK0 1 (.int .i64 a0_1)
 have hcz6_2 := c1_ BK0 2 (.int .i64 a0_2)
 have hcz6_3 := c1_ BK0 3 (.int .i64 a0_3)
 have hcz6_4 := c1_ BK0 4 (.string a0_4)
 have hcz6_5 := c1_ BK0 5 (.int .i64 a0_5)
 have hfz6_0 := f1_ BK0 0
 have hfz6_1 := f1_ BK0 1
 have hfz6_2 := f1_ BK0 2
 have hfz6_3 := f1_ BK0 3
 have hfz6_4 := f1_ BK0 4
 have hfz6_5 := f1_ BK0 5
 go_wp2_with (first | (go_at_call 19; (with_reducible refine (spec_l00In.calls a0_1 1 1000000000 true _ A3.out).mono ?_); rintro e w' ⟨rfl, ⟨nd, rfl⟩⟩; (try first | exact ⟨rfl, _, World.drewN_drewN _ _ _⟩ | exact ⟨rfl, _, Eq.trans (World.drewN_drewN _ _ _) (congrArg (World.drewN _) (Nat.add_assoc _ _ _))⟩)) | (go_at_call 20; (with_reducible refine (spec_l01Member.calls a0_2 t104 _ A5.out).mono ?_); rintro e w' ⟨rfl, ⟨nd, rfl⟩⟩; (try first | exact ⟨rfl, _, World.drewN_drewN _ _ _⟩ | exact ⟨rfl, _, Eq.trans (World.drewN_drewN _ _ _) (congrArg (World.drewN _) (Nat.add_assoc _ _ _))⟩)))
 repeat (go_quiet (first | (go_at_call 19; (with_reducible refine (spec_l00In.calls a0_1 1 1000000000 true _ A3.out).mono ?_); rintro e w' ⟨rfl, ⟨nd, rfl⟩⟩; (try first | exact ⟨rfl, _, World.drewN_drewN _ _ _⟩ | exact ⟨rfl, _, Eq.trans (World.drewN_drewN _ _ _) (congrArg (World.drewN _) (Nat.add_assoc _ _ _))⟩)) | (go_at_call 20; (with_reducible refine (spec_l01Member.calls a0_2 t104 _ A5.out).mono ?_); rintro e w' ⟨rfl, ⟨nd, rfl⟩⟩; (try first | exact ⟨rfl, _, World.drewN_drewN _ _ _⟩ | exact ⟨rfl, _, Eq.trans (World.drewN_drewN _ _ _) (congrArg (World.drewN _) (Nat.add_assoc _ _ _))⟩))); try go_wp2_with (first | (go_at_call 19; (with_reducible refine (spec_l00In.calls a0_1 1 1000000000 true _ A3.out).mono ?_); rintro e w' ⟨rfl, ⟨nd, rfl⟩⟩; (try first | exact ⟨rfl, _, World.drewN_drewN _ _ _⟩ | exact ⟨rfl, _, Eq.trans (World.drewN_drewN _ _ _) (congrArg (World.drewN _) (Nat.add_assoc _ _ _))⟩)) | (go_at_call 20; (with_reducible refine (spec_l01Member.calls a0_2 t104 _ A5.out).mono ?_); rintro e w' ⟨rfl, ⟨nd, rfl⟩⟩; (try first | exact ⟨rfl, _, World.drewN_drewN _ _ _⟩ | exact ⟨rfl, _, Eq.trans (World.drewN_drewN _ _ _) (congrArg (World.drewN _) (Nat.add_assoc _ _ _))⟩))))
 go_meet
 case rel => exact ⟨_, (!t104), (by first | rfl | (simp; done) | (simp [*]; done)), H', ⟨by first | omega | exact Nat.le_refl _⟩, ⟨b1_ BK0.out⟩, ⟨by repeat (first | (with_reducible first | exact HB.out | apply below_alloc | apply pw_below_drewN | apply below_drew1) | exact HB.out)⟩⟩}
 {
 replace c4 := Bool.eq_false_iff.mpr c4
 subst c4
 have H1 : (spec_l07Event.j0 k true a0_0 a0_1 a0_2 a0_3 a0_4 a0_5) = some r := by rw [if_neg (show ¬ (false = true) by decide)] at H; exact H
 clear H
 have H := H1
 clear H1
 have H' := Aside0.mk H
 clear H
 have hcz7_0 := c1_ BK0 0 (.int .i64 a0_0)
 have hcz7_1 := c1_ BK0 1 (.int .i64 a0_1)
 have hcz7_2 := c1_ BK0 2 (.int .i64 a0_2)
 have hcz7_3 := c1_ BK0 3 (.int .i64 a0_3)
 have hcz7_4 := c1_ BK0 4 (.string a0_4)
 have hcz7_5 := c1_ BK0 5 (.int .i64 a0_5)
 have hfz7_0 := f1_ BK0 0
 have hfz7_1 := f1_ BK0 1
 have hfz7_2 := f1_ BK0 2
 have hfz7_3 := f1_ BK0 3
 have hfz7_4 := f1_ BK0 4
 have hfz7_5 := f1_ BK0 5
 go_wp2_with (first | (go_at_call 19; (with_reducible refine (spec_l00In.calls a0_1 1 1000000000 false _ A3.out).mono ?_); rintro e w' ⟨rfl, ⟨nd, rfl⟩⟩; (try first | exact ⟨rfl, _, World.drewN_drewN _ _ _⟩ | exact ⟨rfl, _, Eq.trans (World.drewN_drewN _ _ _) (congrArg (World.drewN _) (Nat.add_assoc _ _ _))⟩)))
 repeat (go_quiet (first | (go_at_call 19; (with_reducible refine (spec_l00In.calls a0_1 1 1000000000 false _ A3.out).mono ?_); rintro e w' ⟨rfl, ⟨nd, rfl⟩⟩; (try first | exact ⟨rfl, _, World.drewN_drewN _ _ _⟩ | exact ⟨rfl, _, Eq.trans (World.drewN_drewN _ _ _) (congrArg (World.drewN _) (Nat.add_assoc _ _ _))⟩))); try go_wp2_with (first | (go_at_call 19; (with_reducible refine (spec_l00In.calls a0_1 1 1000000000 false _ A3.out).mono ?_); rintro e w' ⟨rfl, ⟨nd, rfl⟩⟩; (try first | exact ⟨rfl, _, World.drewN_drewN _ _ _⟩ | exact ⟨rfl, _, Eq.trans (World.drewN_drewN _ _ _) (congrArg (World.drewN _) (Nat.add_assoc _ _ _))⟩))))
 go_meet
 case rel => exact ⟨_, (true), (by first | rfl | (simp; done) | (simp [*]; done)), H', ⟨by first | omega | exact Nat.le_refl _⟩, ⟨b1_ BK0.out⟩, ⟨by repeat (first | (with_reducible first | exact HB.out | apply below_alloc | apply pw_below_drewN | apply below_drew1) | exact HB.out)⟩⟩}}
 case rest =>
  skip
  {
 clear HC2
 try clear c1
 try clear p2
 try clear c4
 try clear hcz6_0
 try clear hcz6_1
 try clear hcz6_2
 try clear hcz6_3
 try clear hcz6_4
 try clear hcz6_5
 try clear hcz7_0
 try clear hcz7_1
 try clear hcz7_2
 try clear hcz7_3
 try clear hcz7_4
 try clear hcz7_5
 try clear hfz6_0
 try clear hfz6_1
 try clear hfz6_2
 try clear hfz6_3
 try clear hfz6_4
 try clear hfz6_5
 try clear hfz7_0
 try clear hfz7_1
 try clear hfz7_2
 try clear hfz7_3
 try clear hfz7_4
 try clear hfz7_5
 obtain ⟨kq, x16_1, rfl, HA, HJ1, BK0, HB⟩ := hcut
 cases kq with
 | zero => exact absurd HA.out (by simp [spec_l07Event.j0])
 | succ kj1 =>
  skip
  {
 have H := HA.out
 clear HA
 simp only [spec_l07Event.j0] at H
 by_cases c8 : x16_1 = true
 {
 subst c8
 have H1 : (some false) = some r := by rw [if_pos rfl] at H; exact H
 clear H
 have H := H1
 clear H1
 obtain rfl := Option.some.inj H
 go_wp2
 repeat (go_quiet (fail); try go_wp2)
 go_ret
 exact ⟨by first | rfl | (simp [errW_none, errW_some] <;> rfl) | (simp [*, errW_none, errW_some] <;> rfl), by repeat (first | (with_reducible first | exact HB.out | apply below_alloc | apply pw_below_drewN | apply below_drew1) | exact HB.out)⟩}
 {
 replace c8 := Bool.eq_false_iff.mpr c8
 subst c8
 have H1 : (if a0_0 = 0 then ((spec_l01Tick.f a0_3).bind fun t105 => (if t105 = true then ((spec_l01IsText.f kj1 a0_4).bind fun t106 => (if t106 = true then ((spec_l00In.f a0_5 0 (wrap64 (a0_1 - 1))).bind fun t107 => (some t107)) else (some false))) else (some false))) else (if a0_0 = 1 then (if a0_3 = 0 then ((spec_l01IsText.f kj1 a0_4).bind fun t108 => (if t108 = true then (some (a0_5 == 0)) else (some false))) else (some false)) else (if a0_0 = 2 then (if a0_3 = 0 then (if a0_4.toList = ([] : List UInt8) then (some (a0_5 == 0)) else (some false)) else (some false)) else (if a0_0 = 3 then (if a0_3 = 0 then (if a0_4.toList = ([] : List UInt8) then (some (a0_5 == 0)) else (some false)) else (some false)) else (if a0_0 = 4 then (if a0_3 = 0 then (if a0_4.toList = ([] : List UInt8) then (some (a0_5 == 0)) else (some false)) else (some false)) else (some false)))))) = some r := by rw [if_neg (show ¬ (false = true) by decide)] at H; exact H
 clear H
 have H := H1
 clear H1
 by_cases c9 : a0_0 = 0
 {
 rw [if_pos c9] at H
 have c9b0 : (a0_0 == 0) = true := beq_iff_eq.mpr c9
 have c9b1 : (a0_0 != 0) = false := bne_eq_false_iff_eq.mpr c9
 clear c9
 replace H := Option.bind_eq_some_iff.mp H
 obtain ⟨t105, A100, H⟩ := H
 replace H : (if t105 = true then ((spec_l01IsText.f kj1 a0_4).bind fun t106 => (if t106 = true then ((spec_l00In.f a0_5 0 (wrap64 (a0_1 - 1))).bind fun t107 => (some t107)) else (some false))) else (some false)) = some r := H
 have A10 := Aside0.mk A100
 clear A100
 by_cases c11 : t105 = true
 {
 subst c11
 have H1 : ((spec_l01IsText.f kj1 a0_4).bind fun t106 => (if t106 = true then ((spec_l00In.f a0_5 0 (wrap64 (a0_1 - 1))).bind fun t107 => (some t107)) else (some false))) = some r := by rw [if_pos rfl] at H; exact H
 clear H
 have H := H1
 clear H1
 replace H := Option.bind_eq_some_iff.mp H
 obtain ⟨t106, A120, H⟩ := H
 replace H : (if t106 = true then ((spec_l00In.f a0_5 0 (wrap64 (a0_1 - 1))).bind fun t107 => (some t107)) else (some false)) = some r := H
 have A12 := Aside0.mk A120
 clear A120
 by_cases c13 : t106 = true
 {
 subst c13
 have H1 : ((spec_l00In.f a0_5 0 (wrap64 (a0_1 - 1))).bind fun t107 => (some t107)) = some r := by rw [if_pos rfl] at H; exact H
 clear H
 have H := H1
 clear H1
 replace H := Option.bind_eq_some_iff.mp H
 obtain ⟨t107, A140, H⟩ := H
 replace H : (some t107) = some r := H
 have A14 := Aside0.mk A140
 clear A140
 obtain rfl := Option.some.inj H
 have hcz15_0 := c1_ BK0 0 (.int .i64 a0_0)
 have hcz15_1 := c1_ BK0 1 (.int .i64 a0_1)
 have hcz15_2 := c1_ BK0 2 (.int .i64 a0_2)
 have hcz15_3 := c1_ BK0 3 (.int .i64 a0_3)
 have hcz15_4 := c1_ BK0 4 (.string a0_4)
 have hcz15_5 := c1_ BK0 5 (.int .i64 a0_5)
 have hfz15_0 := f1_ BK0 0
 have hfz15_1 := f1_ BK0 1
 have hfz15_2 := f1_ BK0 2
 have hfz15_3 := f1_ BK0 3
 have hfz15_4 := f1_ BK0 4
 have hfz15_5 := f1_ BK0 5
 go_wp2_with (first | (go_at_call 21; (with_reducible refine (spec_l01Tick.calls a0_3 true _ A10.out).mono ?_); rintro e w' ⟨rfl, ⟨nd, rfl⟩⟩; (try first | exact ⟨rfl, _, World.drewN_drewN _ _ _⟩ | exact ⟨rfl, _, Eq.trans (World.drewN_drewN _ _ _) (congrArg (World.drewN _) (Nat.add_assoc _ _ _))⟩)) | (go_at_call 22; (with_reducible refine (spec_l01IsText.calls kj1 a0_4 true _ A12.out).mono ?_); rintro e w' ⟨rfl, ⟨nd, rfl⟩⟩; (try first | exact ⟨rfl, _, World.drewN_drewN _ _ _⟩ | exact ⟨rfl, _, Eq.trans (World.drewN_drewN _ _ _) (congrArg (World.drewN _) (Nat.add_assoc _ _ _))⟩)) | (go_at_call 19; (with_reducible refine (spec_l00In.calls a0_5 0 (wrap64 (a0_1 - 1)) t107 _ A14.out).mono ?_); rintro e w' ⟨rfl, ⟨nd, rfl⟩⟩; (try first | exact ⟨rfl, _, World.drewN_drewN _ _ _⟩ | exact ⟨rfl, _, Eq.trans (World.drewN_drewN _ _ _) (congrArg (World.drewN _) (Nat.add_assoc _ _ _))⟩)))
 repeat (go_quiet (first | (go_at_call 21; (with_reducible refine (spec_l01Tick.calls a0_3 true _ A10.out).mono ?_); rintro e w' ⟨rfl, ⟨nd, rfl⟩⟩; (try first | exact ⟨rfl, _, World.drewN_drewN _ _ _⟩ | exact ⟨rfl, _, Eq.trans (World.drewN_drewN _ _ _) (congrArg (World.drewN _) (Nat.add_assoc _ _ _))⟩)) | (go_at_call 22; (with_reducible refine (spec_l01IsText.calls kj1 a0_4 true _ A12.out).mono ?_); rintro e w' ⟨rfl, ⟨nd, rfl⟩⟩; (try first | exact ⟨rfl, _, World.drewN_drewN _ _ _⟩ | exact ⟨rfl, _, Eq.trans (World.drewN_drewN _ _ _) (congrArg (World.drewN _) (Nat.add_assoc _ _ _))⟩)) | (go_at_call 19; (with_reducible refine (spec_l00In.calls a0_5 0 (wrap64 (a0_1 - 1)) t107 _ A14.out).mono ?_); rintro e w' ⟨rfl, ⟨nd, rfl⟩⟩; (try first | exact ⟨rfl, _, World.drewN_drewN _ _ _⟩ | exact ⟨rfl, _, Eq.trans (World.drewN_drewN _ _ _) (congrArg (World.drewN _) (Nat.add_assoc _ _ _))⟩))); try go_wp2_with (first | (go_at_call 21; (with_reducible refine (spec_l01Tick.calls a0_3 true _ A10.out).mono ?_); rintro e w' ⟨rfl, ⟨nd, rfl⟩⟩; (try first | exact ⟨rfl, _, World.drewN_drewN _ _ _⟩ | exact ⟨rfl, _, Eq.trans (World.drewN_drewN _ _ _) (congrArg (World.drewN _) (Nat.add_assoc _ _ _))⟩)) | (go_at_call 22; (with_reducible refine (spec_l01IsText.calls kj1 a0_4 true _ A12.out).mono ?_); rintro e w' ⟨rfl, ⟨nd, rfl⟩⟩; (try first | exact ⟨rfl, _, World.drewN_drewN _ _ _⟩ | exact ⟨rfl, _, Eq.trans (World.drewN_drewN _ _ _) (congrArg (World.drewN _) (Nat.add_assoc _ _ _))⟩)) | (go_at_call 19; (with_reducible refine (spec_l00In.calls a0_5 0 (wrap64 (a0_1 - 1)) t107 _ A14.out).mono ?_); rintro e w' ⟨rfl, ⟨nd, rfl⟩⟩; (try first | exact ⟨rfl, _, World.drewN_drewN _ _ _⟩ | exact ⟨rfl, _, Eq.trans (World.drewN_drewN _ _ _) (congrArg (World.drewN _) (Nat.add_assoc _ _ _))⟩))))
 go_ret
 exact ⟨by first | rfl | (simp [errW_none, errW_some] <;> rfl) | (simp [*, errW_none, errW_some] <;> rfl), by repeat (first | (with_reducible first | exact HB.out | apply below_alloc | apply pw_below_drewN | apply below_drew1) | exact HB.out)⟩}
 {
 replace c13 := Bool.eq_false_iff.mpr c13
 subst c13
 have H1 : (some false) = some r := by rw [if_neg (show ¬ (false = true) by decide)] at H; exact H
 clear H
 have H := H1
 clear H1
 obtain rfl := Option.some.inj H
 have hcz16_0 := c1_ BK0 0 (.int .i64 a0_0)
 have hcz16_1 := c1_ BK0 1 (.int .i64 a0_1)
 have hcz16_2 := c1_ BK0 2 (.int .i64 a0_2)
 have hcz16_3 := c1_ BK0 3 (.int .i64 a0_3)
 have hcz16_4 := c1_ BK0 4 (.string a0_4)
 have hcz16_5 := c1_ BK0 5 (.int .i64 a0_5)
 have hfz16_0 := f1_ BK0 0
 have hfz16_1 := f1_ BK0 1
 have hfz16_2 := f1_ BK0 2
 have hfz16_3 := f1_ BK0 3
 have hfz16_4 := f1_ BK0 4
 have hfz16_5 := f1_ BK0 5
 go_wp2_with (first | (go_at_call 21; (with_reducible refine (spec_l01Tick.calls a0_3 true _ A10.out).mono ?_); rintro e w' ⟨rfl, ⟨nd, rfl⟩⟩; (try first | exact ⟨rfl, _, World.drewN_drewN _ _ _⟩ | exact ⟨rfl, _, Eq.trans (World.drewN_drewN _ _ _) (congrArg (World.drewN _) (Nat.add_assoc _ _ _))⟩)) | (go_at_call 22; (with_reducible refine (spec_l01IsText.calls kj1 a0_4 false _ A12.out).mono ?_); rintro e w' ⟨rfl, ⟨nd, rfl⟩⟩; (try first | exact ⟨rfl, _, World.drewN_drewN _ _ _⟩ | exact ⟨rfl, _, Eq.trans (World.drewN_drewN _ _ _) (congrArg (World.drewN _) (Nat.add_assoc _ _ _))⟩)))
 repeat (go_quiet (first | (go_at_call 21; (with_reducible refine (spec_l01Tick.calls a0_3 true _ A10.out).mono ?_); rintro e w' ⟨rfl, ⟨nd, rfl⟩⟩; (try first | exact ⟨rfl, _, World.drewN_drewN _ _ _⟩ | exact ⟨rfl, _, Eq.trans (World.drewN_drewN _ _ _) (congrArg (World.drewN _) (Nat.add_assoc _ _ _))⟩)) | (go_at_call 22; (with_reducible refine (spec_l01IsText.calls kj1 a0_4 false _ A12.out).mono ?_); rintro e w' ⟨rfl, ⟨nd, rfl⟩⟩; (try first | exact ⟨rfl, _, World.drewN_drewN _ _ _⟩ | exact ⟨rfl, _, Eq.trans (World.drewN_drewN _ _ _) (congrArg (World.drewN _) (Nat.add_assoc _ _ _))⟩))); try go_wp2_with (first | (go_at_call 21; (with_reducible refine (spec_l01Tick.calls a0_3 true _ A10.out).mono ?_); rintro e w' ⟨rfl, ⟨nd, rfl⟩⟩; (try first | exact ⟨rfl, _, World.drewN_drewN _ _ _⟩ | exact ⟨rfl, _, Eq.trans (World.drewN_drewN _ _ _) (congrArg (World.drewN _) (Nat.add_assoc _ _ _))⟩)) | (go_at_call 22; (with_reducible refine (spec_l01IsText.calls kj1 a0_4 false _ A12.out).mono ?_); rintro e w' ⟨rfl, ⟨nd, rfl⟩⟩; (try first | exact ⟨rfl, _, World.drewN_drewN _ _ _⟩ | exact ⟨rfl, _, Eq.trans (World.drewN_drewN _ _ _) (congrArg (World.drewN _) (Nat.add_assoc _ _ _))⟩))))
 go_ret
 exact ⟨by first | rfl | (simp [errW_none, errW_some] <;> rfl) | (simp [*, errW_none, errW_some] <;> rfl), by repeat (first | (with_reducible first | exact HB.out | apply below_alloc | apply pw_below_drewN | apply below_drew1) | exact HB.out)⟩}}
 {
 replace c11 := Bool.eq_false_iff.mpr c11
 subst c11
 have H1 : (some false) = some r := by rw [if_neg (show ¬ (false = true) by decide)] at H; exact H
 clear H
 have H := H1
 clear H1
 obtain rfl := Option.some.inj H
 have hcz17_0 := c1_ BK0 0 (.int .i64 a0_0)
 have hcz17_1 := c1_ BK0 1 (.int .i64 a0_1)
 have hcz17_2 := c1_ BK0 2 (.int .i64 a0_2)
 have hcz17_3 := c1_ BK0 3 (.int .i64 a0_3)
 have hcz17_4 := c1_ BK0 4 (.string a0_4)
 have hcz17_5 := c1_ BK0 5 (.int .i64 a0_5)
 have hfz17_0 := f1_ BK0 0
 have hfz17_1 := f1_ BK0 1
 have hfz17_2 := f1_ BK0 2
 have hfz17_3 := f1_ BK0 3
 have hfz17_4 := f1_ BK0 4
 have hfz17_5 := f1_ BK0 5
 go_wp2_with (first | (go_at_call 21; (with_reducible refine (spec_l01Tick.calls a0_3 false _ A10.out).mono ?_); rintro e w' ⟨rfl, ⟨nd, rfl⟩⟩; (try first | exact ⟨rfl, _, World.drewN_drewN _ _ _⟩ | exact ⟨rfl, _, Eq.trans (World.drewN_drewN _ _ _) (congrArg (World.drewN _) (Nat.add_assoc _ _ _))⟩)))
 repeat (go_quiet (first | (go_at_call 21; (with_reducible refine (spec_l01Tick.calls a0_3 false _ A10.out).mono ?_); rintro e w' ⟨rfl, ⟨nd, rfl⟩⟩; (try first | exact ⟨rfl, _, World.drewN_drewN _ _ _⟩ | exact ⟨rfl, _, Eq.trans (World.drewN_drewN _ _ _) (congrArg (World.drewN _) (Nat.add_assoc _ _ _))⟩))); try go_wp2_with (first | (go_at_call 21; (with_reducible refine (spec_l01Tick.calls a0_3 false _ A10.out).mono ?_); rintro e w' ⟨rfl, ⟨nd, rfl⟩⟩; (try first | exact ⟨rfl, _, World.drewN_drewN _ _ _⟩ | exact ⟨rfl, _, Eq.trans (World.drewN_drewN _ _ _) (congrArg (World.drewN _) (Nat.add_assoc _ _ _))⟩))))
 go_ret
 exact ⟨by first | rfl | (simp [errW_none, errW_some] <;> rfl) | (simp [*, errW_none, errW_some] <;> rfl), by repeat (first | (with_reducible first | exact HB.out | apply below_alloc | apply pw_below_drewN | apply below_drew1) | exact HB.out)⟩}}
 {
 rw [if_neg c9] at H
 have c9b0 : (a0_0 == 0) = false := beq_eq_false_iff_ne.mpr c9
 have c9b1 : (a0_0 != 0) = true := bne_iff_ne.mpr c9
 by_cases c18 : a0_0 = 1
 {
 rw [if_pos c18] at H
 have c18b0 : (a0_0 == 1) = true := beq_iff_eq.mpr c18
 have c18b1 : (a0_0 != 1) = false := bne_eq_false_iff_eq.mpr c18
 clear c18
 by_cases c19 : a0_3 = 0
 {
 rw [if_pos c19] at H
 have c19b0 : (a0_3 == 0) = true := beq_iff_eq.mpr c19
 have c19b1 : (a0_3 != 0) = false := bne_eq_false_iff_eq.mpr c19
 clear c19
 replace H := Option.bind_eq_some_iff.mp H
 obtain ⟨t108, A200, H⟩ := H
 replace H : (if t108 = true then (some (a0_5 == 0)) else (some false)) = some r := H
 have A20 := Aside0.mk A200
 clear A200
 by_cases c21 : t108 = true
 {
 subst c21
 have H1 : (some (a0_5 == 0)) = some r := by rw [if_pos rfl] at H; exact H
 clear H
 have H := H1
 clear H1
 obtain rfl := Option.some.inj H
 have hcz22_0 := c1_ BK0 0 (.int .i64 a0_0)
 have hcz22_1 := c1_ BK0 1 (.int .i64 a0_1)
 have hcz22_2 := c1_ BK0 2 (.int .i64 a0_2)
 have hcz22_3 := c1_ BK0 3 (.int .i64 a0_3)
 have hcz22_4 := c1_ BK0 4 (.string a0_4)
 have hcz22_5 := c1_ BK0 5 (.int .i64 a0_5)
 have hfz22_0 := f1_ BK0 0
 have hfz22_1 := f1_ BK0 1
 have hfz22_2 := f1_ BK0 2
 have hfz22_3 := f1_ BK0 3
 have hfz22_4 := f1_ BK0 4
 have hfz22_5 := f1_ BK0 5
 go_wp2_with (first | (go_at_call 22; (with_reducible refine (spec_l01IsText.calls kj1 a0_4 true _ A20.out).mono ?_); rintro e w' ⟨rfl, ⟨nd, rfl⟩⟩; (try first | exact ⟨rfl, _, World.drewN_drewN _ _ _⟩ | exact ⟨rfl, _, Eq.trans (World.drewN_drewN _ _ _) (congrArg (World.drewN _) (Nat.add_assoc _ _ _))⟩)))
 repeat (go_quiet (first | (go_at_call 22; (with_reducible refine (spec_l01IsText.calls kj1 a0_4 true _ A20.out).mono ?_); rintro e w' ⟨rfl, ⟨nd, rfl⟩⟩; (try first | exact ⟨rfl, _, World.drewN_drewN _ _ _⟩ | exact ⟨rfl, _, Eq.trans (World.drewN_drewN _ _ _) (congrArg (World.drewN _) (Nat.add_assoc _ _ _))⟩))); try go_wp2_with (first | (go_at_call 22; (with_reducible refine (spec_l01IsText.calls kj1 a0_4 true _ A20.out).mono ?_); rintro e w' ⟨rfl, ⟨nd, rfl⟩⟩; (try first | exact ⟨rfl, _, World.drewN_drewN _ _ _⟩ | exact ⟨rfl, _, Eq.trans (World.drewN_drewN _ _ _) (congrArg (World.drewN _) (Nat.add_assoc _ _ _))⟩))))
 go_ret
 exact ⟨by first | rfl | (simp [errW_none, errW_some] <;> rfl) | (simp [*, errW_none, errW_some] <;> rfl), by repeat (first | (with_reducible first | exact HB.out | apply below_alloc | apply pw_below_drewN | apply below_drew1) | exact HB.out)⟩}
 {
 replace c21 := Bool.eq_false_iff.mpr c21
 subst c21
 have H1 : (some false) = some r := by rw [if_neg (show ¬ (false = true) by decide)] at H; exact H
 clear H
 have H := H1
 clear H1
 obtain rfl := Option.some.inj H
 have hcz23_0 := c1_ BK0 0 (.int .i64 a0_0)
 have hcz23_1 := c1_ BK0 1 (.int .i64 a0_1)
 have hcz23_2 := c1_ BK0 2 (.int .i64 a0_2)
 have hcz23_3 := c1_ BK0 3 (.int .i64 a0_3)
 have hcz23_4 := c1_ BK0 4 (.string a0_4)
 have hcz23_5 := c1_ BK0 5 (.int .i64 a0_5)
 have hfz23_0 := f1_ BK0 0
 have hfz23_1 := f1_ BK0 1
 have hfz23_2 := f1_ BK0 2
 have hfz23_3 := f1_ BK0 3
 have hfz23_4 := f1_ BK0 4
 have hfz23_5 := f1_ BK0 5
 go_wp2_with (first | (go_at_call 22; (with_reducible refine (spec_l01IsText.calls kj1 a0_4 false _ A20.out).mono ?_); rintro e w' ⟨rfl, ⟨nd, rfl⟩⟩; (try first | exact ⟨rfl, _, World.drewN_drewN _ _ _⟩ | exact ⟨rfl, _, Eq.trans (World.drewN_drewN _ _ _) (congrArg (World.drewN _) (Nat.add_assoc _ _ _))⟩)))
 repeat (go_quiet (first | (go_at_call 22; (with_reducible refine (spec_l01IsText.calls kj1 a0_4 false _ A20.out).mono ?_); rintro e w' ⟨rfl, ⟨nd, rfl⟩⟩; (try first | exact ⟨rfl, _, World.drewN_drewN _ _ _⟩ | exact ⟨rfl, _, Eq.trans (World.drewN_drewN _ _ _) (congrArg (World.drewN _) (Nat.add_assoc _ _ _))⟩))); try go_wp2_with (first | (go_at_call 22; (with_reducible refine (spec_l01IsText.calls kj1 a0_4 false _ A20.out).mono ?_); rintro e w' ⟨rfl, ⟨nd, rfl⟩⟩; (try first | exact ⟨rfl, _, World.drewN_drewN _ _ _⟩ | exact ⟨rfl, _, Eq.trans (World.drewN_drewN _ _ _) (congrArg (World.drewN _) (Nat.add_assoc _ _ _))⟩))))
 go_ret
 exact ⟨by first | rfl | (simp [errW_none, errW_some] <;> rfl) | (simp [*, errW_none, errW_some] <;> rfl), by repeat (first | (with_reducible first | exact HB.out | apply below_alloc | apply pw_below_drewN | apply below_drew1) | exact HB.out)⟩}}
 {
 rw [if_neg c19] at H
 have c19b0 : (a0_3 == 0) = false := beq_eq_false_iff_ne.mpr c19
 have c19b1 : (a0_3 != 0) = true := bne_iff_ne.mpr c19
 obtain rfl := Option.some.inj H
 have hcz24_0 := c1_ BK0 0 (.int .i64 a0_0)
 have hcz24_1 := c1_ BK0 1 (.int .i64 a0_1)
 have hcz24_2 := c1_ BK0 2 (.int .i64 a0_2)
 have hcz24_3 := c1_ BK0 3 (.int .i64 a0_3)
 have hcz24_4 := c1_ BK0 4 (.string a0_4)
 have hcz24_5 := c1_ BK0 5 (.int .i64 a0_5)
 have hfz24_0 := f1_ BK0 0
 have hfz24_1 := f1_ BK0 1
 have hfz24_2 := f1_ BK0 2
 have hfz24_3 := f1_ BK0 3
 have hfz24_4 := f1_ BK0 4
 have hfz24_5 := f1_ BK0 5
 go_wp2
 repeat (go_quiet (fail); try go_wp2)
 go_ret
 exact ⟨by first | rfl | (simp [errW_none, errW_some] <;> rfl) | (simp [*, errW_none, errW_some] <;> rfl), by repeat (first | (with_reducible first | exact HB.out | apply below_alloc | apply pw_below_drewN | apply below_drew1) | exact HB.out)⟩}}
 {
 rw [if_neg c18] at H
 have c18b0 : (a0_0 == 1) = false := beq_eq_false_iff_ne.mpr c18
 have c18b1 : (a0_0 != 1) = true := bne_iff_ne.mpr c18
 by_cases c25 : a0_0 = 2
 {
 rw [if_pos c25] at H
 have c25b0 : (a0_0 == 2) = true := beq_iff_eq.mpr c25
 have c25b1 : (a0_0 != 2) = false := bne_eq_false_iff_eq.mpr c25
 clear c25
 by_cases c26 : a0_3 = 0
 {
 rw [if_pos c26] at H
 have c26b0 : (a0_3 == 0) = true := beq_iff_eq.mpr c26
 have c26b1 : (a0_3 != 0) = false := bne_eq_false_iff_eq.mpr c26
 clear c26
 by_cases c27 : a0_4.toList = ([] : List UInt8)
 {
 rw [if_pos c27] at H
 have c27b0 : (a0_4.toList == ([] : List UInt8)) = true := beq_iff_eq.mpr c27
 have c27b1 : (a0_4.toList != ([] : List UInt8)) = false := bne_eq_false_iff_eq.mpr c27
 clear c27
 obtain rfl := Option.some.inj H
 have hcz28_0 := c1_ BK0 0 (.int .i64 a0_0)
 have hcz28_1 := c1_ BK0 1 (.int .i64 a0_1)
 have hcz28_2 := c1_ BK0 2 (.int .i64 a0_2)
 have hcz28_3 := c1_ BK0 3 (.int .i64 a0_3)
 have hcz28_4 := c1_ BK0 4 (.string a0_4)
 have hcz28_5 := c1_ BK0 5 (.int .i64 a0_5)
 have hfz28_0 := f1_ BK0 0
 have hfz28_1 := f1_ BK0 1
 have hfz28_2 := f1_ BK0 2
 have hfz28_3 := f1_ BK0 3
 have hfz28_4 := f1_ BK0 4
 have hfz28_5 := f1_ BK0 5
 go_wp2
 repeat (go_quiet (fail); try go_wp2)
 go_ret
 exact ⟨by first | rfl | (simp [errW_none, errW_some] <;> rfl) | (simp [*, errW_none, errW_some] <;> rfl), by repeat (first | (with_reducible first | exact HB.out | apply below_alloc | apply pw_below_drewN | apply below_drew1) | exact HB.out)⟩}
 {
 rw [if_neg c27] at H
 have c27b0 : (a0_4.toList == ([] : List UInt8)) = false := beq_eq_false_iff_ne.mpr c27
 have c27b1 : (a0_4.toList != ([] : List UInt8)) = true := bne_iff_ne.mpr c27
 obtain rfl := Option.some.inj H
 have hcz29_0 := c1_ BK0 0 (.int .i64 a0_0)
 have hcz29_1 := c1_ BK0 1 (.int .i64 a0_1)
 have hcz29_2 := c1_ BK0 2 (.int .i64 a0_2)
 have hcz29_3 := c1_ BK0 3 (.int .i64 a0_3)
 have hcz29_4 := c1_ BK0 4 (.string a0_4)
 have hcz29_5 := c1_ BK0 5 (.int .i64 a0_5)
 have hfz29_0 := f1_ BK0 0
 have hfz29_1 := f1_ BK0 1
 have hfz29_2 := f1_ BK0 2
 have hfz29_3 := f1_ BK0 3
 have hfz29_4 := f1_ BK0 4
 have hfz29_5 := f1_ BK0 5
 go_wp2
 repeat (go_quiet (fail); try go_wp2)
 go_ret
 exact ⟨by first | rfl | (simp [errW_none, errW_some] <;> rfl) | (simp [*, errW_none, errW_some] <;> rfl), by repeat (first | (with_reducible first | exact HB.out | apply below_alloc | apply pw_below_drewN | apply below_drew1) | exact HB.out)⟩}}
 {
 rw [if_neg c26] at H
 have c26b0 : (a0_3 == 0) = false := beq_eq_false_iff_ne.mpr c26
 have c26b1 : (a0_3 != 0) = true := bne_iff_ne.mpr c26
 obtain rfl := Option.some.inj H
 have hcz30_0 := c1_ BK0 0 (.int .i64 a0_0)
 have hcz30_1 := c1_ BK0 1 (.int .i64 a0_1)
 have hcz30_2 := c1_ BK0 2 (.int .i64 a0_2)
 have hcz30_3 := c1_ BK0 3 (.int .i64 a0_3)
 have hcz30_4 := c1_ BK0 4 (.string a0_4)
 have hcz30_5 := c1_ BK0 5 (.int .i64 a0_5)
 have hfz30_0 := f1_ BK0 0
 have hfz30_1 := f1_ BK0 1
 have hfz30_2 := f1_ BK0 2
 have hfz30_3 := f1_ BK0 3
 have hfz30_4 := f1_ BK0 4
 have hfz30_5 := f1_ BK0 5
 go_wp2
 repeat (go_quiet (fail); try go_wp2)
 go_ret
 exact ⟨by first | rfl | (simp [errW_none, errW_some] <;> rfl) | (simp [*, errW_none, errW_some] <;> rfl), by repeat (first | (with_reducible first | exact HB.out | apply below_alloc | apply pw_below_drewN | apply below_drew1) | exact HB.out)⟩}}
 {
 rw [if_neg c25] at H
 have c25b0 : (a0_0 == 2) = false := beq_eq_false_iff_ne.mpr c25
 have c25b1 : (a0_0 != 2) = true := bne_iff_ne.mpr c25
 by_cases c31 : a0_0 = 3
 {
 rw [if_pos c31] at H
 have c31b0 : (a0_0 == 3) = true := beq_iff_eq.mpr c31
 have c31b1 : (a0_0 != 3) = false := bne_eq_false_iff_eq.mpr c31
 clear c31
 by_cases c32 : a0_3 = 0
 {
 rw [if_pos c32] at H
 have c32b0 : (a0_3 == 0) = true := beq_iff_eq.mpr c32
 have c32b1 : (a0_3 != 0) = false := bne_eq_false_iff_eq.mpr c32
 clear c32
 by_cases c33 : a0_4.toList = ([] : List UInt8)
 {
 rw [if_pos c33] at H
 have c33b0 : (a0_4.toList == ([] : List UInt8)) = true := beq_iff_eq.mpr c33
 have c33b1 : (a0_4.toList != ([] : List UInt8)) = false := bne_eq_false_iff_eq.mpr c33
 clear c33
 obtain rfl := Option.some.inj H
 have hcz34_0 := c1_ BK0 0 (.int .i64 a0_0)
 have hcz34_1 := c1_ BK0 1 (.int .i64 a0_1)
 have hcz34_2 := c1_ BK0 2 (.int .i64 a0_2)
 have hcz34_3 := c1_ BK0 3 (.int .i64 a0_3)
 have hcz34_4 := c1_ BK0 4 (.string a0_4)
 have hcz34_5 := c1_ BK0 5 (.int .i64 a0_5)
 have hfz34_0 := f1_ BK0 0
 have hfz34_1 := f1_ BK0 1
 have hfz34_2 := f1_ BK0 2
 have hfz34_3 := f1_ BK0 3
 have hfz34_4 := f1_ BK0 4
 have hfz34_5 := f1_ BK0 5
 go_wp2
 repeat (go_quiet (fail); try go_wp2)
 go_ret
 exact ⟨by first | rfl | (simp [errW_none, errW_some] <;> rfl) | (simp [*, errW_none, errW_some] <;> rfl), by repeat (first | (with_reducible first | exact HB.out | apply below_alloc | apply pw_below_drewN | apply below_drew1) | exact HB.out)⟩}
 {
 rw [if_neg c33] at H
 have c33b0 : (a0_4.toList == ([] : List UInt8)) = false := beq_eq_false_iff_ne.mpr c33
 have c33b1 : (a0_4.toList != ([] : List UInt8)) = true := bne_iff_ne.mpr c33
 obtain rfl := Option.some.inj H
 have hcz35_0 := c1_ BK0 0 (.int .i64 a0_0)
 have hcz35_1 := c1_ BK0 1 (.int .i64 a0_1)
 have hcz35_2 := c1_ BK0 2 (.int .i64 a0_2)
 have hcz35_3 := c1_ BK0 3 (.int .i64 a0_3)
 have hcz35_4 := c1_ BK0 4 (.string a0_4)
 have hcz35_5 := c1_ BK0 5 (.int .i64 a0_5)
 have hfz35_0 := f1_ BK0 0
 have hfz35_1 := f1_ BK0 1
 have hfz35_2 := f1_ BK0 2
 have hfz35_3 := f1_ BK0 3
 have hfz35_4 := f1_ BK0 4
 have hfz35_5 := f1_ BK0 5
 go_wp2
 repeat (go_quiet (fail); try go_wp2)
 go_ret
 exact ⟨by first | rfl | (simp [errW_none, errW_some] <;> rfl) | (simp [*, errW_none, errW_some] <;> rfl), by repeat (first | (with_reducible first | exact HB.out | apply below_alloc | apply pw_below_drewN | apply below_drew1) | exact HB.out)⟩}}
 {
 rw [if_neg c32] at H
 have c32b0 : (a0_3 == 0) = false := beq_eq_false_iff_ne.mpr c32
 have c32b1 : (a0_3 != 0) = true := bne_iff_ne.mpr c32
 obtain rfl := Option.some.inj H
 have hcz36_0 := c1_ BK0 0 (.int .i64 a0_0)
 have hcz36_1 := c1_ BK0 1 (.int .i64 a0_1)
 have hcz36_2 := c1_ BK0 2 (.int .i64 a0_2)
 have hcz36_3 := c1_ BK0 3 (.int .i64 a0_3)
 have hcz36_4 := c1_ BK0 4 (.string a0_4)
 have hcz36_5 := c1_ BK0 5 (.int .i64 a0_5)
 have hfz36_0 := f1_ BK0 0
 have hfz36_1 := f1_ BK0 1
 have hfz36_2 := f1_ BK0 2
 have hfz36_3 := f1_ BK0 3
 have hfz36_4 := f1_ BK0 4
 have hfz36_5 := f1_ BK0 5
 go_wp2
 repeat (go_quiet (fail); try go_wp2)
 go_ret
 exact ⟨by first | rfl | (simp [errW_none, errW_some] <;> rfl) | (simp [*, errW_none, errW_some] <;> rfl), by repeat (first | (with_reducible first | exact HB.out | apply below_alloc | apply pw_below_drewN | apply below_drew1) | exact HB.out)⟩}}
 {
 rw [if_neg c31] at H
 have c31b0 : (a0_0 == 3) = false := beq_eq_false_iff_ne.mpr c31
 have c31b1 : (a0_0 != 3) = true := bne_iff_ne.mpr c31
 by_cases c37 : a0_0 = 4
 {
 rw [if_pos c37] at H
 have c37b0 : (a0_0 == 4) = true := beq_iff_eq.mpr c37
 have c37b1 : (a0_0 != 4) = false := bne_eq_false_iff_eq.mpr c37
 clear c37
 by_cases c38 : a0_3 = 0
 {
 rw [if_pos c38] at H
 have c38b0 : (a0_3 == 0) = true := beq_iff_eq.mpr c38
 have c38b1 : (a0_3 != 0) = false := bne_eq_false_iff_eq.mpr c38
 clear c38
 by_cases c39 : a0_4.toList = ([] : List UInt8)
 {
 rw [if_pos c39] at H
 have c39b0 : (a0_4.toList == ([] : List UInt8)) = true := beq_iff_eq.mpr c39
 have c39b1 : (a0_4.toList != ([] : List UInt8)) = false := bne_eq_false_iff_eq.mpr c39
 clear c39
 obtain rfl := Option.some.inj H
 have hcz40_0 := c1_ BK0 0 (.int .i64 a0_0)
 have hcz40_1 := c1_ BK0 1 (.int .i64 a0_1)
 have hcz40_2 := c1_ BK0 2 (.int .i64 a0_2)
 have hcz40_3 := c1_ BK0 3 (.int .i64 a0_3)
 have hcz40_4 := c1_ BK0 4 (.string a0_4)
 have hcz40_5 := c1_ BK0 5 (.int .i64 a0_5)
 have hfz40_0 := f1_ BK0 0
 have hfz40_1 := f1_ BK0 1
 have hfz40_2 := f1_ BK0 2
 have hfz40_3 := f1_ BK0 3
 have hfz40_4 := f1_ BK0 4
 have hfz40_5 := f1_ BK0 5
 go_wp2
 repeat (go_quiet (fail); try go_wp2)
 go_ret
 exact ⟨by first | rfl | (simp [errW_none, errW_some] <;> rfl) | (simp [*, errW_none, errW_some] <;> rfl), by repeat (first | (with_reducible first | exact HB.out | apply below_alloc | apply pw_below_drewN | apply below_drew1) | exact HB.out)⟩}
 {
 rw [if_neg c39] at H
 have c39b0 : (a0_4.toList == ([] : List UInt8)) = false := beq_eq_false_iff_ne.mpr c39
 have c39b1 : (a0_4.toList != ([] : List UInt8)) = true := bne_iff_ne.mpr c39
 obtain rfl := Option.some.inj H
 have hcz41_0 := c1_ BK0 0 (.int .i64 a0_0)
 have hcz41_1 := c1_ BK0 1 (.int .i64 a0_1)
 have hcz41_2 := c1_ BK0 2 (.int .i64 a0_2)
 have hcz41_3 := c1_ BK0 3 (.int .i64 a0_3)
 have hcz41_4 := c1_ BK0 4 (.string a0_4)
 have hcz41_5 := c1_ BK0 5 (.int .i64 a0_5)
 have hfz41_0 := f1_ BK0 0
 have hfz41_1 := f1_ BK0 1
 have hfz41_2 := f1_ BK0 2
 have hfz41_3 := f1_ BK0 3
 have hfz41_4 := f1_ BK0 4
 have hfz41_5 := f1_ BK0 5
 go_wp2
 repeat (go_quiet (fail); try go_wp2)
 go_ret
 exact ⟨by first | rfl | (simp [errW_none, errW_some] <;> rfl) | (simp [*, errW_none, errW_some] <;> rfl), by repeat (first | (with_reducible first | exact HB.out | apply below_alloc | apply pw_below_drewN | apply below_drew1) | exact HB.out)⟩}}
 {
 rw [if_neg c38] at H
 have c38b0 : (a0_3 == 0) = false := beq_eq_false_iff_ne.mpr c38
 have c38b1 : (a0_3 != 0) = true := bne_iff_ne.mpr c38
 obtain rfl := Option.some.inj H
 have hcz42_0 := c1_ BK0 0 (.int .i64 a0_0)
 have hcz42_1 := c1_ BK0 1 (.int .i64 a0_1)
 have hcz42_2 := c1_ BK0 2 (.int .i64 a0_2)
 have hcz42_3 := c1_ BK0 3 (.int .i64 a0_3)
 have hcz42_4 := c1_ BK0 4 (.string a0_4)
 have hcz42_5 := c1_ BK0 5 (.int .i64 a0_5)
 have hfz42_0 := f1_ BK0 0
 have hfz42_1 := f1_ BK0 1
 have hfz42_2 := f1_ BK0 2
 have hfz42_3 := f1_ BK0 3
 have hfz42_4 := f1_ BK0 4
 have hfz42_5 := f1_ BK0 5
 go_wp2
 repeat (go_quiet (fail); try go_wp2)
 go_ret
 exact ⟨by first | rfl | (simp [errW_none, errW_some] <;> rfl) | (simp [*, errW_none, errW_some] <;> rfl), by repeat (first | (with_reducible first | exact HB.out | apply below_alloc | apply pw_below_drewN | apply below_drew1) | exact HB.out)⟩}}
 {
 rw [if_neg c37] at H
 have c37b0 : (a0_0 == 4) = false := beq_eq_false_iff_ne.mpr c37
 have c37b1 : (a0_0 != 4) = true := bne_iff_ne.mpr c37
 obtain rfl := Option.some.inj H
 have hcz43_0 := c1_ BK0 0 (.int .i64 a0_0)
 have hcz43_1 := c1_ BK0 1 (.int .i64 a0_1)
 have hcz43_2 := c1_ BK0 2 (.int .i64 a0_2)
 have hcz43_3 := c1_ BK0 3 (.int .i64 a0_3)
 have hcz43_4 := c1_ BK0 4 (.string a0_4)
 have hcz43_5 := c1_ BK0 5 (.int .i64 a0_5)
 have hfz43_0 := f1_ BK0 0
 have hfz43_1 := f1_ BK0 1
 have hfz43_2 := f1_ BK0 2
 have hfz43_3 := f1_ BK0 3
 have hfz43_4 := f1_ BK0 4
 have hfz43_5 := f1_ BK0 5
 go_wp2
 repeat (go_quiet (fail); try go_wp2)
 go_ret
 exact ⟨by first | rfl | (simp [errW_none, errW_some] <;> rfl) | (simp [*, errW_none, errW_some] <;> rfl), by repeat (first | (with_reducible first | exact HB.out | apply below_alloc | apply pw_below_drewN | apply below_drew1) | exact HB.out)⟩}}}}}}}}

end Go.Proofs.YtgmbgpjebpgpkaaDoor.QFnExactReadEvent
