-- written by a program of this session, on the lines of the kit's print
import Derived.Test.YtgmbgpjebpgpkaaDoorQFnExactReadEventx0
namespace Go.Proofs.YtgmbgpjebpgpkaaDoor.QFnExactReadEvent
open Go.RowKit Go.Proofs.YtgmbgpjebpgpkaaDoorW.PrintWords Go.Proofs.YtgmbgpjebpgpkaaDoorW.PrintLast Go.Proofs.YtgmbgpjebpgpkaaDoorW.PrintMore
attribute [local go_sem] max2_int min2_int max_two min_two max_three min_three max_four min_four   -- for this text's walks alone
set_option linter.unusedVariables false
set_option linter.unusedSimpArgs false

/-! ### impl_in: function 24 -/
def impl_in.f (a0 : Int) (a1 : Int) (a2 : Int) : Option (Bool) := if a0 ≥ a1 then (some (decide (a0 ≤ a2))) else (some false)
set_option maxHeartbeats 8000000 in
set_option maxRecDepth 100000 in
theorem impl_in.calls (a0 : Int) (a1 : Int) (a2 : Int) (r : Bool) (w : World) (h : impl_in.f a0 a1 a2 = some r) :
    Calls Tryd.prog 24 #[.int .i64 a0, .int .i64 a1, .int .i64 a2] w fun e w' => e = .returned (.bool r) ∧ Drawn0 w w' := by
  have H : (if a0 ≥ a1 then (some (decide (a0 ≤ a2))) else (some false)) = some r := h
  clear h
  by_cases c4 : a0 ≥ a1
  · rw [if_pos c4] at H
    have c4b0 : decide (a1 ≤ a0) = true := decide_eq_true c4
    clear c4
    obtain rfl := Option.some.inj H
    go_enter Tryd.func24, Tryd.ntmps24
    go_wp2
    go_ret
    exact ⟨by first | rfl | (simp; done) | (simp [*]; done), by repeat (first | exact Drawn0.refl _ | apply Drawn0.step)⟩
  · rw [if_neg c4] at H
    have c4b0 : decide (a1 ≤ a0) = false := decide_eq_false c4
    clear c4
    obtain rfl := Option.some.inj H
    go_enter Tryd.func24, Tryd.ntmps24
    go_wp2
    go_ret
    exact ⟨by first | rfl | (simp; done) | (simp [*]; done), by repeat (first | exact Drawn0.refl _ | apply Drawn0.step)⟩

/-! ### impl_isMember: function 25 -/
def impl_isMember.f (a0 : Int) : Option (Bool) := (impl_in.f a0 1 1000).bind fun t173 => (some t173)
set_option maxHeartbeats 8000000 in
set_option maxRecDepth 100000 in
theorem impl_isMember.calls (a0 : Int) (r : Bool) (w : World) (h : impl_isMember.f a0 = some r) :
    Calls Tryd.prog 25 #[.int .i64 a0] w fun e w' => e = .returned (.bool r) ∧ Drawn0 w w' := by
  have H : ((impl_in.f a0 1 1000).bind fun t173 => (some t173)) = some r := h
  clear h
  replace H := Option.bind_eq_some_iff.mp H
  obtain ⟨t173, A20, H⟩ := H
  replace H : (some t173) = some r := H
  have A2 := Aside0.mk A20
  clear A20
  obtain rfl := Option.some.inj H
  go_enter Tryd.func25, Tryd.ntmps25
  go_wp2_with (first | ((with_reducible refine gate_callee (f := 24) rfl ?_); refine goesL_ (some 4) rfl rfl Tryd.func24 (by kernel_rfl) rfl #[.int .i64 a0, .int .i64 1, .int .i64 1000] rfl (by (try simp only [List.map_toArray, List.map_cons, List.map_nil]); first | done | rfl | (simp only [List.length_drop, List.length_take]; rfl)) ?_; (with_reducible refine (impl_in.calls a0 1 1000 t173 _ A2.out).mono ?_); rintro e w' ⟨rfl, ⟨nd, rfl⟩⟩; refine ⟨_, rfl, ?_⟩))
  go_ret
  exact ⟨by first | rfl | (simp; done) | (simp [*]; done), by repeat (first | exact Drawn0.refl _ | apply Drawn0.step)⟩

/-! ### impl_isTick: function 26 -/
def impl_isTick.f (a0 : Int) : Option (Bool) := (impl_in.f a0 0 1000000).bind fun t174 => (some t174)
set_option maxHeartbeats 8000000 in
set_option maxRecDepth 100000 in
theorem impl_isTick.calls (a0 : Int) (r : Bool) (w : World) (h : impl_isTick.f a0 = some r) :
    Calls Tryd.prog 26 #[.int .i64 a0] w fun e w' => e = .returned (.bool r) ∧ Drawn0 w w' := by
  have H : ((impl_in.f a0 0 1000000).bind fun t174 => (some t174)) = some r := h
  clear h
  replace H := Option.bind_eq_some_iff.mp H
  obtain ⟨t174, A20, H⟩ := H
  replace H : (some t174) = some r := H
  have A2 := Aside0.mk A20
  clear A20
  obtain rfl := Option.some.inj H
  go_enter Tryd.func26, Tryd.ntmps26
  go_wp2_with (first | ((with_reducible refine gate_callee (f := 24) rfl ?_); refine goesL_ (some 4) rfl rfl Tryd.func24 (by kernel_rfl) rfl #[.int .i64 a0, .int .i64 0, .int .i64 1000000] rfl (by (try simp only [List.map_toArray, List.map_cons, List.map_nil]); first | done | rfl | (simp only [List.length_drop, List.length_take]; rfl)) ?_; (with_reducible refine (impl_in.calls a0 0 1000000 t174 _ A2.out).mono ?_); rintro e w' ⟨rfl, ⟨nd, rfl⟩⟩; refine ⟨_, rfl, ?_⟩))
  go_ret
  exact ⟨by first | rfl | (simp; done) | (simp [*]; done), by repeat (first | exact Drawn0.refl _ | apply Drawn0.step)⟩

/-! ### impl_IsText: function 27 -/
def impl_IsText.l0 : Nat → ByteArray → Int → Int → Option (Bool)
  | 0, _, _, _ => none
  | k + 1, x0, x5, x6 => if x6 < x5 then (if 0 ≤ x6 then (if x6 < (x0.size : Int) then (if (bt x0 x6) < 32 then (some false) else (if (bt x0 x6) > 126 then (some false) else (impl_IsText.l0 k x0 x5 (wrap64 (x6 + 1))))) else (none)) else (none)) else (some (decide ((x0.size : Int) ≤ 80)))
def impl_IsText.f (k : Nat) (a0 : ByteArray) : Option (Bool) := impl_IsText.l0 k a0 (a0.size : Int) 0
theorem impl_IsText.mono_l : ∀ k, (∀ y0 y1 y2, LeO (impl_IsText.l0 k y0 y1 y2) (impl_IsText.l0 (k + 1) y0 y1 y2))
  | 0 => fun _ _ _ r h => by simp [impl_IsText.l0] at h
  | k + 1 => by
    have ih0 := impl_IsText.mono_l k
    · intro y0 y1 y2
      unfold impl_IsText.l0
      repeat' first
      | (with_reducible exact ih0 _ _ _)
      | (with_reducible exact LeO.refl _)
      | (with_reducible exact LeO.none _)
      | (with_reducible refine LeO.ite ?_ ?_)
      | (with_reducible refine LeO.bind ?_ (fun _ => ?_))
      | exact ih0 _ _ _
      | exact LeO.none _
      | refine LeO.ite ?_ ?_
      | refine LeO.bind ?_ (fun _ => ?_)
theorem impl_IsText.mono : ∀ a0 k, LeO (impl_IsText.f k a0) (impl_IsText.f (k + 1) a0) := by
  intro a0 k
  have ih0 := impl_IsText.mono_l k
  unfold impl_IsText.f
  repeat' first
      | (with_reducible exact ih0 _ _ _)
      | (with_reducible exact LeO.refl _)
      | (with_reducible exact LeO.none _)
      | (with_reducible refine LeO.ite ?_ ?_)
      | (with_reducible refine LeO.bind ?_ (fun _ => ?_))
      | exact ih0 _ _ _
      | exact LeO.none _
      | refine LeO.ite ?_ ?_
      | refine LeO.bind ?_ (fun _ => ?_)
set_option maxHeartbeats 8000000 in
set_option maxRecDepth 100000 in
theorem impl_IsText.calls (k : Nat) (a0 : ByteArray) (r : Bool) (w : World) (h : impl_IsText.f k a0 = some r) :
    Calls Tryd.prog 27 #[.string a0] w fun e w' => e = .returned (.bool r) ∧ Drawn0 w w' := by
  have H : (impl_IsText.l0 k a0 (a0.size : Int) 0) = some r := h
  clear h
  have H' := Aside0.mk H
  clear H
  go_enter Tryd.func27, Tryd.ntmps27
  go_wp2
  go_loopg [6] k (fun kq v6 w' => ∃ (x6_1 : Int), v6 = .int .i64 x6_1 ∧ Aside0 (impl_IsText.l0 kq a0 (a0.size : Int) x6_1 = some r) ∧ Aside0 (kq ≤ k) ∧ Drawn0 w w')
  case atStart => exact ⟨(0), (by first | rfl | (simp; done) | (simp [*]; done)), H', ⟨Nat.le_refl _⟩, by repeat (first | exact Drawn0.refl _ | apply Drawn0.step)⟩
  case round =>
    clear H'
    obtain ⟨x6_1, rfl, HA, HK1, ⟨m1, rfl⟩⟩ := hrel
    cases gk with
    | zero => exact absurd HA.out (by simp [impl_IsText.l0])
    | succ k1 =>
      have H := HA.out
      clear HA
      simp only [impl_IsText.l0] at H
      by_cases c2 : x6_1 < (a0.size : Int)
      · rw [if_pos c2] at H
        have c2b0 : decide (x6_1 < (a0.size : Int)) = true := decide_eq_true c2
        clear c2
        by_cases c3 : 0 ≤ x6_1
        · rw [if_pos c3] at H
          have c3b0 : decide (0 ≤ x6_1) = true := decide_eq_true c3
          clear c3
          by_cases c4 : x6_1 < (a0.size : Int)
          · rw [if_pos c4] at H
            have c4b0 : decide (x6_1 < (a0.size : Int)) = true := decide_eq_true c4
            clear c4
            by_cases c6 : (bt a0 x6_1) < 32
            · rw [if_pos c6] at H
              have c6b0 : decide ((bt a0 x6_1) < 32) = true := decide_eq_true c6
              clear c6
              obtain rfl := Option.some.inj H
              have p5 : 0 ≤ (x6_1 : Int) := of_decide_eq_true (by first | (with_reducible assumption) | assumption)
              have q5 : x6_1 < (a0.size : Int) := of_decide_eq_true (by first | (with_reducible assumption) | assumption)
              have hx5 := bt_at a0 x6_1
              replace p5 := eq_true p5
              replace q5 := eq_true q5
              go_wp2
              go_ret
              exact ⟨by first | rfl | (simp; done) | (simp [*]; done), by repeat (first | exact Drawn0.refl _ | apply Drawn0.step)⟩
            · rw [if_neg c6] at H
              have c6b0 : decide ((bt a0 x6_1) < 32) = false := decide_eq_false c6
              clear c6
              by_cases c8 : (bt a0 x6_1) > 126
              · rw [if_pos c8] at H
                have c8b0 : decide (126 < (bt a0 x6_1)) = true := decide_eq_true c8
                clear c8
                obtain rfl := Option.some.inj H
                have p5 : 0 ≤ (x6_1 : Int) := of_decide_eq_true (by first | (with_reducible assumption) | assumption)
                have q5 : x6_1 < (a0.size : Int) := of_decide_eq_true (by first | (with_reducible assumption) | assumption)
                have hx5 := bt_at a0 x6_1
                replace p5 := eq_true p5
                replace q5 := eq_true q5
                have p7 : 0 ≤ (x6_1 : Int) := of_decide_eq_true (by first | (with_reducible assumption) | assumption)
                have q7 : x6_1 < (a0.size : Int) := of_decide_eq_true (by first | (with_reducible assumption) | assumption)
                have hx7 := bt_at a0 x6_1
                replace p7 := eq_true p7
                replace q7 := eq_true q7
                go_wp2
                go_ret
                exact ⟨by first | rfl | (simp; done) | (simp [*]; done), by repeat (first | exact Drawn0.refl _ | apply Drawn0.step)⟩
              · rw [if_neg c8] at H
                have c8b0 : decide (126 < (bt a0 x6_1)) = false := decide_eq_false c8
                clear c8
                have H' := Aside0.mk H
                clear H
                have p5 : 0 ≤ (x6_1 : Int) := of_decide_eq_true (by first | (with_reducible assumption) | assumption)
                have q5 : x6_1 < (a0.size : Int) := of_decide_eq_true (by first | (with_reducible assumption) | assumption)
                have hx5 := bt_at a0 x6_1
                replace p5 := eq_true p5
                replace q5 := eq_true q5
                have p7 : 0 ≤ (x6_1 : Int) := of_decide_eq_true (by first | (with_reducible assumption) | assumption)
                have q7 : x6_1 < (a0.size : Int) := of_decide_eq_true (by first | (with_reducible assumption) | assumption)
                have hx7 := bt_at a0 x6_1
                replace p7 := eq_true p7
                replace q7 := eq_true q7
                go_wp2
                go_roundg k1
                case measure => have := HK1.out; omega
                case rel => exact ⟨(wrap64 (x6_1 + 1)), (by first | rfl | (simp; done) | (simp [*]; done)), H', ⟨by have := HK1.out; omega⟩, by repeat (first | exact Drawn0.refl _ | apply Drawn0.step)⟩
          · rw [if_neg c4] at H
            exact absurd H (by simp)
        · rw [if_neg c3] at H
          exact absurd H (by simp)
      · rw [if_neg c2] at H
        have c2b0 : decide (x6_1 < (a0.size : Int)) = false := decide_eq_false c2
        clear c2
        obtain rfl := Option.some.inj H
        go_wp2
        go_ret
        exact ⟨by first | rfl | (simp; done) | (simp [*]; done), by repeat (first | exact Drawn0.refl _ | apply Drawn0.step)⟩

/-! ### impl_ValidEvent: function 14 -/
abbrev impl_ValidEvent.T : Bool := true
abbrev impl_ValidEvent.F : Bool := false
theorem impl_ValidEvent.s1_ {P : Prop} (h : P := by first | rfl | (simp; done) | (simp [*]; done)) : P := h
theorem impl_ValidEvent.s2_ {P : Prop} (h : P := by kernel_rfl) : P := h
theorem impl_ValidEvent.s3_ {P : Prop} (h : P := by (try simp only [List.map_toArray, List.map_cons, List.map_nil]); first | done | rfl | (simp only [List.length_drop, List.length_take]; rfl)) : P := h
theorem impl_ValidEvent.b1_ {P Q : Prop} (q : Q) (h : Q → P := by intro q_; (with_reducible repeat (first | refine blk_drewN ?_ _ | refine blk_drew ?_ | refine blk_alloc ?_ _)); exact q_) : P := h q
theorem impl_ValidEvent.y1_ {P Q : Prop} (q : Q) (h : Q → P := by intro q_; repeat (first | (with_reducible first | exact q_ | apply below_alloc | apply pw_below_drewN | apply below_drew1) | exact q_)) : P := h q
theorem impl_ValidEvent.b6_ {w w' W : World} {k : Nat} (hg : k = W.heap.size) (q : Aside0 (Below w.heap.size w w')) (h : Below w.heap.size w w' → Below w.heap.size w W := by intro q_; repeat (first | (with_reducible first | exact q_ | apply below_alloc | apply pw_below_drewN | apply below_drew1) | exact q_)) : Aside0 (w.heap.size ≤ k) := ⟨by rw [hg]; exact below_size (h q.out)⟩
theorem impl_ValidEvent.c1_ {w : World} {g : Nat} {t : TypeId} {cs : Array Value} (q : Aside0 (w.heap[g]? = some (.cells cs t (0, 0)))) (i : Nat) (v : Value) (h : cs[i]? = some v := by rfl) : w.cell? ⟨g, i, none⟩ = some v := (blk_cell q.out i).trans h
theorem impl_ValidEvent.f1_ {w : World} {g : Nat} {t : TypeId} {cs : Array Value} (q : Aside0 (w.heap[g]? = some (.cells cs t (0, 0)))) (i : Nat) : w.frozen? ⟨g, i, none⟩ = false := blk_frozen q.out i
def impl_ValidEvent.j0 : Nat → Bool → Int → Int → Int → Int → ByteArray → Int → Option (Bool)
  | 0, _, _, _, _, _, _, _ => none
  | k + 1, x18, x176000, x176001, x176002, x176003, x176004, x176005 => if x18 = true then (some false) else (if x176000 = 0 then ((impl_isTick.f x176003).bind fun t179 => (if t179 = true then ((impl_IsText.f k x176004).bind fun t180 => (if t180 = true then ((impl_in.f x176005 0 (wrap64 (x176001 - 1))).bind fun t181 => (some t181)) else (some false))) else (some false))) else (if x176000 = 1 then ((impl_IsText.f k x176004).bind fun t182 => (if t182 = true then (if x176003 = 0 then (some (x176005 == 0)) else (some false)) else (some false))) else (if x176003 = 0 then (if x176004.toList = ([] : List UInt8) then (some (x176005 == 0)) else (some false)) else (some false))))
def impl_ValidEvent.f (k : Nat) (a0_0 : Int) (a0_1 : Int) (a0_2 : Int) (a0_3 : Int) (a0_4 : ByteArray) (a0_5 : Int) : Option (Bool) := (impl_in.f a0_0 0 4).bind fun t176 => (if t176 = true then ((impl_in.f a0_1 1 1000000000).bind fun t177 => (if t177 = true then ((impl_isMember.f a0_2).bind fun t178 => (impl_ValidEvent.j0 k (!t178) a0_0 a0_1 a0_2 a0_3 a0_4 a0_5)) else (impl_ValidEvent.j0 k true a0_0 a0_1 a0_2 a0_3 a0_4 a0_5))) else (impl_ValidEvent.j0 k true a0_0 a0_1 a0_2 a0_3 a0_4 a0_5))
theorem impl_ValidEvent.mono_l : ∀ k, (∀ y0 y1 y2 y3 y4 y5 y6, LeO (impl_ValidEvent.j0 k y0 y1 y2 y3 y4 y5 y6) (impl_ValidEvent.j0 (k + 1) y0 y1 y2 y3 y4 y5 y6))
  | 0 => fun _ _ _ _ _ _ _ r h => by simp [impl_ValidEvent.j0] at h
  | k + 1 => by
    have ih0 := impl_ValidEvent.mono_l k
    · intro y0 y1 y2 y3 y4 y5 y6
      unfold impl_ValidEvent.j0
      repeat' first
      | (with_reducible exact ih0 _ _ _ _ _ _ _)
      | (with_reducible exact impl_IsText.mono _ _)
      | (with_reducible exact LeO.refl _)
      | (with_reducible exact LeO.none _)
      | (with_reducible refine LeO.ite ?_ ?_)
      | (with_reducible refine LeO.bind ?_ (fun _ => ?_))
      | exact ih0 _ _ _ _ _ _ _
      | exact impl_IsText.mono _ _
      | exact LeO.none _
      | refine LeO.ite ?_ ?_
      | refine LeO.bind ?_ (fun _ => ?_)
theorem impl_ValidEvent.mono : ∀ a0 a1 a2 a3 a4 a5 k, LeO (impl_ValidEvent.f k a0 a1 a2 a3 a4 a5) (impl_ValidEvent.f (k + 1) a0 a1 a2 a3 a4 a5) := by
  intro a0 a1 a2 a3 a4 a5 k
  have ih0 := impl_ValidEvent.mono_l k
  unfold impl_ValidEvent.f
  repeat' first
      | (with_reducible exact ih0 _ _ _ _ _ _ _)
      | (with_reducible exact impl_IsText.mono _ _)
      | (with_reducible exact LeO.refl _)
      | (with_reducible exact LeO.none _)
      | (with_reducible refine LeO.ite ?_ ?_)
      | (with_reducible refine LeO.bind ?_ (fun _ => ?_))
      | exact ih0 _ _ _ _ _ _ _
      | exact impl_IsText.mono _ _
      | exact LeO.none _
      | refine LeO.ite ?_ ?_
      | refine LeO.bind ?_ (fun _ => ?_)
set_option maxHeartbeats 8000000 in
set_option maxRecDepth 100000 in
theorem impl_ValidEvent.calls (k : Nat) (a0_0 : Int) (a0_1 : Int) (a0_2 : Int) (a0_3 : Int) (a0_4 : ByteArray) (a0_5 : Int) (r : Bool) (w : World) (h : impl_ValidEvent.f k a0_0 a0_1 a0_2 a0_3 a0_4 a0_5 = some r) :
    Calls Tryd.prog 14 #[.agg #[.int .i64 a0_0, .int .i64 a0_1, .int .i64 a0_2, .int .i64 a0_3, .string a0_4, .int .i64 a0_5]] w fun e w' => e = .returned (.bool r) ∧ Below w.heap.size w w' := by
 have hu27 := Tryd.underlying27
 have HB := Aside0.mk (Below.refl w.heap.size w)
 have H : ((impl_in.f a0_0 0 4).bind fun t176 => (if t176 = true then ((impl_in.f a0_1 1 1000000000).bind fun t177 => (if t177 = true then ((impl_isMember.f a0_2).bind fun t178 => (impl_ValidEvent.j0 k (!t178) a0_0 a0_1 a0_2 a0_3 a0_4 a0_5)) else (impl_ValidEvent.j0 k true a0_0 a0_1 a0_2 a0_3 a0_4 a0_5))) else (impl_ValidEvent.j0 k true a0_0 a0_1 a0_2 a0_3 a0_4 a0_5))) = some r := h
 clear h
 have HC2 := Aside0.mk H
 clear H
 go_enter Tryd.func14, Tryd.ntmps14
 go_upto_region 1 with (first | ((with_reducible refine gate_dst (N := 1) rfl ?_); refine box_event ?hg (N := 1) ?hd (cs := #[.int .i64 a0_0, .int .i64 a0_1, .int .i64 a0_2, .int .i64 a0_3, .string a0_4, .int .i64 a0_5]) (t := 27) ?hr ?_; (case hd => rfl); (case hg => rfl); (case hr => first | (go_simp; done) | (go_simp; rfl)); intro gb175 hg w3 hbox hb; have GW175 := b6_ hg HB; have GE175 := b6_ hg HB; replace HB := Aside0.mk (below_step (y1_ HB.out) hb); have BK175 := Aside0.mk (hbox); clear hb hbox hg))
 (try simp only [Act.put, List.setIfInBounds_toArray, List.set_cons_zero, List.set_cons_succ])
 go_cut [18] (fun v18 wc => ∃ (kq : Nat) (x18_1 : Bool), v18 = .bool x18_1 ∧ Aside0 (impl_ValidEvent.j0 kq x18_1 a0_0 a0_1 a0_2 a0_3 a0_4 a0_5 = some r) ∧ Aside0 (kq ≤ k) ∧ Aside0 (wc.heap[gb175]? = some (.cells #[.int .i64 a0_0, .int .i64 a0_1, .int .i64 a0_2, .int .i64 a0_3, .string a0_4, .int .i64 a0_5] 27 (0, 0))) ∧ Aside0 (Below w.heap.size w wc))
 case first =>
  skip
  {
 have H := HC2.out
 clear HC2
 replace H := Option.bind_eq_some_iff.mp H
 obtain ⟨t176, A40, H⟩ := H
 replace H : (if t176 = true then ((impl_in.f a0_1 1 1000000000).bind fun t177 => (if t177 = true then ((impl_isMember.f a0_2).bind fun t178 => (impl_ValidEvent.j0 k (!t178) a0_0 a0_1 a0_2 a0_3 a0_4 a0_5)) else (impl_ValidEvent.j0 k true a0_0 a0_1 a0_2 a0_3 a0_4 a0_5))) else (impl_ValidEvent.j0 k true a0_0 a0_1 a0_2 a0_3 a0_4 a0_5)) = some r := H
 have A4 := Aside0.mk A40
 clear A40
 by_cases c5 : t176 = true
 {
 subst c5
 have H1 : ((impl_in.f a0_1 1 1000000000).bind fun t177 => (if t177 = true then ((impl_isMember.f a0_2).bind fun t178 => (impl_ValidEvent.j0 k (!t178) a0_0 a0_1 a0_2 a0_3 a0_4 a0_5)) else (impl_ValidEvent.j0 k true a0_0 a0_1 a0_2 a0_3 a0_4 a0_5))) = some r := by rw [if_pos rfl] at H; exact H
 clear H
 have H := H1
 clear H1
 replace H := Option.bind_eq_some_iff.mp H
 obtain ⟨t177, A60, H⟩ := H
 replace H : (if t177 = true then ((impl_isMember.f a0_2).bind fun t178 => (impl_ValidEvent.j0 k (!t178) a0_0 a0_1 a0_2 a0_3 a0_4 a0_5)) else (impl_ValidEvent.j0 k true a0_0 a0_1 a0_2 a0_3 a0_4 a0_5)) = some r := H
 have A6 := Aside0.mk A60
 clear A60
 by_cases c7 : t177 = true
 {
 subst c7
 have H1 : ((impl_isMember.f a0_2).bind fun t178 => (impl_ValidEvent.j0 k (!t178) a0_0 a0_1 a0_2 a0_3 a0_4 a0_5)) = some r := by rw [if_pos rfl] at H; exact H
 clear H
 have H := H1
 clear H1
 replace H := Option.bind_eq_some_iff.mp H
 obtain ⟨t178, A80, H⟩ := H
 replace H : (impl_ValidEvent.j0 k (!t178) a0_0 a0_1 a0_2 a0_3 a0_4 a0_5) = some r := H
 have A8 := Aside0.mk A80
 clear A80
 have H' := Aside0.mk H
 clear H
 have hcz9_0 := c1_ BK175 0 (.int .i64 a0_0)
 have hcz9_1 := c1_ BK175 1 (.int .i64 a0_1)
 have hcz9_2 := c1_ BK175 2 (.int .i64 a0_2)
 have hcz9_3 := c1_ BK175 3 (.int .i64 a0_3)
 have hcz9_4 := c1_ BK175 4 (.string a0_4)
 have hcz9_5 := c1_ BK175 5 (.int .i64 a0_5)
 have hfz9_0 := f1_ BK175 0
 have hfz9_1 := f1_ BK175 1
 have hfz9_2 := f1_ BK175 2
 have hfz9_3 := f1_ BK175 3
 have hfz9_4 := f1_ BK175 4
 have hfz9_5 := f1_ BK175 5
 go_wp2_with (first | ((with_reducible refine gate_callee (f := 24) rfl ?_); refine goesL_ (some 5) rfl rfl Tryd.func24 s2_ rfl #[.int .i64 a0_0, .int .i64 0, .int .i64 4] rfl s3_ ?_; (with_reducible refine (impl_in.calls a0_0 0 4 true _ A4.out).mono ?_); rintro e w' ⟨rfl, ⟨nd, rfl⟩⟩; refine ⟨_, rfl, ?_⟩) | (go_at_call 24; (with_reducible refine (impl_in.calls a0_1 1 1000000000 true _ A6.out).mono ?_); rintro e w' ⟨rfl, ⟨nd, rfl⟩⟩) | (go_at_call 25; (with_reducible refine (impl_isMember.calls a0_2 t178 _ A8.out).mono ?_); rintro e w' ⟨rfl, ⟨nd, rfl⟩⟩))
 go_meet
 case rel => exact ⟨_, (!t178), s1_, H', ⟨by first | omega | exact Nat.le_refl _⟩, ⟨b1_ BK175.out⟩, ⟨by repeat (first | (with_reducible first | exact HB.out | apply below_alloc | apply pw_below_drewN | apply below_drew1) | exact HB.out)⟩⟩}
 {
 replace c7 := Bool.eq_false_iff.mpr c7
 subst c7
 have H1 : (impl_ValidEvent.j0 k true a0_0 a0_1 a0_2 a0_3 a0_4 a0_5) = some r := by rw [if_neg (show ¬ (false = true) by decide)] at H; exact H
 clear H
 have H := H1
 clear H1
 have H' := Aside0.mk H
 clear H
 have hcz10_0 := c1_ BK175 0 (.int .i64 a0_0)
 have hcz10_1 := c1_ BK175 1 (.int .i64 a0_1)
 have hcz10_2 := c1_ BK175 2 (.int .i64 a0_2)
 have hcz10_3 := c1_ BK175 3 (.int .i64 a0_3)
 have hcz10_4 := c1_ BK175 4 (.string a0_4)
 have hcz10_5 := c1_ BK175 5 (.int .i64 a0_5)
 have hfz10_0 := f1_ BK175 0
 have hfz10_1 := f1_ BK175 1
 have hfz10_2 := f1_ BK175 2
 have hfz10_3 := f1_ BK175 3
 have hfz10_4 := f1_ BK175 4
 have hfz10_5 := f1_ BK175 5
 go_wp2_with (first | ((with_reducible refine gate_callee (f := 24) rfl ?_); refine goesL_ (some 5) rfl rfl Tryd.func24 s2_ rfl #[.int .i64 a0_0, .int .i64 0, .int .i64 4] rfl s3_ ?_; (with_reducible refine (impl_in.calls a0_0 0 4 true _ A4.out).mono ?_); rintro e w' ⟨rfl, ⟨nd, rfl⟩⟩; refine ⟨_, rfl, ?_⟩) | (go_at_call 24; (with_reducible refine (impl_in.calls a0_1 1 1000000000 false _ A6.out).mono ?_); rintro e w' ⟨rfl, ⟨nd, rfl⟩⟩))
 go_meet
 case rel => exact ⟨_, (true), s1_, H', ⟨by first | omega | exact Nat.le_refl _⟩, ⟨b1_ BK175.out⟩, ⟨by repeat (first | (with_reducible first | exact HB.out | apply below_alloc | apply pw_below_drewN | apply below_drew1) | exact HB.out)⟩⟩}}
 {
 replace c5 := Bool.eq_false_iff.mpr c5
 subst c5
 have H1 : (impl_ValidEvent.j0 k true a0_0 a0_1 a0_2 a0_3 a0_4 a0_5) = some r := by rw [if_neg (show ¬ (false = true) by decide)] at H; exact H
 clear H
 have H := H1
 clear H1
 have H' := Aside0.mk H
 clear H
 have hcz11_0 := c1_ BK175 0 (.int .i64 a0_0)
 have hcz11_1 := c1_ BK175 1 (.int .i64 a0_1)
 have hcz11_2 := c1_ BK175 2 (.int .i64 a0_2)
 have hcz11_3 := c1_ BK175 3 (.int .i64 a0_3)
 have hcz11_4 := c1_ BK175 4 (.string a0_4)
 have hcz11_5 := c1_ BK175 5 (.int .i64 a0_5)
 have hfz11_0 := f1_ BK175 0
 have hfz11_1 := f1_ BK175 1
 have hfz11_2 := f1_ BK175 2
 have hfz11_3 := f1_ BK175 3
 have hfz11_4 := f1_ BK175 4
 have hfz11_5 := f1_ BK175 5
 go_wp2_with (first | ((with_reducible refine gate_callee (f := 24) rfl ?_); refine goesL_ (some 5) rfl rfl Tryd.func24 s2_ rfl #[.int .i64 a0_0, .int .i64 0, .int .i64 4] rfl s3_ ?_; (with_reducible refine (impl_in.calls a0_0 0 4 false _ A4.out).mono ?_); rintro e w' ⟨rfl, ⟨nd, rfl⟩⟩; refine ⟨_, rfl, ?_⟩))
 go_meet
 case rel => exact ⟨_, (true), s1_, H', ⟨by first | omega | exact Nat.le_refl _⟩, ⟨b1_ BK175.out⟩, ⟨by repeat (first | (with_reducible first | exact HB.out | apply below_alloc | apply pw_below_drewN | apply below_drew1) | exact HB.out)⟩⟩}}
 case rest =>
  skip
  {
 clear HC2
 try clear c1
 try clear c2
 try clear p2
 try clear c5
 try clear c7
 try clear hcz10_0
 try clear hcz10_1
 try clear hcz10_2
 try clear hcz10_3
 try clear hcz10_4
 try clear hcz10_5
 try clear hcz11_0
 try clear hcz11_1
 try clear hcz11_2
 try clear hcz11_3
 try clear hcz11_4
 try clear hcz11_5
 try clear hcz9_0
 try clear hcz9_1
 try clear hcz9_2
 try clear hcz9_3
 try clear hcz9_4
 try clear hcz9_5
 try clear hfz10_0
 try clear hfz10_1
 try clear hfz10_2
 try clear hfz10_3
 try clear hfz10_4
 try clear hfz10_5
 try clear hfz11_0
 try clear hfz11_1
 try clear hfz11_2
 try clear hfz11_3
 try clear hfz11_4
 try clear hfz11_5
 try clear hfz9_0
 try clear hfz9_1
 try clear hfz9_2
 try clear hfz9_3
 try clear hfz9_4
 try clear hfz9_5
 obtain ⟨kq, x18_1, rfl, HA, HJ1, BK175, HB⟩ := hcut
 cases kq with
 | zero => exact absurd HA.out (by simp [impl_ValidEvent.j0])
 | succ kj1 =>
  skip
  {
 have H := HA.out
 clear HA
 simp only [impl_ValidEvent.j0] at H
 by_cases c12 : x18_1 = true
 {
 subst c12
 have H1 : (some false) = some r := by rw [if_pos rfl] at H; exact H
 clear H
 have H := H1
 clear H1
 obtain rfl := Option.some.inj H
 go_wp2
 go_ret
 exact ⟨by first | rfl | (simp [errW_none, errW_some] <;> rfl) | (simp [*, errW_none, errW_some] <;> rfl), by repeat (first | (with_reducible first | exact HB.out | apply below_alloc | apply pw_below_drewN | apply below_drew1) | exact HB.out)⟩}
 {
 replace c12 := Bool.eq_false_iff.mpr c12
 subst c12
 have H1 : (if a0_0 = 0 then ((impl_isTick.f a0_3).bind fun t179 => (if t179 = true then ((impl_IsText.f kj1 a0_4).bind fun t180 => (if t180 = true then ((impl_in.f a0_5 0 (wrap64 (a0_1 - 1))).bind fun t181 => (some t181)) else (some false))) else (some false))) else (if a0_0 = 1 then ((impl_IsText.f kj1 a0_4).bind fun t182 => (if t182 = true then (if a0_3 = 0 then (some (a0_5 == 0)) else (some false)) else (some false))) else (if a0_3 = 0 then (if a0_4.toList = ([] : List UInt8) then (some (a0_5 == 0)) else (some false)) else (some false)))) = some r := by rw [if_neg (show ¬ (false = true) by decide)] at H; exact H
 clear H
 have H := H1
 clear H1
 by_cases c13 : a0_0 = 0
 {
 rw [if_pos c13] at H
 have c13b0 : (a0_0 == 0) = true := beq_iff_eq.mpr c13
 have c13b1 : (a0_0 != 0) = false := bne_eq_false_iff_eq.mpr c13
 clear c13
 replace H := Option.bind_eq_some_iff.mp H
 obtain ⟨t179, A140, H⟩ := H
 replace H : (if t179 = true then ((impl_IsText.f kj1 a0_4).bind fun t180 => (if t180 = true then ((impl_in.f a0_5 0 (wrap64 (a0_1 - 1))).bind fun t181 => (some t181)) else (some false))) else (some false)) = some r := H
 have A14 := Aside0.mk A140
 clear A140
 by_cases c15 : t179 = true
 {
 subst c15
 have H1 : ((impl_IsText.f kj1 a0_4).bind fun t180 => (if t180 = true then ((impl_in.f a0_5 0 (wrap64 (a0_1 - 1))).bind fun t181 => (some t181)) else (some false))) = some r := by rw [if_pos rfl] at H; exact H
 clear H
 have H := H1
 clear H1
 replace H := Option.bind_eq_some_iff.mp H
 obtain ⟨t180, A160, H⟩ := H
 replace H : (if t180 = true then ((impl_in.f a0_5 0 (wrap64 (a0_1 - 1))).bind fun t181 => (some t181)) else (some false)) = some r := H
 have A16 := Aside0.mk A160
 clear A160
 by_cases c17 : t180 = true
 {
 subst c17
 have H1 : ((impl_in.f a0_5 0 (wrap64 (a0_1 - 1))).bind fun t181 => (some t181)) = some r := by rw [if_pos rfl] at H; exact H
 clear H
 have H := H1
 clear H1
 replace H := Option.bind_eq_some_iff.mp H
 obtain ⟨t181, A180, H⟩ := H
 replace H : (some t181) = some r := H
 have A18 := Aside0.mk A180
 clear A180
 obtain rfl := Option.some.inj H
 have hcz19_0 := c1_ BK175 0 (.int .i64 a0_0)
 have hcz19_1 := c1_ BK175 1 (.int .i64 a0_1)
 have hcz19_2 := c1_ BK175 2 (.int .i64 a0_2)
 have hcz19_3 := c1_ BK175 3 (.int .i64 a0_3)
 have hcz19_4 := c1_ BK175 4 (.string a0_4)
 have hcz19_5 := c1_ BK175 5 (.int .i64 a0_5)
 have hfz19_0 := f1_ BK175 0
 have hfz19_1 := f1_ BK175 1
 have hfz19_2 := f1_ BK175 2
 have hfz19_3 := f1_ BK175 3
 have hfz19_4 := f1_ BK175 4
 have hfz19_5 := f1_ BK175 5
 go_wp2_with (first | ((with_reducible refine gate_callee (f := 26) rfl ?_); refine goesL_ (some 25) rfl rfl Tryd.func26 s2_ rfl #[.int .i64 a0_3] rfl s3_ ?_; (with_reducible refine (impl_isTick.calls a0_3 true _ A14.out).mono ?_); rintro e w' ⟨rfl, ⟨nd, rfl⟩⟩; refine ⟨_, rfl, ?_⟩) | (go_at_call 27; (with_reducible refine (impl_IsText.calls kj1 a0_4 true _ A16.out).mono ?_); rintro e w' ⟨rfl, ⟨nd, rfl⟩⟩) | (go_at_call 24; (with_reducible refine (impl_in.calls a0_5 0 (wrap64 (a0_1 - 1)) t181 _ A18.out).mono ?_); rintro e w' ⟨rfl, ⟨nd, rfl⟩⟩))
 go_ret
 exact ⟨by first | rfl | (simp [errW_none, errW_some] <;> rfl) | (simp [*, errW_none, errW_some] <;> rfl), by repeat (first | (with_reducible first | exact HB.out | apply below_alloc | apply pw_below_drewN | apply below_drew1) | exact HB.out)⟩}
 {
 replace c17 := Bool.eq_false_iff.mpr c17
 subst c17
 have H1 : (some false) = some r := by rw [if_neg (show ¬ (false = true) by decide)] at H; exact H
 clear H
 have H := H1
 clear H1
 obtain rfl := Option.some.inj H
 have hcz20_0 := c1_ BK175 0 (.int .i64 a0_0)
 have hcz20_1 := c1_ BK175 1 (.int .i64 a0_1)
 have hcz20_2 := c1_ BK175 2 (.int .i64 a0_2)
 have hcz20_3 := c1_ BK175 3 (.int .i64 a0_3)
 have hcz20_4 := c1_ BK175 4 (.string a0_4)
 have hcz20_5 := c1_ BK175 5 (.int .i64 a0_5)
 have hfz20_0 := f1_ BK175 0
 have hfz20_1 := f1_ BK175 1
 have hfz20_2 := f1_ BK175 2
 have hfz20_3 := f1_ BK175 3
 have hfz20_4 := f1_ BK175 4
 have hfz20_5 := f1_ BK175 5
 go_wp2_with (first | ((with_reducible refine gate_callee (f := 26) rfl ?_); refine goesL_ (some 25) rfl rfl Tryd.func26 s2_ rfl #[.int .i64 a0_3] rfl s3_ ?_; (with_reducible refine (impl_isTick.calls a0_3 true _ A14.out).mono ?_); rintro e w' ⟨rfl, ⟨nd, rfl⟩⟩; refine ⟨_, rfl, ?_⟩) | (go_at_call 27; (with_reducible refine (impl_IsText.calls kj1 a0_4 false _ A16.out).mono ?_); rintro e w' ⟨rfl, ⟨nd, rfl⟩⟩))
 go_ret
 exact ⟨by first | rfl | (simp [errW_none, errW_some] <;> rfl) | (simp [*, errW_none, errW_some] <;> rfl), by repeat (first | (with_reducible first | exact HB.out | apply below_alloc | apply pw_below_drewN | apply below_drew1) | exact HB.out)⟩}}
 {
 replace c15 := Bool.eq_false_iff.mpr c15
 subst c15
 have H1 : (some false) = some r := by rw [if_neg (show ¬ (false = true) by decide)] at H; exact H
 clear H
 have H := H1
 clear H1
 obtain rfl := Option.some.inj H
 have hcz21_0 := c1_ BK175 0 (.int .i64 a0_0)
 have hcz21_1 := c1_ BK175 1 (.int .i64 a0_1)
 have hcz21_2 := c1_ BK175 2 (.int .i64 a0_2)
 have hcz21_3 := c1_ BK175 3 (.int .i64 a0_3)
 have hcz21_4 := c1_ BK175 4 (.string a0_4)
 have hcz21_5 := c1_ BK175 5 (.int .i64 a0_5)
 have hfz21_0 := f1_ BK175 0
 have hfz21_1 := f1_ BK175 1
 have hfz21_2 := f1_ BK175 2
 have hfz21_3 := f1_ BK175 3
 have hfz21_4 := f1_ BK175 4
 have hfz21_5 := f1_ BK175 5
 go_wp2_with (first | ((with_reducible refine gate_callee (f := 26) rfl ?_); refine goesL_ (some 25) rfl rfl Tryd.func26 s2_ rfl #[.int .i64 a0_3] rfl s3_ ?_; (with_reducible refine (impl_isTick.calls a0_3 false _ A14.out).mono ?_); rintro e w' ⟨rfl, ⟨nd, rfl⟩⟩; refine ⟨_, rfl, ?_⟩))
 go_ret
 exact ⟨by first | rfl | (simp [errW_none, errW_some] <;> rfl) | (simp [*, errW_none, errW_some] <;> rfl), by repeat (first | (with_reducible first | exact HB.out | apply below_alloc | apply pw_below_drewN | apply below_drew1) | exact HB.out)⟩}}
 {
 rw [if_neg c13] at H
 have c13b0 : (a0_0 == 0) = false := beq_eq_false_iff_ne.mpr c13
 have c13b1 : (a0_0 != 0) = true := bne_iff_ne.mpr c13
 by_cases c22 : a0_0 = 1
 {
 rw [if_pos c22] at H
 have c22b0 : (a0_0 == 1) = true := beq_iff_eq.mpr c22
 have c22b1 : (a0_0 != 1) = false := bne_eq_false_iff_eq.mpr c22
 clear c22
 replace H := Option.bind_eq_some_iff.mp H
 obtain ⟨t182, A230, H⟩ := H
 replace H : (if t182 = true then (if a0_3 = 0 then (some (a0_5 == 0)) else (some false)) else (some false)) = some r := H
 have A23 := Aside0.mk A230
 clear A230
 by_cases c24 : t182 = true
 {
 subst c24
 have H1 : (if a0_3 = 0 then (some (a0_5 == 0)) else (some false)) = some r := by rw [if_pos rfl] at H; exact H
 clear H
 have H := H1
 clear H1
 by_cases c25 : a0_3 = 0
 {
 rw [if_pos c25] at H
 have c25b0 : (a0_3 == 0) = true := beq_iff_eq.mpr c25
 have c25b1 : (a0_3 != 0) = false := bne_eq_false_iff_eq.mpr c25
 clear c25
 obtain rfl := Option.some.inj H
 have hcz26_0 := c1_ BK175 0 (.int .i64 a0_0)
 have hcz26_1 := c1_ BK175 1 (.int .i64 a0_1)
 have hcz26_2 := c1_ BK175 2 (.int .i64 a0_2)
 have hcz26_3 := c1_ BK175 3 (.int .i64 a0_3)
 have hcz26_4 := c1_ BK175 4 (.string a0_4)
 have hcz26_5 := c1_ BK175 5 (.int .i64 a0_5)
 have hfz26_0 := f1_ BK175 0
 have hfz26_1 := f1_ BK175 1
 have hfz26_2 := f1_ BK175 2
 have hfz26_3 := f1_ BK175 3
 have hfz26_4 := f1_ BK175 4
 have hfz26_5 := f1_ BK175 5
 go_wp2_with (first | ((with_reducible refine gate_callee (f := 27) rfl ?_); refine goesL_ (some 43) rfl rfl Tryd.func27 s2_ rfl #[.string a0_4] rfl s3_ ?_; (with_reducible refine (impl_IsText.calls kj1 a0_4 true _ A23.out).mono ?_); rintro e w' ⟨rfl, ⟨nd, rfl⟩⟩; refine ⟨_, rfl, ?_⟩))
 go_ret
 exact ⟨by first | rfl | (simp [errW_none, errW_some] <;> rfl) | (simp [*, errW_none, errW_some] <;> rfl), by repeat (first | (with_reducible first | exact HB.out | apply below_alloc | apply pw_below_drewN | apply below_drew1) | exact HB.out)⟩}
 {
 rw [if_neg c25] at H
 have c25b0 : (a0_3 == 0) = false := beq_eq_false_iff_ne.mpr c25
 have c25b1 : (a0_3 != 0) = true := bne_iff_ne.mpr c25
 obtain rfl := Option.some.inj H
 have hcz27_0 := c1_ BK175 0 (.int .i64 a0_0)
 have hcz27_1 := c1_ BK175 1 (.int .i64 a0_1)
 have hcz27_2 := c1_ BK175 2 (.int .i64 a0_2)
 have hcz27_3 := c1_ BK175 3 (.int .i64 a0_3)
 have hcz27_4 := c1_ BK175 4 (.string a0_4)
 have hcz27_5 := c1_ BK175 5 (.int .i64 a0_5)
 have hfz27_0 := f1_ BK175 0
 have hfz27_1 := f1_ BK175 1
 have hfz27_2 := f1_ BK175 2
 have hfz27_3 := f1_ BK175 3
 have hfz27_4 := f1_ BK175 4
 have hfz27_5 := f1_ BK175 5
 go_wp2_with (first | ((with_reducible refine gate_callee (f := 27) rfl ?_); refine goesL_ (some 43) rfl rfl Tryd.func27 s2_ rfl #[.string a0_4] rfl s3_ ?_; (with_reducible refine (impl_IsText.calls kj1 a0_4 true _ A23.out).mono ?_); rintro e w' ⟨rfl, ⟨nd, rfl⟩⟩; refine ⟨_, rfl, ?_⟩))
 go_ret
 exact ⟨by first | rfl | (simp [errW_none, errW_some] <;> rfl) | (simp [*, errW_none, errW_some] <;> rfl), by repeat (first | (with_reducible first | exact HB.out | apply below_alloc | apply pw_below_drewN | apply below_drew1) | exact HB.out)⟩}}
 {
 replace c24 := Bool.eq_false_iff.mpr c24
 subst c24
 have H1 : (some false) = some r := by rw [if_neg (show ¬ (false = true) by decide)] at H; exact H
 clear H
 have H := H1
 clear H1
 obtain rfl := Option.some.inj H
 have hcz28_0 := c1_ BK175 0 (.int .i64 a0_0)
 have hcz28_1 := c1_ BK175 1 (.int .i64 a0_1)
 have hcz28_2 := c1_ BK175 2 (.int .i64 a0_2)
 have hcz28_3 := c1_ BK175 3 (.int .i64 a0_3)
 have hcz28_4 := c1_ BK175 4 (.string a0_4)
 have hcz28_5 := c1_ BK175 5 (.int .i64 a0_5)
 have hfz28_0 := f1_ BK175 0
 have hfz28_1 := f1_ BK175 1
 have hfz28_2 := f1_ BK175 2
 have hfz28_3 := f1_ BK175 3
 have hfz28_4 := f1_ BK175 4
 have hfz28_5 := f1_ BK175 5
 go_wp2_with (first | ((with_reducible refine gate_callee (f := 27) rfl ?_); refine goesL_ (some 43) rfl rfl Tryd.func27 s2_ rfl #[.string a0_4] rfl s3_ ?_; (with_reducible refine (impl_IsText.calls kj1 a0_4 false _ A23.out).mono ?_); rintro e w' ⟨rfl, ⟨nd, rfl⟩⟩; refine ⟨_, rfl, ?_⟩))
 go_ret
 exact ⟨by first | rfl | (simp [errW_none, errW_some] <;> rfl) | (simp [*, errW_none, errW_some] <;> rfl), by repeat (first | (with_reducible first | exact HB.out | apply below_alloc | apply pw_below_drewN | apply below_drew1) | exact HB.out)⟩}}
 {
 rw [if_neg c22] at H
 have c22b0 : (a0_0 == 1) = false := beq_eq_false_iff_ne.mpr c22
 have c22b1 : (a0_0 != 1) = true := bne_iff_ne.mpr c22
 by_cases c29 : a0_3 = 0
 {
 rw [if_pos c29] at H
 have c29b0 : (a0_3 == 0) = true := beq_iff_eq.mpr c29
 have c29b1 : (a0_3 != 0) = false := bne_eq_false_iff_eq.mpr c29
 clear c29
 by_cases c30 : a0_4.toList = ([] : List UInt8)
 {
 rw [if_pos c30] at H
 have c30b0 : (a0_4.toList == ([] : List UInt8)) = true := beq_iff_eq.mpr c30
 have c30b1 : (a0_4.toList != ([] : List UInt8)) = false := bne_eq_false_iff_eq.mpr c30
 clear c30
 obtain rfl := Option.some.inj H
 have hcz31_0 := c1_ BK175 0 (.int .i64 a0_0)
 have hcz31_1 := c1_ BK175 1 (.int .i64 a0_1)
 have hcz31_2 := c1_ BK175 2 (.int .i64 a0_2)
 have hcz31_3 := c1_ BK175 3 (.int .i64 a0_3)
 have hcz31_4 := c1_ BK175 4 (.string a0_4)
 have hcz31_5 := c1_ BK175 5 (.int .i64 a0_5)
 have hfz31_0 := f1_ BK175 0
 have hfz31_1 := f1_ BK175 1
 have hfz31_2 := f1_ BK175 2
 have hfz31_3 := f1_ BK175 3
 have hfz31_4 := f1_ BK175 4
 have hfz31_5 := f1_ BK175 5
 go_wp2
 go_ret
 exact ⟨by first | rfl | (simp [errW_none, errW_some] <;> rfl) | (simp [*, errW_none, errW_some] <;> rfl), by repeat (first | (with_reducible first | exact HB.out | apply below_alloc | apply pw_below_drewN | apply below_drew1) | exact HB.out)⟩}
 {
 rw [if_neg c30] at H
 have c30b0 : (a0_4.toList == ([] : List UInt8)) = false := beq_eq_false_iff_ne.mpr c30
 have c30b1 : (a0_4.toList != ([] : List UInt8)) = true := bne_iff_ne.mpr c30
 obtain rfl := Option.some.inj H
 have hcz32_0 := c1_ BK175 0 (.int .i64 a0_0)
 have hcz32_1 := c1_ BK175 1 (.int .i64 a0_1)
 have hcz32_2 := c1_ BK175 2 (.int .i64 a0_2)
 have hcz32_3 := c1_ BK175 3 (.int .i64 a0_3)
 have hcz32_4 := c1_ BK175 4 (.string a0_4)
 have hcz32_5 := c1_ BK175 5 (.int .i64 a0_5)
 have hfz32_0 := f1_ BK175 0
 have hfz32_1 := f1_ BK175 1
 have hfz32_2 := f1_ BK175 2
 have hfz32_3 := f1_ BK175 3
 have hfz32_4 := f1_ BK175 4
 have hfz32_5 := f1_ BK175 5
 go_wp2
 go_ret
 exact ⟨by first | rfl | (simp [errW_none, errW_some] <;> rfl) | (simp [*, errW_none, errW_some] <;> rfl), by repeat (first | (with_reducible first | exact HB.out | apply below_alloc | apply pw_below_drewN | apply below_drew1) | exact HB.out)⟩}}
 {
 rw [if_neg c29] at H
 have c29b0 : (a0_3 == 0) = false := beq_eq_false_iff_ne.mpr c29
 have c29b1 : (a0_3 != 0) = true := bne_iff_ne.mpr c29
 obtain rfl := Option.some.inj H
 have hcz33_0 := c1_ BK175 0 (.int .i64 a0_0)
 have hcz33_1 := c1_ BK175 1 (.int .i64 a0_1)
 have hcz33_2 := c1_ BK175 2 (.int .i64 a0_2)
 have hcz33_3 := c1_ BK175 3 (.int .i64 a0_3)
 have hcz33_4 := c1_ BK175 4 (.string a0_4)
 have hcz33_5 := c1_ BK175 5 (.int .i64 a0_5)
 have hfz33_0 := f1_ BK175 0
 have hfz33_1 := f1_ BK175 1
 have hfz33_2 := f1_ BK175 2
 have hfz33_3 := f1_ BK175 3
 have hfz33_4 := f1_ BK175 4
 have hfz33_5 := f1_ BK175 5
 go_wp2
 go_ret
 exact ⟨by first | rfl | (simp [errW_none, errW_some] <;> rfl) | (simp [*, errW_none, errW_some] <;> rfl), by repeat (first | (with_reducible first | exact HB.out | apply below_alloc | apply pw_below_drewN | apply below_drew1) | exact HB.out)⟩}}}}}}

-- NOT PRINTED: function 57 (bytealg_IndexByteString)

-- NOT PRINTED: function 45 (stringslite_IndexByte)

-- NOT PRINTED: function 46 (bytealg_IndexString)

-- NOT PRINTED: function 38 (stringslite_Index)

-- NOT PRINTED: function 30 (stringslite_Cut)

/-! ### strconv_FormatInt_41: function 41 -/
section
open Go.Shelf
def strconv_FormatInt_41.lays_ren : Go.Shelf.Ren := ⟨fun | 173 => 41 | 246 => 54 | 283 => 67 | 284 => 68 | 285 => 69 | 286 => 70 | 129 => 80 | 317 => 79 | 318 => 81 | 319 => 82 | 320 => 83 | 337 => 85 | 338 => 86 | n => n, fun | 2 => 2 | 3 => 3 | 9 => 9 | 4 => 4 | 171 => 89 | 0 => 0 | 53 => 82 | 37 => 60 | 5 => 5 | 173 => 92 | 212 => 103 | 51 => 75 | 20 => 20 | 213 => 104 | 46 => 71 | 232 => 115 | 233 => 116 | n => n, fun | 17 => 3 | 18 => 6 | 19 => 7 | n => n⟩
theorem strconv_FormatInt_41.lays : Go.Proofs.LaysM.n173 Tryd.prog strconv_FormatInt_41.lays_ren := {
  mixed := by kernel_rfl
  f129 := Tryd.func80.trans (congrArg some (by kernel_rfl))
  f173 := Tryd.func41.trans (congrArg some (by kernel_rfl))
  f246 := Tryd.func54.trans (congrArg some (by kernel_rfl))
  f283 := Tryd.func67.trans (congrArg some (by kernel_rfl))
  f284 := Tryd.func68.trans (congrArg some (by kernel_rfl))
  f285 := Tryd.func69.trans (congrArg some (by kernel_rfl))
  f286 := Tryd.func70.trans (congrArg some (by kernel_rfl))
  f317 := Tryd.func79.trans (congrArg some (by kernel_rfl))
  f318 := Tryd.func81.trans (congrArg some (by kernel_rfl))
  f319 := Tryd.func82.trans (congrArg some (by kernel_rfl))
  f320 := Tryd.func83.trans (congrArg some (by kernel_rfl))
  f337 := Tryd.func85.trans (congrArg some (by kernel_rfl))
  f338 := Tryd.func86.trans (congrArg some (by kernel_rfl))
  t0 := Tryd.underlying0
  a0 := Tryd.isAgg0
  z0 := Tryd.sizeOf0
  v0 := Tryd.zeroValue0
  t2 := Tryd.underlying2
  a2 := Tryd.isAgg2
  z2 := Tryd.sizeOf2
  v2 := Tryd.zeroValue2
  t3 := Tryd.underlying3
  a3 := Tryd.isAgg3
  z3 := Tryd.sizeOf3
  v3 := Tryd.zeroValue3
  t4 := Tryd.underlying4
  a4 := Tryd.isAgg4
  z4 := Tryd.sizeOf4
  v4 := Tryd.zeroValue4
  t5 := Tryd.underlying5
  a5 := Tryd.isAgg5
  z5 := Tryd.sizeOf5
  v5 := Tryd.zeroValue5
  t9 := Tryd.underlying9
  a9 := Tryd.isAgg9
  z9 := Tryd.sizeOf9
  v9 := Tryd.zeroValue9
  t20 := Tryd.underlying20
  a20 := Tryd.isAgg20
  z20 := Tryd.sizeOf20
  v20 := Tryd.zeroValue20
  t37 := Tryd.underlying60
  a37 := Tryd.isAgg60
  z37 := Tryd.sizeOf60
  v37 := Tryd.zeroValue60
  t46 := Tryd.underlying71
  a46 := Tryd.isAgg71
  z46 := Tryd.sizeOf71
  v46 := Tryd.zeroValue71
  t51 := Tryd.underlying75
  a51 := Tryd.isAgg75
  z51 := Tryd.sizeOf75
  v51 := Tryd.zeroValue75
  t53 := Tryd.underlying82
  a53 := Tryd.isAgg82
  z53 := Tryd.sizeOf82
  v53 := Tryd.zeroValue82
  t171 := Tryd.underlying89
  a171 := Tryd.isAgg89
  z171 := Tryd.sizeOf89
  v171 := Tryd.zeroValue89
  t173 := Tryd.underlying92
  a173 := Tryd.isAgg92
  z173 := Tryd.sizeOf92
  v173 := Tryd.zeroValue92
  t212 := Tryd.underlying103
  a212 := Tryd.isAgg103
  z212 := Tryd.sizeOf103
  v212 := Tryd.zeroValue103
  t213 := Tryd.underlying104
  a213 := Tryd.isAgg104
  z213 := Tryd.sizeOf104
  t232 := Tryd.underlying115
  a232 := Tryd.isAgg115
  z232 := Tryd.sizeOf115
  v232 := Tryd.zeroValue115
  t233 := Tryd.underlying116
  a233 := Tryd.isAgg116
  z233 := Tryd.sizeOf116
  v233 := Tryd.zeroValue116
  g17 := by kernel_rfl
  g18 := by kernel_rfl
  g19 := by kernel_rfl
  i0 := by kernel_rfl
  i2 := by kernel_rfl
  i3 := by kernel_rfl
  i4 := by kernel_rfl
  i5 := by kernel_rfl
  i9 := by kernel_rfl
  i20 := by kernel_rfl
  i37 := by kernel_rfl
  i46 := by kernel_rfl
  i51 := by kernel_rfl
  i53 := by kernel_rfl
  i171 := by kernel_rfl
  i173 := by kernel_rfl
  i212 := by kernel_rfl
  i232 := by kernel_rfl
  i233 := by kernel_rfl
  m17 := by kernel_rfl
  m18 := by kernel_rfl
  m19 := by kernel_rfl }
end
/-- An error variable's cell. -/
def ErrAt (g : Nat) (w : World) : Prop := ∃ ev, w.cell? ⟨g, 0, none⟩ = some ev ∧ (ev = .nilIface ∨ ∃ te pe, ev = .iface te pe)
/-- What the library's functions read, in this world: the table, the limit, the two error variables. -/
def TG (w : World) : Prop := Lib.TabIs Tryd.prog w "internal/strconv.uint64pow10" .u64 Lib.pow10Tab ∧ (∃ m, w.cell? ⟨0, 0, none⟩ = some (.int .i64 m)) ∧ ErrAt 1 w ∧ ErrAt 2 w
theorem ErrAt.on {g : Nat} {w w1 : World} (h : ErrAt g w) (hb : Below w.heap.size w w1) : ErrAt g w1 := by
  obtain ⟨ev, hc, he⟩ := h
  exact ⟨ev, (hb.cell (World.block_lt_of_cell? w _ hc)).trans hc, he⟩
theorem TG.on {w w1 : World} (h : TG w) (hb : Below w.heap.size w w1) : TG w1 := by
  obtain ⟨h1, ⟨m, h2⟩, h3, h4⟩ := h
  exact ⟨Lib.tabBelow_of_tabIs h1 w1 hb, ⟨m, (hb.cell (World.block_lt_of_cell? w _ h2)).trans h2⟩, h3.on hb, h4.on hb⟩
/-- strconv.FormatInt at base 10. -/
def strconv_FormatInt_41.f (a0 : Int) (a1 : Int) : Option ByteArray := if a1 = 10 ∧ -9223372036854775808 ≤ a0 ∧ a0 ≤ 9223372036854775807 then some ⟨(Lib.itoa a0).toArray⟩ else none
theorem strconv_FormatInt_41.calls (a0 : Int) (a1 : Int) (r : ByteArray) (w : World) (h : strconv_FormatInt_41.f a0 a1 = some r) (hG : TG w) :
    Calls Tryd.prog 41 #[.int .i64 a0, .int .i64 a1] w fun e w' => e = .returned (.string r) ∧ Below w.heap.size w w' := by
  unfold strconv_FormatInt_41.f at h
  split at h
  · rename_i hc
    obtain ⟨rfl, h0, h1⟩ := hc
    obtain rfl := Option.some.inj h
    refine (Any.strconv_FormatInt_10 strconv_FormatInt_41.lays a0 h0 h1 w hG.1).mono ?_
    rintro e w' ⟨rfl, k, os, rfl⟩
    exact ⟨rfl, Lib.below_grow _ _ (Nat.le_refl _) _ _⟩
  · cases h

/-! ### strings_Cut: function 17 -/
section
open Go.Shelf
def strings_Cut.lays_ren : Go.Shelf.Ren := ⟨fun | 145 => 17 | 220 => 30 | 219 => 38 | 217 => 45 | 225 => 46 | 224 => 47 | 267 => 48 | 266 => 57 | 314 => 58 | n => n, fun | 9 => 9 | 4 => 4 | 59 => 39 | 3 => 3 | 5 => 5 | 46 => 71 | 146 => 76 | 51 => 75 | n => n, fun | 1 => 0 | n => n⟩
theorem strings_Cut.lays : Go.Proofs.Lays.n145 Tryd.prog strings_Cut.lays_ren := {
  mixed := by kernel_rfl
  f145 := Tryd.func17.trans (congrArg some (by kernel_rfl))
  f217 := Tryd.func45.trans (congrArg some (by kernel_rfl))
  f219 := Tryd.func38.trans (congrArg some (by kernel_rfl))
  f220 := Tryd.func30.trans (congrArg some (by kernel_rfl))
  f224 := Tryd.func47.trans (congrArg some (by kernel_rfl))
  f225 := Tryd.func46.trans (congrArg some (by kernel_rfl))
  f266 := Tryd.func57.trans (congrArg some (by kernel_rfl))
  f267 := Tryd.func48.trans (congrArg some (by kernel_rfl))
  f314 := Tryd.func58.trans (congrArg some (by kernel_rfl))
  t3 := Tryd.underlying3
  a3 := Tryd.isAgg3
  z3 := Tryd.sizeOf3
  v3 := Tryd.zeroValue3
  t4 := Tryd.underlying4
  a4 := Tryd.isAgg4
  z4 := Tryd.sizeOf4
  v4 := Tryd.zeroValue4
  t5 := Tryd.underlying5
  a5 := Tryd.isAgg5
  z5 := Tryd.sizeOf5
  v5 := Tryd.zeroValue5
  t9 := Tryd.underlying9
  a9 := Tryd.isAgg9
  z9 := Tryd.sizeOf9
  v9 := Tryd.zeroValue9
  t46 := Tryd.underlying71
  a46 := Tryd.isAgg71
  z46 := Tryd.sizeOf71
  v46 := Tryd.zeroValue71
  t51 := Tryd.underlying75
  a51 := Tryd.isAgg75
  z51 := Tryd.sizeOf75
  v51 := Tryd.zeroValue75
  t59 := Tryd.underlying39
  a59 := Tryd.isAgg39
  z59 := Tryd.sizeOf39
  v59 := Tryd.zeroValue39
  t146 := Tryd.underlying76
  a146 := Tryd.isAgg76
  z146 := Tryd.sizeOf76
  v146 := Tryd.zeroValue76
  g1 := by kernel_rfl }
end
/-- strings.Cut. -/
def strings_Cut.f (a0 : ByteArray) (a1 : ByteArray) : Option (ByteArray × ByteArray × Bool) := if a0.size < 4294967281 then some (⟨(Lib.cut a0.data.toList a1.data.toList).1.toArray⟩, ⟨(Lib.cut a0.data.toList a1.data.toList).2.1.toArray⟩, (Lib.cut a0.data.toList a1.data.toList).2.2) else none
theorem strings_Cut.calls (a0 : ByteArray) (a1 : ByteArray) (r1 : ByteArray) (r2 : ByteArray) (r3 : Bool) (w : World) (h : strings_Cut.f a0 a1 = some (r1, r2, r3)) (hG : TG w) :
    Calls Tryd.prog 17 #[.string a0, .string a1] w fun e w' => e = .returned (.tuple #[.string r1, .string r2, .bool r3]) ∧ Below w.heap.size w w' := by
  unfold strings_Cut.f at h
  split at h
  · rename_i hz
    simp only [Option.some.injEq, Prod.mk.injEq] at h
    obtain ⟨rfl, rfl, rfl⟩ := h
    obtain ⟨m, hm⟩ := hG.2.1
    refine (Any.strings_Cut strings_Cut.lays a0 a1 m w hz hm).mono ?_
    rintro e w' ⟨rfl, n, rfl⟩
    exact ⟨rfl, by repeat (first | (with_reducible first | exact Below.refl _ _ | apply below_alloc | apply pw_below_drewN | apply below_drew1) | exact Below.refl _ _)⟩
  · cases h

-- NOT PRINTED: function 59 (utf8_RuneCountInString)

-- NOT PRINTED: function 73 (utf8_decodeRuneInStringSlow)

-- NOT PRINTED: function 60 (utf8_DecodeRuneInString)

-- NOT PRINTED: function 49 (strings_explode)

-- NOT PRINTED: function 51 (strings_Index)

-- NOT PRINTED: function 61 (bytealg_CountString)

-- NOT PRINTED: function 50 (strings_Count)

-- NOT PRINTED: function 39 (strings_genSplit)

/-! ### strings_Split: function 31 -/
section
open Go.Shelf
def strings_Split.lays_ren : Go.Shelf.Ren := ⟨fun | 146 => 31 | 221 => 39 | 268 => 49 | 138 => 50 | 143 => 51 | 195 => 59 | 197 => 60 | 218 => 61 | 219 => 38 | 260 => 73 | 217 => 45 | 225 => 46 | 224 => 47 | 267 => 48 | 266 => 57 | 314 => 58 | n => n, fun | 9 => 9 | 31 => 47 | 3 => 3 | 4 => 4 | 0 => 0 | 105 => 79 | 21 => 21 | 5 => 5 | 46 => 71 | 119 => 107 | 139 => 110 | 138 => 109 | 146 => 76 | 51 => 75 | n => n, fun | 1 => 0 | 3 => 4 | 4 => 5 | n => n⟩
theorem strings_Split.lays : Go.Proofs.Lays.n146 Tryd.prog strings_Split.lays_ren := {
  mixed := by kernel_rfl
  f138 := Tryd.func50.trans (congrArg some (by kernel_rfl))
  f143 := Tryd.func51.trans (congrArg some (by kernel_rfl))
  f146 := Tryd.func31.trans (congrArg some (by kernel_rfl))
  f195 := Tryd.func59.trans (congrArg some (by kernel_rfl))
  f197 := Tryd.func60.trans (congrArg some (by kernel_rfl))
  f217 := Tryd.func45.trans (congrArg some (by kernel_rfl))
  f218 := Tryd.func61.trans (congrArg some (by kernel_rfl))
  f219 := Tryd.func38.trans (congrArg some (by kernel_rfl))
  f221 := Tryd.func39.trans (congrArg some (by kernel_rfl))
  f224 := Tryd.func47.trans (congrArg some (by kernel_rfl))
  f225 := Tryd.func46.trans (congrArg some (by kernel_rfl))
  f260 := Tryd.func73.trans (congrArg some (by kernel_rfl))
  f266 := Tryd.func57.trans (congrArg some (by kernel_rfl))
  f267 := Tryd.func48.trans (congrArg some (by kernel_rfl))
  f268 := Tryd.func49.trans (congrArg some (by kernel_rfl))
  f314 := Tryd.func58.trans (congrArg some (by kernel_rfl))
  t0 := Tryd.underlying0
  a0 := Tryd.isAgg0
  z0 := Tryd.sizeOf0
  v0 := Tryd.zeroValue0
  t3 := Tryd.underlying3
  a3 := Tryd.isAgg3
  z3 := Tryd.sizeOf3
  v3 := Tryd.zeroValue3
  t4 := Tryd.underlying4
  a4 := Tryd.isAgg4
  z4 := Tryd.sizeOf4
  v4 := Tryd.zeroValue4
  t5 := Tryd.underlying5
  a5 := Tryd.isAgg5
  z5 := Tryd.sizeOf5
  v5 := Tryd.zeroValue5
  t9 := Tryd.underlying9
  a9 := Tryd.isAgg9
  z9 := Tryd.sizeOf9
  v9 := Tryd.zeroValue9
  t21 := Tryd.underlying21
  a21 := Tryd.isAgg21
  z21 := Tryd.sizeOf21
  v21 := Tryd.zeroValue21
  t31 := Tryd.underlying47
  a31 := Tryd.isAgg47
  z31 := Tryd.sizeOf47
  v31 := Tryd.zeroValue47
  t46 := Tryd.underlying71
  a46 := Tryd.isAgg71
  z46 := Tryd.sizeOf71
  v46 := Tryd.zeroValue71
  t51 := Tryd.underlying75
  a51 := Tryd.isAgg75
  z51 := Tryd.sizeOf75
  v51 := Tryd.zeroValue75
  t105 := Tryd.underlying79
  a105 := Tryd.isAgg79
  z105 := Tryd.sizeOf79
  v105 := Tryd.zeroValue79
  t119 := Tryd.underlying107
  a119 := Tryd.isAgg107
  z119 := Tryd.sizeOf107
  t138 := Tryd.underlying109
  a138 := Tryd.isAgg109
  z138 := Tryd.sizeOf109
  v138 := Tryd.zeroValue109
  t139 := Tryd.underlying110
  a139 := Tryd.isAgg110
  z139 := Tryd.sizeOf110
  v139 := Tryd.zeroValue110
  t146 := Tryd.underlying76
  a146 := Tryd.isAgg76
  z146 := Tryd.sizeOf76
  v146 := Tryd.zeroValue76
  g1 := by kernel_rfl
  g3 := by kernel_rfl
  g4 := by kernel_rfl }
end
/-- strings.Split at a separator that is not empty. -/
def strings_Split.f (a0 : ByteArray) (a1 : ByteArray) : Option (List ByteArray) := if a0.size < 4294967281 ∧ 1 ≤ a1.size ∧ Lib.countB a0 a1 + 1 ≤ 4294967296 then some (Lib.splitB a1 0 (Lib.countB a0 a1) a0) else none
theorem strings_Split.calls (a0 : ByteArray) (a1 : ByteArray) (r : List ByteArray) (w : World) (h : strings_Split.f a0 a1 = some r) (hG : TG w) :
    Calls Tryd.prog 31 #[.string a0, .string a1] w fun e w' => ∃ v0_ : Value, e = .returned (v0_) ∧ Kd.R Kd.string 9 w' w.heap.size (fun _ => True) v0_ r ∧ Below w.heap.size w w' := by
  unfold strings_Split.f at h
  split at h
  · rename_i hz
    obtain ⟨hz, h1, hc⟩ := hz
    obtain rfl := Option.some.inj h
    obtain ⟨m, hm⟩ := hG.2.1
    have hlen := Lib.splitB_all a1 h1 0 _ a0 rfl
    refine (Any.strings_Split strings_Split.lays (by kernel_rfl) a0 a1 m w hz hm h1).mono ?_
    rintro e w' ⟨rfl, rfl⟩
    generalize hL : Lib.splitB a1 0 (Lib.countB a0 a1) a0 = L at hlen
    rw [← hlen]
    have hs : (Kd.string : Kd ByteArray).sz = 1 := rfl
    refine ⟨_, rfl, ⟨fun _ _ => trivial, L.map Value.string, ⟨by simp [hs], .inr ⟨w.heap.size, L.length, (L.map Value.string).toArray, rfl, Nat.le_refl _, ?_, Nat.le_refl _, by unfold maxLen; omega, by simp [hs], List.take_of_length_le (by simp [hs])⟩⟩, by simp [hs], ?_⟩, by repeat (first | (with_reducible first | exact Below.refl _ _ | apply below_alloc | apply pw_below_drewN | apply below_drew1) | exact Below.refl _ _)⟩
    · show (w.heap.push (.cells (L.map Value.string).toArray 9))[w.heap.size]? = _
      rw [Array.getElem?_push_size]
    · intro j p hp
      have hj : j < L.length := (List.getElem?_eq_some_iff.1 hp).1
      have hpj : L[j] = p := by rw [List.getElem?_eq_getElem hj] at hp; exact Option.some.inj hp
      show ((L.map Value.string).drop (j * 1)).take 1 = [Value.string p]
      rw [Nat.mul_one, List.drop_eq_getElem_cons (by simpa using hj)]
      simp [hpj]
  · cases h

-- NOT PRINTED: function 68 (strconv_numDigits)

-- NOT PRINTED: function 69 (strconv_formatBase10)

-- NOT PRINTED: function 85 (bits_TrailingZeros32)

-- NOT PRINTED: function 86 (bits_TrailingZeros64)

-- NOT PRINTED: function 83 (bits_TrailingZeros)

-- NOT PRINTED: function 70 (strconv_formatBits)

-- NOT PRINTED: function 54 (strconv_FormatInt_54)

/-! ### impl_Decimal: function 34 -/
def impl_Decimal.f (a0 : Int) : Option (ByteArray) := (strconv_FormatInt_41.f a0 10).bind fun t227 => (some t227)
set_option maxHeartbeats 8000000 in
set_option maxRecDepth 100000 in
theorem impl_Decimal.calls (a0 : Int) (r : ByteArray) (w : World) (h : impl_Decimal.f a0 = some r) (hG : TG w) :
    Calls Tryd.prog 34 #[.int .i64 a0] w fun e w' => e = .returned (.string r) ∧ Below w.heap.size w w' := by
  have HB := Aside0.mk (Below.refl w.heap.size w)
  have HTG := Aside0.mk hG
  clear hG
  have H : ((strconv_FormatInt_41.f a0 10).bind fun t227 => (some t227)) = some r := h
  clear h
  replace H := Option.bind_eq_some_iff.mp H
  obtain ⟨t227, A20, H⟩ := H
  replace H : (some t227) = some r := H
  have A2 := Aside0.mk A20
  clear A20
  obtain rfl := Option.some.inj H
  go_enter Tryd.func34, Tryd.ntmps34
  go_wp2_with (first | ((with_reducible refine gate_callee (f := 41) rfl ?_); refine goesL_ (some 4) rfl rfl Tryd.func41 (by kernel_rfl) rfl #[.int .i64 a0, .int .i64 10] rfl (by (try simp only [List.map_toArray, List.map_cons, List.map_nil]); first | done | rfl | (simp only [List.length_drop, List.length_take]; rfl)) ?_; (with_reducible refine (strconv_FormatInt_41.calls a0 10 t227 _ A2.out (HTG.out.on (by repeat (first | (with_reducible first | exact HB.out | apply below_alloc | apply pw_below_drewN | apply below_drew1) | exact HB.out)))).mono ?_); rintro e w3 ⟨rfl, hb⟩; refine ⟨_, rfl, ?_⟩; replace HB := Aside0.mk (below_step (by repeat (first | (with_reducible first | exact HB.out | apply below_alloc | apply pw_below_drewN | apply below_drew1) | exact HB.out)) hb); (try clear hb); (try clear hb2); (try clear hk); (try clear hi)))
  go_ret
  exact ⟨by first | rfl | (simp [errW_none, errW_some] <;> rfl) | (simp [*, errW_none, errW_some] <;> rfl), by repeat (first | (with_reducible first | exact HB.out | apply below_alloc | apply pw_below_drewN | apply below_drew1) | exact HB.out)⟩

-- NOT PRINTED: function 62 (strconv_ParseUint)

-- NOT PRINTED: function 52 (strconv_ParseInt_52)

-- NOT PRINTED: function 76 (stringslite_Clone)

-- NOT PRINTED: function 63 (strconv_syntaxError)

-- NOT PRINTED: function 64 (strconv_rangeError)

-- NOT PRINTED: function 77 (errors_New)

-- NOT PRINTED: function 84 (strconv_Itoa_84)

-- NOT PRINTED: function 78 (strconv_Itoa_78)

-- NOT PRINTED: function 65 (strconv_baseError)

-- NOT PRINTED: function 66 (strconv_bitSizeError)

-- NOT PRINTED: function 53 (strconv_toError)

/-! ### strconv_ParseInt_40: function 40 -/
section
open Go.Shelf
def strconv_ParseInt_40.lays_ren : Go.Shelf.Ren := ⟨fun | 174 => 40 | 247 => 52 | 245 => 53 | 287 => 62 | 279 => 63 | 280 => 64 | 281 => 65 | 282 => 66 | 321 => 74 | 322 => 75 | 316 => 76 | 171 => 78 | 205 => 77 | 243 => 84 | 246 => 54 | 283 => 67 | 284 => 68 | 285 => 69 | 286 => 70 | 129 => 80 | 317 => 79 | 318 => 81 | 319 => 82 | 320 => 83 | 337 => 85 | 338 => 86 | n => n, fun | 9 => 9 | 3 => 3 | 2 => 2 | 75 => 57 | 85 => 58 | 4 => 4 | 167 => 81 | 5 => 5 | 53 => 82 | 175 => 83 | 46 => 71 | 168 => 85 | 37 => 60 | 0 => 0 | 210 => 100 | 21 => 21 | 127 => 74 | 145 => 113 | 143 => 111 | 171 => 89 | 173 => 92 | 212 => 103 | 51 => 75 | 20 => 20 | 213 => 104 | 232 => 115 | 233 => 116 | 80 => 68 | n => n, fun | 15 => 1 | 16 => 2 | 17 => 3 | 18 => 6 | 19 => 7 | n => n⟩
theorem strconv_ParseInt_40.lays : Go.Proofs.LaysC.n174 Tryd.prog strconv_ParseInt_40.lays_ren := {
  mixed := by kernel_rfl
  f129 := Tryd.func80.trans (congrArg some (by kernel_rfl))
  f171 := Tryd.func78.trans (congrArg some (by kernel_rfl))
  f174 := Tryd.func40.trans (congrArg some (by kernel_rfl))
  f205 := Tryd.func77.trans (congrArg some (by kernel_rfl))
  f243 := Tryd.func84.trans (congrArg some (by kernel_rfl))
  f245 := Tryd.func53.trans (congrArg some (by kernel_rfl))
  f246 := Tryd.func54.trans (congrArg some (by kernel_rfl))
  f247 := Tryd.func52.trans (congrArg some (by kernel_rfl))
  f279 := Tryd.func63.trans (congrArg some (by kernel_rfl))
  f280 := Tryd.func64.trans (congrArg some (by kernel_rfl))
  f281 := Tryd.func65.trans (congrArg some (by kernel_rfl))
  f282 := Tryd.func66.trans (congrArg some (by kernel_rfl))
  f283 := Tryd.func67.trans (congrArg some (by kernel_rfl))
  f284 := Tryd.func68.trans (congrArg some (by kernel_rfl))
  f285 := Tryd.func69.trans (congrArg some (by kernel_rfl))
  f286 := Tryd.func70.trans (congrArg some (by kernel_rfl))
  f287 := Tryd.func62.trans (congrArg some (by kernel_rfl))
  f316 := Tryd.func76.trans (congrArg some (by kernel_rfl))
  f317 := Tryd.func79.trans (congrArg some (by kernel_rfl))
  f318 := Tryd.func81.trans (congrArg some (by kernel_rfl))
  f319 := Tryd.func82.trans (congrArg some (by kernel_rfl))
  f320 := Tryd.func83.trans (congrArg some (by kernel_rfl))
  f321 := Tryd.func74.trans (congrArg some (by kernel_rfl))
  f322 := Tryd.func75.trans (congrArg some (by kernel_rfl))
  f337 := Tryd.func85.trans (congrArg some (by kernel_rfl))
  f338 := Tryd.func86.trans (congrArg some (by kernel_rfl))
  t0 := Tryd.underlying0
  a0 := Tryd.isAgg0
  z0 := Tryd.sizeOf0
  v0 := Tryd.zeroValue0
  t2 := Tryd.underlying2
  a2 := Tryd.isAgg2
  z2 := Tryd.sizeOf2
  v2 := Tryd.zeroValue2
  t3 := Tryd.underlying3
  a3 := Tryd.isAgg3
  z3 := Tryd.sizeOf3
  v3 := Tryd.zeroValue3
  t4 := Tryd.underlying4
  a4 := Tryd.isAgg4
  z4 := Tryd.sizeOf4
  v4 := Tryd.zeroValue4
  t5 := Tryd.underlying5
  a5 := Tryd.isAgg5
  z5 := Tryd.sizeOf5
  v5 := Tryd.zeroValue5
  t9 := Tryd.underlying9
  a9 := Tryd.isAgg9
  z9 := Tryd.sizeOf9
  v9 := Tryd.zeroValue9
  t20 := Tryd.underlying20
  a20 := Tryd.isAgg20
  z20 := Tryd.sizeOf20
  v20 := Tryd.zeroValue20
  t21 := Tryd.underlying21
  a21 := Tryd.isAgg21
  z21 := Tryd.sizeOf21
  v21 := Tryd.zeroValue21
  t37 := Tryd.underlying60
  a37 := Tryd.isAgg60
  z37 := Tryd.sizeOf60
  v37 := Tryd.zeroValue60
  t46 := Tryd.underlying71
  a46 := Tryd.isAgg71
  z46 := Tryd.sizeOf71
  v46 := Tryd.zeroValue71
  t51 := Tryd.underlying75
  a51 := Tryd.isAgg75
  z51 := Tryd.sizeOf75
  v51 := Tryd.zeroValue75
  t53 := Tryd.underlying82
  a53 := Tryd.isAgg82
  z53 := Tryd.sizeOf82
  v53 := Tryd.zeroValue82
  t75 := Tryd.underlying57
  a75 := Tryd.isAgg57
  z75 := Tryd.sizeOf57
  v75 := Tryd.zeroValue57
  t85 := Tryd.underlying58
  a85 := Tryd.isAgg58
  z85 := Tryd.sizeOf58
  v85 := Tryd.zeroValue58
  t127 := Tryd.underlying74
  a127 := Tryd.isAgg74
  z127 := Tryd.sizeOf74
  v127 := Tryd.zeroValue74
  t143 := Tryd.underlying111
  a143 := Tryd.isAgg111
  z143 := Tryd.sizeOf111
  v143 := Tryd.zeroValue111
  t145 := Tryd.underlying113
  a145 := Tryd.isAgg113
  z145 := Tryd.sizeOf113
  v145 := Tryd.zeroValue113
  t167 := Tryd.underlying81
  a167 := Tryd.isAgg81
  z167 := Tryd.sizeOf81
  v167 := Tryd.zeroValue81
  t168 := Tryd.underlying85
  a168 := Tryd.isAgg85
  z168 := Tryd.sizeOf85
  v168 := Tryd.zeroValue85
  t171 := Tryd.underlying89
  a171 := Tryd.isAgg89
  z171 := Tryd.sizeOf89
  v171 := Tryd.zeroValue89
  t173 := Tryd.underlying92
  a173 := Tryd.isAgg92
  z173 := Tryd.sizeOf92
  v173 := Tryd.zeroValue92
  t175 := Tryd.underlying83
  a175 := Tryd.isAgg83
  z175 := Tryd.sizeOf83
  v175 := Tryd.zeroValue83
  t210 := Tryd.underlying100
  a210 := Tryd.isAgg100
  z210 := Tryd.sizeOf100
  v210 := Tryd.zeroValue100
  t212 := Tryd.underlying103
  a212 := Tryd.isAgg103
  z212 := Tryd.sizeOf103
  v212 := Tryd.zeroValue103
  t213 := Tryd.underlying104
  a213 := Tryd.isAgg104
  z213 := Tryd.sizeOf104
  t232 := Tryd.underlying115
  a232 := Tryd.isAgg115
  z232 := Tryd.sizeOf115
  v232 := Tryd.zeroValue115
  t233 := Tryd.underlying116
  a233 := Tryd.isAgg116
  z233 := Tryd.sizeOf116
  v233 := Tryd.zeroValue116
  g15 := by kernel_rfl
  g16 := by kernel_rfl
  g17 := by kernel_rfl
  g18 := by kernel_rfl
  g19 := by kernel_rfl
  t80 := Tryd.underlying68
  a80 := Tryd.isAgg68
  z80 := Tryd.sizeOf68
  v80 := Tryd.zeroValue68
  i0 := by kernel_rfl
  i2 := by kernel_rfl
  i3 := by kernel_rfl
  i4 := by kernel_rfl
  i5 := by kernel_rfl
  i9 := by kernel_rfl
  i20 := by kernel_rfl
  i21 := by kernel_rfl
  i37 := by kernel_rfl
  i46 := by kernel_rfl
  i51 := by kernel_rfl
  i53 := by kernel_rfl
  i75 := by kernel_rfl
  i80 := by kernel_rfl
  i85 := by kernel_rfl
  i127 := by kernel_rfl
  i143 := by kernel_rfl
  i145 := by kernel_rfl
  i167 := by kernel_rfl
  i168 := by kernel_rfl
  i171 := by kernel_rfl
  i173 := by kernel_rfl
  i175 := by kernel_rfl
  i210 := by kernel_rfl
  i212 := by kernel_rfl
  i232 := by kernel_rfl
  i233 := by kernel_rfl
  m15 := by kernel_rfl
  m16 := by kernel_rfl
  m17 := by kernel_rfl
  m18 := by kernel_rfl
  m19 := by kernel_rfl
  c0 := by kernel_rfl
  c2 := by kernel_rfl
  c3 := by kernel_rfl
  c4 := by kernel_rfl
  c5 := by kernel_rfl
  c9 := by kernel_rfl
  c20 := by kernel_rfl
  c21 := by kernel_rfl
  c37 := by kernel_rfl
  c46 := by kernel_rfl
  c51 := by kernel_rfl
  c53 := by kernel_rfl
  c75 := by kernel_rfl
  c80 := by kernel_rfl
  c85 := by kernel_rfl
  c127 := by kernel_rfl
  c143 := by kernel_rfl
  c145 := by kernel_rfl
  c167 := by kernel_rfl
  c168 := by kernel_rfl
  c171 := by kernel_rfl
  c173 := by kernel_rfl
  c175 := by kernel_rfl
  c210 := by kernel_rfl
  c212 := by kernel_rfl
  c213 := by kernel_rfl
  c232 := by kernel_rfl
  c233 := by kernel_rfl }
end
/-- strconv.ParseInt at base 10 and 64 bits; the second result is told as whether there is an error. -/
def strconv_ParseInt_40.f (a0 : ByteArray) (a1 : Int) (a2 : Int) : Option (Int × Option Int) := if a1 = 10 ∧ a2 = 64 ∧ a0.size ≤ 281474976710656 then some (match Lib.parseIntB 64 a0.data.toList with | .ok v => (v, none) | .range => (Lib.intSat 64 a0.data.toList, some 0) | _ => (0, some 0)) else none
theorem strconv_ParseInt_40.callsN (a0 : ByteArray) (a1 : Int) (a2 : Int) (r1 : Int) (w : World) (h : strconv_ParseInt_40.f a0 a1 a2 = some (r1, none)) :
    Calls Tryd.prog 40 #[.string a0, .int .i64 a1, .int .i64 a2] w fun e w' => e = .returned (.tuple #[.int .i64 r1, .nilIface]) ∧ Below w.heap.size w w' := by
  unfold strconv_ParseInt_40.f at h
  split at h
  · rename_i hc
    obtain ⟨rfl, rfl, hz⟩ := hc
    have h := Option.some.inj h
    cases hp : Lib.parseIntB 64 a0.data.toList with
    | ok v =>
      have h' : (v, (none : Option Int)) = (r1, none) := by rw [hp] at h; exact h
      simp only [Prod.mk.injEq] at h'
      obtain ⟨rfl, -⟩ := h'
      refine (Any.strconv_ParseInt_10_at64_ok strconv_ParseInt_40.lays a0 (by omega) v hp w).mono ?_
      rintro e w' ⟨rfl, rfl | ⟨t, rfl⟩⟩
      · exact ⟨rfl, Below.refl _ _⟩
      · exact ⟨rfl, bytes_below (Below.refl _ _) (Nat.le_refl _) _ _⟩
    | range =>
      have h' : (Lib.intSat 64 a0.data.toList, some (0 : Int)) = (r1, none) := by rw [hp] at h; exact h
      simp at h'
    | _ =>
      have h' : ((0 : Int), some (0 : Int)) = (r1, none) := by rw [hp] at h; exact h
      simp at h'
  · cases h
theorem strconv_ParseInt_40.callsE (a0 : ByteArray) (a1 : Int) (a2 : Int) (r1 : Int) (q : Int) (w : World) (h : strconv_ParseInt_40.f a0 a1 a2 = some (r1, some q)) (hG : TG w) :
    Calls Tryd.prog 40 #[.string a0, .int .i64 a1, .int .i64 a2] w fun e w' => ∃ te pe, e = .returned (.tuple #[.int .i64 r1, .iface te pe]) ∧ Below w.heap.size w w' := by
  unfold strconv_ParseInt_40.f at h
  split at h
  · rename_i hc
    obtain ⟨rfl, rfl, hz⟩ := hc
    have h := Option.some.inj h
    obtain ⟨_, _, ⟨ev1, hv1, he1⟩, ⟨ev2, hv2, he2⟩⟩ := hG
    cases hp : Lib.parseIntB 64 a0.data.toList with
    | ok v =>
      have h' : (v, (none : Option Int)) = (r1, some q) := by rw [hp] at h; exact h
      simp at h'
    | range =>
      have h' : (Lib.intSat 64 a0.data.toList, some (0 : Int)) = (r1, some q) := by rw [hp] at h; exact h
      simp only [Prod.mk.injEq] at h'
      obtain ⟨rfl, -⟩ := h'
      refine (Any.strconv_ParseInt_10_at64_range strconv_ParseInt_40.lays a0 hz hp ev2 w hv2 he2).mono ?_
      rintro e w' ⟨N, rfl, -, -, hb⟩
      exact ⟨_, _, rfl, hb⟩
    | _ =>
      have h' : ((0 : Int), some (0 : Int)) = (r1, some q) := by rw [hp] at h; exact h
      simp only [Prod.mk.injEq] at h'
      obtain ⟨rfl, -⟩ := h'
      refine (Any.strconv_ParseInt_10_at64_syntax strconv_ParseInt_40.lays a0 hz hp ev1 w hv1 he1).mono ?_
      rintro e w' ⟨N, rfl, -, -, hb⟩
      exact ⟨_, _, rfl, hb⟩
  · cases h

end Go.Proofs.YtgmbgpjebpgpkaaDoor.QFnExactReadEvent
