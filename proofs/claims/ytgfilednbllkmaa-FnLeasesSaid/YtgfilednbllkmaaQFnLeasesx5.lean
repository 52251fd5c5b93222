-- written by a program of this session, on the lines of the kit's print
import Derived.Test.YtgfilednbllkmaaQFnJoinedPresencex3
import Derived.Test.YtgfilednbllkmaaQFnJoinedPresencex7
import Derived.Test.YtgfilednbllkmaaQFnJoinedPresencex8
import Derived.Test.YtgfilednbllkmaaQFnJoinedPresencex9
namespace Go.Proofs.Ytgfilednbllkmaa.QFnJoinedPresence
open Go.RowKit Go.Proofs.YtgfilednbllkmaaW.PrintWords Go.Proofs.YtgfilednbllkmaaW.PrintLast Go.Proofs.YtgfilednbllkmaaW.PrintMore
attribute [local go_sem] max2_int min2_int max_two min_two max_three min_three max_four min_four   -- for this text's walks alone
set_option linter.unusedVariables false
set_option linter.unusedSimpArgs false

/-! ### laws_b10Has: function 20 -/
def laws_b10Has.l0 : Nat → List Int → Int → Int → Int → Option (Bool)
  | 0, _, _, _, _ => none
  | k + 1, x0, x1, x7, x8 => if x8 < x7 then (if 0 ≤ x8 then (if x8 < (x0.length : Int) then (if (rd x0 x8) = x1 then (some true) else (laws_b10Has.l0 k x0 x1 x7 (wrap64 (x8 + 1)))) else (none)) else (none)) else (some false)
def laws_b10Has.f (k : Nat) (l0 : List Int) (a1 : Int) : Option (Bool) := laws_b10Has.l0 k l0 a1 (l0.length : Int) 0
theorem laws_b10Has.mono_l : ∀ k, (∀ y0 y1 y2 y3, LeO (laws_b10Has.l0 k y0 y1 y2 y3) (laws_b10Has.l0 (k + 1) y0 y1 y2 y3))
  | 0 => fun _ _ _ _ r h => by simp [laws_b10Has.l0] at h
  | k + 1 => by
    have ih0 := laws_b10Has.mono_l k
    · intro y0 y1 y2 y3
      unfold laws_b10Has.l0
      repeat' first
      | (with_reducible exact ih0 _ _ _ _)
      | (with_reducible exact LeO.refl _)
      | (with_reducible exact LeO.none _)
      | (with_reducible refine LeO.ite ?_ ?_)
      | (with_reducible refine LeO.bind ?_ (fun _ => ?_))
      | exact ih0 _ _ _ _
      | exact LeO.none _
      | refine LeO.ite ?_ ?_
      | refine LeO.bind ?_ (fun _ => ?_)
theorem laws_b10Has.mono : ∀ a0 a1 k, LeO (laws_b10Has.f k a0 a1) (laws_b10Has.f (k + 1) a0 a1) := by
  intro a0 a1 k
  have ih0 := laws_b10Has.mono_l k
  unfold laws_b10Has.f
  repeat' first
      | (with_reducible exact ih0 _ _ _ _)
      | (with_reducible exact LeO.refl _)
      | (with_reducible exact LeO.none _)
      | (with_reducible refine LeO.ite ?_ ?_)
      | (with_reducible refine LeO.bind ?_ (fun _ => ?_))
      | exact ih0 _ _ _ _
      | exact LeO.none _
      | refine LeO.ite ?_ ?_
      | refine LeO.bind ?_ (fun _ => ?_)
set_option maxHeartbeats 8000000 in
set_option maxRecDepth 100000 in
theorem laws_b10Has.calls (k : Nat) (A0 : Option Addr) (c0 : Nat) (l0 : List Int) (a1 : Int) (r : Bool) (w : World) (hr0 : Kd.C (Kd.int .i64) w A0 l0.length l0) (hc0 : l0.length ≤ c0) (h : laws_b10Has.f k l0 a1 = some r) :
    Calls Try.prog 20 #[.slice A0 l0.length c0, .int .i64 a1] w fun e w' => e = .returned (.bool r) ∧ Drawn0 w w' := by
  have HR0 := Aside0.mk hr0
  have HC0 := Aside0.mk hc0
  clear hr0 hc0
  have H : (laws_b10Has.l0 k l0 a1 (l0.length : Int) 0) = some r := h
  clear h
  have H' := Aside0.mk H
  clear H
  go_enter Try.func20, Try.ntmps20
  go_wp2
  go_loopg [8] k (fun kq v8 w' => ∃ (x8_1 : Int), v8 = .int .i64 x8_1 ∧ Aside0 (laws_b10Has.l0 kq l0 a1 (l0.length : Int) x8_1 = some r) ∧ Aside0 (kq ≤ k) ∧ Drawn0 w w')
  case atStart => exact ⟨(0), (by first | rfl | (simp; done) | (simp [*]; done)), H', ⟨Nat.le_refl _⟩, by repeat (first | exact Drawn0.refl _ | apply Drawn0.step)⟩
  case round =>
    clear H'
    try clear c2
    try clear p2
    obtain ⟨x8_1, rfl, HA, HK1, ⟨m1, rfl⟩⟩ := hrel
    cases gk with
    | zero => exact absurd HA.out (by simp [laws_b10Has.l0])
    | succ k1 =>
      have H := HA.out
      clear HA
      simp only [laws_b10Has.l0] at H
      by_cases c3 : x8_1 < (l0.length : Int)
      · rw [if_pos c3] at H
        have c3b0 : decide (x8_1 < (l0.length : Int)) = true := decide_eq_true c3
        clear c3
        by_cases c4 : 0 ≤ x8_1
        · rw [if_pos c4] at H
          have c4b0 : decide (0 ≤ x8_1) = true := decide_eq_true c4
          clear c4
          by_cases c5 : x8_1 < (l0.length : Int)
          · rw [if_pos c5] at H
            have c5b0 : decide (x8_1 < (l0.length : Int)) = true := decide_eq_true c5
            clear c5
            by_cases c6 : (rd l0 x8_1) = a1
            · rw [if_pos c6] at H
              have c6b0 : ((rd l0 x8_1) == a1) = true := beq_iff_eq.mpr c6
              have c6b1 : ((rd l0 x8_1) != a1) = false := bne_eq_false_iff_eq.mpr c6
              clear c6
              obtain rfl := Option.some.inj H
              have p512 : 0 ≤ (x8_1 : Int) := of_decide_eq_true (by first | (with_reducible assumption) | assumption)
              have q512 : x8_1 < (l0.length : Int) := of_decide_eq_true (by first | (with_reducible assumption) | assumption)
              obtain ⟨ad512, e512, hx512_0⟩ := Kd.at_int HR0.out x8_1 p512 q512
              cases e512
              replace p512 := eq_true p512
              replace q512 := eq_true q512
              go_wp2
              go_ret
              exact ⟨by first | rfl | (simp; done) | (simp [*]; done), by repeat (first | exact Drawn0.refl _ | apply Drawn0.step)⟩
            · rw [if_neg c6] at H
              have c6b0 : ((rd l0 x8_1) == a1) = false := beq_eq_false_iff_ne.mpr c6
              have c6b1 : ((rd l0 x8_1) != a1) = true := bne_iff_ne.mpr c6
              have H' := Aside0.mk H
              clear H
              have p512 : 0 ≤ (x8_1 : Int) := of_decide_eq_true (by first | (with_reducible assumption) | assumption)
              have q512 : x8_1 < (l0.length : Int) := of_decide_eq_true (by first | (with_reducible assumption) | assumption)
              obtain ⟨ad512, e512, hx512_0⟩ := Kd.at_int HR0.out x8_1 p512 q512
              cases e512
              replace p512 := eq_true p512
              replace q512 := eq_true q512
              go_wp2
              go_roundg k1
              case measure => have := HK1.out; omega
              case rel => exact ⟨(wrap64 (x8_1 + 1)), (by first | rfl | (simp; done) | (simp [*]; done)), H', ⟨by have := HK1.out; omega⟩, by repeat (first | exact Drawn0.refl _ | apply Drawn0.step)⟩
          · rw [if_neg c5] at H
            exact absurd H (by simp)
        · rw [if_neg c4] at H
          exact absurd H (by simp)
      · rw [if_neg c3] at H
        have c3b0 : decide (x8_1 < (l0.length : Int)) = false := decide_eq_false c3
        clear c3
        obtain rfl := Option.some.inj H
        go_wp2
        go_ret
        exact ⟨by first | rfl | (simp; done) | (simp [*]; done), by repeat (first | exact Drawn0.refl _ | apply Drawn0.step)⟩

-- NOT PRINTED: function 97 (impl_Lease_97)

-- NOT PRINTED: function 56 (impl_Lease_56)

-- NOT PRINTED: function 21 (impl_NextChange)

/-! ### spec_NextChange: function 22 -/
abbrev spec_NextChange.T : Bool := true
abbrev spec_NextChange.F : Bool := false
theorem spec_NextChange.s1_ {P : Prop} (h : P := by first | rfl | (simp; done) | (simp [*]; done)) : P := h
theorem spec_NextChange.b1_ {P Q : Prop} (q : Q) (h : Q → P := by intro q_; (with_reducible repeat (first | refine blk_drewN ?_ _ | refine blk_drew ?_ | refine blk_alloc ?_ _)); exact q_) : P := h q
theorem spec_NextChange.y1_ {P Q : Prop} (q : Q) (h : Q → P := by intro q_; repeat (first | (with_reducible first | exact q_ | apply below_alloc | apply pw_below_drewN | apply below_drew1) | exact q_)) : P := h q
theorem spec_NextChange.y2_ {P Q : Prop} (q : Q) (h : Q → P := by intro q_; repeat (first | exact q_ | (with_reducible refine Kd.C_alloc ?_ _) | (with_reducible refine Kd.C_drewN ?_ _) | (with_reducible refine Kd.C_drew ?_))) : P := h q
theorem spec_NextChange.b3_ {w w1 W : World} {g : Nat} {o : Obj} (q : Aside0 (w.heap[g]? = some o)) (hb : Below W.heap.size W w1) (h : w.heap[g]? = some o → W.heap[g]? = some o := by intro q_; (with_reducible repeat (first | refine blk_drewN ?_ _ | refine blk_drew ?_ | refine blk_alloc ?_ _)); exact q_) : Aside0 (w1.heap[g]? = some o) := ⟨blk_below (h q.out) hb⟩
theorem spec_NextChange.b6_ {w w' W : World} {k : Nat} (hg : k = W.heap.size) (q : Aside0 (Below w.heap.size w w')) (h : Below w.heap.size w w' → Below w.heap.size w W := by intro q_; repeat (first | (with_reducible first | exact q_ | apply below_alloc | apply pw_below_drewN | apply below_drew1) | exact q_)) : Aside0 (w.heap.size ≤ k) := ⟨by rw [hg]; exact below_size (h q.out)⟩
theorem spec_NextChange.bx_ {P : Program} {ops : Array Oper} {rest : List Oper} {o : Oper} {a : Act} {Q : Exit → Act → World → Prop} {W : World} (N : Tmp) (cs : Array Value) (t : TypeId) (h : ∀ g, g = W.heap.size → ∀ w1, w1.heap[g]? = some (.cells cs t (0, 0)) → Below W.heap.size W w1 → wpList P ops Q rest (a.put o.dst (.pointer (some ⟨g, 0, none⟩))) w1) (hgd : o.guard = none := by rfl) (hd : o.dst = some N := by rfl) (hrun : (execOp a.eval o).run P W = .ok (.value (.pointer (some ⟨W.heap.size, 0, none⟩))) (W.alloc (.cells cs t (0, 0))) := by first | (go_simp; done) | (go_simp; rfl)) : wpList P ops Q (o :: rest) a W := box_event hgd hd hrun h
theorem spec_NextChange.c1_ {w : World} {g : Nat} {t : TypeId} {cs : Array Value} (q : Aside0 (w.heap[g]? = some (.cells cs t (0, 0)))) (i : Nat) (v : Value) (h : cs[i]? = some v := by rfl) : w.cell? ⟨g, i, none⟩ = some v := (blk_cell q.out i).trans h
theorem spec_NextChange.f1_ {w : World} {g : Nat} {t : TypeId} {cs : Array Value} (q : Aside0 (w.heap[g]? = some (.cells cs t (0, 0)))) (i : Nat) : w.frozen? ⟨g, i, none⟩ = false := blk_frozen q.out i
mutual
def spec_NextChange.j0 : Nat → Int → Bool → List (S63) → List (S63) → List (S73) → Option (Int × Bool)
  | 0, _, _, _, _, _ => none
  | k + 1, x1, x17, x534000, x534001, x534002 => if x17 = true then (some (0, false)) else (spec_NextChange.l0 k x1 (-1) (x534000.length : Int) 0 x534000 x534001 x534002)
def spec_NextChange.l0 : Nat → Int → Int → Int → Int → List (S63) → List (S63) → List (S73) → Option (Int × Bool)
  | 0, _, _, _, _, _, _, _ => none
  | k + 1, x1, x6, x20, x21, x534000, x534001, x534002 => if x21 < x20 then (if 0 ≤ x21 then (if x21 < (x534000.length : Int) then (if ((rd_T63 x534000 x21).f1) > x1 then (if x6 < 0 then (spec_NextChange.l0 k x1 ((rd_T63 x534000 x21).f1) x20 (wrap64 (x21 + 1)) x534000 x534001 x534002) else (if ((rd_T63 x534000 x21).f1) < x6 then (spec_NextChange.l0 k x1 ((rd_T63 x534000 x21).f1) x20 (wrap64 (x21 + 1)) x534000 x534001 x534002) else (spec_NextChange.l0 k x1 x6 x20 (wrap64 (x21 + 1)) x534000 x534001 x534002))) else (spec_NextChange.l0 k x1 x6 x20 (wrap64 (x21 + 1)) x534000 x534001 x534002)) else (none)) else (none)) else (spec_NextChange.l1 k x1 x6 (x534001.length : Int) 0 x534000 x534001 x534002)
def spec_NextChange.l1 : Nat → Int → Int → Int → Int → List (S63) → List (S63) → List (S73) → Option (Int × Bool)
  | 0, _, _, _, _, _, _, _ => none
  | k + 1, x1, x6, x46, x47, x534000, x534001, x534002 => if x47 < x46 then (if 0 ≤ x47 then (if x47 < (x534001.length : Int) then (if ((rd_T63 x534001 x47).f1) > x1 then ((spec_l05Until.f k x534000 ((rd_T63 x534001 x47).f0)).bind fun t539 => (if t539 ≥ ((rd_T63 x534001 x47).f1) then (if x6 < 0 then (spec_NextChange.l1 k x1 ((rd_T63 x534001 x47).f1) x46 (wrap64 (x47 + 1)) x534000 x534001 x534002) else (if ((rd_T63 x534001 x47).f1) < x6 then (spec_NextChange.l1 k x1 ((rd_T63 x534001 x47).f1) x46 (wrap64 (x47 + 1)) x534000 x534001 x534002) else (spec_NextChange.l1 k x1 x6 x46 (wrap64 (x47 + 1)) x534000 x534001 x534002))) else (spec_NextChange.l1 k x1 x6 x46 (wrap64 (x47 + 1)) x534000 x534001 x534002))) else (spec_NextChange.l1 k x1 x6 x46 (wrap64 (x47 + 1)) x534000 x534001 x534002)) else (none)) else (none)) else (if x6 < 0 then (some (0, false)) else (some (x6, true)))
end
def spec_NextChange.f (k : Nat) (l0_0 : List (S63)) (l0_1 : List (S63)) (l0_2 : List (S73)) (a1 : Int) : Option (Int × Bool) := (spec_l05Is.f k l0_0 l0_1 l0_2).bind fun t534 => (if t534 = true then ((spec_l01Tick.f a1).bind fun t535 => (spec_NextChange.j0 k a1 (!t535) l0_0 l0_1 l0_2)) else (spec_NextChange.j0 k a1 true l0_0 l0_1 l0_2))
theorem spec_NextChange.mono_l : ∀ k, (∀ y0 y1 y2 y3 y4, LeO (spec_NextChange.j0 k y0 y1 y2 y3 y4) (spec_NextChange.j0 (k + 1) y0 y1 y2 y3 y4)) ∧ (∀ y0 y1 y2 y3 y4 y5 y6, LeO (spec_NextChange.l0 k y0 y1 y2 y3 y4 y5 y6) (spec_NextChange.l0 (k + 1) y0 y1 y2 y3 y4 y5 y6)) ∧ (∀ y0 y1 y2 y3 y4 y5 y6, LeO (spec_NextChange.l1 k y0 y1 y2 y3 y4 y5 y6) (spec_NextChange.l1 (k + 1) y0 y1 y2 y3 y4 y5 y6))
  | 0 => ⟨fun _ _ _ _ _ r h => by simp [spec_NextChange.j0] at h, fun _ _ _ _ _ _ _ r h => by simp [spec_NextChange.l0] at h, fun _ _ _ _ _ _ _ r h => by simp [spec_NextChange.l1] at h⟩
  | k + 1 => by
    obtain ⟨ih0, ih1, ih2⟩ := spec_NextChange.mono_l k
    refine ⟨?_, ?_, ?_⟩
    · intro y0 y1 y2 y3 y4
      unfold spec_NextChange.j0
      repeat' first
      | (with_reducible exact ih0 _ _ _ _ _)
      | (with_reducible exact ih1 _ _ _ _ _ _ _)
      | (with_reducible exact ih2 _ _ _ _ _ _ _)
      | (with_reducible exact spec_l05Is.mono _ _ _ _)
      | (with_reducible exact spec_l05Until.mono _ _ _)
      | (with_reducible exact LeO.refl _)
      | (with_reducible exact LeO.none _)
      | (with_reducible refine LeO.ite ?_ ?_)
      | (with_reducible refine LeO.bind ?_ (fun _ => ?_))
      | exact ih0 _ _ _ _ _
      | exact ih1 _ _ _ _ _ _ _
      | exact ih2 _ _ _ _ _ _ _
      | exact spec_l05Is.mono _ _ _ _
      | exact spec_l05Until.mono _ _ _
      | exact LeO.none _
      | refine LeO.ite ?_ ?_
      | refine LeO.bind ?_ (fun _ => ?_)
    · intro y0 y1 y2 y3 y4 y5 y6
      unfold spec_NextChange.l0
      repeat' first
      | (with_reducible exact ih0 _ _ _ _ _)
      | (with_reducible exact ih1 _ _ _ _ _ _ _)
      | (with_reducible exact ih2 _ _ _ _ _ _ _)
      | (with_reducible exact spec_l05Is.mono _ _ _ _)
      | (with_reducible exact spec_l05Until.mono _ _ _)
      | (with_reducible exact LeO.refl _)
      | (with_reducible exact LeO.none _)
      | (with_reducible refine LeO.ite ?_ ?_)
      | (with_reducible refine LeO.bind ?_ (fun _ => ?_))
      | exact ih0 _ _ _ _ _
      | exact ih1 _ _ _ _ _ _ _
      | exact ih2 _ _ _ _ _ _ _
      | exact spec_l05Is.mono _ _ _ _
      | exact spec_l05Until.mono _ _ _
      | exact LeO.none _
      | refine LeO.ite ?_ ?_
      | refine LeO.bind ?_ (fun _ => ?_)
    · intro y0 y1 y2 y3 y4 y5 y6
      unfold spec_NextChange.l1
      repeat' first
      | (with_reducible exact ih0 _ _ _ _ _)
      | (with_reducible exact ih1 _ _ _ _ _ _ _)
      | (with_reducible exact ih2 _ _ _ _ _ _ _)
      | (with_reducible exact spec_l05Is.mono _ _ _ _)
      | (with_reducible exact spec_l05Until.mono _ _ _)
      | (with_reducible exact LeO.refl _)
      | (with_reducible exact LeO.none _)
      | (with_reducible refine LeO.ite ?_ ?_)
      | (with_reducible refine LeO.bind ?_ (fun _ => ?_))
      | exact ih0 _ _ _ _ _
      | exact ih1 _ _ _ _ _ _ _
      | exact ih2 _ _ _ _ _ _ _
      | exact spec_l05Is.mono _ _ _ _
      | exact spec_l05Until.mono _ _ _
      | exact LeO.none _
      | refine LeO.ite ?_ ?_
      | refine LeO.bind ?_ (fun _ => ?_)
theorem spec_NextChange.mono : ∀ a0 a1 a2 a3 k, LeO (spec_NextChange.f k a0 a1 a2 a3) (spec_NextChange.f (k + 1) a0 a1 a2 a3) := by
  intro a0 a1 a2 a3 k
  obtain ⟨ih0, ih1, ih2⟩ := spec_NextChange.mono_l k
  unfold spec_NextChange.f
  repeat' first
      | (with_reducible exact ih0 _ _ _ _ _)
      | (with_reducible exact ih1 _ _ _ _ _ _ _)
      | (with_reducible exact ih2 _ _ _ _ _ _ _)
      | (with_reducible exact spec_l05Is.mono _ _ _ _)
      | (with_reducible exact spec_l05Until.mono _ _ _)
      | (with_reducible exact LeO.refl _)
      | (with_reducible exact LeO.none _)
      | (with_reducible refine LeO.ite ?_ ?_)
      | (with_reducible refine LeO.bind ?_ (fun _ => ?_))
      | exact ih0 _ _ _ _ _
      | exact ih1 _ _ _ _ _ _ _
      | exact ih2 _ _ _ _ _ _ _
      | exact spec_l05Is.mono _ _ _ _
      | exact spec_l05Until.mono _ _ _
      | exact LeO.none _
      | refine LeO.ite ?_ ?_
      | refine LeO.bind ?_ (fun _ => ?_)
set_option maxHeartbeats 8000000 in
set_option maxRecDepth 100000 in
theorem spec_NextChange.calls (k : Nat) (A0_0 : Option Addr) (c0_0 : Nat) (l0_0 : List (S63)) (A0_1 : Option Addr) (c0_1 : Nat) (l0_1 : List (S63)) (A0_2 : Option Addr) (c0_2 : Nat) (l0_2 : List (S73)) (a1 : Int) (r1 : Int) (r2 : Bool) (w : World) (hr0_0 : Kd.C k63 w A0_0 l0_0.length l0_0) (hc0_0 : l0_0.length ≤ c0_0) (hr0_1 : Kd.C k63 w A0_1 l0_1.length l0_1) (hc0_1 : l0_1.length ≤ c0_1) (hr0_2 : Kd.C k73 w A0_2 l0_2.length l0_2) (hc0_2 : l0_2.length ≤ c0_2) (h : spec_NextChange.f k l0_0 l0_1 l0_2 a1 = some (r1, r2)) :
    Calls Try.prog 22 #[.agg #[.slice A0_0 l0_0.length c0_0, .slice A0_1 l0_1.length c0_1, .slice A0_2 l0_2.length c0_2], .int .i64 a1] w fun e w' => e = .returned (.tuple #[.int .i64 r1, .bool r2]) ∧ Below w.heap.size w w' := by
 have hu27 := Try.underlying27
 have HR0_0 := Aside0.mk hr0_0
 have HC0_0 := Aside0.mk hc0_0
 clear hr0_0 hc0_0
 have HR0_1 := Aside0.mk hr0_1
 have HC0_1 := Aside0.mk hc0_1
 clear hr0_1 hc0_1
 have HR0_2 := Aside0.mk hr0_2
 have HC0_2 := Aside0.mk hc0_2
 clear hr0_2 hc0_2
 have HB := Aside0.mk (Below.refl w.heap.size w)
 have H : ((spec_l05Is.f k l0_0 l0_1 l0_2).bind fun t534 => (if t534 = true then ((spec_l01Tick.f a1).bind fun t535 => (spec_NextChange.j0 k a1 (!t535) l0_0 l0_1 l0_2)) else (spec_NextChange.j0 k a1 true l0_0 l0_1 l0_2))) = some (r1, r2) := h
 clear h
 have HC3 := Aside0.mk H
 clear H
 go_enter Try.func22, Try.ntmps22
 go_upto_region 1 with (first | ((with_reducible refine gate_dst (N := 2) rfl ?_); refine bx_ 2 #[.slice A0_0 l0_0.length c0_0, .slice A0_1 l0_1.length c0_1, .slice A0_2 l0_2.length c0_2] 27 ?_; intro gb533 hg w4 hbox hb; have GW533 := b6_ hg HB; have GE533 := b6_ hg HB; replace HB := Aside0.mk (below_step (y1_ HB.out) hb); have BK533 := Aside0.mk (hbox); clear hb hbox hg))
 repeat (go_quiet (first | ((with_reducible refine gate_dst (N := 2) rfl ?_); refine bx_ 2 #[.slice A0_0 l0_0.length c0_0, .slice A0_1 l0_1.length c0_1, .slice A0_2 l0_2.length c0_2] 27 ?_; intro gb533 hg w4 hbox hb; have GW533 := b6_ hg HB; have GE533 := b6_ hg HB; replace HB := Aside0.mk (below_step (y1_ HB.out) hb); have BK533 := Aside0.mk (hbox); clear hb hbox hg)); go_upto_region 1 with (first | ((with_reducible refine gate_dst (N := 2) rfl ?_); refine bx_ 2 #[.slice A0_0 l0_0.length c0_0, .slice A0_1 l0_1.length c0_1, .slice A0_2 l0_2.length c0_2] 27 ?_; intro gb533 hg w4 hbox hb; have GW533 := b6_ hg HB; have GE533 := b6_ hg HB; replace HB := Aside0.mk (below_step (y1_ HB.out) hb); have BK533 := Aside0.mk (hbox); clear hb hbox hg)))
 (try simp only [Act.put, List.setIfInBounds_toArray, List.set_cons_zero, List.set_cons_succ])
 go_cut [17] (fun v17 wc => ∃ (kq : Nat) (x17_2 : Bool), v17 = .bool x17_2 ∧ Aside0 (spec_NextChange.j0 kq a1 x17_2 l0_0 l0_1 l0_2 = some (r1, r2)) ∧ Aside0 (kq ≤ k) ∧ Aside0 (wc.heap[gb533]? = some (.cells #[(.slice A0_0 l0_0.length c0_0), (.slice A0_1 l0_1.length c0_1), (.slice A0_2 l0_2.length c0_2)] 27 (0, 0))) ∧ Aside0 (Below w.heap.size w wc))
 case first =>
  skip
  {
 have H := HC3.out
 clear HC3
 replace H := Option.bind_eq_some_iff.mp H
 obtain ⟨t534, A50, H⟩ := H
 replace H : (if t534 = true then ((spec_l01Tick.f a1).bind fun t535 => (spec_NextChange.j0 k a1 (!t535) l0_0 l0_1 l0_2)) else (spec_NextChange.j0 k a1 true l0_0 l0_1 l0_2)) = some (r1, r2) := H
 have A5 := Aside0.mk A50
 clear A50
 by_cases c6 : t534 = true
 {
 subst c6
 have H1 : ((spec_l01Tick.f a1).bind fun t535 => (spec_NextChange.j0 k a1 (!t535) l0_0 l0_1 l0_2)) = some (r1, r2) := by rw [if_pos rfl] at H; exact H
 clear H
 have H := H1
 clear H1
 replace H := Option.bind_eq_some_iff.mp H
 obtain ⟨t535, A70, H⟩ := H
 replace H : (spec_NextChange.j0 k a1 (!t535) l0_0 l0_1 l0_2) = some (r1, r2) := H
 have A7 := Aside0.mk A70
 clear A70
 have H' := Aside0.mk H
 clear H
 go_wp2_with (first | (go_at_call 57; (with_reducible refine (spec_l05Is.calls k gb533 A0_0 c0_0 l0_0 A0_1 c0_1 l0_1 A0_2 c0_2 l0_2 true _ ?side1 ?side2 ?side3 ?side4 ?side5 ?side6 ?side7 A5.out).mono ?_); (case side1 => exact (b1_ BK533.out)); (case side2 => exact y2_ (Kd.C_below HR0_0.out HB.out)); (case side3 => exact HC0_0.out); (case side4 => exact y2_ (Kd.C_below HR0_1.out HB.out)); (case side5 => exact HC0_1.out); (case side6 => exact y2_ (Kd.C_below HR0_2.out HB.out)); (case side7 => exact HC0_2.out); rintro e w8 ⟨rfl, hb⟩; replace BK533 := b3_ BK533 hb; replace HB := Aside0.mk (below_step (y1_ HB.out) hb); (try clear hb); (try clear hb2); (try clear hk); (try clear hi)) | (go_at_call 58; (with_reducible refine (spec_l01Tick.calls a1 t535 _ A7.out).mono ?_); rintro e w' ⟨rfl, ⟨nd, rfl⟩⟩; (try first | exact ⟨rfl, _, World.drewN_drewN _ _ _⟩ | exact ⟨rfl, _, Eq.trans (World.drewN_drewN _ _ _) (congrArg (World.drewN _) (Nat.add_assoc _ _ _))⟩)))
 repeat (go_quiet (first | (go_at_call 57; (with_reducible refine (spec_l05Is.calls k gb533 A0_0 c0_0 l0_0 A0_1 c0_1 l0_1 A0_2 c0_2 l0_2 true _ ?side1 ?side2 ?side3 ?side4 ?side5 ?side6 ?side7 A5.out).mono ?_); (case side1 => exact (b1_ BK533.out)); (case side2 => exact y2_ (Kd.C_below HR0_0.out HB.out)); (case side3 => exact HC0_0.out); (case side4 => exact y2_ (Kd.C_below HR0_1.out HB.out)); (case side5 => exact HC0_1.out); (case side6 => exact y2_ (Kd.C_below HR0_2.out HB.out)); (case side7 => exact HC0_2.out); rintro e w8 ⟨rfl, hb⟩; replace BK533 := b3_ BK533 hb; replace HB := Aside0.mk (below_step (y1_ HB.out) hb); (try clear hb); (try clear hb2); (try clear hk); (try clear hi)) | (go_at_call 58; (with_reducible refine (spec_l01Tick.calls a1 t535 _ A7.out).mono ?_); rintro e w' ⟨rfl, ⟨nd, rfl⟩⟩; (try first | exact ⟨rfl, _, World.drewN_drewN _ _ _⟩ | exact ⟨rfl, _, Eq.trans (World.drewN_drewN _ _ _) (congrArg (World.drewN _) (Nat.add_assoc _ _ _))⟩))); try go_wp2_with (first | (go_at_call 57; (with_reducible refine (spec_l05Is.calls k gb533 A0_0 c0_0 l0_0 A0_1 c0_1 l0_1 A0_2 c0_2 l0_2 true _ ?side1 ?side2 ?side3 ?side4 ?side5 ?side6 ?side7 A5.out).mono ?_); (case side1 => exact (b1_ BK533.out)); (case side2 => exact y2_ (Kd.C_below HR0_0.out HB.out)); (case side3 => exact HC0_0.out); (case side4 => exact y2_ (Kd.C_below HR0_1.out HB.out)); (case side5 => exact HC0_1.out); (case side6 => exact y2_ (Kd.C_below HR0_2.out HB.out)); (case side7 => exact HC0_2.out); rintro e w8 ⟨rfl, hb⟩; replace BK533 := b3_ BK533 hb; replace HB := Aside0.mk (below_step (y1_ HB.out) hb); (try clear hb); (try clear hb2); (try clear hk); (try clear hi)) | (go_at_call 58; (with_reducible refine (spec_l01Tick.calls a1 t535 _ A7.out).mono ?_); rintro e w' ⟨rfl, ⟨nd, rfl⟩⟩; (try first | exact ⟨rfl, _, World.drewN_drewN _ _ _⟩ | exact ⟨rfl, _, Eq.trans (World.drewN_drewN _ _ _) (congrArg (World.drewN _) (Nat.add_assoc _ _ _))⟩))))
 go_meet
 case rel => exact ⟨_, (!t535), s1_, H', ⟨by first | omega | exact Nat.le_refl _⟩, ⟨b1_ BK533.out⟩, ⟨by repeat (first | (with_reducible first | exact HB.out | apply below_alloc | apply pw_below_drewN | apply below_drew1) | exact HB.out)⟩⟩}
 {
 replace c6 := Bool.eq_false_iff.mpr c6
 subst c6
 have H1 : (spec_NextChange.j0 k a1 true l0_0 l0_1 l0_2) = some (r1, r2) := by rw [if_neg (show ¬ (false = true) by decide)] at H; exact H
 clear H
 have H := H1
 clear H1
 have H' := Aside0.mk H
 clear H
 go_wp2_with (first | (go_at_call 57; (with_reducible refine (spec_l05Is.calls k gb533 A0_0 c0_0 l0_0 A0_1 c0_1 l0_1 A0_2 c0_2 l0_2 false _ ?side1 ?side2 ?side3 ?side4 ?side5 ?side6 ?side7 A5.out).mono ?_); (case side1 => exact (b1_ BK533.out)); (case side2 => exact y2_ (Kd.C_below HR0_0.out HB.out)); (case side3 => exact HC0_0.out); (case side4 => exact y2_ (Kd.C_below HR0_1.out HB.out)); (case side5 => exact HC0_1.out); (case side6 => exact y2_ (Kd.C_below HR0_2.out HB.out)); (case side7 => exact HC0_2.out); rintro e w9 ⟨rfl, hb⟩; replace BK533 := b3_ BK533 hb; replace HB := Aside0.mk (below_step (y1_ HB.out) hb); (try clear hb); (try clear hb2); (try clear hk); (try clear hi)))
 repeat (go_quiet (first | (go_at_call 57; (with_reducible refine (spec_l05Is.calls k gb533 A0_0 c0_0 l0_0 A0_1 c0_1 l0_1 A0_2 c0_2 l0_2 false _ ?side1 ?side2 ?side3 ?side4 ?side5 ?side6 ?side7 A5.out).mono ?_); (case side1 => exact (b1_ BK533.out)); (case side2 => exact y2_ (Kd.C_below HR0_0.out HB.out)); (case side3 => exact HC0_0.out); (case side4 => exact y2_ (Kd.C_below HR0_1.out HB.out)); (case side5 => exact HC0_1.out); (case side6 => exact y2_ (Kd.C_below HR0_2.out HB.out)); (case side7 => exact HC0_2.out); rintro e w9 ⟨rfl, hb⟩; replace BK533 := b3_ BK533 hb; replace HB := Aside0.mk (below_step (y1_ HB.out) hb); (try clear hb); (try clear hb2); (try clear hk); (try clear hi))); try go_wp2_with (first | (go_at_call 57; (with_reducible refine (spec_l05Is.calls k gb533 A0_0 c0_0 l0_0 A0_1 c0_1 l0_1 A0_2 c0_2 l0_2 false _ ?side1 ?side2 ?side3 ?side4 ?side5 ?side6 ?side7 A5.out).mono ?_); (case side1 => exact (b1_ BK533.out)); (case side2 => exact y2_ (Kd.C_below HR0_0.out HB.out)); (case side3 => exact HC0_0.out); (case side4 => exact y2_ (Kd.C_below HR0_1.out HB.out)); (case side5 => exact HC0_1.out); (case side6 => exact y2_ (Kd.C_below HR0_2.out HB.out)); (case side7 => exact HC0_2.out); rintro e w9 ⟨rfl, hb⟩; replace BK533 := b3_ BK533 hb; replace HB := Aside0.mk (below_step (y1_ HB.out) hb); (try clear hb); (try clear hb2); (try clear hk); (try clear hi))))
 go_meet
 case rel => exact ⟨_, (true), s1_, H', ⟨by first | omega | exact Nat.le_refl _⟩, ⟨b1_ BK533.out⟩, ⟨by repeat (first | (with_reducible first | exact HB.out | apply below_alloc | apply pw_below_drewN | apply below_drew1) | exact HB.out)⟩⟩}}
 case rest =>
  skip
  {
 clear HC3
 try clear c2
 try clear p2
 try clear c6
 obtain ⟨kq, x17_2, rfl, HA, HJ2, BK533, HB⟩ := hcut
 cases kq with
 | zero => exact absurd HA.out (by simp [spec_NextChange.j0])
 | succ kj2 =>
  skip
  {
 have H := HA.out
 clear HA
 simp only [spec_NextChange.j0] at H
 by_cases c10 : x17_2 = true
 {
 subst c10
 have H1 : (some (0, false)) = some (r1, r2) := by rw [if_pos rfl] at H; exact H
 clear H
 have H := H1
 clear H1
 simp only [Option.some.injEq, Prod.mk.injEq] at H
 obtain ⟨rfl, rfl⟩ := H
 go_wp2
 repeat (go_quiet (fail); try go_wp2)
 go_ret2
 exact ⟨by first | rfl | (simp [errW_none, errW_some] <;> rfl) | (simp [*, errW_none, errW_some] <;> rfl), by repeat (first | (with_reducible first | exact HB.out | apply below_alloc | apply pw_below_drewN | apply below_drew1) | exact HB.out)⟩}
 {
 replace c10 := Bool.eq_false_iff.mpr c10
 subst c10
 have H1 : (spec_NextChange.l0 kj2 a1 (-1) (l0_0.length : Int) 0 l0_0 l0_1 l0_2) = some (r1, r2) := by rw [if_neg (show ¬ (false = true) by decide)] at H; exact H
 clear H
 have H := H1
 clear H1
 have H' := Aside0.mk H
 clear H
 have hcz11_0 := c1_ BK533 0 (.slice A0_0 l0_0.length c0_0)
 have hcz11_1 := c1_ BK533 1 (.slice A0_1 l0_1.length c0_1)
 have hcz11_2 := c1_ BK533 2 (.slice A0_2 l0_2.length c0_2)
 have hfz11_0 := f1_ BK533 0
 have hfz11_1 := f1_ BK533 1
 have hfz11_2 := f1_ BK533 2
 go_wp2
 repeat (go_quiet (fail); try go_wp2)
 go_loopg [6, 21] kj2 (fun kq v6 v21 w' => ∃ (x6_2 : Int) (x21_2 : Int), v6 = .int .i64 x6_2 ∧ v21 = .int .i64 x21_2 ∧ Aside0 (spec_NextChange.l0 kq a1 x6_2 (l0_0.length : Int) x21_2 l0_0 l0_1 l0_2 = some (r1, r2)) ∧ Aside0 (kq ≤ kj2) ∧ Aside0 (w'.heap[gb533]? = some (.cells #[(.slice A0_0 l0_0.length c0_0), (.slice A0_1 l0_1.length c0_1), (.slice A0_2 l0_2.length c0_2)] 27 (0, 0))) ∧ Aside0 (Below w.heap.size w w'))
 case atStart => exact ⟨((-1)), (0), s1_, s1_, H', ⟨Nat.le_refl _⟩, ⟨b1_ BK533.out⟩, ⟨by repeat (first | (with_reducible first | exact HB.out | apply below_alloc | apply pw_below_drewN | apply below_drew1) | exact HB.out)⟩⟩
 case round =>
  skip
  {
 clear H'
 try clear c1
 try clear c2
 try clear p2
 try clear c6
 try clear c10
 try clear hcz11_0
 try clear hcz11_1
 try clear hcz11_2
 try clear hfz11_0
 try clear hfz11_1
 try clear hfz11_2
 try clear p2
 obtain ⟨x6_2, x21_2, rfl, rfl, HA, HK2, BK533, HB⟩ := hrel
 cases gk with
 | zero => exact absurd HA.out (by simp [spec_NextChange.l0])
 | succ k2 =>
  skip
  {
 have H := HA.out
 clear HA
 simp only [spec_NextChange.l0] at H
 by_cases c12 : x21_2 < (l0_0.length : Int)
 {
 rw [if_pos c12] at H
 have c12b0 : decide (x21_2 < (l0_0.length : Int)) = true := decide_eq_true c12
 clear c12
 by_cases c13 : 0 ≤ x21_2
 {
 rw [if_pos c13] at H
 have c13b0 : decide (0 ≤ x21_2) = true := decide_eq_true c13
 clear c13
 by_cases c14 : x21_2 < (l0_0.length : Int)
 {
 rw [if_pos c14] at H
 have c14b0 : decide (x21_2 < (l0_0.length : Int)) = true := decide_eq_true c14
 clear c14
 by_cases c15 : ((rd_T63 l0_0 x21_2).f1) > a1
 {
 rw [if_pos c15] at H
 have c15b0 : decide (a1 < ((rd_T63 l0_0 x21_2).f1)) = true := decide_eq_true c15
 clear c15
 by_cases c16 : x6_2 < 0
 {
 rw [if_pos c16] at H
 have c16b0 : decide (x6_2 < 0) = true := decide_eq_true c16
 clear c16
 have H' := Aside0.mk H
 clear H
 have hcz17_0 := c1_ BK533 0 (.slice A0_0 l0_0.length c0_0)
 have hcz17_1 := c1_ BK533 1 (.slice A0_1 l0_1.length c0_1)
 have hcz17_2 := c1_ BK533 2 (.slice A0_2 l0_2.length c0_2)
 have hfz17_0 := f1_ BK533 0
 have hfz17_1 := f1_ BK533 1
 have hfz17_2 := f1_ BK533 2
 have p536 : 0 ≤ (x21_2 : Int) := of_decide_eq_true (by first | (with_reducible assumption) | assumption)
 have q536 : x21_2 < (l0_0.length : Int) := of_decide_eq_true (by first | (with_reducible assumption) | assumption)
 obtain ⟨ad536, e536, hx536_0, hx536_1⟩ := at_T63 HR0_0.out x21_2 p536 q536
 cases e536
 replace hx536_0 := (HB.out.cell (World.block_lt_of_cell? w _ hx536_0)).trans hx536_0
 replace hx536_1 := (HB.out.cell (World.block_lt_of_cell? w _ hx536_1)).trans hx536_1
 replace p536 := eq_true p536
 replace q536 := eq_true q536
 go_wp2
 repeat (go_quiet (fail); try go_wp2)
 go_roundg k2
 case measure => have := HJ2.out; have := HK2.out; omega
 case rel => exact ⟨((rd_T63 l0_0 x21_2).f1), (wrap64 (x21_2 + 1)), s1_, s1_, H', ⟨by have := HJ2.out; have := HK2.out; omega⟩, ⟨b1_ BK533.out⟩, ⟨by repeat (first | (with_reducible first | exact HB.out | apply below_alloc | apply pw_below_drewN | apply below_drew1) | exact HB.out)⟩⟩}
 {
 rw [if_neg c16] at H
 have c16b0 : decide (x6_2 < 0) = false := decide_eq_false c16
 clear c16
 by_cases c18 : ((rd_T63 l0_0 x21_2).f1) < x6_2
 {
 rw [if_pos c18] at H
 have c18b0 : decide (((rd_T63 l0_0 x21_2).f1) < x6_2) = true := decide_eq_true c18
 clear c18
 have H' := Aside0.mk H
 clear H
 have hcz19_0 := c1_ BK533 0 (.slice A0_0 l0_0.length c0_0)
 have hcz19_1 := c1_ BK533 1 (.slice A0_1 l0_1.length c0_1)
 have hcz19_2 := c1_ BK533 2 (.slice A0_2 l0_2.length c0_2)
 have hfz19_0 := f1_ BK533 0
 have hfz19_1 := f1_ BK533 1
 have hfz19_2 := f1_ BK533 2
 have p536 : 0 ≤ (x21_2 : Int) := of_decide_eq_true (by first | (with_reducible assumption) | assumption)
 have q536 : x21_2 < (l0_0.length : Int) := of_decide_eq_true (by first | (with_reducible assumption) | assumption)
 obtain ⟨ad536, e536, hx536_0, hx536_1⟩ := at_T63 HR0_0.out x21_2 p536 q536
 cases e536
 replace hx536_0 := (HB.out.cell (World.block_lt_of_cell? w _ hx536_0)).trans hx536_0
 replace hx536_1 := (HB.out.cell (World.block_lt_of_cell? w _ hx536_1)).trans hx536_1
 replace p536 := eq_true p536
 replace q536 := eq_true q536
 go_wp2
 repeat (go_quiet (fail); try go_wp2)
 go_roundg k2
 case measure => have := HJ2.out; have := HK2.out; omega
 case rel => exact ⟨((rd_T63 l0_0 x21_2).f1), (wrap64 (x21_2 + 1)), s1_, s1_, H', ⟨by have := HJ2.out; have := HK2.out; omega⟩, ⟨b1_ BK533.out⟩, ⟨by repeat (first | (with_reducible first | exact HB.out | apply below_alloc | apply pw_below_drewN | apply below_drew1) | exact HB.out)⟩⟩}
 {
 rw [if_neg c18] at H
 have c18b0 : decide (((rd_T63 l0_0 x21_2).f1) < x6_2) = false := decide_eq_false c18
 clear c18
 have H' := Aside0.mk H
 clear H
 have hcz20_0 := c1_ BK533 0 (.slice A0_0 l0_0.length c0_0)
 have hcz20_1 := c1_ BK533 1 (.slice A0_1 l0_1.length c0_1)
 have hcz20_2 := c1_ BK533 2 (.slice A0_2 l0_2.length c0_2)
 have hfz20_0 := f1_ BK533 0
 have hfz20_1 := f1_ BK533 1
 have hfz20_2 := f1_ BK533 2
 have p536 : 0 ≤ (x21_2 : Int) := of_decide_eq_true (by first | (with_reducible assumption) | assumption)
 have q536 : x21_2 < (l0_0.length : Int) := of_decide_eq_true (by first | (with_reducible assumption) | assumption)
 obtain ⟨ad536, e536, hx536_0, hx536_1⟩ := at_T63 HR0_0.out x21_2 p536 q536
 cases e536
 replace hx536_0 := (HB.out.cell (World.block_lt_of_cell? w _ hx536_0)).trans hx536_0
 replace hx536_1 := (HB.out.cell (World.block_lt_of_cell? w _ hx536_1)).trans hx536_1
 replace p536 := eq_true p536
 replace q536 := eq_true q536
 go_wp2
 repeat (go_quiet (fail); try go_wp2)
 go_roundg k2
 case measure => have := HJ2.out; have := HK2.out; omega
 case rel => exact ⟨(x6_2), (wrap64 (x21_2 + 1)), s1_, s1_, H', ⟨by have := HJ2.out; have := HK2.out; omega⟩, ⟨b1_ BK533.out⟩, ⟨by repeat (first | (with_reducible first | exact HB.out | apply below_alloc | apply pw_below_drewN | apply below_drew1) | exact HB.out)⟩⟩}}}
 {
 rw [if_neg c15] at H
 have c15b0 : decide (a1 < ((rd_T63 l0_0 x21_2).f1)) = false := decide_eq_false c15
 clear c15
 have H' := Aside0.mk H
 clear H
 have hcz21_0 := c1_ BK533 0 (.slice A0_0 l0_0.length c0_0)
 have hcz21_1 := c1_ BK533 1 (.slice A0_1 l0_1.length c0_1)
 have hcz21_2 := c1_ BK533 2 (.slice A0_2 l0_2.length c0_2)
 have hfz21_0 := f1_ BK533 0
 have hfz21_1 := f1_ BK533 1
 have hfz21_2 := f1_ BK533 2
 have p536 : 0 ≤ (x21_2 : Int) := of_decide_eq_true (by first | (with_reducible assumption) | assumption)
 have q536 : x21_2 < (l0_0.length : Int) := of_decide_eq_true (by first | (with_reducible assumption) | assumption)
 obtain ⟨ad536, e536, hx536_0, hx536_1⟩ := at_T63 HR0_0.out x21_2 p536 q536
 cases e536
 replace hx536_0 := (HB.out.cell (World.block_lt_of_cell? w _ hx536_0)).trans hx536_0
 replace hx536_1 := (HB.out.cell (World.block_lt_of_cell? w _ hx536_1)).trans hx536_1
 replace p536 := eq_true p536
 replace q536 := eq_true q536
 go_wp2
 repeat (go_quiet (fail); try go_wp2)
 go_roundg k2
 case measure => have := HJ2.out; have := HK2.out; omega
 case rel => exact ⟨(x6_2), (wrap64 (x21_2 + 1)), s1_, s1_, H', ⟨by have := HJ2.out; have := HK2.out; omega⟩, ⟨b1_ BK533.out⟩, ⟨by repeat (first | (with_reducible first | exact HB.out | apply below_alloc | apply pw_below_drewN | apply below_drew1) | exact HB.out)⟩⟩}}
 {
 rw [if_neg c14] at H
 exact absurd H (by simp)}}
 {
 rw [if_neg c13] at H
 exact absurd H (by simp)}}
 {
 rw [if_neg c12] at H
 have c12b0 : decide (x21_2 < (l0_0.length : Int)) = false := decide_eq_false c12
 clear c12
 have H' := Aside0.mk H
 clear H
 have hcz22_0 := c1_ BK533 0 (.slice A0_0 l0_0.length c0_0)
 have hcz22_1 := c1_ BK533 1 (.slice A0_1 l0_1.length c0_1)
 have hcz22_2 := c1_ BK533 2 (.slice A0_2 l0_2.length c0_2)
 have hfz22_0 := f1_ BK533 0
 have hfz22_1 := f1_ BK533 1
 have hfz22_2 := f1_ BK533 2
 go_wp2
 repeat (go_quiet (fail); try go_wp2)
 go_loopg [6, 47] k2 (fun kq v6 v47 w' => ∃ (x6_3 : Int) (x47_3 : Int), v6 = .int .i64 x6_3 ∧ v47 = .int .i64 x47_3 ∧ Aside0 (spec_NextChange.l1 kq a1 x6_3 (l0_1.length : Int) x47_3 l0_0 l0_1 l0_2 = some (r1, r2)) ∧ Aside0 (kq ≤ k2) ∧ Aside0 (w'.heap[gb533]? = some (.cells #[(.slice A0_0 l0_0.length c0_0), (.slice A0_1 l0_1.length c0_1), (.slice A0_2 l0_2.length c0_2)] 27 (0, 0))) ∧ Aside0 (Below w.heap.size w w'))
 case atStart => exact ⟨(x6_2), (0), s1_, s1_, H', ⟨Nat.le_refl _⟩, ⟨b1_ BK533.out⟩, ⟨by repeat (first | (with_reducible first | exact HB.out | apply below_alloc | apply pw_below_drewN | apply below_drew1) | exact HB.out)⟩⟩
 case round =>
  skip
  {
 clear H'
 try clear c1
 try clear c2
 try clear p2
 try clear p5
 try clear q5
 try clear hx5
 try clear c6
 try clear p6
 try clear c10
 try clear c12
 try clear c12b0
 try clear c13
 try clear c13b0
 try clear c14
 try clear c14b0
 try clear c15
 try clear c15b0
 try clear c16
 try clear c16b0
 try clear c18
 try clear c18b0
 try clear c22
 try clear hcz11_0
 try clear hcz11_1
 try clear hcz11_2
 try clear hcz17_0
 try clear hcz17_1
 try clear hcz17_2
 try clear hcz19_0
 try clear hcz19_1
 try clear hcz19_2
 try clear hcz20_0
 try clear hcz20_1
 try clear hcz20_2
 try clear hcz21_0
 try clear hcz21_1
 try clear hcz21_2
 try clear hcz22_0
 try clear hcz22_1
 try clear hcz22_2
 try clear hfz11_0
 try clear hfz11_1
 try clear hfz11_2
 try clear hfz17_0
 try clear hfz17_1
 try clear hfz17_2
 try clear hfz19_0
 try clear hfz19_1
 try clear hfz19_2
 try clear hfz20_0
 try clear hfz20_1
 try clear hfz20_2
 try clear hfz21_0
 try clear hfz21_1
 try clear hfz21_2
 try clear hfz22_0
 try clear hfz22_1
 try clear hfz22_2
 try clear hx536_0
 try clear hx536_1
 try clear p2
 try clear p536
 try clear q536
 obtain ⟨x6_3, x47_3, rfl, rfl, HA, HK3, BK533, HB⟩ := hrel
 cases gk with
 | zero => exact absurd HA.out (by simp [spec_NextChange.l1])
 | succ k3 =>
  skip
  {
 have H := HA.out
 clear HA
 simp only [spec_NextChange.l1] at H
 by_cases c23 : x47_3 < (l0_1.length : Int)
 {
 rw [if_pos c23] at H
 have c23b0 : decide (x47_3 < (l0_1.length : Int)) = true := decide_eq_true c23
 clear c23
 by_cases c24 : 0 ≤ x47_3
 {
 rw [if_pos c24] at H
 have c24b0 : decide (0 ≤ x47_3) = true := decide_eq_true c24
 clear c24
 by_cases c25 : x47_3 < (l0_1.length : Int)
 {
 rw [if_pos c25] at H
 have c25b0 : decide (x47_3 < (l0_1.length : Int)) = true := decide_eq_true c25
 clear c25
 by_cases c26 : ((rd_T63 l0_1 x47_3).f1) > a1
 {
 rw [if_pos c26] at H
 have c26b0 : decide (a1 < ((rd_T63 l0_1 x47_3).f1)) = true := decide_eq_true c26
 clear c26
 replace H := Option.bind_eq_some_iff.mp H
 obtain ⟨t539, A270, H⟩ := H
 replace H : (if t539 ≥ ((rd_T63 l0_1 x47_3).f1) then (if x6_3 < 0 then (spec_NextChange.l1 k3 a1 ((rd_T63 l0_1 x47_3).f1) (l0_1.length : Int) (wrap64 (x47_3 + 1)) l0_0 l0_1 l0_2) else (if ((rd_T63 l0_1 x47_3).f1) < x6_3 then (spec_NextChange.l1 k3 a1 ((rd_T63 l0_1 x47_3).f1) (l0_1.length : Int) (wrap64 (x47_3 + 1)) l0_0 l0_1 l0_2) else (spec_NextChange.l1 k3 a1 x6_3 (l0_1.length : Int) (wrap64 (x47_3 + 1)) l0_0 l0_1 l0_2))) else (spec_NextChange.l1 k3 a1 x6_3 (l0_1.length : Int) (wrap64 (x47_3 + 1)) l0_0 l0_1 l0_2)) = some (r1, r2) := H
 have A27 := Aside0.mk A270
 clear A270
 by_cases c28 : t539 ≥ ((rd_T63 l0_1 x47_3).f1)
 {
 rw [if_pos c28] at H
 have c28b0 : decide (((rd_T63 l0_1 x47_3).f1) ≤ t539) = true := decide_eq_true c28
 clear c28
 by_cases c29 : x6_3 < 0
 {
 rw [if_pos c29] at H
 have c29b0 : decide (x6_3 < 0) = true := decide_eq_true c29
 clear c29
 have H' := Aside0.mk H
 clear H
 have hcz30_0 := c1_ BK533 0 (.slice A0_0 l0_0.length c0_0)
 have hcz30_1 := c1_ BK533 1 (.slice A0_1 l0_1.length c0_1)
 have hcz30_2 := c1_ BK533 2 (.slice A0_2 l0_2.length c0_2)
 have hfz30_0 := f1_ BK533 0
 have hfz30_1 := f1_ BK533 1
 have hfz30_2 := f1_ BK533 2
 have p537 : 0 ≤ (x47_3 : Int) := of_decide_eq_true (by first | (with_reducible assumption) | assumption)
 have q537 : x47_3 < (l0_1.length : Int) := of_decide_eq_true (by first | (with_reducible assumption) | assumption)
 obtain ⟨ad537, e537, hx537_0, hx537_1⟩ := at_T63 HR0_1.out x47_3 p537 q537
 cases e537
 replace hx537_0 := (HB.out.cell (World.block_lt_of_cell? w _ hx537_0)).trans hx537_0
 replace hx537_1 := (HB.out.cell (World.block_lt_of_cell? w _ hx537_1)).trans hx537_1
 replace p537 := eq_true p537
 replace q537 := eq_true q537
 have p538 : 0 ≤ (x47_3 : Int) := of_decide_eq_true (by first | (with_reducible assumption) | assumption)
 have q538 : x47_3 < (l0_1.length : Int) := of_decide_eq_true (by first | (with_reducible assumption) | assumption)
 obtain ⟨ad538, e538, hx538_0, hx538_1⟩ := at_T63 HR0_1.out x47_3 p538 q538
 obtain rfl : ad537 = ad538 := (by injection e538)
 replace hx538_0 := (HB.out.cell (World.block_lt_of_cell? w _ hx538_0)).trans hx538_0
 replace hx538_1 := (HB.out.cell (World.block_lt_of_cell? w _ hx538_1)).trans hx538_1
 replace p538 := eq_true p538
 replace q538 := eq_true q538
 go_wp2_with (first | (go_at_call 59; (with_reducible refine (spec_l05Until.calls k3 _ _ l0_0 ((rd_T63 l0_1 x47_3).f0) t539 _ ?side1 ?side2 A27.out).mono ?_); (case side1 => exact y2_ (Kd.C_below HR0_0.out HB.out)); (case side2 => exact HC0_0.out); rintro e w' ⟨rfl, ⟨nd, rfl⟩⟩; (try first | exact ⟨rfl, _, World.drewN_drewN _ _ _⟩ | exact ⟨rfl, _, Eq.trans (World.drewN_drewN _ _ _) (congrArg (World.drewN _) (Nat.add_assoc _ _ _))⟩)))
 repeat (go_quiet (first | (go_at_call 59; (with_reducible refine (spec_l05Until.calls k3 _ _ l0_0 ((rd_T63 l0_1 x47_3).f0) t539 _ ?side1 ?side2 A27.out).mono ?_); (case side1 => exact y2_ (Kd.C_below HR0_0.out HB.out)); (case side2 => exact HC0_0.out); rintro e w' ⟨rfl, ⟨nd, rfl⟩⟩; (try first | exact ⟨rfl, _, World.drewN_drewN _ _ _⟩ | exact ⟨rfl, _, Eq.trans (World.drewN_drewN _ _ _) (congrArg (World.drewN _) (Nat.add_assoc _ _ _))⟩))); try go_wp2_with (first | (go_at_call 59; (with_reducible refine (spec_l05Until.calls k3 _ _ l0_0 ((rd_T63 l0_1 x47_3).f0) t539 _ ?side1 ?side2 A27.out).mono ?_); (case side1 => exact y2_ (Kd.C_below HR0_0.out HB.out)); (case side2 => exact HC0_0.out); rintro e w' ⟨rfl, ⟨nd, rfl⟩⟩; (try first | exact ⟨rfl, _, World.drewN_drewN _ _ _⟩ | exact ⟨rfl, _, Eq.trans (World.drewN_drewN _ _ _) (congrArg (World.drewN _) (Nat.add_assoc _ _ _))⟩))))
 go_roundg k3
 case measure => have := HJ2.out; have := HK2.out; have := HK3.out; omega
 case rel => exact ⟨((rd_T63 l0_1 x47_3).f1), (wrap64 (x47_3 + 1)), s1_, s1_, H', ⟨by have := HJ2.out; have := HK2.out; have := HK3.out; omega⟩, ⟨b1_ BK533.out⟩, ⟨by repeat (first | (with_reducible first | exact HB.out | apply below_alloc | apply pw_below_drewN | apply below_drew1) | exact HB.out)⟩⟩}
 {
 rw [if_neg c29] at H
 have c29b0 : decide (x6_3 < 0) = false := decide_eq_false c29
 clear c29
 by_cases c31 : ((rd_T63 l0_1 x47_3).f1) < x6_3
 {
 rw [if_pos c31] at H
 have c31b0 : decide (((rd_T63 l0_1 x47_3).f1) < x6_3) = true := decide_eq_true c31
 clear c31
 have H' := Aside0.mk H
 clear H
 have hcz32_0 := c1_ BK533 0 (.slice A0_0 l0_0.length c0_0)
 have hcz32_1 := c1_ BK533 1 (.slice A0_1 l0_1.length c0_1)
 have hcz32_2 := c1_ BK533 2 (.slice A0_2 l0_2.length c0_2)
 have hfz32_0 := f1_ BK533 0
 have hfz32_1 := f1_ BK533 1
 have hfz32_2 := f1_ BK533 2
 have p537 : 0 ≤ (x47_3 : Int) := of_decide_eq_true (by first | (with_reducible assumption) | assumption)
 have q537 : x47_3 < (l0_1.length : Int) := of_decide_eq_true (by first | (with_reducible assumption) | assumption)
 obtain ⟨ad537, e537, hx537_0, hx537_1⟩ := at_T63 HR0_1.out x47_3 p537 q537
 cases e537
 replace hx537_0 := (HB.out.cell (World.block_lt_of_cell? w _ hx537_0)).trans hx537_0
 replace hx537_1 := (HB.out.cell (World.block_lt_of_cell? w _ hx537_1)).trans hx537_1
 replace p537 := eq_true p537
 replace q537 := eq_true q537
 have p538 : 0 ≤ (x47_3 : Int) := of_decide_eq_true (by first | (with_reducible assumption) | assumption)
 have q538 : x47_3 < (l0_1.length : Int) := of_decide_eq_true (by first | (with_reducible assumption) | assumption)
 obtain ⟨ad538, e538, hx538_0, hx538_1⟩ := at_T63 HR0_1.out x47_3 p538 q538
 obtain rfl : ad537 = ad538 := (by injection e538)
 replace hx538_0 := (HB.out.cell (World.block_lt_of_cell? w _ hx538_0)).trans hx538_0
 replace hx538_1 := (HB.out.cell (World.block_lt_of_cell? w _ hx538_1)).trans hx538_1
 replace p538 := eq_true p538
 replace q538 := eq_true q538
 go_wp2_with (first | (go_at_call 59; (with_reducible refine (spec_l05Until.calls k3 _ _ l0_0 ((rd_T63 l0_1 x47_3).f0) t539 _ ?side1 ?side2 A27.out).mono ?_); (case side1 => exact y2_ (Kd.C_below HR0_0.out HB.out)); (case side2 => exact HC0_0.out); rintro e w' ⟨rfl, ⟨nd, rfl⟩⟩; (try first | exact ⟨rfl, _, World.drewN_drewN _ _ _⟩ | exact ⟨rfl, _, Eq.trans (World.drewN_drewN _ _ _) (congrArg (World.drewN _) (Nat.add_assoc _ _ _))⟩)))
 repeat (go_quiet (first | (go_at_call 59; (with_reducible refine (spec_l05Until.calls k3 _ _ l0_0 ((rd_T63 l0_1 x47_3).f0) t539 _ ?side1 ?side2 A27.out).mono ?_); (case side1 => exact y2_ (Kd.C_below HR0_0.out HB.out)); (case side2 => exact HC0_0.out); rintro e w' ⟨rfl, ⟨nd, rfl⟩⟩; (try first | exact ⟨rfl, _, World.drewN_drewN _ _ _⟩ | exact ⟨rfl, _, Eq.trans (World.drewN_drewN _ _ _) (congrArg (World.drewN _) (Nat.add_assoc _ _ _))⟩))); try go_wp2_with (first | (go_at_call 59; (with_reducible refine (spec_l05Until.calls k3 _ _ l0_0 ((rd_T63 l0_1 x47_3).f0) t539 _ ?side1 ?side2 A27.out).mono ?_); (case side1 => exact y2_ (Kd.C_below HR0_0.out HB.out)); (case side2 => exact HC0_0.out); rintro e w' ⟨rfl, ⟨nd, rfl⟩⟩; (try first | exact ⟨rfl, _, World.drewN_drewN _ _ _⟩ | exact ⟨rfl, _, Eq.trans (World.drewN_drewN _ _ _) (congrArg (World.drewN _) (Nat.add_assoc _ _ _))⟩))))
 go_roundg k3
 case measure => have := HJ2.out; have := HK2.out; have := HK3.out; omega
 case rel => exact ⟨((rd_T63 l0_1 x47_3).f1), (wrap64 (x47_3 + 1)), s1_, s1_, H', ⟨by have := HJ2.out; have := HK2.out; have := HK3.out; omega⟩, ⟨b1_ BK533.out⟩, ⟨by repeat (first | (with_reducible first | exact HB.out | apply below_alloc | apply pw_below_drewN | apply below_drew1) | exact HB.out)⟩⟩}
 {
 rw [if_neg c31] at H
 have c31b0 : decide (((rd_T63 l0_1 x47_3).f1) < x6_3) = false := decide_eq_false c31
 clear c31
 have H' := Aside0.mk H
 clear H
 have hcz33_0 := c1_ BK533 0 (.slice A0_0 l0_0.length c0_0)
 have hcz33_1 := c1_ BK533 1 (.slice A0_1 l0_1.length c0_1)
 have hcz33_2 := c1_ BK533 2 (.slice A0_2 l0_2.length c0_2)
 have hfz33_0 := f1_ BK533 0
 have hfz33_1 := f1_ BK533 1
 have hfz33_2 := f1_ BK533 2
 have p537 : 0 ≤ (x47_3 : Int) := of_decide_eq_true (by first | (with_reducible assumption) | assumption)
 have q537 : x47_3 < (l0_1.length : Int) := of_decide_eq_true (by first | (with_reducible assumption) | assumption)
 obtain ⟨ad537, e537, hx537_0, hx537_1⟩ := at_T63 HR0_1.out x47_3 p537 q537
 cases e537
 replace hx537_0 := (HB.out.cell (World.block_lt_of_cell? w _ hx537_0)).trans hx537_0
 replace hx537_1 := (HB.out.cell (World.block_lt_of_cell? w _ hx537_1)).trans hx537_1
 replace p537 := eq_true p537
 replace q537 := eq_true q537
 have p538 : 0 ≤ (x47_3 : Int) := of_decide_eq_true (by first | (with_reducible assumption) | assumption)
 have q538 : x47_3 < (l0_1.length : Int) := of_decide_eq_true (by first | (with_reducible assumption) | assumption)
 obtain ⟨ad538, e538, hx538_0, hx538_1⟩ := at_T63 HR0_1.out x47_3 p538 q538
 obtain rfl : ad537 = ad538 := (by injection e538)
 replace hx538_0 := (HB.out.cell (World.block_lt_of_cell? w _ hx538_0)).trans hx538_0
 replace hx538_1 := (HB.out.cell (World.block_lt_of_cell? w _ hx538_1)).trans hx538_1
 replace p538 := eq_true p538
 replace q538 := eq_true q538
 go_wp2_with (first | (go_at_call 59; (with_reducible refine (spec_l05Until.calls k3 _ _ l0_0 ((rd_T63 l0_1 x47_3).f0) t539 _ ?side1 ?side2 A27.out).mono ?_); (case side1 => exact y2_ (Kd.C_below HR0_0.out HB.out)); (case side2 => exact HC0_0.out); rintro e w' ⟨rfl, ⟨nd, rfl⟩⟩; (try first | exact ⟨rfl, _, World.drewN_drewN _ _ _⟩ | exact ⟨rfl, _, Eq.trans (World.drewN_drewN _ _ _) (congrArg (World.drewN _) (Nat.add_assoc _ _ _))⟩)))
 repeat (go_quiet (first | (go_at_call 59; (with_reducible refine (spec_l05Until.calls k3 _ _ l0_0 ((rd_T63 l0_1 x47_3).f0) t539 _ ?side1 ?side2 A27.out).mono ?_); (case side1 => exact y2_ (Kd.C_below HR0_0.out HB.out)); (case side2 => exact HC0_0.out); rintro e w' ⟨rfl, ⟨nd, rfl⟩⟩; (try first | exact ⟨rfl, _, World.drewN_drewN _ _ _⟩ | exact ⟨rfl, _, Eq.trans (World.drewN_drewN _ _ _) (congrArg (World.drewN _) (Nat.add_assoc _ _ _))⟩))); try go_wp2_with (first | (go_at_call 59; (with_reducible refine (spec_l05Until.calls k3 _ _ l0_0 ((rd_T63 l0_1 x47_3).f0) t539 _ ?side1 ?side2 A27.out).mono ?_); (case side1 => exact y2_ (Kd.C_below HR0_0.out HB.out)); (case side2 => exact HC0_0.out); rintro e w' ⟨rfl, ⟨nd, rfl⟩⟩; (try first | exact ⟨rfl, _, World.drewN_drewN _ _ _⟩ | exact ⟨rfl, _, Eq.trans (World.drewN_drewN _ _ _) (congrArg (World.drewN _) (Nat.add_assoc _ _ _))⟩))))
 go_roundg k3
 case measure => have := HJ2.out; have := HK2.out; have := HK3.out; omega
 case rel => exact ⟨(x6_3), (wrap64 (x47_3 + 1)), s1_, s1_, H', ⟨by have := HJ2.out; have := HK2.out; have := HK3.out; omega⟩, ⟨b1_ BK533.out⟩, ⟨by repeat (first | (with_reducible first | exact HB.out | apply below_alloc | apply pw_below_drewN | apply below_drew1) | exact HB.out)⟩⟩}}}
 {
 rw [if_neg c28] at H
 have c28b0 : decide (((rd_T63 l0_1 x47_3).f1) ≤ t539) = false := decide_eq_false c28
 clear c28
 have H' := Aside0.mk H
 clear H
 have hcz34_0 := c1_ BK533 0 (.slice A0_0 l0_0.length c0_0)
 have hcz34_1 := c1_ BK533 1 (.slice A0_1 l0_1.length c0_1)
 have hcz34_2 := c1_ BK533 2 (.slice A0_2 l0_2.length c0_2)
 have hfz34_0 := f1_ BK533 0
 have hfz34_1 := f1_ BK533 1
 have hfz34_2 := f1_ BK533 2
 have p537 : 0 ≤ (x47_3 : Int) := of_decide_eq_true (by first | (with_reducible assumption) | assumption)
 have q537 : x47_3 < (l0_1.length : Int) := of_decide_eq_true (by first | (with_reducible assumption) | assumption)
 obtain ⟨ad537, e537, hx537_0, hx537_1⟩ := at_T63 HR0_1.out x47_3 p537 q537
 cases e537
 replace hx537_0 := (HB.out.cell (World.block_lt_of_cell? w _ hx537_0)).trans hx537_0
 replace hx537_1 := (HB.out.cell (World.block_lt_of_cell? w _ hx537_1)).trans hx537_1
 replace p537 := eq_true p537
 replace q537 := eq_true q537
 have p538 : 0 ≤ (x47_3 : Int) := of_decide_eq_true (by first | (with_reducible assumption) | assumption)
 have q538 : x47_3 < (l0_1.length : Int) := of_decide_eq_true (by first | (with_reducible assumption) | assumption)
 obtain ⟨ad538, e538, hx538_0, hx538_1⟩ := at_T63 HR0_1.out x47_3 p538 q538
 obtain rfl : ad537 = ad538 := (by injection e538)
 replace hx538_0 := (HB.out.cell (World.block_lt_of_cell? w _ hx538_0)).trans hx538_0
 replace hx538_1 := (HB.out.cell (World.block_lt_of_cell? w _ hx538_1)).trans hx538_1
 replace p538 := eq_true p538
 replace q538 := eq_true q538
 go_wp2_with (first | (go_at_call 59; (with_reducible refine (spec_l05Until.calls k3 _ _ l0_0 ((rd_T63 l0_1 x47_3).f0) t539 _ ?side1 ?side2 A27.out).mono ?_); (case side1 => exact y2_ (Kd.C_below HR0_0.out HB.out)); (case side2 => exact HC0_0.out); rintro e w' ⟨rfl, ⟨nd, rfl⟩⟩; (try first | exact ⟨rfl, _, World.drewN_drewN _ _ _⟩ | exact ⟨rfl, _, Eq.trans (World.drewN_drewN _ _ _) (congrArg (World.drewN _) (Nat.add_assoc _ _ _))⟩)))
 repeat (go_quiet (first | (go_at_call 59; (with_reducible refine (spec_l05Until.calls k3 _ _ l0_0 ((rd_T63 l0_1 x47_3).f0) t539 _ ?side1 ?side2 A27.out).mono ?_); (case side1 => exact y2_ (Kd.C_below HR0_0.out HB.out)); (case side2 => exact HC0_0.out); rintro e w' ⟨rfl, ⟨nd, rfl⟩⟩; (try first | exact ⟨rfl, _, World.drewN_drewN _ _ _⟩ | exact ⟨rfl, _, Eq.trans (World.drewN_drewN _ _ _) (congrArg (World.drewN _) (Nat.add_assoc _ _ _))⟩))); try go_wp2_with (first | (go_at_call 59; (with_reducible refine (spec_l05Until.calls k3 _ _ l0_0 ((rd_T63 l0_1 x47_3).f0) t539 _ ?side1 ?side2 A27.out).mono ?_); (case side1 => exact y2_ (Kd.C_below HR0_0.out HB.out)); (case side2 => exact HC0_0.out); rintro e w' ⟨rfl, ⟨nd, rfl⟩⟩; (try first | exact ⟨rfl, _, World.drewN_drewN _ _ _⟩ | exact ⟨rfl, _, Eq.trans (World.drewN_drewN _ _ _) (congrArg (World.drewN _) (Nat.add_assoc _ _ _))⟩))))
 go_roundg k3
 case measure => have := HJ2.out; have := HK2.out; have := HK3.out; omega
 case rel => exact ⟨(x6_3), (wrap64 (x47_3 + 1)), s1_, s1_, H', ⟨by have := HJ2.out; have := HK2.out; have := HK3.out; omega⟩, ⟨b1_ BK533.out⟩, ⟨by repeat (first | (with_reducible first | exact HB.out | apply below_alloc | apply pw_below_drewN | apply below_drew1) | exact HB.out)⟩⟩}}
 {
 rw [if_neg c26] at H
 have c26b0 : decide (a1 < ((rd_T63 l0_1 x47_3).f1)) = false := decide_eq_false c26
 clear c26
 have H' := Aside0.mk H
 clear H
 have hcz35_0 := c1_ BK533 0 (.slice A0_0 l0_0.length c0_0)
 have hcz35_1 := c1_ BK533 1 (.slice A0_1 l0_1.length c0_1)
 have hcz35_2 := c1_ BK533 2 (.slice A0_2 l0_2.length c0_2)
 have hfz35_0 := f1_ BK533 0
 have hfz35_1 := f1_ BK533 1
 have hfz35_2 := f1_ BK533 2
 have p537 : 0 ≤ (x47_3 : Int) := of_decide_eq_true (by first | (with_reducible assumption) | assumption)
 have q537 : x47_3 < (l0_1.length : Int) := of_decide_eq_true (by first | (with_reducible assumption) | assumption)
 obtain ⟨ad537, e537, hx537_0, hx537_1⟩ := at_T63 HR0_1.out x47_3 p537 q537
 cases e537
 replace hx537_0 := (HB.out.cell (World.block_lt_of_cell? w _ hx537_0)).trans hx537_0
 replace hx537_1 := (HB.out.cell (World.block_lt_of_cell? w _ hx537_1)).trans hx537_1
 replace p537 := eq_true p537
 replace q537 := eq_true q537
 go_wp2
 repeat (go_quiet (fail); try go_wp2)
 go_roundg k3
 case measure => have := HJ2.out; have := HK2.out; have := HK3.out; omega
 case rel => exact ⟨(x6_3), (wrap64 (x47_3 + 1)), s1_, s1_, H', ⟨by have := HJ2.out; have := HK2.out; have := HK3.out; omega⟩, ⟨b1_ BK533.out⟩, ⟨by repeat (first | (with_reducible first | exact HB.out | apply below_alloc | apply pw_below_drewN | apply below_drew1) | exact HB.out)⟩⟩}}
 {
 rw [if_neg c25] at H
 exact absurd H (by simp)}}
 {
 rw [if_neg c24] at H
 exact absurd H (by simp)}}
 {
 rw [if_neg c23] at H
 have c23b0 : decide (x47_3 < (l0_1.length : Int)) = false := decide_eq_false c23
 clear c23
 by_cases c36 : x6_3 < 0
 {
 rw [if_pos c36] at H
 have c36b0 : decide (x6_3 < 0) = true := decide_eq_true c36
 clear c36
 simp only [Option.some.injEq, Prod.mk.injEq] at H
 obtain ⟨rfl, rfl⟩ := H
 go_wp2
 repeat (go_quiet (fail); try go_wp2)
 go_ret2
 exact ⟨by first | rfl | (simp [errW_none, errW_some] <;> rfl) | (simp [*, errW_none, errW_some] <;> rfl), by repeat (first | (with_reducible first | exact HB.out | apply below_alloc | apply pw_below_drewN | apply below_drew1) | exact HB.out)⟩}
 {
 rw [if_neg c36] at H
 have c36b0 : decide (x6_3 < 0) = false := decide_eq_false c36
 clear c36
 simp only [Option.some.injEq, Prod.mk.injEq] at H
 obtain ⟨rfl, rfl⟩ := H
 go_wp2
 repeat (go_quiet (fail); try go_wp2)
 go_ret2
 exact ⟨by first | rfl | (simp [errW_none, errW_some] <;> rfl) | (simp [*, errW_none, errW_some] <;> rfl), by repeat (first | (with_reducible first | exact HB.out | apply below_alloc | apply pw_below_drewN | apply below_drew1) | exact HB.out)⟩}}}}}}}}}}

end Go.Proofs.Ytgfilednbllkmaa.QFnJoinedPresence
