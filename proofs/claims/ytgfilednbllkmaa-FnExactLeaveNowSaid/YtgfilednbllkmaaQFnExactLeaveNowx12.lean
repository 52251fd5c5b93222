-- written by a program of this session, on the lines of the kit's print
import Derived.Test.YtgfilednbllkmaaQFnExactLeaveNowx0
import Derived.Test.YtgfilednbllkmaaQFnExactLeaveNowx4
import Derived.Test.YtgfilednbllkmaaQFnExactLeaveNowx5
import Derived.Test.YtgfilednbllkmaaQFnExactLeaveNowx9
import Derived.Test.YtgfilednbllkmaaQFnExactLeaveNowx10
import Derived.Test.YtgfilednbllkmaaQFnExactLeaveNowx11
namespace Go.Proofs.Ytgfilednbllkmaa.QFnExactLeaveNow
open Go.RowKit Go.Proofs.YtgfilednbllkmaaW.PrintWords Go.Proofs.YtgfilednbllkmaaW.PrintLast Go.Proofs.YtgfilednbllkmaaW.PrintMore
attribute [local go_sem] max2_int min2_int max_two min_two max_three min_three max_four min_four   -- for this text's walks alone
set_option linter.unusedVariables false
set_option linter.unusedSimpArgs false

/-! ### laws_FnExactLeaveNow: function 4 -/
abbrev laws_FnExactLeaveNow.T : Bool := true
abbrev laws_FnExactLeaveNow.F : Bool := false
theorem laws_FnExactLeaveNow.s1_ {P : Prop} (h : P := by first | rfl | (simp; done) | (simp [*]; done)) : P := h
theorem laws_FnExactLeaveNow.s2_ {P : Prop} (h : P := by kernel_rfl) : P := h
theorem laws_FnExactLeaveNow.s3_ {P : Prop} (h : P := by (try simp only [List.map_toArray, List.map_cons, List.map_nil]); first | done | rfl | (simp only [List.length_drop, List.length_take]; rfl)) : P := h
theorem laws_FnExactLeaveNow.p1_ {P : Prop} (h : P := by simp only [Act.put, List.setIfInBounds_toArray, List.set_cons_zero, List.set_cons_succ, i64_w, i32_w]; rfl) : P := h
theorem laws_FnExactLeaveNow.b1_ {P Q : Prop} (q : Q) (h : Q → P := by intro q_; (with_reducible repeat (first | refine blk_drewN ?_ _ | refine blk_drew ?_ | refine blk_alloc ?_ _)); exact q_) : P := h q
theorem laws_FnExactLeaveNow.b2_ {P Q : Prop} (q : Q) (h : Q → P := by intro q_; (with_reducible repeat (first | apply Kd.R_alloc | apply Kd.R_drewN | apply Kd.R_drew)); exact q_) : P := h q
theorem laws_FnExactLeaveNow.y1_ {P Q : Prop} (q : Q) (h : Q → P := by intro q_; repeat (first | (with_reducible first | exact q_ | apply below_alloc | apply pw_below_drewN | apply below_drew1) | exact q_)) : P := h q
theorem laws_FnExactLeaveNow.y2_ {P Q : Prop} (q : Q) (h : Q → P := by intro q_; repeat (first | exact q_ | (with_reducible refine Kd.C_alloc ?_ _) | (with_reducible refine Kd.C_drewN ?_ _) | (with_reducible refine Kd.C_drew ?_))) : P := h q
mutual
def laws_FnExactLeaveNow.j0 : Nat → Int → Bool → Bool → Bool → List (S108) → List (S108) → List (S110) → List (S63) → List (S63) → List (S73) → List (S63) → List (S63) → List (S73) → List (S63) → List (S63) → List (S73) → Option (Bool)
  | 0, _, _, _, _, _, _, _, _, _, _, _, _, _, _, _, _ => none
  | k + 1, x1, x7, x10, x44, x289000, x289001, x289002, x310000, x310001, x310002, x320000, x320001, x320002, x331000, x331001, x331002 => if x44 = true then (some false) else ((laws_toPresence.f k x289000 x289001 x289002).bind fun bt332 => ((laws_eqPresence.f k x320000 x320001 x320002 bt332.1 bt332.2.1 bt332.2.2).bind fun t341 => (if t341 = true then ((laws_markPresence.f k x320000 x320001 x320002 1).bind fun bt342 => (if bt342.1 < 0 then (laws_FnExactLeaveNow.j1 k x1 x7 true x289000 x289001 x289002 x310000 x310001 x310002 x331000 x331001 x331002) else ((laws_eqPresence.f k x331000 x331001 x331002 x310000 x310001 x310002).bind fun t346 => (if t346 = true then (laws_FnExactLeaveNow.j1 k x1 x7 (x10 != x7) x289000 x289001 x289002 x310000 x310001 x310002 x331000 x331001 x331002) else (laws_FnExactLeaveNow.j1 k x1 x7 true x289000 x289001 x289002 x310000 x310001 x310002 x331000 x331001 x331002))))) else (some false))))
def laws_FnExactLeaveNow.j1 : Nat → Int → Bool → Bool → List (S108) → List (S108) → List (S110) → List (S63) → List (S63) → List (S73) → List (S63) → List (S63) → List (S73) → Option (Bool)
  | 0, _, _, _, _, _, _, _, _, _, _, _, _ => none
  | k + 1, x1, x7, x65, x289000, x289001, x289002, x310000, x310001, x310002, x331000, x331001, x331002 => if x65 = true then (some false) else ((laws_markPresence.f k x331000 x331001 x331002 1).bind fun bt347 => ((laws_heldPresence.f k bt347.2.1 bt347.2.2.1 bt347.2.2.2 1).bind fun t351 => (if t351 < 0 then (some false) else (if t351 = bt347.1 then ((laws_toPresence.f k x289000 x289001 x289002).bind fun bt352 => ((impl_LeaveNow.f k bt352.1 bt352.2.1 bt352.2.2 x1).bind fun bt361 => ((laws_eqPresence.f k bt361.1 bt361.2.1 bt361.2.2.1 x310000 x310001 x310002).bind fun t372 => (if t372 = true then (laws_FnExactLeaveNow.j2 k bt347.1 (bt361.2.2.2 != x7) bt347.2.1 bt347.2.2.1 bt347.2.2.2) else (laws_FnExactLeaveNow.j2 k bt347.1 true bt347.2.1 bt347.2.2.1 bt347.2.2.2))))) else (some false)))))
def laws_FnExactLeaveNow.j2 : Nat → Int → Bool → List (S63) → List (S63) → List (S73) → Option (Bool)
  | 0, _, _, _, _, _ => none
  | k + 1, x12, x92, x331000, x331001, x331002 => if x92 = true then (some false) else ((laws_heldPresence.f k x331000 x331001 x331002 1).bind fun t373 => (if t373 < 0 then (some false) else (if t373 = x12 then (some true) else (some false))))
end
def laws_FnExactLeaveNow.f (k : Nat) (l0_0 : List (S108)) (l0_1 : List (S108)) (l0_2 : List (S110)) (a1 : Int) : Option (Bool) := (laws_szPresence.f l0_0 l0_1 l0_2 1048576).bind fun t289 => (if t289 < 0 then (some true) else ((laws_toPresence.f k l0_0 l0_1 l0_2).bind fun bt290 => ((spec_LeaveNow.f k bt290.1 bt290.2.1 bt290.2.2 a1).bind fun bt299 => ((laws_toPresence.f k l0_0 l0_1 l0_2).bind fun bt310 => ((impl_LeaveNow.f k bt310.1 bt310.2.1 bt310.2.2 a1).bind fun bt320 => ((laws_eqPresence.f k bt320.1 bt320.2.1 bt320.2.2.1 bt299.1 bt299.2.1 bt299.2.2.1).bind fun t331 => (if t331 = true then (laws_FnExactLeaveNow.j0 k a1 bt299.2.2.2 bt320.2.2.2 (bt320.2.2.2 != bt299.2.2.2) l0_0 l0_1 l0_2 bt299.1 bt299.2.1 bt299.2.2.1 bt310.1 bt310.2.1 bt310.2.2 bt320.1 bt320.2.1 bt320.2.2.1) else (laws_FnExactLeaveNow.j0 k a1 bt299.2.2.2 bt320.2.2.2 true l0_0 l0_1 l0_2 bt299.1 bt299.2.1 bt299.2.2.1 bt310.1 bt310.2.1 bt310.2.2 bt320.1 bt320.2.1 bt320.2.2.1))))))))
theorem laws_FnExactLeaveNow.mono_l : ∀ k, (∀ y0 y1 y2 y3 y4 y5 y6 y7 y8 y9 y10 y11 y12 y13 y14 y15, LeO (laws_FnExactLeaveNow.j0 k y0 y1 y2 y3 y4 y5 y6 y7 y8 y9 y10 y11 y12 y13 y14 y15) (laws_FnExactLeaveNow.j0 (k + 1) y0 y1 y2 y3 y4 y5 y6 y7 y8 y9 y10 y11 y12 y13 y14 y15)) ∧ (∀ y0 y1 y2 y3 y4 y5 y6 y7 y8 y9 y10 y11, LeO (laws_FnExactLeaveNow.j1 k y0 y1 y2 y3 y4 y5 y6 y7 y8 y9 y10 y11) (laws_FnExactLeaveNow.j1 (k + 1) y0 y1 y2 y3 y4 y5 y6 y7 y8 y9 y10 y11)) ∧ (∀ y0 y1 y2 y3 y4, LeO (laws_FnExactLeaveNow.j2 k y0 y1 y2 y3 y4) (laws_FnExactLeaveNow.j2 (k + 1) y0 y1 y2 y3 y4))
  | 0 => ⟨fun _ _ _ _ _ _ _ _ _ _ _ _ _ _ _ _ r h => by simp [laws_FnExactLeaveNow.j0] at h, fun _ _ _ _ _ _ _ _ _ _ _ _ r h => by simp [laws_FnExactLeaveNow.j1] at h, fun _ _ _ _ _ r h => by simp [laws_FnExactLeaveNow.j2] at h⟩
  | k + 1 => by
    obtain ⟨ih0, ih1, ih2⟩ := laws_FnExactLeaveNow.mono_l k
    refine ⟨?_, ?_, ?_⟩
    · intro y0 y1 y2 y3 y4 y5 y6 y7 y8 y9 y10 y11 y12 y13 y14 y15
      unfold laws_FnExactLeaveNow.j0
      repeat' first
      | (with_reducible exact ih0 _ _ _ _ _ _ _ _ _ _ _ _ _ _ _ _)
      | (with_reducible exact ih1 _ _ _ _ _ _ _ _ _ _ _ _)
      | (with_reducible exact ih2 _ _ _ _ _)
      | (with_reducible exact impl_LeaveNow.mono _ _ _ _ _)
      | (with_reducible exact laws_eqPresence.mono _ _ _ _ _ _ _)
      | (with_reducible exact laws_heldPresence.mono _ _ _ _ _)
      | (with_reducible exact laws_markPresence.mono _ _ _ _ _)
      | (with_reducible exact laws_toPresence.mono _ _ _ _)
      | (with_reducible exact spec_LeaveNow.mono _ _ _ _ _)
      | (with_reducible exact LeO.refl _)
      | (with_reducible exact LeO.none _)
      | (with_reducible refine LeO.ite ?_ ?_)
      | (with_reducible refine LeO.bind ?_ (fun _ => ?_))
      | exact ih0 _ _ _ _ _ _ _ _ _ _ _ _ _ _ _ _
      | exact ih1 _ _ _ _ _ _ _ _ _ _ _ _
      | exact ih2 _ _ _ _ _
      | exact impl_LeaveNow.mono _ _ _ _ _
      | exact laws_eqPresence.mono _ _ _ _ _ _ _
      | exact laws_heldPresence.mono _ _ _ _ _
      | exact laws_markPresence.mono _ _ _ _ _
      | exact laws_toPresence.mono _ _ _ _
      | exact spec_LeaveNow.mono _ _ _ _ _
      | exact LeO.none _
      | refine LeO.ite ?_ ?_
      | refine LeO.bind ?_ (fun _ => ?_)
    · intro y0 y1 y2 y3 y4 y5 y6 y7 y8 y9 y10 y11
      unfold laws_FnExactLeaveNow.j1
      repeat' first
      | (with_reducible exact ih0 _ _ _ _ _ _ _ _ _ _ _ _ _ _ _ _)
      | (with_reducible exact ih1 _ _ _ _ _ _ _ _ _ _ _ _)
      | (with_reducible exact ih2 _ _ _ _ _)
      | (with_reducible exact impl_LeaveNow.mono _ _ _ _ _)
      | (with_reducible exact laws_eqPresence.mono _ _ _ _ _ _ _)
      | (with_reducible exact laws_heldPresence.mono _ _ _ _ _)
      | (with_reducible exact laws_markPresence.mono _ _ _ _ _)
      | (with_reducible exact laws_toPresence.mono _ _ _ _)
      | (with_reducible exact spec_LeaveNow.mono _ _ _ _ _)
      | (with_reducible exact LeO.refl _)
      | (with_reducible exact LeO.none _)
      | (with_reducible refine LeO.ite ?_ ?_)
      | (with_reducible refine LeO.bind ?_ (fun _ => ?_))
      | exact ih0 _ _ _ _ _ _ _ _ _ _ _ _ _ _ _ _
      | exact ih1 _ _ _ _ _ _ _ _ _ _ _ _
      | exact ih2 _ _ _ _ _
      | exact impl_LeaveNow.mono _ _ _ _ _
      | exact laws_eqPresence.mono _ _ _ _ _ _ _
      | exact laws_heldPresence.mono _ _ _ _ _
      | exact laws_markPresence.mono _ _ _ _ _
      | exact laws_toPresence.mono _ _ _ _
      | exact spec_LeaveNow.mono _ _ _ _ _
      | exact LeO.none _
      | refine LeO.ite ?_ ?_
      | refine LeO.bind ?_ (fun _ => ?_)
    · intro y0 y1 y2 y3 y4
      unfold laws_FnExactLeaveNow.j2
      repeat' first
      | (with_reducible exact ih0 _ _ _ _ _ _ _ _ _ _ _ _ _ _ _ _)
      | (with_reducible exact ih1 _ _ _ _ _ _ _ _ _ _ _ _)
      | (with_reducible exact ih2 _ _ _ _ _)
      | (with_reducible exact impl_LeaveNow.mono _ _ _ _ _)
      | (with_reducible exact laws_eqPresence.mono _ _ _ _ _ _ _)
      | (with_reducible exact laws_heldPresence.mono _ _ _ _ _)
      | (with_reducible exact laws_markPresence.mono _ _ _ _ _)
      | (with_reducible exact laws_toPresence.mono _ _ _ _)
      | (with_reducible exact spec_LeaveNow.mono _ _ _ _ _)
      | (with_reducible exact LeO.refl _)
      | (with_reducible exact LeO.none _)
      | (with_reducible refine LeO.ite ?_ ?_)
      | (with_reducible refine LeO.bind ?_ (fun _ => ?_))
      | exact ih0 _ _ _ _ _ _ _ _ _ _ _ _ _ _ _ _
      | exact ih1 _ _ _ _ _ _ _ _ _ _ _ _
      | exact ih2 _ _ _ _ _
      | exact impl_LeaveNow.mono _ _ _ _ _
      | exact laws_eqPresence.mono _ _ _ _ _ _ _
      | exact laws_heldPresence.mono _ _ _ _ _
      | exact laws_markPresence.mono _ _ _ _ _
      | exact laws_toPresence.mono _ _ _ _
      | exact spec_LeaveNow.mono _ _ _ _ _
      | exact LeO.none _
      | refine LeO.ite ?_ ?_
      | refine LeO.bind ?_ (fun _ => ?_)
theorem laws_FnExactLeaveNow.mono : ∀ a0 a1 a2 a3 k, LeO (laws_FnExactLeaveNow.f k a0 a1 a2 a3) (laws_FnExactLeaveNow.f (k + 1) a0 a1 a2 a3) := by
  intro a0 a1 a2 a3 k
  obtain ⟨ih0, ih1, ih2⟩ := laws_FnExactLeaveNow.mono_l k
  unfold laws_FnExactLeaveNow.f
  repeat' first
      | (with_reducible exact ih0 _ _ _ _ _ _ _ _ _ _ _ _ _ _ _ _)
      | (with_reducible exact ih1 _ _ _ _ _ _ _ _ _ _ _ _)
      | (with_reducible exact ih2 _ _ _ _ _)
      | (with_reducible exact impl_LeaveNow.mono _ _ _ _ _)
      | (with_reducible exact laws_eqPresence.mono _ _ _ _ _ _ _)
      | (with_reducible exact laws_heldPresence.mono _ _ _ _ _)
      | (with_reducible exact laws_markPresence.mono _ _ _ _ _)
      | (with_reducible exact laws_toPresence.mono _ _ _ _)
      | (with_reducible exact spec_LeaveNow.mono _ _ _ _ _)
      | (with_reducible exact LeO.refl _)
      | (with_reducible exact LeO.none _)
      | (with_reducible refine LeO.ite ?_ ?_)
      | (with_reducible refine LeO.bind ?_ (fun _ => ?_))
      | exact ih0 _ _ _ _ _ _ _ _ _ _ _ _ _ _ _ _
      | exact ih1 _ _ _ _ _ _ _ _ _ _ _ _
      | exact ih2 _ _ _ _ _
      | exact impl_LeaveNow.mono _ _ _ _ _
      | exact laws_eqPresence.mono _ _ _ _ _ _ _
      | exact laws_heldPresence.mono _ _ _ _ _
      | exact laws_markPresence.mono _ _ _ _ _
      | exact laws_toPresence.mono _ _ _ _
      | exact spec_LeaveNow.mono _ _ _ _ _
      | exact LeO.none _
      | refine LeO.ite ?_ ?_
      | refine LeO.bind ?_ (fun _ => ?_)
set_option maxHeartbeats 40000000 in
set_option maxRecDepth 100000 in
theorem laws_FnExactLeaveNow.calls (k : Nat) (A0_0 : Option Addr) (c0_0 : Nat) (l0_0 : List (S108)) (A0_1 : Option Addr) (c0_1 : Nat) (l0_1 : List (S108)) (A0_2 : Option Addr) (c0_2 : Nat) (l0_2 : List (S110)) (a1 : Int) (r : Bool) (w : World) (hr0_0 : Kd.C k108 w A0_0 l0_0.length l0_0) (hc0_0 : l0_0.length ≤ c0_0) (hr0_1 : Kd.C k108 w A0_1 l0_1.length l0_1) (hc0_1 : l0_1.length ≤ c0_1) (hr0_2 : Kd.C k110 w A0_2 l0_2.length l0_2) (hc0_2 : l0_2.length ≤ c0_2) (h : laws_FnExactLeaveNow.f k l0_0 l0_1 l0_2 a1 = some r) :
    Calls Try.prog 4 #[.agg #[.slice A0_0 l0_0.length c0_0, .slice A0_1 l0_1.length c0_1, .slice A0_2 l0_2.length c0_2], .int .i64 a1] w fun e w' => e = .returned (.bool r) ∧ Below w.heap.size w w' := by
 have hu45 := Try.underlying45
 have hu27 := Try.underlying27
 have HR0_0 := Aside0.mk hr0_0
 have HC0_0 := Aside0.mk hc0_0
 clear hr0_0 hc0_0
 have HR0_1 := Aside0.mk hr0_1
 have HC0_1 := Aside0.mk hc0_1
 clear hr0_1 hc0_1
 have HR0_2 := Aside0.mk hr0_2
 have HC0_2 := Aside0.mk hc0_2
 clear hr0_2 hc0_2
 have HB := Aside0.mk (Below.refl w.heap.size w)
 have H : ((laws_szPresence.f l0_0 l0_1 l0_2 1048576).bind fun t289 => (if t289 < 0 then (some true) else ((laws_toPresence.f k l0_0 l0_1 l0_2).bind fun bt290 => ((spec_LeaveNow.f k bt290.1 bt290.2.1 bt290.2.2 a1).bind fun bt299 => ((laws_toPresence.f k l0_0 l0_1 l0_2).bind fun bt310 => ((impl_LeaveNow.f k bt310.1 bt310.2.1 bt310.2.2 a1).bind fun bt320 => ((laws_eqPresence.f k bt320.1 bt320.2.1 bt320.2.2.1 bt299.1 bt299.2.1 bt299.2.2.1).bind fun t331 => (if t331 = true then (laws_FnExactLeaveNow.j0 k a1 bt299.2.2.2 bt320.2.2.2 (bt320.2.2.2 != bt299.2.2.2) l0_0 l0_1 l0_2 bt299.1 bt299.2.1 bt299.2.2.1 bt310.1 bt310.2.1 bt310.2.2 bt320.1 bt320.2.1 bt320.2.2.1) else (laws_FnExactLeaveNow.j0 k a1 bt299.2.2.2 bt320.2.2.2 true l0_0 l0_1 l0_2 bt299.1 bt299.2.1 bt299.2.2.1 bt310.1 bt310.2.1 bt310.2.2 bt320.1 bt320.2.1 bt320.2.2.1))))))))) = some r := h
 clear h
 replace H := Option.bind_eq_some_iff.mp H
 obtain ⟨t289, A30, H⟩ := H
 replace H : (if t289 < 0 then (some true) else ((laws_toPresence.f k l0_0 l0_1 l0_2).bind fun bt290 => ((spec_LeaveNow.f k bt290.1 bt290.2.1 bt290.2.2 a1).bind fun bt299 => ((laws_toPresence.f k l0_0 l0_1 l0_2).bind fun bt310 => ((impl_LeaveNow.f k bt310.1 bt310.2.1 bt310.2.2 a1).bind fun bt320 => ((laws_eqPresence.f k bt320.1 bt320.2.1 bt320.2.2.1 bt299.1 bt299.2.1 bt299.2.2.1).bind fun t331 => (if t331 = true then (laws_FnExactLeaveNow.j0 k a1 bt299.2.2.2 bt320.2.2.2 (bt320.2.2.2 != bt299.2.2.2) l0_0 l0_1 l0_2 bt299.1 bt299.2.1 bt299.2.2.1 bt310.1 bt310.2.1 bt310.2.2 bt320.1 bt320.2.1 bt320.2.2.1) else (laws_FnExactLeaveNow.j0 k a1 bt299.2.2.2 bt320.2.2.2 true l0_0 l0_1 l0_2 bt299.1 bt299.2.1 bt299.2.2.1 bt310.1 bt310.2.1 bt310.2.2 bt320.1 bt320.2.1 bt320.2.2.1)))))))) = some r := H
 have A3 := Aside0.mk A30
 clear A30
 by_cases c4 : t289 < 0
 {
 rw [if_pos c4] at H
 have c4b0 : decide (t289 < 0) = true := decide_eq_true c4
 clear c4
 obtain rfl := Option.some.inj H
 go_enter Try.func4, Try.ntmps4
 go_wp2_with (first | ((with_reducible refine gate_dst (N := 2) rfl ?_); refine box_event ?hg (N := 2) ?hd (cs := #[.slice A0_0 l0_0.length c0_0, .slice A0_1 l0_1.length c0_1, .slice A0_2 l0_2.length c0_2]) (t := 45) ?hr ?_; (case hd => rfl); (case hg => rfl); (case hr => first | (go_simp; done) | (go_simp; rfl)); intro gb288 hg w5 hbox hb; have n0_ := Aside0.mk (below_step (y1_ HB.out) hb); have n1_ := Aside0.mk (hbox); have n2_ := Aside0.mk ((by rw [hg]; exact (below_size (y1_ HB.out)) : w.heap.size ≤ gb288)); have n3_ := Aside0.mk ((by rw [hg]; exact (below_size (y1_ HB.out)) : w.heap.size ≤ gb288)); clear HB; have HB := n0_; have BK288 := n1_; have GW288 := n2_; have GE288 := n3_; clear n0_ n1_ n2_ n3_; clear hb hbox hg; have hcz6_0 : w5.cell? ⟨gb288, 0, none⟩ = some (.slice A0_0 l0_0.length c0_0) := (blk_cell BK288.out 0).trans rfl; have hcz6_1 : w5.cell? ⟨gb288, 1, none⟩ = some (.slice A0_1 l0_1.length c0_1) := (blk_cell BK288.out 1).trans rfl; have hcz6_2 : w5.cell? ⟨gb288, 2, none⟩ = some (.slice A0_2 l0_2.length c0_2) := (blk_cell BK288.out 2).trans rfl; have hfz6_0 := blk_frozen BK288.out 0; have hfz6_1 := blk_frozen BK288.out 1; have hfz6_2 := blk_frozen BK288.out 2) | ((with_reducible refine gate_callee (f := 24) rfl ?_); refine goesL_ (some 18) rfl rfl Try.func24 s2_ rfl #[.agg #[.slice A0_0 l0_0.length c0_0, .slice A0_1 l0_1.length c0_1, .slice A0_2 l0_2.length c0_2], .int .i64 1048576] rfl s3_ ?_; (with_reducible refine (laws_szPresence.calls _ _ l0_0 _ _ l0_1 _ _ l0_2 1048576 t289 _ ?side1 ?side2 ?side3 ?side4 ?side5 ?side6 A3.out).mono ?_); (case side1 => exact y2_ (Kd.C_below HR0_0.out HB.out)); (case side2 => exact HC0_0.out); (case side3 => exact y2_ (Kd.C_below HR0_1.out HB.out)); (case side4 => exact HC0_1.out); (case side5 => exact y2_ (Kd.C_below HR0_2.out HB.out)); (case side6 => exact HC0_2.out); rintro e w7 ⟨rfl, hb⟩; refine ⟨_, rfl, ?_⟩; have n0_ := Aside0.mk (blk_below (g := gb288) (o := .cells #[.slice A0_0 l0_0.length c0_0, .slice A0_1 l0_1.length c0_1, .slice A0_2 l0_2.length c0_2] 45 (0, 0)) (b1_ BK288.out) hb); have n1_ := Aside0.mk (below_step (y1_ HB.out) hb); clear BK288; clear HB; have BK288 := n0_; have HB := n1_; clear n0_ n1_; (try clear hb); (try clear hb2); (try clear hk); (try clear hi)))
 go_ret
 exact ⟨by first | rfl | (simp [errW_none, errW_some] <;> rfl) | (simp [*, errW_none, errW_some] <;> rfl), by repeat (first | (with_reducible first | exact HB.out | apply below_alloc | apply pw_below_drewN | apply below_drew1) | exact HB.out)⟩}
 {
 rw [if_neg c4] at H
 have c4b0 : decide (t289 < 0) = false := decide_eq_false c4
 clear c4
 replace H := Option.bind_eq_some_iff.mp H
 obtain ⟨⟨t290, t293, t296⟩, A80, H⟩ := H
 replace H : ((spec_LeaveNow.f k t290 t293 t296 a1).bind fun bt299 => ((laws_toPresence.f k l0_0 l0_1 l0_2).bind fun bt310 => ((impl_LeaveNow.f k bt310.1 bt310.2.1 bt310.2.2 a1).bind fun bt320 => ((laws_eqPresence.f k bt320.1 bt320.2.1 bt320.2.2.1 bt299.1 bt299.2.1 bt299.2.2.1).bind fun t331 => (if t331 = true then (laws_FnExactLeaveNow.j0 k a1 bt299.2.2.2 bt320.2.2.2 (bt320.2.2.2 != bt299.2.2.2) l0_0 l0_1 l0_2 bt299.1 bt299.2.1 bt299.2.2.1 bt310.1 bt310.2.1 bt310.2.2 bt320.1 bt320.2.1 bt320.2.2.1) else (laws_FnExactLeaveNow.j0 k a1 bt299.2.2.2 bt320.2.2.2 true l0_0 l0_1 l0_2 bt299.1 bt299.2.1 bt299.2.2.1 bt310.1 bt310.2.1 bt310.2.2 bt320.1 bt320.2.1 bt320.2.2.1)))))) = some r := H
 have A8 := Aside0.mk A80
 clear A80
 replace H := Option.bind_eq_some_iff.mp H
 obtain ⟨⟨t299, t302, t305, t308⟩, A90, H⟩ := H
 replace H : ((laws_toPresence.f k l0_0 l0_1 l0_2).bind fun bt310 => ((impl_LeaveNow.f k bt310.1 bt310.2.1 bt310.2.2 a1).bind fun bt320 => ((laws_eqPresence.f k bt320.1 bt320.2.1 bt320.2.2.1 t299 t302 t305).bind fun t331 => (if t331 = true then (laws_FnExactLeaveNow.j0 k a1 t308 bt320.2.2.2 (bt320.2.2.2 != t308) l0_0 l0_1 l0_2 t299 t302 t305 bt310.1 bt310.2.1 bt310.2.2 bt320.1 bt320.2.1 bt320.2.2.1) else (laws_FnExactLeaveNow.j0 k a1 t308 bt320.2.2.2 true l0_0 l0_1 l0_2 t299 t302 t305 bt310.1 bt310.2.1 bt310.2.2 bt320.1 bt320.2.1 bt320.2.2.1))))) = some r := H
 have A9 := Aside0.mk A90
 clear A90
 replace H := Option.bind_eq_some_iff.mp H
 obtain ⟨⟨t310, t313, t316⟩, A100, H⟩ := H
 replace H : ((impl_LeaveNow.f k t310 t313 t316 a1).bind fun bt320 => ((laws_eqPresence.f k bt320.1 bt320.2.1 bt320.2.2.1 t299 t302 t305).bind fun t331 => (if t331 = true then (laws_FnExactLeaveNow.j0 k a1 t308 bt320.2.2.2 (bt320.2.2.2 != t308) l0_0 l0_1 l0_2 t299 t302 t305 t310 t313 t316 bt320.1 bt320.2.1 bt320.2.2.1) else (laws_FnExactLeaveNow.j0 k a1 t308 bt320.2.2.2 true l0_0 l0_1 l0_2 t299 t302 t305 t310 t313 t316 bt320.1 bt320.2.1 bt320.2.2.1)))) = some r := H
 have A10 := Aside0.mk A100
 clear A100
 replace H := Option.bind_eq_some_iff.mp H
 obtain ⟨⟨t320, t323, t326, t329⟩, A110, H⟩ := H
 replace H : ((laws_eqPresence.f k t320 t323 t326 t299 t302 t305).bind fun t331 => (if t331 = true then (laws_FnExactLeaveNow.j0 k a1 t308 t329 (t329 != t308) l0_0 l0_1 l0_2 t299 t302 t305 t310 t313 t316 t320 t323 t326) else (laws_FnExactLeaveNow.j0 k a1 t308 t329 true l0_0 l0_1 l0_2 t299 t302 t305 t310 t313 t316 t320 t323 t326))) = some r := H
 have A11 := Aside0.mk A110
 clear A110
 have HC12 := Aside0.mk H
 clear H
 go_enter Try.func4, Try.ntmps4
 go_upto_region 8 with (first | ((with_reducible refine gate_dst (N := 2) rfl ?_); refine box_event ?hg (N := 2) ?hd (cs := #[.slice A0_0 l0_0.length c0_0, .slice A0_1 l0_1.length c0_1, .slice A0_2 l0_2.length c0_2]) (t := 45) ?hr ?_; (case hd => rfl); (case hg => rfl); (case hr => first | (go_simp; done) | (go_simp; rfl)); intro gb288 hg w13 hbox hb; have n0_ := Aside0.mk (below_step (y1_ HB.out) hb); have n1_ := Aside0.mk (hbox); have n2_ := Aside0.mk ((by rw [hg]; exact (below_size (y1_ HB.out)) : w.heap.size ≤ gb288)); have n3_ := Aside0.mk ((by rw [hg]; exact (below_size (y1_ HB.out)) : w.heap.size ≤ gb288)); clear HB; have HB := n0_; have BK288 := n1_; have GW288 := n2_; have GE288 := n3_; clear n0_ n1_ n2_ n3_; clear hb hbox hg; have hcz14_0 : w13.cell? ⟨gb288, 0, none⟩ = some (.slice A0_0 l0_0.length c0_0) := (blk_cell BK288.out 0).trans rfl; have hcz14_1 : w13.cell? ⟨gb288, 1, none⟩ = some (.slice A0_1 l0_1.length c0_1) := (blk_cell BK288.out 1).trans rfl; have hcz14_2 : w13.cell? ⟨gb288, 2, none⟩ = some (.slice A0_2 l0_2.length c0_2) := (blk_cell BK288.out 2).trans rfl; have hfz14_0 := blk_frozen BK288.out 0; have hfz14_1 := blk_frozen BK288.out 1; have hfz14_2 := blk_frozen BK288.out 2) | ((with_reducible refine gate_callee (f := 24) rfl ?_); refine goesL_ (some 18) rfl rfl Try.func24 s2_ rfl #[.agg #[.slice A0_0 l0_0.length c0_0, .slice A0_1 l0_1.length c0_1, .slice A0_2 l0_2.length c0_2], .int .i64 1048576] rfl s3_ ?_; (with_reducible refine (laws_szPresence.calls _ _ l0_0 _ _ l0_1 _ _ l0_2 1048576 t289 _ ?side1 ?side2 ?side3 ?side4 ?side5 ?side6 A3.out).mono ?_); (case side1 => exact y2_ (Kd.C_below HR0_0.out HB.out)); (case side2 => exact HC0_0.out); (case side3 => exact y2_ (Kd.C_below HR0_1.out HB.out)); (case side4 => exact HC0_1.out); (case side5 => exact y2_ (Kd.C_below HR0_2.out HB.out)); (case side6 => exact HC0_2.out); rintro e w15 ⟨rfl, hb⟩; refine ⟨_, rfl, ?_⟩; have n0_ := Aside0.mk (blk_below (g := gb288) (o := .cells #[.slice A0_0 l0_0.length c0_0, .slice A0_1 l0_1.length c0_1, .slice A0_2 l0_2.length c0_2] 45 (0, 0)) (b1_ BK288.out) hb); have n1_ := Aside0.mk (below_step (y1_ HB.out) hb); clear BK288; clear HB; have BK288 := n0_; have HB := n1_; clear n0_ n1_; (try clear hb); (try clear hb2); (try clear hk); (try clear hi); have hcz16_0 : w15.cell? ⟨gb288, 0, none⟩ = some (.slice A0_0 l0_0.length c0_0) := (blk_cell BK288.out 0).trans rfl; have hcz16_1 : w15.cell? ⟨gb288, 1, none⟩ = some (.slice A0_1 l0_1.length c0_1) := (blk_cell BK288.out 1).trans rfl; have hcz16_2 : w15.cell? ⟨gb288, 2, none⟩ = some (.slice A0_2 l0_2.length c0_2) := (blk_cell BK288.out 2).trans rfl; have hfz16_0 := blk_frozen BK288.out 0; have hfz16_1 := blk_frozen BK288.out 1; have hfz16_2 := blk_frozen BK288.out 2) | ((with_reducible refine gate_callee (f := 26) rfl ?_); refine goesL_ (some 23) rfl rfl Try.func26 s2_ rfl #[.agg #[.slice A0_0 l0_0.length c0_0, .slice A0_1 l0_1.length c0_1, .slice A0_2 l0_2.length c0_2]] rfl s3_ ?_; (with_reducible refine (laws_toPresence.calls k _ _ l0_0 _ _ l0_1 _ _ l0_2 t290 t293 t296 _ ?side1 ?side2 ?side3 ?side4 ?side5 ?side6 A8.out).mono ?_); (case side1 => exact y2_ (Kd.C_below HR0_0.out HB.out)); (case side2 => exact HC0_0.out); (case side3 => exact y2_ (Kd.C_below HR0_1.out HB.out)); (case side4 => exact HC0_1.out); (case side5 => exact y2_ (Kd.C_below HR0_2.out HB.out)); (case side6 => exact HC0_2.out); rintro e w17 ⟨v291, v294, v297, rfl, ho0, ho1, ho2, hb⟩; refine ⟨_, rfl, ?_⟩; have n0_ := Aside0.mk (Kd.R_lower ho0 (below_size (y1_ HB.out))); have n1_ := Aside0.mk (Kd.R_lower ho1 (below_size (y1_ HB.out))); have n2_ := Aside0.mk (Kd.R_lower ho2 (below_size (y1_ HB.out))); have n3_ := Aside0.mk (blk_below (g := gb288) (o := .cells #[.slice A0_0 l0_0.length c0_0, .slice A0_1 l0_1.length c0_1, .slice A0_2 l0_2.length c0_2] 45 (0, 0)) (b1_ BK288.out) hb); have n4_ := Aside0.mk (below_step (y1_ HB.out) hb); clear BK288; clear HB; have HO292 := n0_; have HO295 := n1_; have HO298 := n2_; have BK288 := n3_; have HB := n4_; clear n0_ n1_ n2_ n3_ n4_; (try clear hb); (try clear hb2); (try clear hk); (try clear hi); (try clear ho0); (try clear ho1); (try clear ho2); obtain ⟨Ao18, co18, eo18⟩ := Kd.R_slice HO292.out; subst eo18; obtain ⟨Ao19, co19, eo19⟩ := Kd.R_slice HO295.out; subst eo19; obtain ⟨Ao20, co20, eo20⟩ := Kd.R_slice HO298.out; subst eo20) | ((with_reducible refine gate_callee (f := 25) rfl ?_); refine goesL_ (some 25) rfl rfl Try.func25 s2_ rfl #[.agg #[.slice Ao18 t290.length co18, .slice Ao19 t293.length co19, .slice Ao20 t296.length co20], .int .i64 a1] rfl s3_ ?_; (with_reducible refine (spec_LeaveNow.calls k _ _ t290 _ _ t293 _ _ t296 a1 t299 t302 t305 t308 _ ?side1 ?side2 ?side3 ?side4 ?side5 ?side6 A9.out).mono ?_); (case side1 => exact y2_ (Kd.R_reads' HO292.out).2.2); (case side2 => exact (Kd.R_reads' HO292.out).2.1); (case side3 => exact y2_ (Kd.R_reads' HO295.out).2.2); (case side4 => exact (Kd.R_reads' HO295.out).2.1); (case side5 => exact y2_ (Kd.R_reads' HO298.out).2.2); (case side6 => exact (Kd.R_reads' HO298.out).2.1); rintro e w21 ⟨v300, v303, v306, rfl, ho0, ho1, ho2, hb⟩; refine ⟨_, rfl, ?_⟩; have n0_ := Aside0.mk (Kd.R_mono (Kd.R_told (Kd.R_told (Kd.R_old (b2_ HO292.out) hb) (Kd.R_base ho0)) (Kd.R_base ho1)) (fun _ h_ => h_.1)); have n1_ := Aside0.mk (Kd.R_mono (Kd.R_told (Kd.R_told (Kd.R_old (b2_ HO295.out) hb) (Kd.R_base ho0)) (Kd.R_base ho1)) (fun _ h_ => h_.1)); have n2_ := Aside0.mk (Kd.R_elder' (b2_ HO298.out) (Kd.R_base ho2) hb); have n3_ := Aside0.mk (Kd.R_lower (Kd.R_new' (Kd.R_new' ho0 (Kd.R_lt (b2_ HO292.out))) (Kd.R_lt (b2_ HO295.out))) (below_size (y1_ HB.out))); have n4_ := Aside0.mk (Kd.R_lower (Kd.R_new' (Kd.R_new' ho1 (Kd.R_lt (b2_ HO292.out))) (Kd.R_lt (b2_ HO295.out))) (below_size (y1_ HB.out))); have n5_ := Aside0.mk (Kd.R_lower (Kd.R_new' ho2 (Kd.R_lt (b2_ HO298.out))) (below_size (y1_ HB.out))); have n6_ := Aside0.mk (blk_below (g := gb288) (o := .cells #[.slice A0_0 l0_0.length c0_0, .slice A0_1 l0_1.length c0_1, .slice A0_2 l0_2.length c0_2] 45 (0, 0)) (b1_ BK288.out) hb); have n7_ := Aside0.mk (below_step (y1_ HB.out) hb); clear HO292; clear HO295; clear HO298; clear BK288; clear HB; have HO292 := n0_; have HO295 := n1_; have HO298 := n2_; have HO301 := n3_; have HO304 := n4_; have HO307 := n5_; have BK288 := n6_; have HB := n7_; clear n0_ n1_ n2_ n3_ n4_ n5_ n6_ n7_; (try clear hb); (try clear hb2); (try clear hk); (try clear hi); (try clear ho0); (try clear ho1); (try clear ho2)) | ((with_reducible refine gate_dst (N := 6) rfl ?_); refine box_event ?hg (N := 6) ?hd (cs := #[.slice none 0 0, .slice none 0 0, .slice none 0 0]) (t := 27) ?hr ?_; (case hd => rfl); (case hg => rfl); (case hr => first | (go_simp; done) | (go_simp; rfl)); intro gb309 hg w22 hbox hb; have n0_ := Aside0.mk (Kd.R_below (b2_ HO292.out) hb); have n1_ := Aside0.mk (Kd.R_below (b2_ HO295.out) hb); have n2_ := Aside0.mk (Kd.R_below (b2_ HO298.out) hb); have n3_ := Aside0.mk (Kd.R_below (b2_ HO301.out) hb); have n4_ := Aside0.mk (Kd.R_below (b2_ HO304.out) hb); have n5_ := Aside0.mk (Kd.R_below (b2_ HO307.out) hb); have n6_ := Aside0.mk (blk_below (g := gb288) (o := .cells #[.slice A0_0 l0_0.length c0_0, .slice A0_1 l0_1.length c0_1, .slice A0_2 l0_2.length c0_2] 45 (0, 0)) (b1_ BK288.out) hb); have n7_ := Aside0.mk (below_step (y1_ HB.out) hb); have n8_ := Aside0.mk (hbox); have n9_ := Aside0.mk ((by rw [hg]; exact (below_size (y1_ HB.out)) : w.heap.size ≤ gb309)); have n10_ := Aside0.mk ((by rw [hg]; exact (below_size (y1_ HB.out)) : w.heap.size ≤ gb309)); have n11_ := Aside0.mk ((by rw [hg]; exact Nat.ne_of_lt (blk_lt (g := gb288) (o := .cells #[.slice A0_0 l0_0.length c0_0, .slice A0_1 l0_1.length c0_1, .slice A0_2 l0_2.length c0_2] 45 (0, 0)) (b1_ BK288.out)) : gb288 ≠ gb309)); have n12_ := Aside0.mk ((by rw [hg]; exact Nat.ne_of_gt (blk_lt (g := gb288) (o := .cells #[.slice A0_0 l0_0.length c0_0, .slice A0_1 l0_1.length c0_1, .slice A0_2 l0_2.length c0_2] 45 (0, 0)) (b1_ BK288.out)) : gb309 ≠ gb288)); clear HO292; clear HO295; clear HO298; clear HO301; clear HO304; clear HO307; clear BK288; clear HB; have HO292 := n0_; have HO295 := n1_; have HO298 := n2_; have HO301 := n3_; have HO304 := n4_; have HO307 := n5_; have BK288 := n6_; have HB := n7_; have BK309 := n8_; have GW309 := n9_; have GE309 := n10_; have NB288_309 := n11_; have NB309_288 := n12_; clear n0_ n1_ n2_ n3_ n4_ n5_ n6_ n7_ n8_ n9_ n10_ n11_ n12_; clear hb hbox hg; obtain ⟨Ao23, co23, eo23⟩ := Kd.R_slice HO301.out; subst eo23; have hnb24 := NB309_288.out; have hnc24 := NB288_309.out; have hcz25_0 : w22.cell? ⟨gb309, 0, none⟩ = some (.slice none 0 0) := (blk_cell BK309.out 0).trans rfl; have hcz25_1 : w22.cell? ⟨gb309, 1, none⟩ = some (.slice none 0 0) := (blk_cell BK309.out 1).trans rfl; have hcz25_2 : w22.cell? ⟨gb309, 2, none⟩ = some (.slice none 0 0) := (blk_cell BK309.out 2).trans rfl; have hfz25_0 := blk_frozen BK309.out 0; have hfz25_1 := blk_frozen BK309.out 1; have hfz25_2 := blk_frozen BK309.out 2; obtain ⟨Ao26, co26, eo26⟩ := Kd.R_slice HO304.out; subst eo26; obtain ⟨Ao27, co27, eo27⟩ := Kd.R_slice HO307.out; subst eo27; have hcz28_0 : w22.cell? ⟨gb288, 0, none⟩ = some (.slice A0_0 l0_0.length c0_0) := (blk_cell BK288.out 0).trans rfl; have hcz28_1 : w22.cell? ⟨gb288, 1, none⟩ = some (.slice A0_1 l0_1.length c0_1) := (blk_cell BK288.out 1).trans rfl; have hcz28_2 : w22.cell? ⟨gb288, 2, none⟩ = some (.slice A0_2 l0_2.length c0_2) := (blk_cell BK288.out 2).trans rfl; have hfz28_0 := blk_frozen BK288.out 0; have hfz28_1 := blk_frozen BK288.out 1; have hfz28_2 := blk_frozen BK288.out 2) | ((with_reducible refine gate_callee (f := 26) rfl ?_); refine goesL_ (some 29) rfl rfl Try.func26 s2_ rfl #[.agg #[.slice A0_0 l0_0.length c0_0, .slice A0_1 l0_1.length c0_1, .slice A0_2 l0_2.length c0_2]] rfl s3_ ?_; (with_reducible refine (laws_toPresence.calls k _ _ l0_0 _ _ l0_1 _ _ l0_2 t310 t313 t316 _ ?side1 ?side2 ?side3 ?side4 ?side5 ?side6 A10.out).mono ?_); (case side1 => exact Kd.C_below HR0_0.out (by repeat (first | (with_reducible first | exact HB.out | apply below_alloc | apply pw_below_drewN | apply below_drew1 | refine below_set ?_ GE309.out) | exact HB.out))); (case side2 => exact HC0_0.out); (case side3 => exact Kd.C_below HR0_1.out (by repeat (first | (with_reducible first | exact HB.out | apply below_alloc | apply pw_below_drewN | apply below_drew1 | refine below_set ?_ GE309.out) | exact HB.out))); (case side4 => exact HC0_1.out); (case side5 => exact Kd.C_below HR0_2.out (by repeat (first | (with_reducible first | exact HB.out | apply below_alloc | apply pw_below_drewN | apply below_drew1 | refine below_set ?_ GE309.out) | exact HB.out))); (case side6 => exact HC0_2.out); rintro e w29 ⟨v311, v314, v317, rfl, ho0, ho1, ho2, hb⟩; refine ⟨_, rfl, ?_⟩; have n0_ := Aside0.mk (Kd.R_mono (Kd.R_told (Kd.R_told (Kd.R_old (by (with_reducible repeat (first | apply Kd.R_alloc | apply Kd.R_drewN | apply Kd.R_drew)); exact (Kd.R_mono (Kd.R_far3 (g := gb309) (Kd.R_types HO292.out BK309.out (by decide)) (fun _ hk => hk.2)) (fun _ h_ => h_.1))) hb) (Kd.R_base ho0)) (Kd.R_base ho1)) (fun _ h_ => h_.1)); have n1_ := Aside0.mk (Kd.R_mono (Kd.R_told (Kd.R_told (Kd.R_old (by (with_reducible repeat (first | apply Kd.R_alloc | apply Kd.R_drewN | apply Kd.R_drew)); exact (Kd.R_mono (Kd.R_far3 (g := gb309) (Kd.R_types HO295.out BK309.out (by decide)) (fun _ hk => hk.2)) (fun _ h_ => h_.1))) hb) (Kd.R_base ho0)) (Kd.R_base ho1)) (fun _ h_ => h_.1)); have n2_ := Aside0.mk (Kd.R_elder' (by (with_reducible repeat (first | apply Kd.R_alloc | apply Kd.R_drewN | apply Kd.R_drew)); exact (Kd.R_mono (Kd.R_far3 (g := gb309) (Kd.R_types HO298.out BK309.out (by decide)) (fun _ hk => hk.2)) (fun _ h_ => h_.1))) (Kd.R_base ho2) hb); have n3_ := Aside0.mk (Kd.R_mono (Kd.R_told (Kd.R_told (Kd.R_old (by (with_reducible repeat (first | apply Kd.R_alloc | apply Kd.R_drewN | apply Kd.R_drew)); exact (Kd.R_mono (Kd.R_far3 (g := gb309) (Kd.R_types HO301.out BK309.out (by decide)) (fun _ hk => hk.2)) (fun _ h_ => h_.1))) hb) (Kd.R_base ho0)) (Kd.R_base ho1)) (fun _ h_ => h_.1)); have n4_ := Aside0.mk (Kd.R_mono (Kd.R_told (Kd.R_told (Kd.R_old (by (with_reducible repeat (first | apply Kd.R_alloc | apply Kd.R_drewN | apply Kd.R_drew)); exact (Kd.R_mono (Kd.R_far3 (g := gb309) (Kd.R_types HO304.out BK309.out (by decide)) (fun _ hk => hk.2)) (fun _ h_ => h_.1))) hb) (Kd.R_base ho0)) (Kd.R_base ho1)) (fun _ h_ => h_.1)); have n5_ := Aside0.mk (Kd.R_elder' (by (with_reducible repeat (first | apply Kd.R_alloc | apply Kd.R_drewN | apply Kd.R_drew)); exact (Kd.R_mono (Kd.R_far3 (g := gb309) (Kd.R_types HO307.out BK309.out (by decide)) (fun _ hk => hk.2)) (fun _ h_ => h_.1))) (Kd.R_base ho2) hb); have n6_ := Aside0.mk (Kd.R_lower (Kd.R_new' (Kd.R_new' (Kd.R_new' (Kd.R_new' ho0 (Kd.R_lt (by (with_reducible repeat (first | apply Kd.R_alloc | apply Kd.R_drewN | apply Kd.R_drew)); exact (Kd.R_mono (Kd.R_far3 (g := gb309) (Kd.R_types HO292.out BK309.out (by decide)) (fun _ hk => hk.2)) (fun _ h_ => h_.1))))) (Kd.R_lt (by (with_reducible repeat (first | apply Kd.R_alloc | apply Kd.R_drewN | apply Kd.R_drew)); exact (Kd.R_mono (Kd.R_far3 (g := gb309) (Kd.R_types HO295.out BK309.out (by decide)) (fun _ hk => hk.2)) (fun _ h_ => h_.1))))) (Kd.R_lt (by (with_reducible repeat (first | apply Kd.R_alloc | apply Kd.R_drewN | apply Kd.R_drew)); exact (Kd.R_mono (Kd.R_far3 (g := gb309) (Kd.R_types HO301.out BK309.out (by decide)) (fun _ hk => hk.2)) (fun _ h_ => h_.1))))) (Kd.R_lt (by (with_reducible repeat (first | apply Kd.R_alloc | apply Kd.R_drewN | apply Kd.R_drew)); exact (Kd.R_mono (Kd.R_far3 (g := gb309) (Kd.R_types HO304.out BK309.out (by decide)) (fun _ hk => hk.2)) (fun _ h_ => h_.1))))) (below_size (by repeat (first | (with_reducible first | exact HB.out | apply below_alloc | apply pw_below_drewN | apply below_drew1 | refine below_set ?_ GE309.out) | exact HB.out)))); have n7_ := Aside0.mk (Kd.R_lower (Kd.R_new' (Kd.R_new' (Kd.R_new' (Kd.R_new' ho1 (Kd.R_lt (by (with_reducible repeat (first | apply Kd.R_alloc | apply Kd.R_drewN | apply Kd.R_drew)); exact (Kd.R_mono (Kd.R_far3 (g := gb309) (Kd.R_types HO292.out BK309.out (by decide)) (fun _ hk => hk.2)) (fun _ h_ => h_.1))))) (Kd.R_lt (by (with_reducible repeat (first | apply Kd.R_alloc | apply Kd.R_drewN | apply Kd.R_drew)); exact (Kd.R_mono (Kd.R_far3 (g := gb309) (Kd.R_types HO295.out BK309.out (by decide)) (fun _ hk => hk.2)) (fun _ h_ => h_.1))))) (Kd.R_lt (by (with_reducible repeat (first | apply Kd.R_alloc | apply Kd.R_drewN | apply Kd.R_drew)); exact (Kd.R_mono (Kd.R_far3 (g := gb309) (Kd.R_types HO301.out BK309.out (by decide)) (fun _ hk => hk.2)) (fun _ h_ => h_.1))))) (Kd.R_lt (by (with_reducible repeat (first | apply Kd.R_alloc | apply Kd.R_drewN | apply Kd.R_drew)); exact (Kd.R_mono (Kd.R_far3 (g := gb309) (Kd.R_types HO304.out BK309.out (by decide)) (fun _ hk => hk.2)) (fun _ h_ => h_.1))))) (below_size (by repeat (first | (with_reducible first | exact HB.out | apply below_alloc | apply pw_below_drewN | apply below_drew1 | refine below_set ?_ GE309.out) | exact HB.out)))); have n8_ := Aside0.mk (Kd.R_lower (Kd.R_new' (Kd.R_new' ho2 (Kd.R_lt (by (with_reducible repeat (first | apply Kd.R_alloc | apply Kd.R_drewN | apply Kd.R_drew)); exact (Kd.R_mono (Kd.R_far3 (g := gb309) (Kd.R_types HO298.out BK309.out (by decide)) (fun _ hk => hk.2)) (fun _ h_ => h_.1))))) (Kd.R_lt (by (with_reducible repeat (first | apply Kd.R_alloc | apply Kd.R_drewN | apply Kd.R_drew)); exact (Kd.R_mono (Kd.R_far3 (g := gb309) (Kd.R_types HO307.out BK309.out (by decide)) (fun _ hk => hk.2)) (fun _ h_ => h_.1))))) (below_size (by repeat (first | (with_reducible first | exact HB.out | apply below_alloc | apply pw_below_drewN | apply below_drew1 | refine below_set ?_ GE309.out) | exact HB.out)))); have n9_ := Aside0.mk (blk_below (g := gb288) (o := .cells #[.slice A0_0 l0_0.length c0_0, .slice A0_1 l0_1.length c0_1, .slice A0_2 l0_2.length c0_2] 45 (0, 0)) (by (with_reducible repeat (first | refine blk_drewN ?_ _ | refine blk_drew ?_ | refine blk_alloc ?_ _)); refine blk_far3 ?_ NB288_309.out; (with_reducible repeat (first | refine blk_drewN ?_ _ | refine blk_drew ?_ | refine blk_alloc ?_ _)); exact BK288.out) hb); have n10_ := Aside0.mk (blk_below (g := gb309) (o := .cells #[.slice Ao23 t299.length co23, .slice Ao26 t302.length co26, .slice Ao27 t305.length co27] 27 (0, 0)) (by (with_reducible repeat (first | refine blk_drewN ?_ _ | refine blk_drew ?_ | refine blk_alloc ?_ _)); refine blk_put3 (cs := #[.slice none 0 0, .slice none 0 0, .slice none 0 0]) ?_ rfl; (with_reducible repeat (first | refine blk_drewN ?_ _ | refine blk_drew ?_ | refine blk_alloc ?_ _)); exact BK309.out) hb); have n11_ := Aside0.mk (below_step (by repeat (first | (with_reducible first | exact HB.out | apply below_alloc | apply pw_below_drewN | apply below_drew1 | refine below_set ?_ GE309.out) | exact HB.out)) hb); clear HO292; clear HO295; clear HO298; clear HO301; clear HO304; clear HO307; clear BK288; clear BK309; clear HB; have HO292 := n0_; have HO295 := n1_; have HO298 := n2_; have HO301 := n3_; have HO304 := n4_; have HO307 := n5_; have HO312 := n6_; have HO315 := n7_; have HO318 := n8_; have BK288 := n9_; have BK309 := n10_; have HB := n11_; clear n0_ n1_ n2_ n3_ n4_ n5_ n6_ n7_ n8_ n9_ n10_ n11_; (try clear hb); (try clear hb2); (try clear hk); (try clear hi); (try clear ho0); (try clear ho1); (try clear ho2)) | ((with_reducible refine gate_dst (N := 8) rfl ?_); refine box_event ?hg (N := 8) ?hd (cs := #[.slice none 0 0, .slice none 0 0, .slice none 0 0]) (t := 27) ?hr ?_; (case hd => rfl); (case hg => rfl); (case hr => first | (go_simp; done) | (go_simp; rfl)); intro gb319 hg w30 hbox hb; have n0_ := Aside0.mk (Kd.R_below (b2_ HO292.out) hb); have n1_ := Aside0.mk (Kd.R_below (b2_ HO295.out) hb); have n2_ := Aside0.mk (Kd.R_below (b2_ HO298.out) hb); have n3_ := Aside0.mk (Kd.R_below (b2_ HO301.out) hb); have n4_ := Aside0.mk (Kd.R_below (b2_ HO304.out) hb); have n5_ := Aside0.mk (Kd.R_below (b2_ HO307.out) hb); have n6_ := Aside0.mk (Kd.R_below (b2_ HO312.out) hb); have n7_ := Aside0.mk (Kd.R_below (b2_ HO315.out) hb); have n8_ := Aside0.mk (Kd.R_below (b2_ HO318.out) hb); have n9_ := Aside0.mk (blk_below (g := gb288) (o := .cells #[.slice A0_0 l0_0.length c0_0, .slice A0_1 l0_1.length c0_1, .slice A0_2 l0_2.length c0_2] 45 (0, 0)) (b1_ BK288.out) hb); have n10_ := Aside0.mk (blk_below (g := gb309) (o := .cells #[.slice Ao23 t299.length co23, .slice Ao26 t302.length co26, .slice Ao27 t305.length co27] 27 (0, 0)) (b1_ BK309.out) hb); have n11_ := Aside0.mk (below_step (y1_ HB.out) hb); have n12_ := Aside0.mk (hbox); have n13_ := Aside0.mk ((by rw [hg]; exact (below_size (y1_ HB.out)) : w.heap.size ≤ gb319)); have n14_ := Aside0.mk ((by rw [hg]; exact (below_size (y1_ HB.out)) : w.heap.size ≤ gb319)); have n15_ := Aside0.mk ((by rw [hg]; exact Nat.ne_of_lt (blk_lt (g := gb288) (o := .cells #[.slice A0_0 l0_0.length c0_0, .slice A0_1 l0_1.length c0_1, .slice A0_2 l0_2.length c0_2] 45 (0, 0)) (b1_ BK288.out)) : gb288 ≠ gb319)); have n16_ := Aside0.mk ((by rw [hg]; exact Nat.ne_of_gt (blk_lt (g := gb288) (o := .cells #[.slice A0_0 l0_0.length c0_0, .slice A0_1 l0_1.length c0_1, .slice A0_2 l0_2.length c0_2] 45 (0, 0)) (b1_ BK288.out)) : gb319 ≠ gb288)); have n17_ := Aside0.mk ((by rw [hg]; exact Nat.ne_of_lt (blk_lt (g := gb309) (o := .cells #[.slice Ao23 t299.length co23, .slice Ao26 t302.length co26, .slice Ao27 t305.length co27] 27 (0, 0)) (b1_ BK309.out)) : gb309 ≠ gb319)); have n18_ := Aside0.mk ((by rw [hg]; exact Nat.ne_of_gt (blk_lt (g := gb309) (o := .cells #[.slice Ao23 t299.length co23, .slice Ao26 t302.length co26, .slice Ao27 t305.length co27] 27 (0, 0)) (b1_ BK309.out)) : gb319 ≠ gb309)); clear HO292; clear HO295; clear HO298; clear HO301; clear HO304; clear HO307; clear HO312; clear HO315; clear HO318; clear BK288; clear BK309; clear HB; have HO292 := n0_; have HO295 := n1_; have HO298 := n2_; have HO301 := n3_; have HO304 := n4_; have HO307 := n5_; have HO312 := n6_; have HO315 := n7_; have HO318 := n8_; have BK288 := n9_; have BK309 := n10_; have HB := n11_; have BK319 := n12_; have GW319 := n13_; have GE319 := n14_; have NB288_319 := n15_; have NB319_288 := n16_; have NB309_319 := n17_; have NB319_309 := n18_; clear n0_ n1_ n2_ n3_ n4_ n5_ n6_ n7_ n8_ n9_ n10_ n11_ n12_ n13_ n14_ n15_ n16_ n17_ n18_; clear hb hbox hg; obtain ⟨Ao31, co31, eo31⟩ := Kd.R_slice HO312.out; subst eo31; have hnb32 := NB319_288.out; have hnc32 := NB288_319.out; have hnb33 := NB319_309.out; have hnc33 := NB309_319.out; have hcz34_0 : w30.cell? ⟨gb319, 0, none⟩ = some (.slice none 0 0) := (blk_cell BK319.out 0).trans rfl; have hcz34_1 : w30.cell? ⟨gb319, 1, none⟩ = some (.slice none 0 0) := (blk_cell BK319.out 1).trans rfl; have hcz34_2 : w30.cell? ⟨gb319, 2, none⟩ = some (.slice none 0 0) := (blk_cell BK319.out 2).trans rfl; have hfz34_0 := blk_frozen BK319.out 0; have hfz34_1 := blk_frozen BK319.out 1; have hfz34_2 := blk_frozen BK319.out 2; obtain ⟨Ao35, co35, eo35⟩ := Kd.R_slice HO315.out; subst eo35; obtain ⟨Ao36, co36, eo36⟩ := Kd.R_slice HO318.out; subst eo36) | ((with_reducible refine gate_callee (f := 18) rfl ?_); refine goesL_ (some 33) rfl rfl Try.func18 s2_ rfl #[.agg #[.slice Ao31 t310.length co31, .slice Ao35 t313.length co35, .slice Ao36 t316.length co36], .int .i64 a1] rfl s3_ ?_; (with_reducible refine (impl_LeaveNow.calls k _ _ t310 _ _ t313 _ _ t316 a1 t320 t323 t326 t329 _ ?side1 ?side2 ?side3 ?side4 ?side5 ?side6 A11.out).mono ?_); (case side1 => refine (Kd.R_reads' (e := 63) (base := w.heap.size) (ok := fun k_ => ((((some k_ ≠ (.slice Ao35 t313.length co35 : Value).ownBlock ∧ some k_ ≠ (.slice Ao18 t290.length co18 : Value).ownBlock) ∧ some k_ ≠ (.slice Ao19 t293.length co19 : Value).ownBlock) ∧ some k_ ≠ (.slice Ao23 t299.length co23 : Value).ownBlock) ∧ some k_ ≠ (.slice Ao26 t302.length co26 : Value).ownBlock)) (n := t310.length) (c := co31) ?_).2.2; exact (by (with_reducible repeat (first | apply Kd.R_alloc | apply Kd.R_drewN | apply Kd.R_drew)); exact (Kd.R_mono (Kd.R_far3 (g := gb319) (Kd.R_types HO312.out BK319.out (by decide)) (fun _ hk => hk.2)) (fun _ h_ => h_.1)))); (case side2 => exact (Kd.R_reads' HO312.out).2.1); (case side3 => refine (Kd.R_reads' (e := 63) (base := w.heap.size) (ok := fun k_ => ((((some k_ ≠ (.slice Ao31 t310.length co31 : Value).ownBlock ∧ some k_ ≠ (.slice Ao18 t290.length co18 : Value).ownBlock) ∧ some k_ ≠ (.slice Ao19 t293.length co19 : Value).ownBlock) ∧ some k_ ≠ (.slice Ao23 t299.length co23 : Value).ownBlock) ∧ some k_ ≠ (.slice Ao26 t302.length co26 : Value).ownBlock)) (n := t313.length) (c := co35) ?_).2.2; exact (by (with_reducible repeat (first | apply Kd.R_alloc | apply Kd.R_drewN | apply Kd.R_drew)); exact (Kd.R_mono (Kd.R_far3 (g := gb319) (Kd.R_types HO315.out BK319.out (by decide)) (fun _ hk => hk.2)) (fun _ h_ => h_.1)))); (case side4 => exact (Kd.R_reads' HO315.out).2.1); (case side5 => refine (Kd.R_reads' (e := 73) (base := w.heap.size) (ok := fun k_ => ((True ∧ some k_ ≠ (.slice Ao20 t296.length co20 : Value).ownBlock) ∧ some k_ ≠ (.slice Ao27 t305.length co27 : Value).ownBlock)) (n := t316.length) (c := co36) ?_).2.2; exact (by (with_reducible repeat (first | apply Kd.R_alloc | apply Kd.R_drewN | apply Kd.R_drew)); exact (Kd.R_mono (Kd.R_far3 (g := gb319) (Kd.R_types HO318.out BK319.out (by decide)) (fun _ hk => hk.2)) (fun _ h_ => h_.1)))); (case side6 => exact (Kd.R_reads' HO318.out).2.1); rintro e w37 ⟨v321, v324, v327, rfl, ho0, ho1, ho2, hb⟩; refine ⟨_, rfl, ?_⟩; have n0_ := Aside0.mk (Kd.R_mono (Kd.R_told (Kd.R_told (Kd.R_old (by (with_reducible repeat (first | apply Kd.R_alloc | apply Kd.R_drewN | apply Kd.R_drew)); exact (Kd.R_mono (Kd.R_far3 (g := gb319) (Kd.R_types HO292.out BK319.out (by decide)) (fun _ hk => hk.2)) (fun _ h_ => h_.1))) hb) (Kd.R_base ho0)) (Kd.R_base ho1)) (fun _ h_ => h_.1)); have n1_ := Aside0.mk (Kd.R_mono (Kd.R_told (Kd.R_told (Kd.R_old (by (with_reducible repeat (first | apply Kd.R_alloc | apply Kd.R_drewN | apply Kd.R_drew)); exact (Kd.R_mono (Kd.R_far3 (g := gb319) (Kd.R_types HO295.out BK319.out (by decide)) (fun _ hk => hk.2)) (fun _ h_ => h_.1))) hb) (Kd.R_base ho0)) (Kd.R_base ho1)) (fun _ h_ => h_.1)); have n2_ := Aside0.mk (Kd.R_elder' (by (with_reducible repeat (first | apply Kd.R_alloc | apply Kd.R_drewN | apply Kd.R_drew)); exact (Kd.R_mono (Kd.R_far3 (g := gb319) (Kd.R_types HO298.out BK319.out (by decide)) (fun _ hk => hk.2)) (fun _ h_ => h_.1))) (Kd.R_base ho2) hb); have n3_ := Aside0.mk (Kd.R_mono (Kd.R_told (Kd.R_told (Kd.R_old (by (with_reducible repeat (first | apply Kd.R_alloc | apply Kd.R_drewN | apply Kd.R_drew)); exact (Kd.R_mono (Kd.R_far3 (g := gb319) (Kd.R_types HO301.out BK319.out (by decide)) (fun _ hk => hk.2)) (fun _ h_ => h_.1))) hb) (Kd.R_base ho0)) (Kd.R_base ho1)) (fun _ h_ => h_.1)); have n4_ := Aside0.mk (Kd.R_mono (Kd.R_told (Kd.R_told (Kd.R_old (by (with_reducible repeat (first | apply Kd.R_alloc | apply Kd.R_drewN | apply Kd.R_drew)); exact (Kd.R_mono (Kd.R_far3 (g := gb319) (Kd.R_types HO304.out BK319.out (by decide)) (fun _ hk => hk.2)) (fun _ h_ => h_.1))) hb) (Kd.R_base ho0)) (Kd.R_base ho1)) (fun _ h_ => h_.1)); have n5_ := Aside0.mk (Kd.R_elder' (by (with_reducible repeat (first | apply Kd.R_alloc | apply Kd.R_drewN | apply Kd.R_drew)); exact (Kd.R_mono (Kd.R_far3 (g := gb319) (Kd.R_types HO307.out BK319.out (by decide)) (fun _ hk => hk.2)) (fun _ h_ => h_.1))) (Kd.R_base ho2) hb); have n6_ := Aside0.mk (Kd.R_mono (Kd.R_told (Kd.R_told (Kd.R_old (by (with_reducible repeat (first | apply Kd.R_alloc | apply Kd.R_drewN | apply Kd.R_drew)); exact (Kd.R_mono (Kd.R_far3 (g := gb319) (Kd.R_types HO312.out BK319.out (by decide)) (fun _ hk => hk.2)) (fun _ h_ => h_.1))) hb) (Kd.R_base ho0)) (Kd.R_base ho1)) (fun _ h_ => h_.1)); have n7_ := Aside0.mk (Kd.R_mono (Kd.R_told (Kd.R_told (Kd.R_old (by (with_reducible repeat (first | apply Kd.R_alloc | apply Kd.R_drewN | apply Kd.R_drew)); exact (Kd.R_mono (Kd.R_far3 (g := gb319) (Kd.R_types HO315.out BK319.out (by decide)) (fun _ hk => hk.2)) (fun _ h_ => h_.1))) hb) (Kd.R_base ho0)) (Kd.R_base ho1)) (fun _ h_ => h_.1)); have n8_ := Aside0.mk (Kd.R_elder' (by (with_reducible repeat (first | apply Kd.R_alloc | apply Kd.R_drewN | apply Kd.R_drew)); exact (Kd.R_mono (Kd.R_far3 (g := gb319) (Kd.R_types HO318.out BK319.out (by decide)) (fun _ hk => hk.2)) (fun _ h_ => h_.1))) (Kd.R_base ho2) hb); have n9_ := Aside0.mk (Kd.R_lower (Kd.R_new' (Kd.R_new' (Kd.R_new' (Kd.R_new' (Kd.R_new' (Kd.R_new' ho0 (Kd.R_lt (by (with_reducible repeat (first | apply Kd.R_alloc | apply Kd.R_drewN | apply Kd.R_drew)); exact (Kd.R_mono (Kd.R_far3 (g := gb319) (Kd.R_types HO292.out BK319.out (by decide)) (fun _ hk => hk.2)) (fun _ h_ => h_.1))))) (Kd.R_lt (by (with_reducible repeat (first | apply Kd.R_alloc | apply Kd.R_drewN | apply Kd.R_drew)); exact (Kd.R_mono (Kd.R_far3 (g := gb319) (Kd.R_types HO295.out BK319.out (by decide)) (fun _ hk => hk.2)) (fun _ h_ => h_.1))))) (Kd.R_lt (by (with_reducible repeat (first | apply Kd.R_alloc | apply Kd.R_drewN | apply Kd.R_drew)); exact (Kd.R_mono (Kd.R_far3 (g := gb319) (Kd.R_types HO301.out BK319.out (by decide)) (fun _ hk => hk.2)) (fun _ h_ => h_.1))))) (Kd.R_lt (by (with_reducible repeat (first | apply Kd.R_alloc | apply Kd.R_drewN | apply Kd.R_drew)); exact (Kd.R_mono (Kd.R_far3 (g := gb319) (Kd.R_types HO304.out BK319.out (by decide)) (fun _ hk => hk.2)) (fun _ h_ => h_.1))))) (Kd.R_lt (by (with_reducible repeat (first | apply Kd.R_alloc | apply Kd.R_drewN | apply Kd.R_drew)); exact (Kd.R_mono (Kd.R_far3 (g := gb319) (Kd.R_types HO312.out BK319.out (by decide)) (fun _ hk => hk.2)) (fun _ h_ => h_.1))))) (Kd.R_lt (by (with_reducible repeat (first | apply Kd.R_alloc | apply Kd.R_drewN | apply Kd.R_drew)); exact (Kd.R_mono (Kd.R_far3 (g := gb319) (Kd.R_types HO315.out BK319.out (by decide)) (fun _ hk => hk.2)) (fun _ h_ => h_.1))))) (below_size (by repeat (first | (with_reducible first | exact HB.out | apply below_alloc | apply pw_below_drewN | apply below_drew1 | refine below_set ?_ GE319.out) | exact HB.out)))); have n10_ := Aside0.mk (Kd.R_lower (Kd.R_new' (Kd.R_new' (Kd.R_new' (Kd.R_new' (Kd.R_new' (Kd.R_new' ho1 (Kd.R_lt (by (with_reducible repeat (first | apply Kd.R_alloc | apply Kd.R_drewN | apply Kd.R_drew)); exact (Kd.R_mono (Kd.R_far3 (g := gb319) (Kd.R_types HO292.out BK319.out (by decide)) (fun _ hk => hk.2)) (fun _ h_ => h_.1))))) (Kd.R_lt (by (with_reducible repeat (first | apply Kd.R_alloc | apply Kd.R_drewN | apply Kd.R_drew)); exact (Kd.R_mono (Kd.R_far3 (g := gb319) (Kd.R_types HO295.out BK319.out (by decide)) (fun _ hk => hk.2)) (fun _ h_ => h_.1))))) (Kd.R_lt (by (with_reducible repeat (first | apply Kd.R_alloc | apply Kd.R_drewN | apply Kd.R_drew)); exact (Kd.R_mono (Kd.R_far3 (g := gb319) (Kd.R_types HO301.out BK319.out (by decide)) (fun _ hk => hk.2)) (fun _ h_ => h_.1))))) (Kd.R_lt (by (with_reducible repeat (first | apply Kd.R_alloc | apply Kd.R_drewN | apply Kd.R_drew)); exact (Kd.R_mono (Kd.R_far3 (g := gb319) (Kd.R_types HO304.out BK319.out (by decide)) (fun _ hk => hk.2)) (fun _ h_ => h_.1))))) (Kd.R_lt (by (with_reducible repeat (first | apply Kd.R_alloc | apply Kd.R_drewN | apply Kd.R_drew)); exact (Kd.R_mono (Kd.R_far3 (g := gb319) (Kd.R_types HO312.out BK319.out (by decide)) (fun _ hk => hk.2)) (fun _ h_ => h_.1))))) (Kd.R_lt (by (with_reducible repeat (first | apply Kd.R_alloc | apply Kd.R_drewN | apply Kd.R_drew)); exact (Kd.R_mono (Kd.R_far3 (g := gb319) (Kd.R_types HO315.out BK319.out (by decide)) (fun _ hk => hk.2)) (fun _ h_ => h_.1))))) (below_size (by repeat (first | (with_reducible first | exact HB.out | apply below_alloc | apply pw_below_drewN | apply below_drew1 | refine below_set ?_ GE319.out) | exact HB.out)))); have n11_ := Aside0.mk (Kd.R_lower (Kd.R_new' (Kd.R_new' (Kd.R_new' ho2 (Kd.R_lt (by (with_reducible repeat (first | apply Kd.R_alloc | apply Kd.R_drewN | apply Kd.R_drew)); exact (Kd.R_mono (Kd.R_far3 (g := gb319) (Kd.R_types HO298.out BK319.out (by decide)) (fun _ hk => hk.2)) (fun _ h_ => h_.1))))) (Kd.R_lt (by (with_reducible repeat (first | apply Kd.R_alloc | apply Kd.R_drewN | apply Kd.R_drew)); exact (Kd.R_mono (Kd.R_far3 (g := gb319) (Kd.R_types HO307.out BK319.out (by decide)) (fun _ hk => hk.2)) (fun _ h_ => h_.1))))) (Kd.R_lt (by (with_reducible repeat (first | apply Kd.R_alloc | apply Kd.R_drewN | apply Kd.R_drew)); exact (Kd.R_mono (Kd.R_far3 (g := gb319) (Kd.R_types HO318.out BK319.out (by decide)) (fun _ hk => hk.2)) (fun _ h_ => h_.1))))) (below_size (by repeat (first | (with_reducible first | exact HB.out | apply below_alloc | apply pw_below_drewN | apply below_drew1 | refine below_set ?_ GE319.out) | exact HB.out)))); have n12_ := Aside0.mk (blk_below (g := gb288) (o := .cells #[.slice A0_0 l0_0.length c0_0, .slice A0_1 l0_1.length c0_1, .slice A0_2 l0_2.length c0_2] 45 (0, 0)) (by (with_reducible repeat (first | refine blk_drewN ?_ _ | refine blk_drew ?_ | refine blk_alloc ?_ _)); refine blk_far3 ?_ NB288_319.out; (with_reducible repeat (first | refine blk_drewN ?_ _ | refine blk_drew ?_ | refine blk_alloc ?_ _)); exact BK288.out) hb); have n13_ := Aside0.mk (blk_below (g := gb309) (o := .cells #[.slice Ao23 t299.length co23, .slice Ao26 t302.length co26, .slice Ao27 t305.length co27] 27 (0, 0)) (by (with_reducible repeat (first | refine blk_drewN ?_ _ | refine blk_drew ?_ | refine blk_alloc ?_ _)); refine blk_far3 ?_ NB309_319.out; (with_reducible repeat (first | refine blk_drewN ?_ _ | refine blk_drew ?_ | refine blk_alloc ?_ _)); exact BK309.out) hb); have n14_ := Aside0.mk (blk_below (g := gb319) (o := .cells #[.slice Ao31 t310.length co31, .slice Ao35 t313.length co35, .slice Ao36 t316.length co36] 27 (0, 0)) (by (with_reducible repeat (first | refine blk_drewN ?_ _ | refine blk_drew ?_ | refine blk_alloc ?_ _)); refine blk_put3 (cs := #[.slice none 0 0, .slice none 0 0, .slice none 0 0]) ?_ rfl; (with_reducible repeat (first | refine blk_drewN ?_ _ | refine blk_drew ?_ | refine blk_alloc ?_ _)); exact BK319.out) hb); have n15_ := Aside0.mk (below_step (by repeat (first | (with_reducible first | exact HB.out | apply below_alloc | apply pw_below_drewN | apply below_drew1 | refine below_set ?_ GE319.out) | exact HB.out)) hb); clear HO292; clear HO295; clear HO298; clear HO301; clear HO304; clear HO307; clear HO312; clear HO315; clear HO318; clear BK288; clear BK309; clear BK319; clear HB; have HO292 := n0_; have HO295 := n1_; have HO298 := n2_; have HO301 := n3_; have HO304 := n4_; have HO307 := n5_; have HO312 := n6_; have HO315 := n7_; have HO318 := n8_; have HO322 := n9_; have HO325 := n10_; have HO328 := n11_; have BK288 := n12_; have BK309 := n13_; have BK319 := n14_; have HB := n15_; clear n0_ n1_ n2_ n3_ n4_ n5_ n6_ n7_ n8_ n9_ n10_ n11_ n12_ n13_ n14_ n15_; (try clear hb); (try clear hb2); (try clear hk); (try clear hi); (try clear ho0); (try clear ho1); (try clear ho2)) | ((with_reducible refine gate_dst (N := 9) rfl ?_); refine box_event ?hg (N := 9) ?hd (cs := #[.slice none 0 0, .slice none 0 0, .slice none 0 0]) (t := 27) ?hr ?_; (case hd => rfl); (case hg => rfl); (case hr => first | (go_simp; done) | (go_simp; rfl)); intro gb330 hg w38 hbox hb; have n0_ := Aside0.mk (Kd.R_below (b2_ HO292.out) hb); have n1_ := Aside0.mk (Kd.R_below (b2_ HO295.out) hb); have n2_ := Aside0.mk (Kd.R_below (b2_ HO298.out) hb); have n3_ := Aside0.mk (Kd.R_below (b2_ HO301.out) hb); have n4_ := Aside0.mk (Kd.R_below (b2_ HO304.out) hb); have n5_ := Aside0.mk (Kd.R_below (b2_ HO307.out) hb); have n6_ := Aside0.mk (Kd.R_below (b2_ HO312.out) hb); have n7_ := Aside0.mk (Kd.R_below (b2_ HO315.out) hb); have n8_ := Aside0.mk (Kd.R_below (b2_ HO318.out) hb); have n9_ := Aside0.mk (Kd.R_below (b2_ HO322.out) hb); have n10_ := Aside0.mk (Kd.R_below (b2_ HO325.out) hb); have n11_ := Aside0.mk (Kd.R_below (b2_ HO328.out) hb); have n12_ := Aside0.mk (blk_below (g := gb288) (o := .cells #[.slice A0_0 l0_0.length c0_0, .slice A0_1 l0_1.length c0_1, .slice A0_2 l0_2.length c0_2] 45 (0, 0)) (b1_ BK288.out) hb); have n13_ := Aside0.mk (blk_below (g := gb309) (o := .cells #[.slice Ao23 t299.length co23, .slice Ao26 t302.length co26, .slice Ao27 t305.length co27] 27 (0, 0)) (b1_ BK309.out) hb); have n14_ := Aside0.mk (blk_below (g := gb319) (o := .cells #[.slice Ao31 t310.length co31, .slice Ao35 t313.length co35, .slice Ao36 t316.length co36] 27 (0, 0)) (b1_ BK319.out) hb); have n15_ := Aside0.mk (below_step (y1_ HB.out) hb); have n16_ := Aside0.mk (hbox); have n17_ := Aside0.mk ((by rw [hg]; exact (below_size (y1_ HB.out)) : w.heap.size ≤ gb330)); have n18_ := Aside0.mk ((by rw [hg]; exact (below_size (y1_ HB.out)) : w.heap.size ≤ gb330)); have n19_ := Aside0.mk ((by rw [hg]; exact Nat.ne_of_lt (blk_lt (g := gb288) (o := .cells #[.slice A0_0 l0_0.length c0_0, .slice A0_1 l0_1.length c0_1, .slice A0_2 l0_2.length c0_2] 45 (0, 0)) (b1_ BK288.out)) : gb288 ≠ gb330)); have n20_ := Aside0.mk ((by rw [hg]; exact Nat.ne_of_gt (blk_lt (g := gb288) (o := .cells #[.slice A0_0 l0_0.length c0_0, .slice A0_1 l0_1.length c0_1, .slice A0_2 l0_2.length c0_2] 45 (0, 0)) (b1_ BK288.out)) : gb330 ≠ gb288)); have n21_ := Aside0.mk ((by rw [hg]; exact Nat.ne_of_lt (blk_lt (g := gb309) (o := .cells #[.slice Ao23 t299.length co23, .slice Ao26 t302.length co26, .slice Ao27 t305.length co27] 27 (0, 0)) (b1_ BK309.out)) : gb309 ≠ gb330)); have n22_ := Aside0.mk ((by rw [hg]; exact Nat.ne_of_gt (blk_lt (g := gb309) (o := .cells #[.slice Ao23 t299.length co23, .slice Ao26 t302.length co26, .slice Ao27 t305.length co27] 27 (0, 0)) (b1_ BK309.out)) : gb330 ≠ gb309)); have n23_ := Aside0.mk ((by rw [hg]; exact Nat.ne_of_lt (blk_lt (g := gb319) (o := .cells #[.slice Ao31 t310.length co31, .slice Ao35 t313.length co35, .slice Ao36 t316.length co36] 27 (0, 0)) (b1_ BK319.out)) : gb319 ≠ gb330)); have n24_ := Aside0.mk ((by rw [hg]; exact Nat.ne_of_gt (blk_lt (g := gb319) (o := .cells #[.slice Ao31 t310.length co31, .slice Ao35 t313.length co35, .slice Ao36 t316.length co36] 27 (0, 0)) (b1_ BK319.out)) : gb330 ≠ gb319)); clear HO292; clear HO295; clear HO298; clear HO301; clear HO304; clear HO307; clear HO312; clear HO315; clear HO318; clear HO322; clear HO325; clear HO328; clear BK288; clear BK309; clear BK319; clear HB; have HO292 := n0_; have HO295 := n1_; have HO298 := n2_; have HO301 := n3_; have HO304 := n4_; have HO307 := n5_; have HO312 := n6_; have HO315 := n7_; have HO318 := n8_; have HO322 := n9_; have HO325 := n10_; have HO328 := n11_; have BK288 := n12_; have BK309 := n13_; have BK319 := n14_; have HB := n15_; have BK330 := n16_; have GW330 := n17_; have GE330 := n18_; have NB288_330 := n19_; have NB330_288 := n20_; have NB309_330 := n21_; have NB330_309 := n22_; have NB319_330 := n23_; have NB330_319 := n24_; clear n0_ n1_ n2_ n3_ n4_ n5_ n6_ n7_ n8_ n9_ n10_ n11_ n12_ n13_ n14_ n15_ n16_ n17_ n18_ n19_ n20_ n21_ n22_ n23_ n24_; clear hb hbox hg; obtain ⟨Ao39, co39, eo39⟩ := Kd.R_slice HO322.out; subst eo39; have hnb40 := NB330_288.out; have hnc40 := NB288_330.out; have hnb41 := NB330_309.out; have hnc41 := NB309_330.out; have hnb42 := NB330_319.out; have hnc42 := NB319_330.out; have hcz43_0 : w38.cell? ⟨gb330, 0, none⟩ = some (.slice none 0 0) := (blk_cell BK330.out 0).trans rfl; have hcz43_1 : w38.cell? ⟨gb330, 1, none⟩ = some (.slice none 0 0) := (blk_cell BK330.out 1).trans rfl; have hcz43_2 : w38.cell? ⟨gb330, 2, none⟩ = some (.slice none 0 0) := (blk_cell BK330.out 2).trans rfl; have hfz43_0 := blk_frozen BK330.out 0; have hfz43_1 := blk_frozen BK330.out 1; have hfz43_2 := blk_frozen BK330.out 2; obtain ⟨Ao44, co44, eo44⟩ := Kd.R_slice HO325.out; subst eo44; obtain ⟨Ao45, co45, eo45⟩ := Kd.R_slice HO328.out; subst eo45))
 (try simp only [Act.put, List.setIfInBounds_toArray, List.set_cons_zero, List.set_cons_succ])
 go_cut [44] (fun v44 wc => ∃ (kq : Nat) (x44_11 : Bool), v44 = .bool x44_11 ∧ Aside0 (laws_FnExactLeaveNow.j0 kq a1 t308 t329 x44_11 l0_0 l0_1 l0_2 t299 t302 t305 t310 t313 t316 t320 t323 t326 = some r) ∧ Aside0 (kq ≤ k) ∧ Aside0 (Kd.R k63 63 wc w.heap.size (fun k_ => some k_ ≠ ((.slice Ao26 t302.length co26) : Value).ownBlock ∧ some k_ ≠ ((.slice Ao31 t310.length co31) : Value).ownBlock ∧ some k_ ≠ ((.slice Ao35 t313.length co35) : Value).ownBlock ∧ some k_ ≠ ((.slice Ao39 t320.length co39) : Value).ownBlock ∧ some k_ ≠ ((.slice Ao44 t323.length co44) : Value).ownBlock) (.slice Ao23 t299.length co23) t299) ∧ Aside0 (Kd.R k63 63 wc w.heap.size (fun k_ => some k_ ≠ ((.slice Ao23 t299.length co23) : Value).ownBlock ∧ some k_ ≠ ((.slice Ao31 t310.length co31) : Value).ownBlock ∧ some k_ ≠ ((.slice Ao35 t313.length co35) : Value).ownBlock ∧ some k_ ≠ ((.slice Ao39 t320.length co39) : Value).ownBlock ∧ some k_ ≠ ((.slice Ao44 t323.length co44) : Value).ownBlock) (.slice Ao26 t302.length co26) t302) ∧ Aside0 (Kd.R k73 73 wc w.heap.size (fun k_ => some k_ ≠ ((.slice Ao36 t316.length co36) : Value).ownBlock ∧ some k_ ≠ ((.slice Ao45 t326.length co45) : Value).ownBlock) (.slice Ao27 t305.length co27) t305) ∧ Aside0 (Kd.R k63 63 wc w.heap.size (fun k_ => some k_ ≠ ((.slice Ao23 t299.length co23) : Value).ownBlock ∧ some k_ ≠ ((.slice Ao26 t302.length co26) : Value).ownBlock ∧ some k_ ≠ ((.slice Ao35 t313.length co35) : Value).ownBlock ∧ some k_ ≠ ((.slice Ao39 t320.length co39) : Value).ownBlock ∧ some k_ ≠ ((.slice Ao44 t323.length co44) : Value).ownBlock) (.slice Ao31 t310.length co31) t310) ∧ Aside0 (Kd.R k63 63 wc w.heap.size (fun k_ => some k_ ≠ ((.slice Ao23 t299.length co23) : Value).ownBlock ∧ some k_ ≠ ((.slice Ao26 t302.length co26) : Value).ownBlock ∧ some k_ ≠ ((.slice Ao31 t310.length co31) : Value).ownBlock ∧ some k_ ≠ ((.slice Ao39 t320.length co39) : Value).ownBlock ∧ some k_ ≠ ((.slice Ao44 t323.length co44) : Value).ownBlock) (.slice Ao35 t313.length co35) t313) ∧ Aside0 (Kd.R k73 73 wc w.heap.size (fun k_ => some k_ ≠ ((.slice Ao27 t305.length co27) : Value).ownBlock ∧ some k_ ≠ ((.slice Ao45 t326.length co45) : Value).ownBlock) (.slice Ao36 t316.length co36) t316) ∧ Aside0 (Kd.R k63 63 wc w.heap.size (fun k_ => some k_ ≠ ((.slice Ao23 t299.length co23) : Value).ownBlock ∧ some k_ ≠ ((.slice Ao26 t302.length co26) : Value).ownBlock ∧ some k_ ≠ ((.slice Ao31 t310.length co31) : Value).ownBlock ∧ some k_ ≠ ((.slice Ao35 t313.length co35) : Value).ownBlock ∧ some k_ ≠ ((.slice Ao44 t323.length co44) : Value).ownBlock) (.slice Ao39 t320.length co39) t320) ∧ Aside0 (Kd.R k63 63 wc w.heap.size (fun k_ => some k_ ≠ ((.slice Ao23 t299.length co23) : Value).ownBlock ∧ some k_ ≠ ((.slice Ao26 t302.length co26) : Value).ownBlock ∧ some k_ ≠ ((.slice Ao31 t310.length co31) : Value).ownBlock ∧ some k_ ≠ ((.slice Ao35 t313.length co35) : Value).ownBlock ∧ some k_ ≠ ((.slice Ao39 t320.length co39) : Value).ownBlock) (.slice Ao44 t323.length co44) t323) ∧ Aside0 (Kd.R k73 73 wc w.heap.size (fun k_ => some k_ ≠ ((.slice Ao27 t305.length co27) : Value).ownBlock ∧ some k_ ≠ ((.slice Ao36 t316.length co36) : Value).ownBlock) (.slice Ao45 t326.length co45) t326) ∧ Aside0 (wc.heap[gb288]? = some (.cells #[(.slice A0_0 l0_0.length c0_0), (.slice A0_1 l0_1.length c0_1), (.slice A0_2 l0_2.length c0_2)] 45 (0, 0))) ∧ Aside0 (wc.heap[gb309]? = some (.cells #[(.slice Ao23 t299.length co23), (.slice Ao26 t302.length co26), (.slice Ao27 t305.length co27)] 27 (0, 0))) ∧ Aside0 (wc.heap[gb319]? = some (.cells #[(.slice Ao31 t310.length co31), (.slice Ao35 t313.length co35), (.slice Ao36 t316.length co36)] 27 (0, 0))) ∧ Aside0 (wc.heap[gb330]? = some (.cells #[(.slice Ao39 t320.length co39), (.slice Ao44 t323.length co44), (.slice Ao45 t326.length co45)] 27 (0, 0))) ∧ Aside0 (Below w.heap.size w wc))
 case first =>
  as_aux_lemma =>
   skip
   {
 have H := HC12.out
 clear HC12
 replace H := Option.bind_eq_some_iff.mp H
 obtain ⟨t331, A460, H⟩ := H
 replace H : (if t331 = true then (laws_FnExactLeaveNow.j0 k a1 t308 t329 (t329 != t308) l0_0 l0_1 l0_2 t299 t302 t305 t310 t313 t316 t320 t323 t326) else (laws_FnExactLeaveNow.j0 k a1 t308 t329 true l0_0 l0_1 l0_2 t299 t302 t305 t310 t313 t316 t320 t323 t326)) = some r := H
 have A46 := Aside0.mk A460
 clear A460
 by_cases c47 : t331 = true
 {
 subst c47
 have H1 : (laws_FnExactLeaveNow.j0 k a1 t308 t329 (t329 != t308) l0_0 l0_1 l0_2 t299 t302 t305 t310 t313 t316 t320 t323 t326) = some r := by rw [if_pos rfl] at H; exact H
 clear H
 have H := H1
 clear H1
 have H' := Aside0.mk H
 clear H
 have hnb48 := NB330_288.out
 have hnc48 := NB288_330.out
 have hnb49 := NB330_309.out
 have hnc49 := NB309_330.out
 have hnb50 := NB330_319.out
 have hnc50 := NB319_330.out
 have hcz51_0 : w38.cell? ⟨gb330, 0, none⟩ = some (.slice none 0 0) := (blk_cell BK330.out 0).trans rfl
 have hcz51_1 : w38.cell? ⟨gb330, 1, none⟩ = some (.slice none 0 0) := (blk_cell BK330.out 1).trans rfl
 have hcz51_2 : w38.cell? ⟨gb330, 2, none⟩ = some (.slice none 0 0) := (blk_cell BK330.out 2).trans rfl
 have hfz51_0 := blk_frozen BK330.out 0
 have hfz51_1 := blk_frozen BK330.out 1
 have hfz51_2 := blk_frozen BK330.out 2
 have hnb52 := NB309_288.out
 have hnc52 := NB288_309.out
 have hnb53 := NB309_319.out
 have hnc53 := NB319_309.out
 have hcz54_0 : w38.cell? ⟨gb309, 0, none⟩ = some (.slice Ao23 t299.length co23) := (blk_cell BK309.out 0).trans rfl
 have hcz54_1 : w38.cell? ⟨gb309, 1, none⟩ = some (.slice Ao26 t302.length co26) := (blk_cell BK309.out 1).trans rfl
 have hcz54_2 : w38.cell? ⟨gb309, 2, none⟩ = some (.slice Ao27 t305.length co27) := (blk_cell BK309.out 2).trans rfl
 have hfz54_0 := blk_frozen BK309.out 0
 have hfz54_1 := blk_frozen BK309.out 1
 have hfz54_2 := blk_frozen BK309.out 2
 go_wp2_with (first | ((with_reducible refine gate_callee (f := 27) rfl ?_); refine goesL_ (some 38) rfl rfl Try.func27 s2_ rfl #[.agg #[.slice Ao39 t320.length co39, .slice Ao44 t323.length co44, .slice Ao45 t326.length co45], .agg #[.slice Ao23 t299.length co23, .slice Ao26 t302.length co26, .slice Ao27 t305.length co27]] rfl s3_ ?_; (with_reducible refine (laws_eqPresence.calls k _ _ t320 _ _ t323 _ _ t326 _ _ t299 _ _ t302 _ _ t305 true _ ?side1 ?side2 ?side3 ?side4 ?side5 ?side6 ?side7 ?side8 ?side9 ?side10 ?side11 ?side12 A46.out).mono ?_); (case side1 => refine (Kd.R_reads' (e := 63) (base := w.heap.size) (ok := fun k_ => ((((((some k_ ≠ (.slice Ao44 t323.length co44 : Value).ownBlock ∧ some k_ ≠ (.slice Ao18 t290.length co18 : Value).ownBlock) ∧ some k_ ≠ (.slice Ao19 t293.length co19 : Value).ownBlock) ∧ some k_ ≠ (.slice Ao23 t299.length co23 : Value).ownBlock) ∧ some k_ ≠ (.slice Ao26 t302.length co26 : Value).ownBlock) ∧ some k_ ≠ (.slice Ao31 t310.length co31 : Value).ownBlock) ∧ some k_ ≠ (.slice Ao35 t313.length co35 : Value).ownBlock)) (n := t320.length) (c := co39) ?_).2.2; exact (by (with_reducible repeat (first | apply Kd.R_alloc | apply Kd.R_drewN | apply Kd.R_drew)); exact (Kd.R_mono (Kd.R_far3 (g := gb330) (Kd.R_types HO322.out BK330.out (by decide)) (fun _ hk => hk.2)) (fun _ h_ => h_.1)))); (case side2 => exact (Kd.R_reads' HO322.out).2.1); (case side3 => refine (Kd.R_reads' (e := 63) (base := w.heap.size) (ok := fun k_ => ((((((some k_ ≠ (.slice Ao39 t320.length co39 : Value).ownBlock ∧ some k_ ≠ (.slice Ao18 t290.length co18 : Value).ownBlock) ∧ some k_ ≠ (.slice Ao19 t293.length co19 : Value).ownBlock) ∧ some k_ ≠ (.slice Ao23 t299.length co23 : Value).ownBlock) ∧ some k_ ≠ (.slice Ao26 t302.length co26 : Value).ownBlock) ∧ some k_ ≠ (.slice Ao31 t310.length co31 : Value).ownBlock) ∧ some k_ ≠ (.slice Ao35 t313.length co35 : Value).ownBlock)) (n := t323.length) (c := co44) ?_).2.2; exact (by (with_reducible repeat (first | apply Kd.R_alloc | apply Kd.R_drewN | apply Kd.R_drew)); exact (Kd.R_mono (Kd.R_far3 (g := gb330) (Kd.R_types HO325.out BK330.out (by decide)) (fun _ hk => hk.2)) (fun _ h_ => h_.1)))); (case side4 => exact (Kd.R_reads' HO325.out).2.1); (case side5 => refine (Kd.R_reads' (e := 73) (base := w.heap.size) (ok := fun k_ => (((True ∧ some k_ ≠ (.slice Ao20 t296.length co20 : Value).ownBlock) ∧ some k_ ≠ (.slice Ao27 t305.length co27 : Value).ownBlock) ∧ some k_ ≠ (.slice Ao36 t316.length co36 : Value).ownBlock)) (n := t326.length) (c := co45) ?_).2.2; exact (by (with_reducible repeat (first | apply Kd.R_alloc | apply Kd.R_drewN | apply Kd.R_drew)); exact (Kd.R_mono (Kd.R_far3 (g := gb330) (Kd.R_types HO328.out BK330.out (by decide)) (fun _ hk => hk.2)) (fun _ h_ => h_.1)))); (case side6 => exact (Kd.R_reads' HO328.out).2.1); (case side7 => refine (Kd.R_reads' (e := 63) (base := w.heap.size) (ok := fun k_ => ((((((some k_ ≠ (.slice Ao26 t302.length co26 : Value).ownBlock ∧ some k_ ≠ (.slice Ao18 t290.length co18 : Value).ownBlock) ∧ some k_ ≠ (.slice Ao19 t293.length co19 : Value).ownBlock) ∧ some k_ ≠ (.slice Ao31 t310.length co31 : Value).ownBlock) ∧ some k_ ≠ (.slice Ao35 t313.length co35 : Value).ownBlock) ∧ some k_ ≠ (.slice Ao39 t320.length co39 : Value).ownBlock) ∧ some k_ ≠ (.slice Ao44 t323.length co44 : Value).ownBlock)) (n := t299.length) (c := co23) ?_).2.2; exact (by (with_reducible repeat (first | apply Kd.R_alloc | apply Kd.R_drewN | apply Kd.R_drew)); exact (Kd.R_mono (Kd.R_far3 (g := gb330) (Kd.R_types HO301.out BK330.out (by decide)) (fun _ hk => hk.2)) (fun _ h_ => h_.1)))); (case side8 => exact (Kd.R_reads' HO301.out).2.1); (case side9 => refine (Kd.R_reads' (e := 63) (base := w.heap.size) (ok := fun k_ => ((((((some k_ ≠ (.slice Ao23 t299.length co23 : Value).ownBlock ∧ some k_ ≠ (.slice Ao18 t290.length co18 : Value).ownBlock) ∧ some k_ ≠ (.slice Ao19 t293.length co19 : Value).ownBlock) ∧ some k_ ≠ (.slice Ao31 t310.length co31 : Value).ownBlock) ∧ some k_ ≠ (.slice Ao35 t313.length co35 : Value).ownBlock) ∧ some k_ ≠ (.slice Ao39 t320.length co39 : Value).ownBlock) ∧ some k_ ≠ (.slice Ao44 t323.length co44 : Value).ownBlock)) (n := t302.length) (c := co26) ?_).2.2; exact (by (with_reducible repeat (first | apply Kd.R_alloc | apply Kd.R_drewN | apply Kd.R_drew)); exact (Kd.R_mono (Kd.R_far3 (g := gb330) (Kd.R_types HO304.out BK330.out (by decide)) (fun _ hk => hk.2)) (fun _ h_ => h_.1)))); (case side10 => exact (Kd.R_reads' HO304.out).2.1); (case side11 => refine (Kd.R_reads' (e := 73) (base := w.heap.size) (ok := fun k_ => (((True ∧ some k_ ≠ (.slice Ao20 t296.length co20 : Value).ownBlock) ∧ some k_ ≠ (.slice Ao36 t316.length co36 : Value).ownBlock) ∧ some k_ ≠ (.slice Ao45 t326.length co45 : Value).ownBlock)) (n := t305.length) (c := co27) ?_).2.2; exact (by (with_reducible repeat (first | apply Kd.R_alloc | apply Kd.R_drewN | apply Kd.R_drew)); exact (Kd.R_mono (Kd.R_far3 (g := gb330) (Kd.R_types HO307.out BK330.out (by decide)) (fun _ hk => hk.2)) (fun _ h_ => h_.1)))); (case side12 => exact (Kd.R_reads' HO307.out).2.1); rintro e w55 ⟨rfl, hb⟩; refine ⟨_, rfl, ?_⟩; have n0_ := Aside0.mk (Kd.R_below (by (with_reducible repeat (first | apply Kd.R_alloc | apply Kd.R_drewN | apply Kd.R_drew)); exact (Kd.R_mono (Kd.R_far3 (g := gb330) (Kd.R_types HO292.out BK330.out (by decide)) (fun _ hk => hk.2)) (fun _ h_ => h_.1))) hb); have n1_ := Aside0.mk (Kd.R_below (by (with_reducible repeat (first | apply Kd.R_alloc | apply Kd.R_drewN | apply Kd.R_drew)); exact (Kd.R_mono (Kd.R_far3 (g := gb330) (Kd.R_types HO295.out BK330.out (by decide)) (fun _ hk => hk.2)) (fun _ h_ => h_.1))) hb); have n2_ := Aside0.mk (Kd.R_below (by (with_reducible repeat (first | apply Kd.R_alloc | apply Kd.R_drewN | apply Kd.R_drew)); exact (Kd.R_mono (Kd.R_far3 (g := gb330) (Kd.R_types HO298.out BK330.out (by decide)) (fun _ hk => hk.2)) (fun _ h_ => h_.1))) hb); have n3_ := Aside0.mk (Kd.R_below (by (with_reducible repeat (first | apply Kd.R_alloc | apply Kd.R_drewN | apply Kd.R_drew)); exact (Kd.R_mono (Kd.R_far3 (g := gb330) (Kd.R_types HO301.out BK330.out (by decide)) (fun _ hk => hk.2)) (fun _ h_ => h_.1))) hb); have n4_ := Aside0.mk (Kd.R_below (by (with_reducible repeat (first | apply Kd.R_alloc | apply Kd.R_drewN | apply Kd.R_drew)); exact (Kd.R_mono (Kd.R_far3 (g := gb330) (Kd.R_types HO304.out BK330.out (by decide)) (fun _ hk => hk.2)) (fun _ h_ => h_.1))) hb); have n5_ := Aside0.mk (Kd.R_below (by (with_reducible repeat (first | apply Kd.R_alloc | apply Kd.R_drewN | apply Kd.R_drew)); exact (Kd.R_mono (Kd.R_far3 (g := gb330) (Kd.R_types HO307.out BK330.out (by decide)) (fun _ hk => hk.2)) (fun _ h_ => h_.1))) hb); have n6_ := Aside0.mk (Kd.R_below (by (with_reducible repeat (first | apply Kd.R_alloc | apply Kd.R_drewN | apply Kd.R_drew)); exact (Kd.R_mono (Kd.R_far3 (g := gb330) (Kd.R_types HO312.out BK330.out (by decide)) (fun _ hk => hk.2)) (fun _ h_ => h_.1))) hb); have n7_ := Aside0.mk (Kd.R_below (by (with_reducible repeat (first | apply Kd.R_alloc | apply Kd.R_drewN | apply Kd.R_drew)); exact (Kd.R_mono (Kd.R_far3 (g := gb330) (Kd.R_types HO315.out BK330.out (by decide)) (fun _ hk => hk.2)) (fun _ h_ => h_.1))) hb); have n8_ := Aside0.mk (Kd.R_below (by (with_reducible repeat (first | apply Kd.R_alloc | apply Kd.R_drewN | apply Kd.R_drew)); exact (Kd.R_mono (Kd.R_far3 (g := gb330) (Kd.R_types HO318.out BK330.out (by decide)) (fun _ hk => hk.2)) (fun _ h_ => h_.1))) hb); have n9_ := Aside0.mk (Kd.R_below (by (with_reducible repeat (first | apply Kd.R_alloc | apply Kd.R_drewN | apply Kd.R_drew)); exact (Kd.R_mono (Kd.R_far3 (g := gb330) (Kd.R_types HO322.out BK330.out (by decide)) (fun _ hk => hk.2)) (fun _ h_ => h_.1))) hb); have n10_ := Aside0.mk (Kd.R_below (by (with_reducible repeat (first | apply Kd.R_alloc | apply Kd.R_drewN | apply Kd.R_drew)); exact (Kd.R_mono (Kd.R_far3 (g := gb330) (Kd.R_types HO325.out BK330.out (by decide)) (fun _ hk => hk.2)) (fun _ h_ => h_.1))) hb); have n11_ := Aside0.mk (Kd.R_below (by (with_reducible repeat (first | apply Kd.R_alloc | apply Kd.R_drewN | apply Kd.R_drew)); exact (Kd.R_mono (Kd.R_far3 (g := gb330) (Kd.R_types HO328.out BK330.out (by decide)) (fun _ hk => hk.2)) (fun _ h_ => h_.1))) hb); have n12_ := Aside0.mk (blk_below (g := gb288) (o := .cells #[.slice A0_0 l0_0.length c0_0, .slice A0_1 l0_1.length c0_1, .slice A0_2 l0_2.length c0_2] 45 (0, 0)) (by (with_reducible repeat (first | refine blk_drewN ?_ _ | refine blk_drew ?_ | refine blk_alloc ?_ _)); refine blk_far3 ?_ NB288_330.out; (with_reducible repeat (first | refine blk_drewN ?_ _ | refine blk_drew ?_ | refine blk_alloc ?_ _)); exact BK288.out) hb); have n13_ := Aside0.mk (blk_below (g := gb309) (o := .cells #[.slice Ao23 t299.length co23, .slice Ao26 t302.length co26, .slice Ao27 t305.length co27] 27 (0, 0)) (by (with_reducible repeat (first | refine blk_drewN ?_ _ | refine blk_drew ?_ | refine blk_alloc ?_ _)); refine blk_far3 ?_ NB309_330.out; (with_reducible repeat (first | refine blk_drewN ?_ _ | refine blk_drew ?_ | refine blk_alloc ?_ _)); exact BK309.out) hb); have n14_ := Aside0.mk (blk_below (g := gb319) (o := .cells #[.slice Ao31 t310.length co31, .slice Ao35 t313.length co35, .slice Ao36 t316.length co36] 27 (0, 0)) (by (with_reducible repeat (first | refine blk_drewN ?_ _ | refine blk_drew ?_ | refine blk_alloc ?_ _)); refine blk_far3 ?_ NB319_330.out; (with_reducible repeat (first | refine blk_drewN ?_ _ | refine blk_drew ?_ | refine blk_alloc ?_ _)); exact BK319.out) hb); have n15_ := Aside0.mk (blk_below (g := gb330) (o := .cells #[.slice Ao39 t320.length co39, .slice Ao44 t323.length co44, .slice Ao45 t326.length co45] 27 (0, 0)) (by (with_reducible repeat (first | refine blk_drewN ?_ _ | refine blk_drew ?_ | refine blk_alloc ?_ _)); refine blk_put3 (cs := #[.slice none 0 0, .slice none 0 0, .slice none 0 0]) ?_ rfl; (with_reducible repeat (first | refine blk_drewN ?_ _ | refine blk_drew ?_ | refine blk_alloc ?_ _)); exact BK330.out) hb); have n16_ := Aside0.mk (below_step (by repeat (first | (with_reducible first | exact HB.out | apply below_alloc | apply pw_below_drewN | apply below_drew1 | refine below_set ?_ GE330.out) | exact HB.out)) hb); clear HO292; clear HO295; clear HO298; clear HO301; clear HO304; clear HO307; clear HO312; clear HO315; clear HO318; clear HO322; clear HO325; clear HO328; clear BK288; clear BK309; clear BK319; clear BK330; clear HB; have HO292 := n0_; have HO295 := n1_; have HO298 := n2_; have HO301 := n3_; have HO304 := n4_; have HO307 := n5_; have HO312 := n6_; have HO315 := n7_; have HO318 := n8_; have HO322 := n9_; have HO325 := n10_; have HO328 := n11_; have BK288 := n12_; have BK309 := n13_; have BK319 := n14_; have BK330 := n15_; have HB := n16_; clear n0_ n1_ n2_ n3_ n4_ n5_ n6_ n7_ n8_ n9_ n10_ n11_ n12_ n13_ n14_ n15_ n16_; (try clear hb); (try clear hb2); (try clear hk); (try clear hi)))
 go_meet
 case rel => exact ⟨_, ((t329 != t308)), s1_, H', ⟨by first | omega | exact Nat.le_refl _⟩, ⟨by (with_reducible repeat (first | apply Kd.R_alloc | apply Kd.R_drewN | apply Kd.R_drew)); exact Kd.R_mono HO301.out (fun _ hk => ⟨hk.1.1.1.1.1.1, ⟨hk.1.1.1.2, ⟨hk.1.1.2, ⟨hk.1.2, hk.2⟩⟩⟩⟩)⟩, ⟨by (with_reducible repeat (first | apply Kd.R_alloc | apply Kd.R_drewN | apply Kd.R_drew)); exact Kd.R_mono HO304.out (fun _ hk => ⟨hk.1.1.1.1.1.1, ⟨hk.1.1.1.2, ⟨hk.1.1.2, ⟨hk.1.2, hk.2⟩⟩⟩⟩)⟩, ⟨by (with_reducible repeat (first | apply Kd.R_alloc | apply Kd.R_drewN | apply Kd.R_drew)); exact Kd.R_mono HO307.out (fun _ hk => ⟨hk.1.2, hk.2⟩)⟩, ⟨by (with_reducible repeat (first | apply Kd.R_alloc | apply Kd.R_drewN | apply Kd.R_drew)); exact Kd.R_mono HO312.out (fun _ hk => ⟨hk.1.1.1.2, ⟨hk.1.1.2, ⟨hk.1.1.1.1.1.1, ⟨hk.1.2, hk.2⟩⟩⟩⟩)⟩, ⟨by (with_reducible repeat (first | apply Kd.R_alloc | apply Kd.R_drewN | apply Kd.R_drew)); exact Kd.R_mono HO315.out (fun _ hk => ⟨hk.1.1.1.2, ⟨hk.1.1.2, ⟨hk.1.1.1.1.1.1, ⟨hk.1.2, hk.2⟩⟩⟩⟩)⟩, ⟨by (with_reducible repeat (first | apply Kd.R_alloc | apply Kd.R_drewN | apply Kd.R_drew)); exact Kd.R_mono HO318.out (fun _ hk => ⟨hk.1.2, hk.2⟩)⟩, ⟨by (with_reducible repeat (first | apply Kd.R_alloc | apply Kd.R_drewN | apply Kd.R_drew)); exact Kd.R_mono HO322.out (fun _ hk => ⟨hk.1.1.1.2, ⟨hk.1.1.2, ⟨hk.1.2, ⟨hk.2, hk.1.1.1.1.1.1⟩⟩⟩⟩)⟩, ⟨by (with_reducible repeat (first | apply Kd.R_alloc | apply Kd.R_drewN | apply Kd.R_drew)); exact Kd.R_mono HO325.out (fun _ hk => ⟨hk.1.1.1.2, ⟨hk.1.1.2, ⟨hk.1.2, ⟨hk.2, hk.1.1.1.1.1.1⟩⟩⟩⟩)⟩, ⟨by (with_reducible repeat (first | apply Kd.R_alloc | apply Kd.R_drewN | apply Kd.R_drew)); exact Kd.R_mono HO328.out (fun _ hk => ⟨hk.1.2, hk.2⟩)⟩, ⟨b1_ BK288.out⟩, ⟨b1_ BK309.out⟩, ⟨b1_ BK319.out⟩, ⟨b1_ BK330.out⟩, ⟨by repeat (first | (with_reducible first | exact HB.out | apply below_alloc | apply pw_below_drewN | apply below_drew1) | exact HB.out)⟩⟩}
 {
 replace c47 := Bool.eq_false_iff.mpr c47
 subst c47
 have H1 : (laws_FnExactLeaveNow.j0 k a1 t308 t329 true l0_0 l0_1 l0_2 t299 t302 t305 t310 t313 t316 t320 t323 t326) = some r := by rw [if_neg (show ¬ (false = true) by decide)] at H; exact H
 clear H
 have H := H1
 clear H1
 have H' := Aside0.mk H
 clear H
 have hnb56 := NB330_288.out
 have hnc56 := NB288_330.out
 have hnb57 := NB330_309.out
 have hnc57 := NB309_330.out
 have hnb58 := NB330_319.out
 have hnc58 := NB319_330.out
 have hcz59_0 : w38.cell? ⟨gb330, 0, none⟩ = some (.slice none 0 0) := (blk_cell BK330.out 0).trans rfl
 have hcz59_1 : w38.cell? ⟨gb330, 1, none⟩ = some (.slice none 0 0) := (blk_cell BK330.out 1).trans rfl
 have hcz59_2 : w38.cell? ⟨gb330, 2, none⟩ = some (.slice none 0 0) := (blk_cell BK330.out 2).trans rfl
 have hfz59_0 := blk_frozen BK330.out 0
 have hfz59_1 := blk_frozen BK330.out 1
 have hfz59_2 := blk_frozen BK330.out 2
 have hnb60 := NB309_288.out
 have hnc60 := NB288_309.out
 have hnb61 := NB309_319.out
 have hnc61 := NB319_309.out
 have hcz62_0 : w38.cell? ⟨gb309, 0, none⟩ = some (.slice Ao23 t299.length co23) := (blk_cell BK309.out 0).trans rfl
 have hcz62_1 : w38.cell? ⟨gb309, 1, none⟩ = some (.slice Ao26 t302.length co26) := (blk_cell BK309.out 1).trans rfl
 have hcz62_2 : w38.cell? ⟨gb309, 2, none⟩ = some (.slice Ao27 t305.length co27) := (blk_cell BK309.out 2).trans rfl
 have hfz62_0 := blk_frozen BK309.out 0
 have hfz62_1 := blk_frozen BK309.out 1
 have hfz62_2 := blk_frozen BK309.out 2
 go_wp2_with (first | ((with_reducible refine gate_callee (f := 27) rfl ?_); refine goesL_ (some 38) rfl rfl Try.func27 s2_ rfl #[.agg #[.slice Ao39 t320.length co39, .slice Ao44 t323.length co44, .slice Ao45 t326.length co45], .agg #[.slice Ao23 t299.length co23, .slice Ao26 t302.length co26, .slice Ao27 t305.length co27]] rfl s3_ ?_; (with_reducible refine (laws_eqPresence.calls k _ _ t320 _ _ t323 _ _ t326 _ _ t299 _ _ t302 _ _ t305 false _ ?side1 ?side2 ?side3 ?side4 ?side5 ?side6 ?side7 ?side8 ?side9 ?side10 ?side11 ?side12 A46.out).mono ?_); (case side1 => refine (Kd.R_reads' (e := 63) (base := w.heap.size) (ok := fun k_ => ((((((some k_ ≠ (.slice Ao44 t323.length co44 : Value).ownBlock ∧ some k_ ≠ (.slice Ao18 t290.length co18 : Value).ownBlock) ∧ some k_ ≠ (.slice Ao19 t293.length co19 : Value).ownBlock) ∧ some k_ ≠ (.slice Ao23 t299.length co23 : Value).ownBlock) ∧ some k_ ≠ (.slice Ao26 t302.length co26 : Value).ownBlock) ∧ some k_ ≠ (.slice Ao31 t310.length co31 : Value).ownBlock) ∧ some k_ ≠ (.slice Ao35 t313.length co35 : Value).ownBlock)) (n := t320.length) (c := co39) ?_).2.2; exact (by (with_reducible repeat (first | apply Kd.R_alloc | apply Kd.R_drewN | apply Kd.R_drew)); exact (Kd.R_mono (Kd.R_far3 (g := gb330) (Kd.R_types HO322.out BK330.out (by decide)) (fun _ hk => hk.2)) (fun _ h_ => h_.1)))); (case side2 => exact (Kd.R_reads' HO322.out).2.1); (case side3 => refine (Kd.R_reads' (e := 63) (base := w.heap.size) (ok := fun k_ => ((((((some k_ ≠ (.slice Ao39 t320.length co39 : Value).ownBlock ∧ some k_ ≠ (.slice Ao18 t290.length co18 : Value).ownBlock) ∧ some k_ ≠ (.slice Ao19 t293.length co19 : Value).ownBlock) ∧ some k_ ≠ (.slice Ao23 t299.length co23 : Value).ownBlock) ∧ some k_ ≠ (.slice Ao26 t302.length co26 : Value).ownBlock) ∧ some k_ ≠ (.slice Ao31 t310.length co31 : Value).ownBlock) ∧ some k_ ≠ (.slice Ao35 t313.length co35 : Value).ownBlock)) (n := t323.length) (c := co44) ?_).2.2; exact (by (with_reducible repeat (first | apply Kd.R_alloc | apply Kd.R_drewN | apply Kd.R_drew)); exact (Kd.R_mono (Kd.R_far3 (g := gb330) (Kd.R_types HO325.out BK330.out (by decide)) (fun _ hk => hk.2)) (fun _ h_ => h_.1)))); (case side4 => exact (Kd.R_reads' HO325.out).2.1); (case side5 => refine (Kd.R_reads' (e := 73) (base := w.heap.size) (ok := fun k_ => (((True ∧ some k_ ≠ (.slice Ao20 t296.length co20 : Value).ownBlock) ∧ some k_ ≠ (.slice Ao27 t305.length co27 : Value).ownBlock) ∧ some k_ ≠ (.slice Ao36 t316.length co36 : Value).ownBlock)) (n := t326.length) (c := co45) ?_).2.2; exact (by (with_reducible repeat (first | apply Kd.R_alloc | apply Kd.R_drewN | apply Kd.R_drew)); exact (Kd.R_mono (Kd.R_far3 (g := gb330) (Kd.R_types HO328.out BK330.out (by decide)) (fun _ hk => hk.2)) (fun _ h_ => h_.1)))); (case side6 => exact (Kd.R_reads' HO328.out).2.1); (case side7 => refine (Kd.R_reads' (e := 63) (base := w.heap.size) (ok := fun k_ => ((((((some k_ ≠ (.slice Ao26 t302.length co26 : Value).ownBlock ∧ some k_ ≠ (.slice Ao18 t290.length co18 : Value).ownBlock) ∧ some k_ ≠ (.slice Ao19 t293.length co19 : Value).ownBlock) ∧ some k_ ≠ (.slice Ao31 t310.length co31 : Value).ownBlock) ∧ some k_ ≠ (.slice Ao35 t313.length co35 : Value).ownBlock) ∧ some k_ ≠ (.slice Ao39 t320.length co39 : Value).ownBlock) ∧ some k_ ≠ (.slice Ao44 t323.length co44 : Value).ownBlock)) (n := t299.length) (c := co23) ?_).2.2; exact (by (with_reducible repeat (first | apply Kd.R_alloc | apply Kd.R_drewN | apply Kd.R_drew)); exact (Kd.R_mono (Kd.R_far3 (g := gb330) (Kd.R_types HO301.out BK330.out (by decide)) (fun _ hk => hk.2)) (fun _ h_ => h_.1)))); (case side8 => exact (Kd.R_reads' HO301.out).2.1); (case side9 => refine (Kd.R_reads' (e := 63) (base := w.heap.size) (ok := fun k_ => ((((((some k_ ≠ (.slice Ao23 t299.length co23 : Value).ownBlock ∧ some k_ ≠ (.slice Ao18 t290.length co18 : Value).ownBlock) ∧ some k_ ≠ (.slice Ao19 t293.length co19 : Value).ownBlock) ∧ some k_ ≠ (.slice Ao31 t310.length co31 : Value).ownBlock) ∧ some k_ ≠ (.slice Ao35 t313.length co35 : Value).ownBlock) ∧ some k_ ≠ (.slice Ao39 t320.length co39 : Value).ownBlock) ∧ some k_ ≠ (.slice Ao44 t323.length co44 : Value).ownBlock)) (n := t302.length) (c := co26) ?_).2.2; exact (by (with_reducible repeat (first | apply Kd.R_alloc | apply Kd.R_drewN | apply Kd.R_drew)); exact (Kd.R_mono (Kd.R_far3 (g := gb330) (Kd.R_types HO304.out BK330.out (by decide)) (fun _ hk => hk.2)) (fun _ h_ => h_.1)))); (case side10 => exact (Kd.R_reads' HO304.out).2.1); (case side11 => refine (Kd.R_reads' (e := 73) (base := w.heap.size) (ok := fun k_ => (((True ∧ some k_ ≠ (.slice Ao20 t296.length co20 : Value).ownBlock) ∧ some k_ ≠ (.slice Ao36 t316.length co36 : Value).ownBlock) ∧ some k_ ≠ (.slice Ao45 t326.length co45 : Value).ownBlock)) (n := t305.length) (c := co27) ?_).2.2; exact (by (with_reducible repeat (first | apply Kd.R_alloc | apply Kd.R_drewN | apply Kd.R_drew)); exact (Kd.R_mono (Kd.R_far3 (g := gb330) (Kd.R_types HO307.out BK330.out (by decide)) (fun _ hk => hk.2)) (fun _ h_ => h_.1)))); (case side12 => exact (Kd.R_reads' HO307.out).2.1); rintro e w63 ⟨rfl, hb⟩; refine ⟨_, rfl, ?_⟩; have n0_ := Aside0.mk (Kd.R_below (by (with_reducible repeat (first | apply Kd.R_alloc | apply Kd.R_drewN | apply Kd.R_drew)); exact (Kd.R_mono (Kd.R_far3 (g := gb330) (Kd.R_types HO292.out BK330.out (by decide)) (fun _ hk => hk.2)) (fun _ h_ => h_.1))) hb); have n1_ := Aside0.mk (Kd.R_below (by (with_reducible repeat (first | apply Kd.R_alloc | apply Kd.R_drewN | apply Kd.R_drew)); exact (Kd.R_mono (Kd.R_far3 (g := gb330) (Kd.R_types HO295.out BK330.out (by decide)) (fun _ hk => hk.2)) (fun _ h_ => h_.1))) hb); have n2_ := Aside0.mk (Kd.R_below (by (with_reducible repeat (first | apply Kd.R_alloc | apply Kd.R_drewN | apply Kd.R_drew)); exact (Kd.R_mono (Kd.R_far3 (g := gb330) (Kd.R_types HO298.out BK330.out (by decide)) (fun _ hk => hk.2)) (fun _ h_ => h_.1))) hb); have n3_ := Aside0.mk (Kd.R_below (by (with_reducible repeat (first | apply Kd.R_alloc | apply Kd.R_drewN | apply Kd.R_drew)); exact (Kd.R_mono (Kd.R_far3 (g := gb330) (Kd.R_types HO301.out BK330.out (by decide)) (fun _ hk => hk.2)) (fun _ h_ => h_.1))) hb); have n4_ := Aside0.mk (Kd.R_below (by (with_reducible repeat (first | apply Kd.R_alloc | apply Kd.R_drewN | apply Kd.R_drew)); exact (Kd.R_mono (Kd.R_far3 (g := gb330) (Kd.R_types HO304.out BK330.out (by decide)) (fun _ hk => hk.2)) (fun _ h_ => h_.1))) hb); have n5_ := Aside0.mk (Kd.R_below (by (with_reducible repeat (first | apply Kd.R_alloc | apply Kd.R_drewN | apply Kd.R_drew)); exact (Kd.R_mono (Kd.R_far3 (g := gb330) (Kd.R_types HO307.out BK330.out (by decide)) (fun _ hk => hk.2)) (fun _ h_ => h_.1))) hb); have n6_ := Aside0.mk (Kd.R_below (by (with_reducible repeat (first | apply Kd.R_alloc | apply Kd.R_drewN | apply Kd.R_drew)); exact (Kd.R_mono (Kd.R_far3 (g := gb330) (Kd.R_types HO312.out BK330.out (by decide)) (fun _ hk => hk.2)) (fun _ h_ => h_.1))) hb); have n7_ := Aside0.mk (Kd.R_below (by (with_reducible repeat (first | apply Kd.R_alloc | apply Kd.R_drewN | apply Kd.R_drew)); exact (Kd.R_mono (Kd.R_far3 (g := gb330) (Kd.R_types HO315.out BK330.out (by decide)) (fun _ hk => hk.2)) (fun _ h_ => h_.1))) hb); have n8_ := Aside0.mk (Kd.R_below (by (with_reducible repeat (first | apply Kd.R_alloc | apply Kd.R_drewN | apply Kd.R_drew)); exact (Kd.R_mono (Kd.R_far3 (g := gb330) (Kd.R_types HO318.out BK330.out (by decide)) (fun _ hk => hk.2)) (fun _ h_ => h_.1))) hb); have n9_ := Aside0.mk (Kd.R_below (by (with_reducible repeat (first | apply Kd.R_alloc | apply Kd.R_drewN | apply Kd.R_drew)); exact (Kd.R_mono (Kd.R_far3 (g := gb330) (Kd.R_types HO322.out BK330.out (by decide)) (fun _ hk => hk.2)) (fun _ h_ => h_.1))) hb); have n10_ := Aside0.mk (Kd.R_below (by (with_reducible repeat (first | apply Kd.R_alloc | apply Kd.R_drewN | apply Kd.R_drew)); exact (Kd.R_mono (Kd.R_far3 (g := gb330) (Kd.R_types HO325.out BK330.out (by decide)) (fun _ hk => hk.2)) (fun _ h_ => h_.1))) hb); have n11_ := Aside0.mk (Kd.R_below (by (with_reducible repeat (first | apply Kd.R_alloc | apply Kd.R_drewN | apply Kd.R_drew)); exact (Kd.R_mono (Kd.R_far3 (g := gb330) (Kd.R_types HO328.out BK330.out (by decide)) (fun _ hk => hk.2)) (fun _ h_ => h_.1))) hb); have n12_ := Aside0.mk (blk_below (g := gb288) (o := .cells #[.slice A0_0 l0_0.length c0_0, .slice A0_1 l0_1.length c0_1, .slice A0_2 l0_2.length c0_2] 45 (0, 0)) (by (with_reducible repeat (first | refine blk_drewN ?_ _ | refine blk_drew ?_ | refine blk_alloc ?_ _)); refine blk_far3 ?_ NB288_330.out; (with_reducible repeat (first | refine blk_drewN ?_ _ | refine blk_drew ?_ | refine blk_alloc ?_ _)); exact BK288.out) hb); have n13_ := Aside0.mk (blk_below (g := gb309) (o := .cells #[.slice Ao23 t299.length co23, .slice Ao26 t302.length co26, .slice Ao27 t305.length co27] 27 (0, 0)) (by (with_reducible repeat (first | refine blk_drewN ?_ _ | refine blk_drew ?_ | refine blk_alloc ?_ _)); refine blk_far3 ?_ NB309_330.out; (with_reducible repeat (first | refine blk_drewN ?_ _ | refine blk_drew ?_ | refine blk_alloc ?_ _)); exact BK309.out) hb); have n14_ := Aside0.mk (blk_below (g := gb319) (o := .cells #[.slice Ao31 t310.length co31, .slice Ao35 t313.length co35, .slice Ao36 t316.length co36] 27 (0, 0)) (by (with_reducible repeat (first | refine blk_drewN ?_ _ | refine blk_drew ?_ | refine blk_alloc ?_ _)); refine blk_far3 ?_ NB319_330.out; (with_reducible repeat (first | refine blk_drewN ?_ _ | refine blk_drew ?_ | refine blk_alloc ?_ _)); exact BK319.out) hb); have n15_ := Aside0.mk (blk_below (g := gb330) (o := .cells #[.slice Ao39 t320.length co39, .slice Ao44 t323.length co44, .slice Ao45 t326.length co45] 27 (0, 0)) (by (with_reducible repeat (first | refine blk_drewN ?_ _ | refine blk_drew ?_ | refine blk_alloc ?_ _)); refine blk_put3 (cs := #[.slice none 0 0, .slice none 0 0, .slice none 0 0]) ?_ rfl; (with_reducible repeat (first | refine blk_drewN ?_ _ | refine blk_drew ?_ | refine blk_alloc ?_ _)); exact BK330.out) hb); have n16_ := Aside0.mk (below_step (by repeat (first | (with_reducible first | exact HB.out | apply below_alloc | apply pw_below_drewN | apply below_drew1 | refine below_set ?_ GE330.out) | exact HB.out)) hb); clear HO292; clear HO295; clear HO298; clear HO301; clear HO304; clear HO307; clear HO312; clear HO315; clear HO318; clear HO322; clear HO325; clear HO328; clear BK288; clear BK309; clear BK319; clear BK330; clear HB; have HO292 := n0_; have HO295 := n1_; have HO298 := n2_; have HO301 := n3_; have HO304 := n4_; have HO307 := n5_; have HO312 := n6_; have HO315 := n7_; have HO318 := n8_; have HO322 := n9_; have HO325 := n10_; have HO328 := n11_; have BK288 := n12_; have BK309 := n13_; have BK319 := n14_; have BK330 := n15_; have HB := n16_; clear n0_ n1_ n2_ n3_ n4_ n5_ n6_ n7_ n8_ n9_ n10_ n11_ n12_ n13_ n14_ n15_ n16_; (try clear hb); (try clear hb2); (try clear hk); (try clear hi)))
 go_meet
 case rel => exact ⟨_, (true), s1_, H', ⟨by first | omega | exact Nat.le_refl _⟩, ⟨by (with_reducible repeat (first | apply Kd.R_alloc | apply Kd.R_drewN | apply Kd.R_drew)); exact Kd.R_mono HO301.out (fun _ hk => ⟨hk.1.1.1.1.1.1, ⟨hk.1.1.1.2, ⟨hk.1.1.2, ⟨hk.1.2, hk.2⟩⟩⟩⟩)⟩, ⟨by (with_reducible repeat (first | apply Kd.R_alloc | apply Kd.R_drewN | apply Kd.R_drew)); exact Kd.R_mono HO304.out (fun _ hk => ⟨hk.1.1.1.1.1.1, ⟨hk.1.1.1.2, ⟨hk.1.1.2, ⟨hk.1.2, hk.2⟩⟩⟩⟩)⟩, ⟨by (with_reducible repeat (first | apply Kd.R_alloc | apply Kd.R_drewN | apply Kd.R_drew)); exact Kd.R_mono HO307.out (fun _ hk => ⟨hk.1.2, hk.2⟩)⟩, ⟨by (with_reducible repeat (first | apply Kd.R_alloc | apply Kd.R_drewN | apply Kd.R_drew)); exact Kd.R_mono HO312.out (fun _ hk => ⟨hk.1.1.1.2, ⟨hk.1.1.2, ⟨hk.1.1.1.1.1.1, ⟨hk.1.2, hk.2⟩⟩⟩⟩)⟩, ⟨by (with_reducible repeat (first | apply Kd.R_alloc | apply Kd.R_drewN | apply Kd.R_drew)); exact Kd.R_mono HO315.out (fun _ hk => ⟨hk.1.1.1.2, ⟨hk.1.1.2, ⟨hk.1.1.1.1.1.1, ⟨hk.1.2, hk.2⟩⟩⟩⟩)⟩, ⟨by (with_reducible repeat (first | apply Kd.R_alloc | apply Kd.R_drewN | apply Kd.R_drew)); exact Kd.R_mono HO318.out (fun _ hk => ⟨hk.1.2, hk.2⟩)⟩, ⟨by (with_reducible repeat (first | apply Kd.R_alloc | apply Kd.R_drewN | apply Kd.R_drew)); exact Kd.R_mono HO322.out (fun _ hk => ⟨hk.1.1.1.2, ⟨hk.1.1.2, ⟨hk.1.2, ⟨hk.2, hk.1.1.1.1.1.1⟩⟩⟩⟩)⟩, ⟨by (with_reducible repeat (first | apply Kd.R_alloc | apply Kd.R_drewN | apply Kd.R_drew)); exact Kd.R_mono HO325.out (fun _ hk => ⟨hk.1.1.1.2, ⟨hk.1.1.2, ⟨hk.1.2, ⟨hk.2, hk.1.1.1.1.1.1⟩⟩⟩⟩)⟩, ⟨by (with_reducible repeat (first | apply Kd.R_alloc | apply Kd.R_drewN | apply Kd.R_drew)); exact Kd.R_mono HO328.out (fun _ hk => ⟨hk.1.2, hk.2⟩)⟩, ⟨b1_ BK288.out⟩, ⟨b1_ BK309.out⟩, ⟨b1_ BK319.out⟩, ⟨b1_ BK330.out⟩, ⟨by repeat (first | (with_reducible first | exact HB.out | apply below_alloc | apply pw_below_drewN | apply below_drew1) | exact HB.out)⟩⟩}}
 case rest =>
  skip
  {
 clear HC12
 try clear c1
 try clear c2
 try clear p2
 try clear c3
 try clear c4
 try clear c4b0
 try clear c5
 try clear c6
 try clear c18
 try clear c24
 try clear c25
 try clear c26
 try clear c27
 try clear c32
 try clear c33
 try clear c40
 try clear c41
 try clear c42
 try clear c47
 try clear c48
 try clear c49
 try clear c50
 try clear c52
 try clear c53
 try clear c56
 try clear c57
 try clear c58
 try clear c60
 try clear c61
 try clear hcz14_0
 try clear hcz14_1
 try clear hcz14_2
 try clear hcz16_0
 try clear hcz16_1
 try clear hcz16_2
 try clear hcz25_0
 try clear hcz25_1
 try clear hcz25_2
 try clear hcz28_0
 try clear hcz28_1
 try clear hcz28_2
 try clear hcz34_0
 try clear hcz34_1
 try clear hcz34_2
 try clear hcz43_0
 try clear hcz43_1
 try clear hcz43_2
 try clear hcz51_0
 try clear hcz51_1
 try clear hcz51_2
 try clear hcz54_0
 try clear hcz54_1
 try clear hcz54_2
 try clear hcz59_0
 try clear hcz59_1
 try clear hcz59_2
 try clear hcz62_0
 try clear hcz62_1
 try clear hcz62_2
 try clear hcz6_0
 try clear hcz6_1
 try clear hcz6_2
 try clear hfz14_0
 try clear hfz14_1
 try clear hfz14_2
 try clear hfz16_0
 try clear hfz16_1
 try clear hfz16_2
 try clear hfz25_0
 try clear hfz25_1
 try clear hfz25_2
 try clear hfz28_0
 try clear hfz28_1
 try clear hfz28_2
 try clear hfz34_0
 try clear hfz34_1
 try clear hfz34_2
 try clear hfz43_0
 try clear hfz43_1
 try clear hfz43_2
 try clear hfz51_0
 try clear hfz51_1
 try clear hfz51_2
 try clear hfz54_0
 try clear hfz54_1
 try clear hfz54_2
 try clear hfz59_0
 try clear hfz59_1
 try clear hfz59_2
 try clear hfz62_0
 try clear hfz62_1
 try clear hfz62_2
 try clear hfz6_0
 try clear hfz6_1
 try clear hfz6_2
 obtain ⟨kq, x44_11, rfl, HA, HJ11, HO_310000, HO_310001, HO_310002, HO_320000, HO_320001, HO_320002, HO_331000, HO_331001, HO_331002, BK288, BK309, BK319, BK330, HB⟩ := hcut
 cases kq with
 | zero => exact absurd HA.out (by simp [laws_FnExactLeaveNow.j0])
 | succ kj11 =>
  skip
  {
 have H := HA.out
 clear HA
 simp only [laws_FnExactLeaveNow.j0] at H
 by_cases c64 : x44_11 = true
 {
 subst c64
 have H1 : (some false) = some r := by rw [if_pos rfl] at H; exact H
 clear H
 have H := H1
 clear H1
 obtain rfl := Option.some.inj H
 go_wp2
 go_ret
 exact ⟨by first | rfl | (simp [errW_none, errW_some] <;> rfl) | (simp [*, errW_none, errW_some] <;> rfl), by repeat (first | (with_reducible first | exact HB.out | apply below_alloc | apply pw_below_drewN | apply below_drew1) | exact HB.out)⟩}
 {
 replace c64 := Bool.eq_false_iff.mpr c64
 subst c64
 have H1 : ((laws_toPresence.f kj11 l0_0 l0_1 l0_2).bind fun bt332 => ((laws_eqPresence.f kj11 t310 t313 t316 bt332.1 bt332.2.1 bt332.2.2).bind fun t341 => (if t341 = true then ((laws_markPresence.f kj11 t310 t313 t316 1).bind fun bt342 => (if bt342.1 < 0 then (laws_FnExactLeaveNow.j1 kj11 a1 t308 true l0_0 l0_1 l0_2 t299 t302 t305 t320 t323 t326) else ((laws_eqPresence.f kj11 t320 t323 t326 t299 t302 t305).bind fun t346 => (if t346 = true then (laws_FnExactLeaveNow.j1 kj11 a1 t308 (t329 != t308) l0_0 l0_1 l0_2 t299 t302 t305 t320 t323 t326) else (laws_FnExactLeaveNow.j1 kj11 a1 t308 true l0_0 l0_1 l0_2 t299 t302 t305 t320 t323 t326))))) else (some false)))) = some r := by rw [if_neg (show ¬ (false = true) by decide)] at H; exact H
 clear H
 have H := H1
 clear H1
 replace H := Option.bind_eq_some_iff.mp H
 obtain ⟨⟨t332, t335, t338⟩, A650, H⟩ := H
 replace H : ((laws_eqPresence.f kj11 t310 t313 t316 t332 t335 t338).bind fun t341 => (if t341 = true then ((laws_markPresence.f kj11 t310 t313 t316 1).bind fun bt342 => (if bt342.1 < 0 then (laws_FnExactLeaveNow.j1 kj11 a1 t308 true l0_0 l0_1 l0_2 t299 t302 t305 t320 t323 t326) else ((laws_eqPresence.f kj11 t320 t323 t326 t299 t302 t305).bind fun t346 => (if t346 = true then (laws_FnExactLeaveNow.j1 kj11 a1 t308 (t329 != t308) l0_0 l0_1 l0_2 t299 t302 t305 t320 t323 t326) else (laws_FnExactLeaveNow.j1 kj11 a1 t308 true l0_0 l0_1 l0_2 t299 t302 t305 t320 t323 t326))))) else (some false))) = some r := H
 have A65 := Aside0.mk A650
 clear A650
 replace H := Option.bind_eq_some_iff.mp H
 obtain ⟨t341, A660, H⟩ := H
 replace H : (if t341 = true then ((laws_markPresence.f kj11 t310 t313 t316 1).bind fun bt342 => (if bt342.1 < 0 then (laws_FnExactLeaveNow.j1 kj11 a1 t308 true l0_0 l0_1 l0_2 t299 t302 t305 t320 t323 t326) else ((laws_eqPresence.f kj11 t320 t323 t326 t299 t302 t305).bind fun t346 => (if t346 = true then (laws_FnExactLeaveNow.j1 kj11 a1 t308 (t329 != t308) l0_0 l0_1 l0_2 t299 t302 t305 t320 t323 t326) else (laws_FnExactLeaveNow.j1 kj11 a1 t308 true l0_0 l0_1 l0_2 t299 t302 t305 t320 t323 t326))))) else (some false)) = some r := H
 have A66 := Aside0.mk A660
 clear A660
 by_cases c67 : t341 = true
 {
 subst c67
 have H1 : ((laws_markPresence.f kj11 t310 t313 t316 1).bind fun bt342 => (if bt342.1 < 0 then (laws_FnExactLeaveNow.j1 kj11 a1 t308 true l0_0 l0_1 l0_2 t299 t302 t305 t320 t323 t326) else ((laws_eqPresence.f kj11 t320 t323 t326 t299 t302 t305).bind fun t346 => (if t346 = true then (laws_FnExactLeaveNow.j1 kj11 a1 t308 (t329 != t308) l0_0 l0_1 l0_2 t299 t302 t305 t320 t323 t326) else (laws_FnExactLeaveNow.j1 kj11 a1 t308 true l0_0 l0_1 l0_2 t299 t302 t305 t320 t323 t326))))) = some r := by rw [if_pos rfl] at H; exact H
 clear H
 have H := H1
 clear H1
 replace H := Option.bind_eq_some_iff.mp H
 obtain ⟨⟨t342, t343, t344, t345⟩, A680, H⟩ := H
 replace H : (if t342 < 0 then (laws_FnExactLeaveNow.j1 kj11 a1 t308 true l0_0 l0_1 l0_2 t299 t302 t305 t320 t323 t326) else ((laws_eqPresence.f kj11 t320 t323 t326 t299 t302 t305).bind fun t346 => (if t346 = true then (laws_FnExactLeaveNow.j1 kj11 a1 t308 (t329 != t308) l0_0 l0_1 l0_2 t299 t302 t305 t320 t323 t326) else (laws_FnExactLeaveNow.j1 kj11 a1 t308 true l0_0 l0_1 l0_2 t299 t302 t305 t320 t323 t326)))) = some r := H
 have A68 := Aside0.mk A680
 clear A680
 have HC69 := Aside0.mk H
 clear H
 try go_wp2
 have n0_ := Aside0.mk (Kd.R_drew HO_310000.out)
 have n1_ := Aside0.mk (Kd.R_drew HO_310001.out)
 have n2_ := Aside0.mk (Kd.R_drew HO_310002.out)
 have n3_ := Aside0.mk (Kd.R_drew HO_320000.out)
 have n4_ := Aside0.mk (Kd.R_drew HO_320001.out)
 have n5_ := Aside0.mk (Kd.R_drew HO_320002.out)
 have n6_ := Aside0.mk (Kd.R_drew HO_331000.out)
 have n7_ := Aside0.mk (Kd.R_drew HO_331001.out)
 have n8_ := Aside0.mk (Kd.R_drew HO_331002.out)
 have n9_ := Aside0.mk (blk_drew BK288.out)
 have n10_ := Aside0.mk (blk_drew BK309.out)
 have n11_ := Aside0.mk (blk_drew BK319.out)
 have n12_ := Aside0.mk (blk_drew BK330.out)
 have n13_ := Aside0.mk (below_drew1 HB.out)
 clear HO_310000
 clear HO_310001
 clear HO_310002
 clear HO_320000
 clear HO_320001
 clear HO_320002
 clear HO_331000
 clear HO_331001
 clear HO_331002
 clear BK288
 clear BK309
 clear BK319
 clear BK330
 clear HB
 have HO_310000 := n0_
 have HO_310001 := n1_
 have HO_310002 := n2_
 have HO_320000 := n3_
 have HO_320001 := n4_
 have HO_320002 := n5_
 have HO_331000 := n6_
 have HO_331001 := n7_
 have HO_331002 := n8_
 have BK288 := n9_
 have BK309 := n10_
 have BK319 := n11_
 have BK330 := n12_
 have HB := n13_
 clear n0_ n1_ n2_ n3_ n4_ n5_ n6_ n7_ n8_ n9_ n10_ n11_ n12_ n13_
 refine start_ (n := 5) (S := fun w' => w'.cell? ⟨gb319, 0, none⟩ = some (.slice Ao31 t310.length co31) ∧ w'.cell? ⟨gb319, 1, none⟩ = some (.slice Ao35 t313.length co35) ∧ w'.cell? ⟨gb319, 2, none⟩ = some (.slice Ao36 t316.length co36) ∧ w'.cell? ⟨gb288, 0, none⟩ = some (.slice A0_0 l0_0.length c0_0) ∧ w'.cell? ⟨gb288, 1, none⟩ = some (.slice A0_1 l0_1.length c0_1) ∧ w'.cell? ⟨gb288, 2, none⟩ = some (.slice A0_2 l0_2.length c0_2)) (ds := []) #[F,F,F,F,F] s2_ rfl rfl ⟨(blk_cell BK319.out 0).trans rfl, (blk_cell BK319.out 1).trans rfl, (blk_cell BK319.out 2).trans rfl, (blk_cell BK288.out 0).trans rfl, (blk_cell BK288.out 1).trans rfl, (blk_cell BK288.out 2).trans rfl⟩ (fun hHeld => ?_)
 generalize wc.drew = w70 at HO_310000 HO_310001 HO_310002 HO_320000 HO_320001 HO_320002 HO_331000 HO_331001 HO_331002 BK288 BK309 BK319 BK330 HB hHeld ⊢
 refine take_ (i := 0) (N := some 45) (v := ?_) (a' := ?_) #[T,F,F,F,F] rfl rfl s2_ (fun _ _ _ h => h) (Or.inl ⟨by rfl, ?_⟩) hHeld ?_ ?_
 rotate_left
 {
 rintro w' ⟨s0, s1, s2, s3, s4, s5⟩
 go_simp
 with_reducible rfl}
 rotate_left
 · exact p1_
 refine take_ (i := 1) (N := some 46) (v := ?_) (a' := ?_) #[T,T,F,F,F] rfl rfl s2_ (fun _ _ _ h => h) (Or.inl ⟨by rfl, ?_⟩) hHeld ?_ ?_
 rotate_left
 {
 rintro w' ⟨s0, s1, s2, s3, s4, s5⟩
 go_simp
 with_reducible rfl}
 rotate_left
 · exact p1_
 refine one_ (i := 2) (N := some 47) #[T,T,T,F,F] rfl rfl s2_ (by decide) (fun K hK => ?_)
 refine goes_ Try.func26 s2_ rfl #[.agg #[.slice A0_0 l0_0.length c0_0, .slice A0_1 l0_1.length c0_1, .slice A0_2 l0_2.length c0_2]] (by rfl) rfl rfl s3_ ?_
 with_reducible refine (laws_toPresence.calls kj11 _ _ l0_0 _ _ l0_1 _ _ l0_2 t332 t335 t338 _ ?side1 ?side2 ?side3 ?side4 ?side5 ?side6 A65.out).mono ?_
 (case side1 => exact y2_ (Kd.C_below HR0_0.out HB.out))
 (case side2 => exact HC0_0.out)
 (case side3 => exact y2_ (Kd.C_below HR0_1.out HB.out))
 (case side4 => exact HC0_1.out)
 (case side5 => exact y2_ (Kd.C_below HR0_2.out HB.out))
 (case side6 => exact HC0_2.out)
 rintro e w71 ⟨v333, v336, v339, rfl, ho0, ho1, ho2, hb⟩
 refine ⟨_, rfl, ?_⟩
 have n0_ := Aside0.mk (Kd.R_mono (Kd.R_told (Kd.R_told (Kd.R_old (b2_ HO_310000.out) hb) (Kd.R_base ho0)) (Kd.R_base ho1)) (fun _ h_ => h_.1))
 have n1_ := Aside0.mk (Kd.R_mono (Kd.R_told (Kd.R_told (Kd.R_old (b2_ HO_310001.out) hb) (Kd.R_base ho0)) (Kd.R_base ho1)) (fun _ h_ => h_.1))
 have n2_ := Aside0.mk (Kd.R_elder' (b2_ HO_310002.out) (Kd.R_base ho2) hb)
 have n3_ := Aside0.mk (Kd.R_mono (Kd.R_told (Kd.R_told (Kd.R_old (b2_ HO_320000.out) hb) (Kd.R_base ho0)) (Kd.R_base ho1)) (fun _ h_ => h_.1))
 have n4_ := Aside0.mk (Kd.R_mono (Kd.R_told (Kd.R_told (Kd.R_old (b2_ HO_320001.out) hb) (Kd.R_base ho0)) (Kd.R_base ho1)) (fun _ h_ => h_.1))
 have n5_ := Aside0.mk (Kd.R_elder' (b2_ HO_320002.out) (Kd.R_base ho2) hb)
 have n6_ := Aside0.mk (Kd.R_mono (Kd.R_told (Kd.R_told (Kd.R_old (b2_ HO_331000.out) hb) (Kd.R_base ho0)) (Kd.R_base ho1)) (fun _ h_ => h_.1))
 have n7_ := Aside0.mk (Kd.R_mono (Kd.R_told (Kd.R_told (Kd.R_old (b2_ HO_331001.out) hb) (Kd.R_base ho0)) (Kd.R_base ho1)) (fun _ h_ => h_.1))
 have n8_ := Aside0.mk (Kd.R_elder' (b2_ HO_331002.out) (Kd.R_base ho2) hb)
 have n9_ := Aside0.mk (Kd.R_lower (Kd.R_new' (Kd.R_new' (Kd.R_new' (Kd.R_new' (Kd.R_new' (Kd.R_new' ho0 (Kd.R_lt (b2_ HO_310000.out))) (Kd.R_lt (b2_ HO_310001.out))) (Kd.R_lt (b2_ HO_320000.out))) (Kd.R_lt (b2_ HO_320001.out))) (Kd.R_lt (b2_ HO_331000.out))) (Kd.R_lt (b2_ HO_331001.out))) (below_size (y1_ HB.out)))
 have n10_ := Aside0.mk (Kd.R_lower (Kd.R_new' (Kd.R_new' (Kd.R_new' (Kd.R_new' (Kd.R_new' (Kd.R_new' ho1 (Kd.R_lt (b2_ HO_310000.out))) (Kd.R_lt (b2_ HO_310001.out))) (Kd.R_lt (b2_ HO_320000.out))) (Kd.R_lt (b2_ HO_320001.out))) (Kd.R_lt (b2_ HO_331000.out))) (Kd.R_lt (b2_ HO_331001.out))) (below_size (y1_ HB.out)))
 have n11_ := Aside0.mk (Kd.R_lower (Kd.R_new' (Kd.R_new' (Kd.R_new' ho2 (Kd.R_lt (b2_ HO_310002.out))) (Kd.R_lt (b2_ HO_320002.out))) (Kd.R_lt (b2_ HO_331002.out))) (below_size (y1_ HB.out)))
 have n12_ := Aside0.mk (blk_below (g := gb288) (o := .cells #[.slice A0_0 l0_0.length c0_0, .slice A0_1 l0_1.length c0_1, .slice A0_2 l0_2.length c0_2] 45 (0, 0)) (b1_ BK288.out) hb)
 have n13_ := Aside0.mk (blk_below (g := gb309) (o := .cells #[.slice Ao23 t299.length co23, .slice Ao26 t302.length co26, .slice Ao27 t305.length co27] 27 (0, 0)) (b1_ BK309.out) hb)
 have n14_ := Aside0.mk (blk_below (g := gb319) (o := .cells #[.slice Ao31 t310.length co31, .slice Ao35 t313.length co35, .slice Ao36 t316.length co36] 27 (0, 0)) (b1_ BK319.out) hb)
 have n15_ := Aside0.mk (blk_below (g := gb330) (o := .cells #[.slice Ao39 t320.length co39, .slice Ao44 t323.length co44, .slice Ao45 t326.length co45] 27 (0, 0)) (b1_ BK330.out) hb)
 have n16_ := Aside0.mk (below_step (y1_ HB.out) hb)
 clear HO_310000
 clear HO_310001
 clear HO_310002
 clear HO_320000
 clear HO_320001
 clear HO_320002
 clear HO_331000
 clear HO_331001
 clear HO_331002
 clear BK288
 clear BK309
 clear BK319
 clear BK330
 clear HB
 have HO_310000 := n0_
 have HO_310001 := n1_
 have HO_310002 := n2_
 have HO_320000 := n3_
 have HO_320001 := n4_
 have HO_320002 := n5_
 have HO_331000 := n6_
 have HO_331001 := n7_
 have HO_331002 := n8_
 have HO334 := n9_
 have HO337 := n10_
 have HO340 := n11_
 have BK288 := n12_
 have BK309 := n13_
 have BK319 := n14_
 have BK330 := n15_
 have HB := n16_
 clear n0_ n1_ n2_ n3_ n4_ n5_ n6_ n7_ n8_ n9_ n10_ n11_ n12_ n13_ n14_ n15_ n16_
 (try clear hb)
 (try clear hb2)
 (try clear hk)
 (try clear hi)
 (try clear ho0)
 (try clear ho1)
 (try clear ho2)
 obtain ⟨Ao72, co72, eo72⟩ := Kd.R_slice HO334.out
 (first | subst eo72 | (injection eo72 with f1_ f2_ f3_; have f4_ := f1_.symm; have f5_ := f3_.symm; clear f1_ f2_ f3_; subst f4_; subst f5_))
 obtain ⟨Ao73, co73, eo73⟩ := Kd.R_slice HO337.out
 (first | subst eo73 | (injection eo73 with f1_ f2_ f3_; have f4_ := f1_.symm; have f5_ := f3_.symm; clear f1_ f2_ f3_; subst f4_; subst f5_))
 obtain ⟨Ao74, co74, eo74⟩ := Kd.R_slice HO340.out
 (first | subst eo74 | (injection eo74 with f1_ f2_ f3_; have f4_ := f1_.symm; have f5_ := f3_.symm; clear f1_ f2_ f3_; subst f4_; subst f5_))
 refine hK.out _ _ ⟨(blk_cell BK319.out 0).trans rfl, (blk_cell BK319.out 1).trans rfl, (blk_cell BK319.out 2).trans rfl, (blk_cell BK288.out 0).trans rfl, (blk_cell BK288.out 1).trans rfl, (blk_cell BK288.out 2).trans rfl⟩ (fun hHeld => ?_)
 clear hK K
 refine norm_ (a' := ?_) ?_ ?_
 rotate_left
 {
 show Act.put _ (some 47) _ = _
 simp only [Act.put, List.setIfInBounds_toArray, List.set_cons_zero, List.set_cons_succ, i64_w, i32_w]
 rfl}
 refine one_ (i := 3) (N := some 48) #[T,T,T,T,F] rfl rfl s2_ (by decide) (fun K hK => ?_)
 refine goes_ Try.func27 s2_ rfl #[.agg #[.slice Ao31 t310.length co31, .slice Ao35 t313.length co35, .slice Ao36 t316.length co36], .agg #[.slice Ao72 t332.length co72, .slice Ao73 t335.length co73, .slice Ao74 t338.length co74]] (by rfl) rfl rfl s3_ ?_
 with_reducible refine (laws_eqPresence.calls kj11 _ _ t310 _ _ t313 _ _ t316 _ _ t332 _ _ t335 _ _ t338 true _ ?side1 ?side2 ?side3 ?side4 ?side5 ?side6 ?side7 ?side8 ?side9 ?side10 ?side11 ?side12 A66.out).mono ?_
 (case side1 => exact y2_ (Kd.R_reads' HO_320000.out).2.2)
 (case side2 => exact (Kd.R_reads' HO_320000.out).2.1)
 (case side3 => exact y2_ (Kd.R_reads' HO_320001.out).2.2)
 (case side4 => exact (Kd.R_reads' HO_320001.out).2.1)
 (case side5 => exact y2_ (Kd.R_reads' HO_320002.out).2.2)
 (case side6 => exact (Kd.R_reads' HO_320002.out).2.1)
 (case side7 => exact y2_ (Kd.R_reads' HO334.out).2.2)
 (case side8 => exact (Kd.R_reads' HO334.out).2.1)
 (case side9 => exact y2_ (Kd.R_reads' HO337.out).2.2)
 (case side10 => exact (Kd.R_reads' HO337.out).2.1)
 (case side11 => exact y2_ (Kd.R_reads' HO340.out).2.2)
 (case side12 => exact (Kd.R_reads' HO340.out).2.1)
 rintro e w75 ⟨rfl, hb⟩
 refine ⟨_, rfl, ?_⟩
 have n0_ := Aside0.mk (Kd.R_below (b2_ HO_310000.out) hb)
 have n1_ := Aside0.mk (Kd.R_below (b2_ HO_310001.out) hb)
 have n2_ := Aside0.mk (Kd.R_below (b2_ HO_310002.out) hb)
 have n3_ := Aside0.mk (Kd.R_below (b2_ HO_320000.out) hb)
 have n4_ := Aside0.mk (Kd.R_below (b2_ HO_320001.out) hb)
 have n5_ := Aside0.mk (Kd.R_below (b2_ HO_320002.out) hb)
 have n6_ := Aside0.mk (Kd.R_below (b2_ HO_331000.out) hb)
 have n7_ := Aside0.mk (Kd.R_below (b2_ HO_331001.out) hb)
 have n8_ := Aside0.mk (Kd.R_below (b2_ HO_331002.out) hb)
 have n9_ := Aside0.mk (Kd.R_below (b2_ HO334.out) hb)
 have n10_ := Aside0.mk (Kd.R_below (b2_ HO337.out) hb)
 have n11_ := Aside0.mk (Kd.R_below (b2_ HO340.out) hb)
 have n12_ := Aside0.mk (blk_below (g := gb288) (o := .cells #[.slice A0_0 l0_0.length c0_0, .slice A0_1 l0_1.length c0_1, .slice A0_2 l0_2.length c0_2] 45 (0, 0)) (b1_ BK288.out) hb)
 have n13_ := Aside0.mk (blk_below (g := gb309) (o := .cells #[.slice Ao23 t299.length co23, .slice Ao26 t302.length co26, .slice Ao27 t305.length co27] 27 (0, 0)) (b1_ BK309.out) hb)
 have n14_ := Aside0.mk (blk_below (g := gb319) (o := .cells #[.slice Ao31 t310.length co31, .slice Ao35 t313.length co35, .slice Ao36 t316.length co36] 27 (0, 0)) (b1_ BK319.out) hb)
 have n15_ := Aside0.mk (blk_below (g := gb330) (o := .cells #[.slice Ao39 t320.length co39, .slice Ao44 t323.length co44, .slice Ao45 t326.length co45] 27 (0, 0)) (b1_ BK330.out) hb)
 have n16_ := Aside0.mk (below_step (y1_ HB.out) hb)
 clear HO_310000
 clear HO_310001
 clear HO_310002
 clear HO_320000
 clear HO_320001
 clear HO_320002
 clear HO_331000
 clear HO_331001
 clear HO_331002
 clear HO334
 clear HO337
 clear HO340
 clear BK288
 clear BK309
 clear BK319
 clear BK330
 clear HB
 have HO_310000 := n0_
 have HO_310001 := n1_
 have HO_310002 := n2_
 have HO_320000 := n3_
 have HO_320001 := n4_
 have HO_320002 := n5_
 have HO_331000 := n6_
 have HO_331001 := n7_
 have HO_331002 := n8_
 have HO334 := n9_
 have HO337 := n10_
 have HO340 := n11_
 have BK288 := n12_
 have BK309 := n13_
 have BK319 := n14_
 have BK330 := n15_
 have HB := n16_
 clear n0_ n1_ n2_ n3_ n4_ n5_ n6_ n7_ n8_ n9_ n10_ n11_ n12_ n13_ n14_ n15_ n16_
 (try clear hb)
 (try clear hb2)
 (try clear hk)
 (try clear hi)
 refine hK.out _ _ ⟨(blk_cell BK319.out 0).trans rfl, (blk_cell BK319.out 1).trans rfl, (blk_cell BK319.out 2).trans rfl, (blk_cell BK288.out 0).trans rfl, (blk_cell BK288.out 1).trans rfl, (blk_cell BK288.out 2).trans rfl⟩ (fun hHeld => ?_)
 clear hK K
 refine norm_ (a' := ?_) ?_ ?_
 rotate_left
 {
 show Act.put _ (some 48) _ = _
 simp only [Act.put, List.setIfInBounds_toArray, List.set_cons_zero, List.set_cons_succ, i64_w, i32_w]
 rfl}
 refine pure_ (i := 4) (N := some 49) (v := ?_) (a' := ?_) #[T,T,T,T,T] rfl rfl s2_ (fun _ _ _ h => h) (Or.inl ⟨by rfl, ?_⟩) ?_ ?_
 rotate_left
 {
 intro w'
 go_simp
 with_reducible rfl}
 rotate_left
 · exact p1_
 refine done_ s2_ ?_
 have hnb76 := NB319_288.out
 have hnc76 := NB288_319.out
 have hnb77 := NB319_309.out
 have hnc77 := NB309_319.out
 have hnb78 := NB319_330.out
 have hnc78 := NB330_319.out
 have hcz79_0 : w75.cell? ⟨gb319, 0, none⟩ = some (.slice Ao31 t310.length co31) := (blk_cell BK319.out 0).trans rfl
 have hcz79_1 : w75.cell? ⟨gb319, 1, none⟩ = some (.slice Ao35 t313.length co35) := (blk_cell BK319.out 1).trans rfl
 have hcz79_2 : w75.cell? ⟨gb319, 2, none⟩ = some (.slice Ao36 t316.length co36) := (blk_cell BK319.out 2).trans rfl
 have hfz79_0 := blk_frozen BK319.out 0
 have hfz79_1 := blk_frozen BK319.out 1
 have hfz79_2 := blk_frozen BK319.out 2
 go_upto_region 14 with (first | ((with_reducible refine gate_callee (f := 28) rfl ?_); refine goesL_ (some 52) rfl rfl Try.func28 s2_ rfl #[.agg #[.slice Ao31 t310.length co31, .slice Ao35 t313.length co35, .slice Ao36 t316.length co36], .int .i64 1] rfl s3_ ?_; (with_reducible refine (laws_markPresence.calls kj11 (fun k_ => some k_ = (.slice Ao31 t310.length co31 : Value).ownBlock) (.slice Ao31 t310.length co31) t310 (fun k_ => some k_ = (.slice Ao35 t313.length co35 : Value).ownBlock) (.slice Ao35 t313.length co35) t313 (fun k_ => some k_ = (.slice Ao36 t316.length co36 : Value).ownBlock) (.slice Ao36 t316.length co36) t316 1 t342 t343 t344 t345 w _ ?side1 ?side2 ?side3 ?side4 ?side5 ?side6 A68.out).mono ?_); (case side1 => repeat (first | (with_reducible first | exact HB.out | apply below_alloc | apply pw_below_drewN | apply below_drew1) | exact HB.out)); (case side2 => exact Kd.R_tight rfl HO_320000.out); (case side3 => exact fun k_ e_ => (HO_320000.out.1 k_ e_.symm).1.1.2.2.1); (case side4 => exact Kd.R_tight rfl HO_320001.out); (case side5 => exact fun k_ e_ => (HO_320001.out.1 k_ e_.symm).1.1.2.2.1); (case side6 => exact Kd.R_tight rfl HO_320002.out); rintro e w80 ⟨rfl, hy0, hy1, hy2, hb, hkp⟩; refine ⟨_, rfl, ?_⟩; have n0_ := Aside0.mk (Kd.R_mono (ok' := fun k_ => some k_ ≠ (.slice Ao26 t302.length co26 : Value).ownBlock ∧ some k_ ≠ (.slice Ao31 t310.length co31 : Value).ownBlock ∧ some k_ ≠ (.slice Ao35 t313.length co35 : Value).ownBlock ∧ some k_ ≠ (.slice Ao39 t320.length co39 : Value).ownBlock ∧ some k_ ≠ (.slice Ao44 t323.length co44 : Value).ownBlock ∧ some k_ ≠ (.slice Ao72 t332.length co72 : Value).ownBlock ∧ some k_ ≠ (.slice Ao73 t335.length co73 : Value).ownBlock) (Kd.R_keptB ((Kd.R_apart' HO_310000.out (Kd.R_typed HO_320002.out) (by decide))) hkp (fun k_ hk_ hs_ => Or.elim hs_ (fun e_ => (hk_.1.1.1.2.1) e_) (fun e_ => Or.elim e_ (fun e_ => (hk_.1.1.1.2.2.1) e_) (fun e_ => (hk_.2) e_)))) (fun k_ hk_ => ⟨hk_.1.1.1.1.1, hk_.1.1.1.1.2.1, hk_.1.1.1.1.2.2.1, hk_.1.1.1.1.2.2.2.1, hk_.1.1.1.1.2.2.2.2, hk_.1.1.1.2, hk_.1.1.2⟩)); have n1_ := Aside0.mk (Kd.R_mono (ok' := fun k_ => some k_ ≠ (.slice Ao23 t299.length co23 : Value).ownBlock ∧ some k_ ≠ (.slice Ao31 t310.length co31 : Value).ownBlock ∧ some k_ ≠ (.slice Ao35 t313.length co35 : Value).ownBlock ∧ some k_ ≠ (.slice Ao39 t320.length co39 : Value).ownBlock ∧ some k_ ≠ (.slice Ao44 t323.length co44 : Value).ownBlock ∧ some k_ ≠ (.slice Ao72 t332.length co72 : Value).ownBlock ∧ some k_ ≠ (.slice Ao73 t335.length co73 : Value).ownBlock) (Kd.R_keptB ((Kd.R_apart' HO_310001.out (Kd.R_typed HO_320002.out) (by decide))) hkp (fun k_ hk_ hs_ => Or.elim hs_ (fun e_ => (hk_.1.1.1.2.1) e_) (fun e_ => Or.elim e_ (fun e_ => (hk_.1.1.1.2.2.1) e_) (fun e_ => (hk_.2) e_)))) (fun k_ hk_ => ⟨hk_.1.1.1.1.1, hk_.1.1.1.1.2.1, hk_.1.1.1.1.2.2.1, hk_.1.1.1.1.2.2.2.1, hk_.1.1.1.1.2.2.2.2, hk_.1.1.1.2, hk_.1.1.2⟩)); have n2_ := Aside0.mk (Kd.R_mono (ok' := fun k_ => some k_ ≠ (.slice Ao36 t316.length co36 : Value).ownBlock ∧ some k_ ≠ (.slice Ao45 t326.length co45 : Value).ownBlock ∧ some k_ ≠ (.slice Ao74 t338.length co74 : Value).ownBlock) (Kd.R_keptB ((Kd.R_apart' (Kd.R_apart' HO_310002.out (Kd.R_typed HO_320000.out) (by decide)) (Kd.R_typed HO_320001.out) (by decide))) hkp (fun k_ hk_ hs_ => Or.elim hs_ (fun e_ => (hk_.1.2) e_) (fun e_ => Or.elim e_ (fun e_ => (hk_.2) e_) (fun e_ => (hk_.1.1.1.1) e_)))) (fun k_ hk_ => ⟨hk_.1.1.1.1.1, hk_.1.1.1.1.2, hk_.1.1.1.2⟩)); have n3_ := Aside0.mk (Kd.R_reok rfl hy0 (fun k_ e_ => HO_320000.out.1 k_ e_)); have n4_ := Aside0.mk (Kd.R_reok rfl hy1 (fun k_ e_ => HO_320001.out.1 k_ e_)); have n5_ := Aside0.mk (Kd.R_reok rfl hy2 (fun k_ e_ => HO_320002.out.1 k_ e_)); have n6_ := Aside0.mk (Kd.R_mono (ok' := fun k_ => some k_ ≠ (.slice Ao23 t299.length co23 : Value).ownBlock ∧ some k_ ≠ (.slice Ao26 t302.length co26 : Value).ownBlock ∧ some k_ ≠ (.slice Ao31 t310.length co31 : Value).ownBlock ∧ some k_ ≠ (.slice Ao35 t313.length co35 : Value).ownBlock ∧ some k_ ≠ (.slice Ao44 t323.length co44 : Value).ownBlock ∧ some k_ ≠ (.slice Ao72 t332.length co72 : Value).ownBlock ∧ some k_ ≠ (.slice Ao73 t335.length co73 : Value).ownBlock) (Kd.R_keptB ((Kd.R_apart' HO_331000.out (Kd.R_typed HO_320002.out) (by decide))) hkp (fun k_ hk_ hs_ => Or.elim hs_ (fun e_ => (hk_.1.1.1.2.2.1) e_) (fun e_ => Or.elim e_ (fun e_ => (hk_.1.1.1.2.2.2.1) e_) (fun e_ => (hk_.2) e_)))) (fun k_ hk_ => ⟨hk_.1.1.1.1.1, hk_.1.1.1.1.2.1, hk_.1.1.1.1.2.2.1, hk_.1.1.1.1.2.2.2.1, hk_.1.1.1.1.2.2.2.2, hk_.1.1.1.2, hk_.1.1.2⟩)); have n7_ := Aside0.mk (Kd.R_mono (ok' := fun k_ => some k_ ≠ (.slice Ao23 t299.length co23 : Value).ownBlock ∧ some k_ ≠ (.slice Ao26 t302.length co26 : Value).ownBlock ∧ some k_ ≠ (.slice Ao31 t310.length co31 : Value).ownBlock ∧ some k_ ≠ (.slice Ao35 t313.length co35 : Value).ownBlock ∧ some k_ ≠ (.slice Ao39 t320.length co39 : Value).ownBlock ∧ some k_ ≠ (.slice Ao72 t332.length co72 : Value).ownBlock ∧ some k_ ≠ (.slice Ao73 t335.length co73 : Value).ownBlock) (Kd.R_keptB ((Kd.R_apart' HO_331001.out (Kd.R_typed HO_320002.out) (by decide))) hkp (fun k_ hk_ hs_ => Or.elim hs_ (fun e_ => (hk_.1.1.1.2.2.1) e_) (fun e_ => Or.elim e_ (fun e_ => (hk_.1.1.1.2.2.2.1) e_) (fun e_ => (hk_.2) e_)))) (fun k_ hk_ => ⟨hk_.1.1.1.1.1, hk_.1.1.1.1.2.1, hk_.1.1.1.1.2.2.1, hk_.1.1.1.1.2.2.2.1, hk_.1.1.1.1.2.2.2.2, hk_.1.1.1.2, hk_.1.1.2⟩)); have n8_ := Aside0.mk (Kd.R_mono (ok' := fun k_ => some k_ ≠ (.slice Ao27 t305.length co27 : Value).ownBlock ∧ some k_ ≠ (.slice Ao36 t316.length co36 : Value).ownBlock ∧ some k_ ≠ (.slice Ao74 t338.length co74 : Value).ownBlock) (Kd.R_keptB ((Kd.R_apart' (Kd.R_apart' HO_331002.out (Kd.R_typed HO_320000.out) (by decide)) (Kd.R_typed HO_320001.out) (by decide))) hkp (fun k_ hk_ hs_ => Or.elim hs_ (fun e_ => (hk_.1.2) e_) (fun e_ => Or.elim e_ (fun e_ => (hk_.2) e_) (fun e_ => (hk_.1.1.1.2) e_)))) (fun k_ hk_ => ⟨hk_.1.1.1.1.1, hk_.1.1.1.1.2, hk_.1.1.1.2⟩)); have n9_ := Aside0.mk (blk_kept (b1_ BK288.out) hkp (fun hs_ => Or.elim hs_ (fun e_ => (fun e_ => (Kd.R_ne HO_320000.out BK288.out (by decide)) e_) e_) (fun e_ => Or.elim e_ (fun e_ => (fun e_ => (Kd.R_ne HO_320001.out BK288.out (by decide)) e_) e_) (fun e_ => (fun e_ => (Kd.R_ne HO_320002.out BK288.out (by decide)) e_) e_)))); have n10_ := Aside0.mk (blk_kept (b1_ BK309.out) hkp (fun hs_ => Or.elim hs_ (fun e_ => (fun e_ => (Kd.R_ne HO_320000.out BK309.out (by decide)) e_) e_) (fun e_ => Or.elim e_ (fun e_ => (fun e_ => (Kd.R_ne HO_320001.out BK309.out (by decide)) e_) e_) (fun e_ => (fun e_ => (Kd.R_ne HO_320002.out BK309.out (by decide)) e_) e_)))); have n11_ := Aside0.mk (blk_kept (b1_ BK319.out) hkp (fun hs_ => Or.elim hs_ (fun e_ => (fun e_ => (Kd.R_ne HO_320000.out BK319.out (by decide)) e_) e_) (fun e_ => Or.elim e_ (fun e_ => (fun e_ => (Kd.R_ne HO_320001.out BK319.out (by decide)) e_) e_) (fun e_ => (fun e_ => (Kd.R_ne HO_320002.out BK319.out (by decide)) e_) e_)))); have n12_ := Aside0.mk (blk_kept (b1_ BK330.out) hkp (fun hs_ => Or.elim hs_ (fun e_ => (fun e_ => (Kd.R_ne HO_320000.out BK330.out (by decide)) e_) e_) (fun e_ => Or.elim e_ (fun e_ => (fun e_ => (Kd.R_ne HO_320001.out BK330.out (by decide)) e_) e_) (fun e_ => (fun e_ => (Kd.R_ne HO_320002.out BK330.out (by decide)) e_) e_)))); have n13_ := Aside0.mk (Kd.R_mono (ok' := fun k_ => some k_ ≠ (.slice Ao23 t299.length co23 : Value).ownBlock ∧ some k_ ≠ (.slice Ao26 t302.length co26 : Value).ownBlock ∧ some k_ ≠ (.slice Ao31 t310.length co31 : Value).ownBlock ∧ some k_ ≠ (.slice Ao35 t313.length co35 : Value).ownBlock ∧ some k_ ≠ (.slice Ao39 t320.length co39 : Value).ownBlock ∧ some k_ ≠ (.slice Ao44 t323.length co44 : Value).ownBlock ∧ some k_ ≠ (.slice Ao73 t335.length co73 : Value).ownBlock) (Kd.R_keptB ((Kd.R_apart' HO334.out (Kd.R_typed HO_320002.out) (by decide))) hkp (fun k_ hk_ hs_ => Or.elim hs_ (fun e_ => (hk_.1.1.1.1.2) e_) (fun e_ => Or.elim e_ (fun e_ => (hk_.1.1.1.2) e_) (fun e_ => (hk_.2) e_)))) (fun k_ hk_ => ⟨hk_.1.1.1.1.1.1.1.2, hk_.1.1.1.1.1.1.2, hk_.1.1.1.1.1.2, hk_.1.1.1.1.2, hk_.1.1.1.2, hk_.1.1.2, hk_.1.1.1.1.1.1.1.1⟩)); have n14_ := Aside0.mk (Kd.R_mono (ok' := fun k_ => some k_ ≠ (.slice Ao23 t299.length co23 : Value).ownBlock ∧ some k_ ≠ (.slice Ao26 t302.length co26 : Value).ownBlock ∧ some k_ ≠ (.slice Ao31 t310.length co31 : Value).ownBlock ∧ some k_ ≠ (.slice Ao35 t313.length co35 : Value).ownBlock ∧ some k_ ≠ (.slice Ao39 t320.length co39 : Value).ownBlock ∧ some k_ ≠ (.slice Ao44 t323.length co44 : Value).ownBlock ∧ some k_ ≠ (.slice Ao72 t332.length co72 : Value).ownBlock) (Kd.R_keptB ((Kd.R_apart' HO337.out (Kd.R_typed HO_320002.out) (by decide))) hkp (fun k_ hk_ hs_ => Or.elim hs_ (fun e_ => (hk_.1.1.1.1.2) e_) (fun e_ => Or.elim e_ (fun e_ => (hk_.1.1.1.2) e_) (fun e_ => (hk_.2) e_)))) (fun k_ hk_ => ⟨hk_.1.1.1.1.1.1.1.2, hk_.1.1.1.1.1.1.2, hk_.1.1.1.1.1.2, hk_.1.1.1.1.2, hk_.1.1.1.2, hk_.1.1.2, hk_.1.1.1.1.1.1.1.1⟩)); have n15_ := Aside0.mk (Kd.R_mono (ok' := fun k_ => some k_ ≠ (.slice Ao27 t305.length co27 : Value).ownBlock ∧ some k_ ≠ (.slice Ao36 t316.length co36 : Value).ownBlock ∧ some k_ ≠ (.slice Ao45 t326.length co45 : Value).ownBlock) (Kd.R_keptB ((Kd.R_apart' (Kd.R_apart' HO340.out (Kd.R_typed HO_320000.out) (by decide)) (Kd.R_typed HO_320001.out) (by decide))) hkp (fun k_ hk_ hs_ => Or.elim hs_ (fun e_ => (hk_.1.2) e_) (fun e_ => Or.elim e_ (fun e_ => (hk_.2) e_) (fun e_ => (hk_.1.1.1.2) e_)))) (fun k_ hk_ => ⟨hk_.1.1.1.1.1.2, hk_.1.1.1.1.2, hk_.1.1.1.2⟩)); have n16_ := Aside0.mk (hb); clear HO_310000; clear HO_310001; clear HO_310002; clear HO_320000; clear HO_320001; clear HO_320002; clear HO_331000; clear HO_331001; clear HO_331002; clear BK288; clear BK309; clear BK319; clear BK330; clear HO334; clear HO337; clear HO340; clear HB; have HO_310000 := n0_; have HO_310001 := n1_; have HO_310002 := n2_; have HO_320000 := n3_; have HO_320001 := n4_; have HO_320002 := n5_; have HO_331000 := n6_; have HO_331001 := n7_; have HO_331002 := n8_; have BK288 := n9_; have BK309 := n10_; have BK319 := n11_; have BK330 := n12_; have HO334 := n13_; have HO337 := n14_; have HO340 := n15_; have HB := n16_; clear n0_ n1_ n2_ n3_ n4_ n5_ n6_ n7_ n8_ n9_ n10_ n11_ n12_ n13_ n14_ n15_ n16_; (try clear hb); (try clear hkp); (try clear hy0); (try clear hy1); (try clear hy2)))
 (try simp only [Act.put, List.setIfInBounds_toArray, List.set_cons_zero, List.set_cons_succ])
 go_cut [65] (fun v65 wc => ∃ (kq : Nat) (x65_68 : Bool), v65 = .bool x65_68 ∧ Aside0 (laws_FnExactLeaveNow.j1 kq a1 t308 x65_68 l0_0 l0_1 l0_2 t299 t302 t305 t320 t323 t326 = some r) ∧ Aside0 (kq ≤ kj11) ∧ Aside0 (Kd.R k63 63 wc w.heap.size (fun k_ => some k_ ≠ ((.slice Ao26 t302.length co26) : Value).ownBlock ∧ some k_ ≠ ((.slice Ao31 t310.length co31) : Value).ownBlock ∧ some k_ ≠ ((.slice Ao35 t313.length co35) : Value).ownBlock ∧ some k_ ≠ ((.slice Ao39 t320.length co39) : Value).ownBlock ∧ some k_ ≠ ((.slice Ao44 t323.length co44) : Value).ownBlock) (.slice Ao23 t299.length co23) t299) ∧ Aside0 (Kd.R k63 63 wc w.heap.size (fun k_ => some k_ ≠ ((.slice Ao23 t299.length co23) : Value).ownBlock ∧ some k_ ≠ ((.slice Ao31 t310.length co31) : Value).ownBlock ∧ some k_ ≠ ((.slice Ao35 t313.length co35) : Value).ownBlock ∧ some k_ ≠ ((.slice Ao39 t320.length co39) : Value).ownBlock ∧ some k_ ≠ ((.slice Ao44 t323.length co44) : Value).ownBlock) (.slice Ao26 t302.length co26) t302) ∧ Aside0 (Kd.R k73 73 wc w.heap.size (fun k_ => some k_ ≠ ((.slice Ao36 t316.length co36) : Value).ownBlock ∧ some k_ ≠ ((.slice Ao45 t326.length co45) : Value).ownBlock) (.slice Ao27 t305.length co27) t305) ∧ Aside0 (Kd.R k63 63 wc w.heap.size (fun k_ => some k_ ≠ ((.slice Ao23 t299.length co23) : Value).ownBlock ∧ some k_ ≠ ((.slice Ao26 t302.length co26) : Value).ownBlock ∧ some k_ ≠ ((.slice Ao35 t313.length co35) : Value).ownBlock ∧ some k_ ≠ ((.slice Ao39 t320.length co39) : Value).ownBlock ∧ some k_ ≠ ((.slice Ao44 t323.length co44) : Value).ownBlock) (.slice Ao31 t310.length co31) t343) ∧ Aside0 (Kd.R k63 63 wc w.heap.size (fun k_ => some k_ ≠ ((.slice Ao23 t299.length co23) : Value).ownBlock ∧ some k_ ≠ ((.slice Ao26 t302.length co26) : Value).ownBlock ∧ some k_ ≠ ((.slice Ao31 t310.length co31) : Value).ownBlock ∧ some k_ ≠ ((.slice Ao39 t320.length co39) : Value).ownBlock ∧ some k_ ≠ ((.slice Ao44 t323.length co44) : Value).ownBlock) (.slice Ao35 t313.length co35) t344) ∧ Aside0 (Kd.R k73 73 wc w.heap.size (fun k_ => some k_ ≠ ((.slice Ao27 t305.length co27) : Value).ownBlock ∧ some k_ ≠ ((.slice Ao45 t326.length co45) : Value).ownBlock) (.slice Ao36 t316.length co36) t345) ∧ Aside0 (Kd.R k63 63 wc w.heap.size (fun k_ => some k_ ≠ ((.slice Ao23 t299.length co23) : Value).ownBlock ∧ some k_ ≠ ((.slice Ao26 t302.length co26) : Value).ownBlock ∧ some k_ ≠ ((.slice Ao31 t310.length co31) : Value).ownBlock ∧ some k_ ≠ ((.slice Ao35 t313.length co35) : Value).ownBlock ∧ some k_ ≠ ((.slice Ao44 t323.length co44) : Value).ownBlock) (.slice Ao39 t320.length co39) t320) ∧ Aside0 (Kd.R k63 63 wc w.heap.size (fun k_ => some k_ ≠ ((.slice Ao23 t299.length co23) : Value).ownBlock ∧ some k_ ≠ ((.slice Ao26 t302.length co26) : Value).ownBlock ∧ some k_ ≠ ((.slice Ao31 t310.length co31) : Value).ownBlock ∧ some k_ ≠ ((.slice Ao35 t313.length co35) : Value).ownBlock ∧ some k_ ≠ ((.slice Ao39 t320.length co39) : Value).ownBlock) (.slice Ao44 t323.length co44) t323) ∧ Aside0 (Kd.R k73 73 wc w.heap.size (fun k_ => some k_ ≠ ((.slice Ao27 t305.length co27) : Value).ownBlock ∧ some k_ ≠ ((.slice Ao36 t316.length co36) : Value).ownBlock) (.slice Ao45 t326.length co45) t326) ∧ Aside0 (wc.heap[gb288]? = some (.cells #[(.slice A0_0 l0_0.length c0_0), (.slice A0_1 l0_1.length c0_1), (.slice A0_2 l0_2.length c0_2)] 45 (0, 0))) ∧ Aside0 (wc.heap[gb309]? = some (.cells #[(.slice Ao23 t299.length co23), (.slice Ao26 t302.length co26), (.slice Ao27 t305.length co27)] 27 (0, 0))) ∧ Aside0 (wc.heap[gb319]? = some (.cells #[(.slice Ao31 t310.length co31), (.slice Ao35 t313.length co35), (.slice Ao36 t316.length co36)] 27 (0, 0))) ∧ Aside0 (wc.heap[gb330]? = some (.cells #[(.slice Ao39 t320.length co39), (.slice Ao44 t323.length co44), (.slice Ao45 t326.length co45)] 27 (0, 0))) ∧ Aside0 (Below w.heap.size w wc))
 case first =>
  as_aux_lemma =>
   skip
   {
 have H := HC69.out
 clear HC69
 by_cases c81 : t342 < 0
 {
 rw [if_pos c81] at H
 have c81b0 : decide (t342 < 0) = true := decide_eq_true c81
 clear c81
 (first | rw [c81b0] | (simp only [i64_w, i32_w]; rw [c81b0]) | skip)
 have H' := Aside0.mk H
 clear H
 go_wp2
 go_meet
 case rel => exact ⟨_, (true), s1_, H', ⟨by have := HJ11.out; first | omega | exact Nat.le_refl _⟩, ⟨by (with_reducible repeat (first | apply Kd.R_alloc | apply Kd.R_drewN | apply Kd.R_drew)); exact Kd.R_mono HO_310000.out (fun _ hk => ⟨hk.1, ⟨hk.2.1, ⟨hk.2.2.1, ⟨hk.2.2.2.1, hk.2.2.2.2.1⟩⟩⟩⟩)⟩, ⟨by (with_reducible repeat (first | apply Kd.R_alloc | apply Kd.R_drewN | apply Kd.R_drew)); exact Kd.R_mono HO_310001.out (fun _ hk => ⟨hk.1, ⟨hk.2.1, ⟨hk.2.2.1, ⟨hk.2.2.2.1, hk.2.2.2.2.1⟩⟩⟩⟩)⟩, ⟨by (with_reducible repeat (first | apply Kd.R_alloc | apply Kd.R_drewN | apply Kd.R_drew)); exact Kd.R_mono HO_310002.out (fun _ hk => ⟨hk.1, hk.2.1⟩)⟩, ⟨by (with_reducible repeat (first | apply Kd.R_alloc | apply Kd.R_drewN | apply Kd.R_drew)); exact Kd.R_mono HO_320000.out (fun _ hk => ⟨hk.1.1.1, ⟨hk.1.1.2.1, ⟨hk.1.1.2.2.1, ⟨hk.1.1.2.2.2.1, hk.1.1.2.2.2.2⟩⟩⟩⟩)⟩, ⟨by (with_reducible repeat (first | apply Kd.R_alloc | apply Kd.R_drewN | apply Kd.R_drew)); exact Kd.R_mono HO_320001.out (fun _ hk => ⟨hk.1.1.1, ⟨hk.1.1.2.1, ⟨hk.1.1.2.2.1, ⟨hk.1.1.2.2.2.1, hk.1.1.2.2.2.2⟩⟩⟩⟩)⟩, ⟨by (with_reducible repeat (first | apply Kd.R_alloc | apply Kd.R_drewN | apply Kd.R_drew)); exact Kd.R_mono HO_320002.out (fun _ hk => ⟨hk.1.1, hk.1.2⟩)⟩, ⟨by (with_reducible repeat (first | apply Kd.R_alloc | apply Kd.R_drewN | apply Kd.R_drew)); exact Kd.R_mono HO_331000.out (fun _ hk => ⟨hk.1, ⟨hk.2.1, ⟨hk.2.2.1, ⟨hk.2.2.2.1, hk.2.2.2.2.1⟩⟩⟩⟩)⟩, ⟨by (with_reducible repeat (first | apply Kd.R_alloc | apply Kd.R_drewN | apply Kd.R_drew)); exact Kd.R_mono HO_331001.out (fun _ hk => ⟨hk.1, ⟨hk.2.1, ⟨hk.2.2.1, ⟨hk.2.2.2.1, hk.2.2.2.2.1⟩⟩⟩⟩)⟩, ⟨by (with_reducible repeat (first | apply Kd.R_alloc | apply Kd.R_drewN | apply Kd.R_drew)); exact Kd.R_mono HO_331002.out (fun _ hk => ⟨hk.1, hk.2.1⟩)⟩, ⟨b1_ BK288.out⟩, ⟨b1_ BK309.out⟩, ⟨b1_ BK319.out⟩, ⟨b1_ BK330.out⟩, ⟨by repeat (first | (with_reducible first | exact HB.out | apply below_alloc | apply pw_below_drewN | apply below_drew1) | exact HB.out)⟩⟩}
 {
 rw [if_neg c81] at H
 have c81b0 : decide (t342 < 0) = false := decide_eq_false c81
 clear c81
 (first | rw [c81b0] | (simp only [i64_w, i32_w]; rw [c81b0]) | skip)
 replace H := Option.bind_eq_some_iff.mp H
 obtain ⟨t346, A820, H⟩ := H
 replace H : (if t346 = true then (laws_FnExactLeaveNow.j1 kj11 a1 t308 (t329 != t308) l0_0 l0_1 l0_2 t299 t302 t305 t320 t323 t326) else (laws_FnExactLeaveNow.j1 kj11 a1 t308 true l0_0 l0_1 l0_2 t299 t302 t305 t320 t323 t326)) = some r := H
 have A82 := Aside0.mk A820
 clear A820
 by_cases c83 : t346 = true
 {
 subst c83
 have H1 : (laws_FnExactLeaveNow.j1 kj11 a1 t308 (t329 != t308) l0_0 l0_1 l0_2 t299 t302 t305 t320 t323 t326) = some r := by rw [if_pos rfl] at H; exact H
 clear H
 have H := H1
 clear H1
 have H' := Aside0.mk H
 clear H
 have hnb84 := NB330_288.out
 have hnc84 := NB288_330.out
 have hnb85 := NB330_309.out
 have hnc85 := NB309_330.out
 have hnb86 := NB330_319.out
 have hnc86 := NB319_330.out
 have hcz87_0 : w80.cell? ⟨gb330, 0, none⟩ = some (.slice Ao39 t320.length co39) := (blk_cell BK330.out 0).trans rfl
 have hcz87_1 : w80.cell? ⟨gb330, 1, none⟩ = some (.slice Ao44 t323.length co44) := (blk_cell BK330.out 1).trans rfl
 have hcz87_2 : w80.cell? ⟨gb330, 2, none⟩ = some (.slice Ao45 t326.length co45) := (blk_cell BK330.out 2).trans rfl
 have hfz87_0 := blk_frozen BK330.out 0
 have hfz87_1 := blk_frozen BK330.out 1
 have hfz87_2 := blk_frozen BK330.out 2
 have hnb88 := NB309_288.out
 have hnc88 := NB288_309.out
 have hnb89 := NB309_319.out
 have hnc89 := NB319_309.out
 have hcz90_0 : w80.cell? ⟨gb309, 0, none⟩ = some (.slice Ao23 t299.length co23) := (blk_cell BK309.out 0).trans rfl
 have hcz90_1 : w80.cell? ⟨gb309, 1, none⟩ = some (.slice Ao26 t302.length co26) := (blk_cell BK309.out 1).trans rfl
 have hcz90_2 : w80.cell? ⟨gb309, 2, none⟩ = some (.slice Ao27 t305.length co27) := (blk_cell BK309.out 2).trans rfl
 have hfz90_0 := blk_frozen BK309.out 0
 have hfz90_1 := blk_frozen BK309.out 1
 have hfz90_2 := blk_frozen BK309.out 2
 go_wp2_with (first | (go_at_call 27; (with_reducible refine (laws_eqPresence.calls kj11 _ _ t320 _ _ t323 _ _ t326 _ _ t299 _ _ t302 _ _ t305 true _ ?side1 ?side2 ?side3 ?side4 ?side5 ?side6 ?side7 ?side8 ?side9 ?side10 ?side11 ?side12 A82.out).mono ?_); (case side1 => exact y2_ (Kd.R_reads' HO_331000.out).2.2); (case side2 => exact (Kd.R_reads' HO_331000.out).2.1); (case side3 => exact y2_ (Kd.R_reads' HO_331001.out).2.2); (case side4 => exact (Kd.R_reads' HO_331001.out).2.1); (case side5 => exact y2_ (Kd.R_reads' HO_331002.out).2.2); (case side6 => exact (Kd.R_reads' HO_331002.out).2.1); (case side7 => exact y2_ (Kd.R_reads' HO_310000.out).2.2); (case side8 => exact (Kd.R_reads' HO_310000.out).2.1); (case side9 => exact y2_ (Kd.R_reads' HO_310001.out).2.2); (case side10 => exact (Kd.R_reads' HO_310001.out).2.1); (case side11 => exact y2_ (Kd.R_reads' HO_310002.out).2.2); (case side12 => exact (Kd.R_reads' HO_310002.out).2.1); rintro e w91 ⟨rfl, hb⟩; have n0_ := Aside0.mk (Kd.R_below (b2_ HO_310000.out) hb); have n1_ := Aside0.mk (Kd.R_below (b2_ HO_310001.out) hb); have n2_ := Aside0.mk (Kd.R_below (b2_ HO_310002.out) hb); have n3_ := Aside0.mk (Kd.R_below (b2_ HO_320000.out) hb); have n4_ := Aside0.mk (Kd.R_below (b2_ HO_320001.out) hb); have n5_ := Aside0.mk (Kd.R_below (b2_ HO_320002.out) hb); have n6_ := Aside0.mk (Kd.R_below (b2_ HO_331000.out) hb); have n7_ := Aside0.mk (Kd.R_below (b2_ HO_331001.out) hb); have n8_ := Aside0.mk (Kd.R_below (b2_ HO_331002.out) hb); have n9_ := Aside0.mk (Kd.R_below (b2_ HO334.out) hb); have n10_ := Aside0.mk (Kd.R_below (b2_ HO337.out) hb); have n11_ := Aside0.mk (Kd.R_below (b2_ HO340.out) hb); have n12_ := Aside0.mk (blk_below (g := gb288) (o := .cells #[.slice A0_0 l0_0.length c0_0, .slice A0_1 l0_1.length c0_1, .slice A0_2 l0_2.length c0_2] 45 (0, 0)) (b1_ BK288.out) hb); have n13_ := Aside0.mk (blk_below (g := gb309) (o := .cells #[.slice Ao23 t299.length co23, .slice Ao26 t302.length co26, .slice Ao27 t305.length co27] 27 (0, 0)) (b1_ BK309.out) hb); have n14_ := Aside0.mk (blk_below (g := gb319) (o := .cells #[.slice Ao31 t310.length co31, .slice Ao35 t313.length co35, .slice Ao36 t316.length co36] 27 (0, 0)) (b1_ BK319.out) hb); have n15_ := Aside0.mk (blk_below (g := gb330) (o := .cells #[.slice Ao39 t320.length co39, .slice Ao44 t323.length co44, .slice Ao45 t326.length co45] 27 (0, 0)) (b1_ BK330.out) hb); have n16_ := Aside0.mk (below_step (y1_ HB.out) hb); clear HO_310000; clear HO_310001; clear HO_310002; clear HO_320000; clear HO_320001; clear HO_320002; clear HO_331000; clear HO_331001; clear HO_331002; clear HO334; clear HO337; clear HO340; clear BK288; clear BK309; clear BK319; clear BK330; clear HB; have HO_310000 := n0_; have HO_310001 := n1_; have HO_310002 := n2_; have HO_320000 := n3_; have HO_320001 := n4_; have HO_320002 := n5_; have HO_331000 := n6_; have HO_331001 := n7_; have HO_331002 := n8_; have HO334 := n9_; have HO337 := n10_; have HO340 := n11_; have BK288 := n12_; have BK309 := n13_; have BK319 := n14_; have BK330 := n15_; have HB := n16_; clear n0_ n1_ n2_ n3_ n4_ n5_ n6_ n7_ n8_ n9_ n10_ n11_ n12_ n13_ n14_ n15_ n16_; (try clear hb); (try clear hb2); (try clear hk); (try clear hi)))
 go_meet
 case rel => exact ⟨_, ((t329 != t308)), s1_, H', ⟨by have := HJ11.out; first | omega | exact Nat.le_refl _⟩, ⟨by (with_reducible repeat (first | apply Kd.R_alloc | apply Kd.R_drewN | apply Kd.R_drew)); exact Kd.R_mono HO_310000.out (fun _ hk => ⟨hk.1, ⟨hk.2.1, ⟨hk.2.2.1, ⟨hk.2.2.2.1, hk.2.2.2.2.1⟩⟩⟩⟩)⟩, ⟨by (with_reducible repeat (first | apply Kd.R_alloc | apply Kd.R_drewN | apply Kd.R_drew)); exact Kd.R_mono HO_310001.out (fun _ hk => ⟨hk.1, ⟨hk.2.1, ⟨hk.2.2.1, ⟨hk.2.2.2.1, hk.2.2.2.2.1⟩⟩⟩⟩)⟩, ⟨by (with_reducible repeat (first | apply Kd.R_alloc | apply Kd.R_drewN | apply Kd.R_drew)); exact Kd.R_mono HO_310002.out (fun _ hk => ⟨hk.1, hk.2.1⟩)⟩, ⟨by (with_reducible repeat (first | apply Kd.R_alloc | apply Kd.R_drewN | apply Kd.R_drew)); exact Kd.R_mono HO_320000.out (fun _ hk => ⟨hk.1.1.1, ⟨hk.1.1.2.1, ⟨hk.1.1.2.2.1, ⟨hk.1.1.2.2.2.1, hk.1.1.2.2.2.2⟩⟩⟩⟩)⟩, ⟨by (with_reducible repeat (first | apply Kd.R_alloc | apply Kd.R_drewN | apply Kd.R_drew)); exact Kd.R_mono HO_320001.out (fun _ hk => ⟨hk.1.1.1, ⟨hk.1.1.2.1, ⟨hk.1.1.2.2.1, ⟨hk.1.1.2.2.2.1, hk.1.1.2.2.2.2⟩⟩⟩⟩)⟩, ⟨by (with_reducible repeat (first | apply Kd.R_alloc | apply Kd.R_drewN | apply Kd.R_drew)); exact Kd.R_mono HO_320002.out (fun _ hk => ⟨hk.1.1, hk.1.2⟩)⟩, ⟨by (with_reducible repeat (first | apply Kd.R_alloc | apply Kd.R_drewN | apply Kd.R_drew)); exact Kd.R_mono HO_331000.out (fun _ hk => ⟨hk.1, ⟨hk.2.1, ⟨hk.2.2.1, ⟨hk.2.2.2.1, hk.2.2.2.2.1⟩⟩⟩⟩)⟩, ⟨by (with_reducible repeat (first | apply Kd.R_alloc | apply Kd.R_drewN | apply Kd.R_drew)); exact Kd.R_mono HO_331001.out (fun _ hk => ⟨hk.1, ⟨hk.2.1, ⟨hk.2.2.1, ⟨hk.2.2.2.1, hk.2.2.2.2.1⟩⟩⟩⟩)⟩, ⟨by (with_reducible repeat (first | apply Kd.R_alloc | apply Kd.R_drewN | apply Kd.R_drew)); exact Kd.R_mono HO_331002.out (fun _ hk => ⟨hk.1, hk.2.1⟩)⟩, ⟨b1_ BK288.out⟩, ⟨b1_ BK309.out⟩, ⟨b1_ BK319.out⟩, ⟨b1_ BK330.out⟩, ⟨by repeat (first | (with_reducible first | exact HB.out | apply below_alloc | apply pw_below_drewN | apply below_drew1) | exact HB.out)⟩⟩}
 {
 replace c83 := Bool.eq_false_iff.mpr c83
 subst c83
 have H1 : (laws_FnExactLeaveNow.j1 kj11 a1 t308 true l0_0 l0_1 l0_2 t299 t302 t305 t320 t323 t326) = some r := by rw [if_neg (show ¬ (false = true) by decide)] at H; exact H
 clear H
 have H := H1
 clear H1
 have H' := Aside0.mk H
 clear H
 have hnb92 := NB330_288.out
 have hnc92 := NB288_330.out
 have hnb93 := NB330_309.out
 have hnc93 := NB309_330.out
 have hnb94 := NB330_319.out
 have hnc94 := NB319_330.out
 have hcz95_0 : w80.cell? ⟨gb330, 0, none⟩ = some (.slice Ao39 t320.length co39) := (blk_cell BK330.out 0).trans rfl
 have hcz95_1 : w80.cell? ⟨gb330, 1, none⟩ = some (.slice Ao44 t323.length co44) := (blk_cell BK330.out 1).trans rfl
 have hcz95_2 : w80.cell? ⟨gb330, 2, none⟩ = some (.slice Ao45 t326.length co45) := (blk_cell BK330.out 2).trans rfl
 have hfz95_0 := blk_frozen BK330.out 0
 have hfz95_1 := blk_frozen BK330.out 1
 have hfz95_2 := blk_frozen BK330.out 2
 have hnb96 := NB309_288.out
 have hnc96 := NB288_309.out
 have hnb97 := NB309_319.out
 have hnc97 := NB319_309.out
 have hcz98_0 : w80.cell? ⟨gb309, 0, none⟩ = some (.slice Ao23 t299.length co23) := (blk_cell BK309.out 0).trans rfl
 have hcz98_1 : w80.cell? ⟨gb309, 1, none⟩ = some (.slice Ao26 t302.length co26) := (blk_cell BK309.out 1).trans rfl
 have hcz98_2 : w80.cell? ⟨gb309, 2, none⟩ = some (.slice Ao27 t305.length co27) := (blk_cell BK309.out 2).trans rfl
 have hfz98_0 := blk_frozen BK309.out 0
 have hfz98_1 := blk_frozen BK309.out 1
 have hfz98_2 := blk_frozen BK309.out 2
 go_wp2_with (first | (go_at_call 27; (with_reducible refine (laws_eqPresence.calls kj11 _ _ t320 _ _ t323 _ _ t326 _ _ t299 _ _ t302 _ _ t305 false _ ?side1 ?side2 ?side3 ?side4 ?side5 ?side6 ?side7 ?side8 ?side9 ?side10 ?side11 ?side12 A82.out).mono ?_); (case side1 => exact y2_ (Kd.R_reads' HO_331000.out).2.2); (case side2 => exact (Kd.R_reads' HO_331000.out).2.1); (case side3 => exact y2_ (Kd.R_reads' HO_331001.out).2.2); (case side4 => exact (Kd.R_reads' HO_331001.out).2.1); (case side5 => exact y2_ (Kd.R_reads' HO_331002.out).2.2); (case side6 => exact (Kd.R_reads' HO_331002.out).2.1); (case side7 => exact y2_ (Kd.R_reads' HO_310000.out).2.2); (case side8 => exact (Kd.R_reads' HO_310000.out).2.1); (case side9 => exact y2_ (Kd.R_reads' HO_310001.out).2.2); (case side10 => exact (Kd.R_reads' HO_310001.out).2.1); (case side11 => exact y2_ (Kd.R_reads' HO_310002.out).2.2); (case side12 => exact (Kd.R_reads' HO_310002.out).2.1); rintro e w99 ⟨rfl, hb⟩; have n0_ := Aside0.mk (Kd.R_below (b2_ HO_310000.out) hb); have n1_ := Aside0.mk (Kd.R_below (b2_ HO_310001.out) hb); have n2_ := Aside0.mk (Kd.R_below (b2_ HO_310002.out) hb); have n3_ := Aside0.mk (Kd.R_below (b2_ HO_320000.out) hb); have n4_ := Aside0.mk (Kd.R_below (b2_ HO_320001.out) hb); have n5_ := Aside0.mk (Kd.R_below (b2_ HO_320002.out) hb); have n6_ := Aside0.mk (Kd.R_below (b2_ HO_331000.out) hb); have n7_ := Aside0.mk (Kd.R_below (b2_ HO_331001.out) hb); have n8_ := Aside0.mk (Kd.R_below (b2_ HO_331002.out) hb); have n9_ := Aside0.mk (Kd.R_below (b2_ HO334.out) hb); have n10_ := Aside0.mk (Kd.R_below (b2_ HO337.out) hb); have n11_ := Aside0.mk (Kd.R_below (b2_ HO340.out) hb); have n12_ := Aside0.mk (blk_below (g := gb288) (o := .cells #[.slice A0_0 l0_0.length c0_0, .slice A0_1 l0_1.length c0_1, .slice A0_2 l0_2.length c0_2] 45 (0, 0)) (b1_ BK288.out) hb); have n13_ := Aside0.mk (blk_below (g := gb309) (o := .cells #[.slice Ao23 t299.length co23, .slice Ao26 t302.length co26, .slice Ao27 t305.length co27] 27 (0, 0)) (b1_ BK309.out) hb); have n14_ := Aside0.mk (blk_below (g := gb319) (o := .cells #[.slice Ao31 t310.length co31, .slice Ao35 t313.length co35, .slice Ao36 t316.length co36] 27 (0, 0)) (b1_ BK319.out) hb); have n15_ := Aside0.mk (blk_below (g := gb330) (o := .cells #[.slice Ao39 t320.length co39, .slice Ao44 t323.length co44, .slice Ao45 t326.length co45] 27 (0, 0)) (b1_ BK330.out) hb); have n16_ := Aside0.mk (below_step (y1_ HB.out) hb); clear HO_310000; clear HO_310001; clear HO_310002; clear HO_320000; clear HO_320001; clear HO_320002; clear HO_331000; clear HO_331001; clear HO_331002; clear HO334; clear HO337; clear HO340; clear BK288; clear BK309; clear BK319; clear BK330; clear HB; have HO_310000 := n0_; have HO_310001 := n1_; have HO_310002 := n2_; have HO_320000 := n3_; have HO_320001 := n4_; have HO_320002 := n5_; have HO_331000 := n6_; have HO_331001 := n7_; have HO_331002 := n8_; have HO334 := n9_; have HO337 := n10_; have HO340 := n11_; have BK288 := n12_; have BK309 := n13_; have BK319 := n14_; have BK330 := n15_; have HB := n16_; clear n0_ n1_ n2_ n3_ n4_ n5_ n6_ n7_ n8_ n9_ n10_ n11_ n12_ n13_ n14_ n15_ n16_; (try clear hb); (try clear hb2); (try clear hk); (try clear hi)))
 go_meet
 case rel => exact ⟨_, (true), s1_, H', ⟨by have := HJ11.out; first | omega | exact Nat.le_refl _⟩, ⟨by (with_reducible repeat (first | apply Kd.R_alloc | apply Kd.R_drewN | apply Kd.R_drew)); exact Kd.R_mono HO_310000.out (fun _ hk => ⟨hk.1, ⟨hk.2.1, ⟨hk.2.2.1, ⟨hk.2.2.2.1, hk.2.2.2.2.1⟩⟩⟩⟩)⟩, ⟨by (with_reducible repeat (first | apply Kd.R_alloc | apply Kd.R_drewN | apply Kd.R_drew)); exact Kd.R_mono HO_310001.out (fun _ hk => ⟨hk.1, ⟨hk.2.1, ⟨hk.2.2.1, ⟨hk.2.2.2.1, hk.2.2.2.2.1⟩⟩⟩⟩)⟩, ⟨by (with_reducible repeat (first | apply Kd.R_alloc | apply Kd.R_drewN | apply Kd.R_drew)); exact Kd.R_mono HO_310002.out (fun _ hk => ⟨hk.1, hk.2.1⟩)⟩, ⟨by (with_reducible repeat (first | apply Kd.R_alloc | apply Kd.R_drewN | apply Kd.R_drew)); exact Kd.R_mono HO_320000.out (fun _ hk => ⟨hk.1.1.1, ⟨hk.1.1.2.1, ⟨hk.1.1.2.2.1, ⟨hk.1.1.2.2.2.1, hk.1.1.2.2.2.2⟩⟩⟩⟩)⟩, ⟨by (with_reducible repeat (first | apply Kd.R_alloc | apply Kd.R_drewN | apply Kd.R_drew)); exact Kd.R_mono HO_320001.out (fun _ hk => ⟨hk.1.1.1, ⟨hk.1.1.2.1, ⟨hk.1.1.2.2.1, ⟨hk.1.1.2.2.2.1, hk.1.1.2.2.2.2⟩⟩⟩⟩)⟩, ⟨by (with_reducible repeat (first | apply Kd.R_alloc | apply Kd.R_drewN | apply Kd.R_drew)); exact Kd.R_mono HO_320002.out (fun _ hk => ⟨hk.1.1, hk.1.2⟩)⟩, ⟨by (with_reducible repeat (first | apply Kd.R_alloc | apply Kd.R_drewN | apply Kd.R_drew)); exact Kd.R_mono HO_331000.out (fun _ hk => ⟨hk.1, ⟨hk.2.1, ⟨hk.2.2.1, ⟨hk.2.2.2.1, hk.2.2.2.2.1⟩⟩⟩⟩)⟩, ⟨by (with_reducible repeat (first | apply Kd.R_alloc | apply Kd.R_drewN | apply Kd.R_drew)); exact Kd.R_mono HO_331001.out (fun _ hk => ⟨hk.1, ⟨hk.2.1, ⟨hk.2.2.1, ⟨hk.2.2.2.1, hk.2.2.2.2.1⟩⟩⟩⟩)⟩, ⟨by (with_reducible repeat (first | apply Kd.R_alloc | apply Kd.R_drewN | apply Kd.R_drew)); exact Kd.R_mono HO_331002.out (fun _ hk => ⟨hk.1, hk.2.1⟩)⟩, ⟨b1_ BK288.out⟩, ⟨b1_ BK309.out⟩, ⟨b1_ BK319.out⟩, ⟨b1_ BK330.out⟩, ⟨by repeat (first | (with_reducible first | exact HB.out | apply below_alloc | apply pw_below_drewN | apply below_drew1) | exact HB.out)⟩⟩}}}
 case rest =>
  skip
  {
 clear HC69
 try clear c1
 try clear c2
 try clear p2
 try clear c3
 try clear c4
 try clear c4b0
 try clear c5
 try clear c6
 try clear c7
 try clear c8
 try clear c9
 try clear c18
 try clear c24
 try clear c25
 try clear c26
 try clear c27
 try clear c28
 try clear c32
 try clear c33
 try clear c40
 try clear c41
 try clear c42
 try clear c47
 try clear c48
 try clear c49
 try clear c50
 try clear c52
 try clear c53
 try clear c56
 try clear c57
 try clear c58
 try clear c60
 try clear c61
 try clear c64
 try clear c67
 try clear c76
 try clear c77
 try clear c78
 try clear c81
 try clear c81b0
 try clear c83
 try clear c84
 try clear c85
 try clear c86
 try clear c88
 try clear c89
 try clear c92
 try clear c93
 try clear c94
 try clear c96
 try clear c97
 try clear hcz14_0
 try clear hcz14_1
 try clear hcz14_2
 try clear hcz16_0
 try clear hcz16_1
 try clear hcz16_2
 try clear hcz25_0
 try clear hcz25_1
 try clear hcz25_2
 try clear hcz28_0
 try clear hcz28_1
 try clear hcz28_2
 try clear hcz34_0
 try clear hcz34_1
 try clear hcz34_2
 try clear hcz43_0
 try clear hcz43_1
 try clear hcz43_2
 try clear hcz51_0
 try clear hcz51_1
 try clear hcz51_2
 try clear hcz54_0
 try clear hcz54_1
 try clear hcz54_2
 try clear hcz59_0
 try clear hcz59_1
 try clear hcz59_2
 try clear hcz62_0
 try clear hcz62_1
 try clear hcz62_2
 try clear hcz6_0
 try clear hcz6_1
 try clear hcz6_2
 try clear hcz79_0
 try clear hcz79_1
 try clear hcz79_2
 try clear hcz87_0
 try clear hcz87_1
 try clear hcz87_2
 try clear hcz90_0
 try clear hcz90_1
 try clear hcz90_2
 try clear hcz95_0
 try clear hcz95_1
 try clear hcz95_2
 try clear hcz98_0
 try clear hcz98_1
 try clear hcz98_2
 try clear hfz14_0
 try clear hfz14_1
 try clear hfz14_2
 try clear hfz16_0
 try clear hfz16_1
 try clear hfz16_2
 try clear hfz25_0
 try clear hfz25_1
 try clear hfz25_2
 try clear hfz28_0
 try clear hfz28_1
 try clear hfz28_2
 try clear hfz34_0
 try clear hfz34_1
 try clear hfz34_2
 try clear hfz43_0
 try clear hfz43_1
 try clear hfz43_2
 try clear hfz51_0
 try clear hfz51_1
 try clear hfz51_2
 try clear hfz54_0
 try clear hfz54_1
 try clear hfz54_2
 try clear hfz59_0
 try clear hfz59_1
 try clear hfz59_2
 try clear hfz62_0
 try clear hfz62_1
 try clear hfz62_2
 try clear hfz6_0
 try clear hfz6_1
 try clear hfz6_2
 try clear hfz79_0
 try clear hfz79_1
 try clear hfz79_2
 try clear hfz87_0
 try clear hfz87_1
 try clear hfz87_2
 try clear hfz90_0
 try clear hfz90_1
 try clear hfz90_2
 try clear hfz95_0
 try clear hfz95_1
 try clear hfz95_2
 try clear hfz98_0
 try clear hfz98_1
 try clear hfz98_2
 try clear p2
 obtain ⟨kq, x65_68, rfl, HA, HJ68, HO_310000, HO_310001, HO_310002, HO_320000, HO_320001, HO_320002, HO_331000, HO_331001, HO_331002, BK288, BK309, BK319, BK330, HB⟩ := hcut
 have hl320000_68 := (Kd.R_reads' HO_320000.out).1
 rw [hl320000_68] at HO_320000
 (try simp only [hl320000_68])
 (try simp only [hl320000_68] at BK288)
 (try simp only [hl320000_68] at BK309)
 (try simp only [hl320000_68] at BK319)
 (try simp only [hl320000_68] at BK330)
 (try simp only [hl320000_68] at HO_310000)
 (try simp only [hl320000_68] at HO_310001)
 (try simp only [hl320000_68] at HO_310002)
 (try simp only [hl320000_68] at HO_320001)
 (try simp only [hl320000_68] at HO_320002)
 (try simp only [hl320000_68] at HO_331000)
 (try simp only [hl320000_68] at HO_331001)
 (try simp only [hl320000_68] at HO_331002)
 have hl320001_68 := (Kd.R_reads' HO_320001.out).1
 rw [hl320001_68] at HO_320001
 (try simp only [hl320001_68])
 (try simp only [hl320001_68] at BK288)
 (try simp only [hl320001_68] at BK309)
 (try simp only [hl320001_68] at BK319)
 (try simp only [hl320001_68] at BK330)
 (try simp only [hl320001_68] at HO_310000)
 (try simp only [hl320001_68] at HO_310001)
 (try simp only [hl320001_68] at HO_310002)
 (try simp only [hl320001_68] at HO_320000)
 (try simp only [hl320001_68] at HO_320002)
 (try simp only [hl320001_68] at HO_331000)
 (try simp only [hl320001_68] at HO_331001)
 (try simp only [hl320001_68] at HO_331002)
 have hl320002_68 := (Kd.R_reads' HO_320002.out).1
 rw [hl320002_68] at HO_320002
 (try simp only [hl320002_68])
 (try simp only [hl320002_68] at BK288)
 (try simp only [hl320002_68] at BK309)
 (try simp only [hl320002_68] at BK319)
 (try simp only [hl320002_68] at BK330)
 (try simp only [hl320002_68] at HO_310000)
 (try simp only [hl320002_68] at HO_310001)
 (try simp only [hl320002_68] at HO_310002)
 (try simp only [hl320002_68] at HO_320000)
 (try simp only [hl320002_68] at HO_320001)
 (try simp only [hl320002_68] at HO_331000)
 (try simp only [hl320002_68] at HO_331001)
 (try simp only [hl320002_68] at HO_331002)
 cases kq with
 | zero => exact absurd HA.out (by simp [laws_FnExactLeaveNow.j1])
 | succ kj68 =>
  skip
  {
 have H := HA.out
 clear HA
 simp only [laws_FnExactLeaveNow.j1] at H
 by_cases c100 : x65_68 = true
 {
 subst c100
 have H1 : (some false) = some r := by rw [if_pos rfl] at H; exact H
 clear H
 have H := H1
 clear H1
 obtain rfl := Option.some.inj H
 go_wp2
 go_ret
 exact ⟨by first | rfl | (simp [errW_none, errW_some] <;> rfl) | (simp [*, errW_none, errW_some] <;> rfl), by repeat (first | (with_reducible first | exact HB.out | apply below_alloc | apply pw_below_drewN | apply below_drew1) | exact HB.out)⟩}
 {
 replace c100 := Bool.eq_false_iff.mpr c100
 subst c100
 have H1 : ((laws_markPresence.f kj68 t320 t323 t326 1).bind fun bt347 => ((laws_heldPresence.f kj68 bt347.2.1 bt347.2.2.1 bt347.2.2.2 1).bind fun t351 => (if t351 < 0 then (some false) else (if t351 = bt347.1 then ((laws_toPresence.f kj68 l0_0 l0_1 l0_2).bind fun bt352 => ((impl_LeaveNow.f kj68 bt352.1 bt352.2.1 bt352.2.2 a1).bind fun bt361 => ((laws_eqPresence.f kj68 bt361.1 bt361.2.1 bt361.2.2.1 t299 t302 t305).bind fun t372 => (if t372 = true then (laws_FnExactLeaveNow.j2 kj68 bt347.1 (bt361.2.2.2 != t308) bt347.2.1 bt347.2.2.1 bt347.2.2.2) else (laws_FnExactLeaveNow.j2 kj68 bt347.1 true bt347.2.1 bt347.2.2.1 bt347.2.2.2))))) else (some false))))) = some r := by rw [if_neg (show ¬ (false = true) by decide)] at H; exact H
 clear H
 have H := H1
 clear H1
 replace H := Option.bind_eq_some_iff.mp H
 obtain ⟨⟨t347, t348, t349, t350⟩, A1010, H⟩ := H
 replace H : ((laws_heldPresence.f kj68 t348 t349 t350 1).bind fun t351 => (if t351 < 0 then (some false) else (if t351 = t347 then ((laws_toPresence.f kj68 l0_0 l0_1 l0_2).bind fun bt352 => ((impl_LeaveNow.f kj68 bt352.1 bt352.2.1 bt352.2.2 a1).bind fun bt361 => ((laws_eqPresence.f kj68 bt361.1 bt361.2.1 bt361.2.2.1 t299 t302 t305).bind fun t372 => (if t372 = true then (laws_FnExactLeaveNow.j2 kj68 t347 (bt361.2.2.2 != t308) t348 t349 t350) else (laws_FnExactLeaveNow.j2 kj68 t347 true t348 t349 t350))))) else (some false)))) = some r := H
 have A101 := Aside0.mk A1010
 clear A1010
 replace H := Option.bind_eq_some_iff.mp H
 obtain ⟨t351, A1020, H⟩ := H
 replace H : (if t351 < 0 then (some false) else (if t351 = t347 then ((laws_toPresence.f kj68 l0_0 l0_1 l0_2).bind fun bt352 => ((impl_LeaveNow.f kj68 bt352.1 bt352.2.1 bt352.2.2 a1).bind fun bt361 => ((laws_eqPresence.f kj68 bt361.1 bt361.2.1 bt361.2.2.1 t299 t302 t305).bind fun t372 => (if t372 = true then (laws_FnExactLeaveNow.j2 kj68 t347 (bt361.2.2.2 != t308) t348 t349 t350) else (laws_FnExactLeaveNow.j2 kj68 t347 true t348 t349 t350))))) else (some false))) = some r := H
 have A102 := Aside0.mk A1020
 clear A1020
 by_cases c103 : t351 < 0
 {
 rw [if_pos c103] at H
 have c103b0 : decide (t351 < 0) = true := decide_eq_true c103
 clear c103
 obtain rfl := Option.some.inj H
 have hnb104 := NB330_288.out
 have hnc104 := NB288_330.out
 have hnb105 := NB330_309.out
 have hnc105 := NB309_330.out
 have hnb106 := NB330_319.out
 have hnc106 := NB319_330.out
 have hcz107_0 : wc.cell? ⟨gb330, 0, none⟩ = some (.slice Ao39 t320.length co39) := (blk_cell BK330.out 0).trans rfl
 have hcz107_1 : wc.cell? ⟨gb330, 1, none⟩ = some (.slice Ao44 t323.length co44) := (blk_cell BK330.out 1).trans rfl
 have hcz107_2 : wc.cell? ⟨gb330, 2, none⟩ = some (.slice Ao45 t326.length co45) := (blk_cell BK330.out 2).trans rfl
 have hfz107_0 := blk_frozen BK330.out 0
 have hfz107_1 := blk_frozen BK330.out 1
 have hfz107_2 := blk_frozen BK330.out 2
 go_wp2_with (first | ((with_reducible refine gate_callee (f := 28) rfl ?_); refine goesL_ (some 68) rfl rfl Try.func28 s2_ rfl #[.agg #[.slice Ao39 t320.length co39, .slice Ao44 t323.length co44, .slice Ao45 t326.length co45], .int .i64 1] rfl s3_ ?_; (with_reducible refine (laws_markPresence.calls kj68 (fun k_ => some k_ = (.slice Ao39 t320.length co39 : Value).ownBlock) (.slice Ao39 t320.length co39) t320 (fun k_ => some k_ = (.slice Ao44 t323.length co44 : Value).ownBlock) (.slice Ao44 t323.length co44) t323 (fun k_ => some k_ = (.slice Ao45 t326.length co45 : Value).ownBlock) (.slice Ao45 t326.length co45) t326 1 t347 t348 t349 t350 w _ ?side1 ?side2 ?side3 ?side4 ?side5 ?side6 A101.out).mono ?_); (case side1 => repeat (first | (with_reducible first | exact HB.out | apply below_alloc | apply pw_below_drewN | apply below_drew1) | exact HB.out)); (case side2 => exact Kd.R_tight rfl HO_331000.out); (case side3 => exact fun k_ e_ => (HO_331000.out.1 k_ e_.symm).2.2.2.2); (case side4 => exact Kd.R_tight rfl HO_331001.out); (case side5 => exact fun k_ e_ => (HO_331001.out.1 k_ e_.symm).2.2.2.2); (case side6 => exact Kd.R_tight rfl HO_331002.out); rintro e w108 ⟨rfl, hy0, hy1, hy2, hb, hkp⟩; refine ⟨_, rfl, ?_⟩; have n0_ := Aside0.mk (Kd.R_mono (ok' := fun k_ => some k_ ≠ (.slice Ao26 t302.length co26 : Value).ownBlock ∧ some k_ ≠ (.slice Ao31 t343.length co31 : Value).ownBlock ∧ some k_ ≠ (.slice Ao35 t344.length co35 : Value).ownBlock ∧ some k_ ≠ (.slice Ao39 t320.length co39 : Value).ownBlock ∧ some k_ ≠ (.slice Ao44 t323.length co44 : Value).ownBlock) (Kd.R_keptB ((Kd.R_apart' HO_310000.out (Kd.R_typed HO_331002.out) (by decide))) hkp (fun k_ hk_ hs_ => Or.elim hs_ (fun e_ => (hk_.1.2.2.2.1) e_) (fun e_ => Or.elim e_ (fun e_ => (hk_.1.2.2.2.2) e_) (fun e_ => (hk_.2) e_)))) (fun k_ hk_ => ⟨hk_.1.1.1, hk_.1.1.2.1, hk_.1.1.2.2.1, hk_.1.1.2.2.2.1, hk_.1.1.2.2.2.2⟩)); have n1_ := Aside0.mk (Kd.R_mono (ok' := fun k_ => some k_ ≠ (.slice Ao23 t299.length co23 : Value).ownBlock ∧ some k_ ≠ (.slice Ao31 t343.length co31 : Value).ownBlock ∧ some k_ ≠ (.slice Ao35 t344.length co35 : Value).ownBlock ∧ some k_ ≠ (.slice Ao39 t320.length co39 : Value).ownBlock ∧ some k_ ≠ (.slice Ao44 t323.length co44 : Value).ownBlock) (Kd.R_keptB ((Kd.R_apart' HO_310001.out (Kd.R_typed HO_331002.out) (by decide))) hkp (fun k_ hk_ hs_ => Or.elim hs_ (fun e_ => (hk_.1.2.2.2.1) e_) (fun e_ => Or.elim e_ (fun e_ => (hk_.1.2.2.2.2) e_) (fun e_ => (hk_.2) e_)))) (fun k_ hk_ => ⟨hk_.1.1.1, hk_.1.1.2.1, hk_.1.1.2.2.1, hk_.1.1.2.2.2.1, hk_.1.1.2.2.2.2⟩)); have n2_ := Aside0.mk (Kd.R_mono (ok' := fun k_ => some k_ ≠ (.slice Ao36 t345.length co36 : Value).ownBlock ∧ some k_ ≠ (.slice Ao45 t326.length co45 : Value).ownBlock) (Kd.R_keptB ((Kd.R_apart' (Kd.R_apart' HO_310002.out (Kd.R_typed HO_331000.out) (by decide)) (Kd.R_typed HO_331001.out) (by decide))) hkp (fun k_ hk_ hs_ => Or.elim hs_ (fun e_ => (hk_.1.2) e_) (fun e_ => Or.elim e_ (fun e_ => (hk_.2) e_) (fun e_ => (hk_.1.1.2) e_)))) (fun k_ hk_ => ⟨hk_.1.1.1.1, hk_.1.1.1.2⟩)); have n3_ := Aside0.mk (Kd.R_mono (ok' := fun k_ => some k_ ≠ (.slice Ao23 t299.length co23 : Value).ownBlock ∧ some k_ ≠ (.slice Ao26 t302.length co26 : Value).ownBlock ∧ some k_ ≠ (.slice Ao35 t344.length co35 : Value).ownBlock ∧ some k_ ≠ (.slice Ao39 t320.length co39 : Value).ownBlock ∧ some k_ ≠ (.slice Ao44 t323.length co44 : Value).ownBlock) (Kd.R_keptB ((Kd.R_apart' HO_320000.out (Kd.R_typed HO_331002.out) (by decide))) hkp (fun k_ hk_ hs_ => Or.elim hs_ (fun e_ => (hk_.1.2.2.2.1) e_) (fun e_ => Or.elim e_ (fun e_ => (hk_.1.2.2.2.2) e_) (fun e_ => (hk_.2) e_)))) (fun k_ hk_ => ⟨hk_.1.1.1, hk_.1.1.2.1, hk_.1.1.2.2.1, hk_.1.1.2.2.2.1, hk_.1.1.2.2.2.2⟩)); have n4_ := Aside0.mk (Kd.R_mono (ok' := fun k_ => some k_ ≠ (.slice Ao23 t299.length co23 : Value).ownBlock ∧ some k_ ≠ (.slice Ao26 t302.length co26 : Value).ownBlock ∧ some k_ ≠ (.slice Ao31 t343.length co31 : Value).ownBlock ∧ some k_ ≠ (.slice Ao39 t320.length co39 : Value).ownBlock ∧ some k_ ≠ (.slice Ao44 t323.length co44 : Value).ownBlock) (Kd.R_keptB ((Kd.R_apart' HO_320001.out (Kd.R_typed HO_331002.out) (by decide))) hkp (fun k_ hk_ hs_ => Or.elim hs_ (fun e_ => (hk_.1.2.2.2.1) e_) (fun e_ => Or.elim e_ (fun e_ => (hk_.1.2.2.2.2) e_) (fun e_ => (hk_.2) e_)))) (fun k_ hk_ => ⟨hk_.1.1.1, hk_.1.1.2.1, hk_.1.1.2.2.1, hk_.1.1.2.2.2.1, hk_.1.1.2.2.2.2⟩)); have n5_ := Aside0.mk (Kd.R_mono (ok' := fun k_ => some k_ ≠ (.slice Ao27 t305.length co27 : Value).ownBlock ∧ some k_ ≠ (.slice Ao45 t326.length co45 : Value).ownBlock) (Kd.R_keptB ((Kd.R_apart' (Kd.R_apart' HO_320002.out (Kd.R_typed HO_331000.out) (by decide)) (Kd.R_typed HO_331001.out) (by decide))) hkp (fun k_ hk_ hs_ => Or.elim hs_ (fun e_ => (hk_.1.2) e_) (fun e_ => Or.elim e_ (fun e_ => (hk_.2) e_) (fun e_ => (hk_.1.1.2) e_)))) (fun k_ hk_ => ⟨hk_.1.1.1.1, hk_.1.1.1.2⟩)); have n6_ := Aside0.mk (Kd.R_reok rfl hy0 (fun k_ e_ => HO_331000.out.1 k_ e_)); have n7_ := Aside0.mk (Kd.R_reok rfl hy1 (fun k_ e_ => HO_331001.out.1 k_ e_)); have n8_ := Aside0.mk (Kd.R_reok rfl hy2 (fun k_ e_ => HO_331002.out.1 k_ e_)); have n9_ := Aside0.mk (blk_kept (b1_ BK288.out) hkp (fun hs_ => Or.elim hs_ (fun e_ => (fun e_ => (Kd.R_ne HO_331000.out BK288.out (by decide)) e_) e_) (fun e_ => Or.elim e_ (fun e_ => (fun e_ => (Kd.R_ne HO_331001.out BK288.out (by decide)) e_) e_) (fun e_ => (fun e_ => (Kd.R_ne HO_331002.out BK288.out (by decide)) e_) e_)))); have n10_ := Aside0.mk (blk_kept (b1_ BK309.out) hkp (fun hs_ => Or.elim hs_ (fun e_ => (fun e_ => (Kd.R_ne HO_331000.out BK309.out (by decide)) e_) e_) (fun e_ => Or.elim e_ (fun e_ => (fun e_ => (Kd.R_ne HO_331001.out BK309.out (by decide)) e_) e_) (fun e_ => (fun e_ => (Kd.R_ne HO_331002.out BK309.out (by decide)) e_) e_)))); have n11_ := Aside0.mk (blk_kept (b1_ BK319.out) hkp (fun hs_ => Or.elim hs_ (fun e_ => (fun e_ => (Kd.R_ne HO_331000.out BK319.out (by decide)) e_) e_) (fun e_ => Or.elim e_ (fun e_ => (fun e_ => (Kd.R_ne HO_331001.out BK319.out (by decide)) e_) e_) (fun e_ => (fun e_ => (Kd.R_ne HO_331002.out BK319.out (by decide)) e_) e_)))); have n12_ := Aside0.mk (blk_kept (b1_ BK330.out) hkp (fun hs_ => Or.elim hs_ (fun e_ => (fun e_ => (Kd.R_ne HO_331000.out BK330.out (by decide)) e_) e_) (fun e_ => Or.elim e_ (fun e_ => (fun e_ => (Kd.R_ne HO_331001.out BK330.out (by decide)) e_) e_) (fun e_ => (fun e_ => (Kd.R_ne HO_331002.out BK330.out (by decide)) e_) e_)))); have n13_ := Aside0.mk (hb); clear HO_310000; clear HO_310001; clear HO_310002; clear HO_320000; clear HO_320001; clear HO_320002; clear HO_331000; clear HO_331001; clear HO_331002; clear BK288; clear BK309; clear BK319; clear BK330; clear HB; have HO_310000 := n0_; have HO_310001 := n1_; have HO_310002 := n2_; have HO_320000 := n3_; have HO_320001 := n4_; have HO_320002 := n5_; have HO_331000 := n6_; have HO_331001 := n7_; have HO_331002 := n8_; have BK288 := n9_; have BK309 := n10_; have BK319 := n11_; have BK330 := n12_; have HB := n13_; clear n0_ n1_ n2_ n3_ n4_ n5_ n6_ n7_ n8_ n9_ n10_ n11_ n12_ n13_; (try clear hb); (try clear hkp); (try clear hy0); (try clear hy1); (try clear hy2); have hcz109_0 : w108.cell? ⟨gb330, 0, none⟩ = some (.slice Ao39 t320.length co39) := (blk_cell BK330.out 0).trans rfl; have hcz109_1 : w108.cell? ⟨gb330, 1, none⟩ = some (.slice Ao44 t323.length co44) := (blk_cell BK330.out 1).trans rfl; have hcz109_2 : w108.cell? ⟨gb330, 2, none⟩ = some (.slice Ao45 t326.length co45) := (blk_cell BK330.out 2).trans rfl; have hfz109_0 := blk_frozen BK330.out 0; have hfz109_1 := blk_frozen BK330.out 1; have hfz109_2 := blk_frozen BK330.out 2) | ((with_reducible refine gate_callee (f := 29) rfl ?_); refine goesL_ (some 71) rfl rfl Try.func29 s2_ rfl #[.agg #[.slice Ao39 t348.length co39, .slice Ao44 t349.length co44, .slice Ao45 t350.length co45], .int .i64 1] rfl (by (try simp only [List.map_toArray, List.map_cons, List.map_nil]); first | done | (rw [show t348.length = t320.length from (Kd.R_reads' HO_331000.out).1.symm, show t349.length = t323.length from (Kd.R_reads' HO_331001.out).1.symm, show t350.length = t326.length from (Kd.R_reads' HO_331002.out).1.symm] <;> rfl) | rfl | (simp only [List.length_drop, List.length_take]; rfl)) ?_; (with_reducible refine (laws_heldPresence.calls kj68 _ _ t348 _ _ t349 _ _ t350 1 t351 _ ?side1 ?side2 ?side3 ?side4 ?side5 ?side6 A102.out).mono ?_); (case side1 => exact y2_ (Kd.R_reads' HO_331000.out).2.2); (case side2 => rw [show t348.length = t320.length from (Kd.R_reads' HO_331000.out).1.symm]; exact (Kd.R_reads' HO_331000.out).2.1); (case side3 => exact y2_ (Kd.R_reads' HO_331001.out).2.2); (case side4 => rw [show t349.length = t323.length from (Kd.R_reads' HO_331001.out).1.symm]; exact (Kd.R_reads' HO_331001.out).2.1); (case side5 => exact y2_ (Kd.R_reads' HO_331002.out).2.2); (case side6 => rw [show t350.length = t326.length from (Kd.R_reads' HO_331002.out).1.symm]; exact (Kd.R_reads' HO_331002.out).2.1); rintro e w110 ⟨rfl, hb⟩; refine ⟨_, rfl, ?_⟩; have n0_ := Aside0.mk (Kd.R_below (b2_ HO_310000.out) hb); have n1_ := Aside0.mk (Kd.R_below (b2_ HO_310001.out) hb); have n2_ := Aside0.mk (Kd.R_below (b2_ HO_310002.out) hb); have n3_ := Aside0.mk (Kd.R_below (b2_ HO_320000.out) hb); have n4_ := Aside0.mk (Kd.R_below (b2_ HO_320001.out) hb); have n5_ := Aside0.mk (Kd.R_below (b2_ HO_320002.out) hb); have n6_ := Aside0.mk (Kd.R_below (b2_ HO_331000.out) hb); have n7_ := Aside0.mk (Kd.R_below (b2_ HO_331001.out) hb); have n8_ := Aside0.mk (Kd.R_below (b2_ HO_331002.out) hb); have n9_ := Aside0.mk (blk_below (g := gb288) (o := .cells #[.slice A0_0 l0_0.length c0_0, .slice A0_1 l0_1.length c0_1, .slice A0_2 l0_2.length c0_2] 45 (0, 0)) (b1_ BK288.out) hb); have n10_ := Aside0.mk (blk_below (g := gb309) (o := .cells #[.slice Ao23 t299.length co23, .slice Ao26 t302.length co26, .slice Ao27 t305.length co27] 27 (0, 0)) (b1_ BK309.out) hb); have n11_ := Aside0.mk (blk_below (g := gb319) (o := .cells #[.slice Ao31 t343.length co31, .slice Ao35 t344.length co35, .slice Ao36 t345.length co36] 27 (0, 0)) (b1_ BK319.out) hb); have n12_ := Aside0.mk (blk_below (g := gb330) (o := .cells #[.slice Ao39 t320.length co39, .slice Ao44 t323.length co44, .slice Ao45 t326.length co45] 27 (0, 0)) (b1_ BK330.out) hb); have n13_ := Aside0.mk (below_step (y1_ HB.out) hb); clear HO_310000; clear HO_310001; clear HO_310002; clear HO_320000; clear HO_320001; clear HO_320002; clear HO_331000; clear HO_331001; clear HO_331002; clear BK288; clear BK309; clear BK319; clear BK330; clear HB; have HO_310000 := n0_; have HO_310001 := n1_; have HO_310002 := n2_; have HO_320000 := n3_; have HO_320001 := n4_; have HO_320002 := n5_; have HO_331000 := n6_; have HO_331001 := n7_; have HO_331002 := n8_; have BK288 := n9_; have BK309 := n10_; have BK319 := n11_; have BK330 := n12_; have HB := n13_; clear n0_ n1_ n2_ n3_ n4_ n5_ n6_ n7_ n8_ n9_ n10_ n11_ n12_ n13_; (try clear hb); (try clear hb2); (try clear hk); (try clear hi)))
 go_ret
 exact ⟨by first | rfl | (simp [errW_none, errW_some] <;> rfl) | (simp [*, errW_none, errW_some] <;> rfl), by repeat (first | (with_reducible first | exact HB.out | apply below_alloc | apply pw_below_drewN | apply below_drew1) | exact HB.out)⟩}
 {
 rw [if_neg c103] at H
 have c103b0 : decide (t351 < 0) = false := decide_eq_false c103
 clear c103
 by_cases c111 : t351 = t347
 {
 rw [if_pos c111] at H
 have c111b0 : (t351 == t347) = true := beq_iff_eq.mpr c111
 have c111b1 : (t351 != t347) = false := bne_eq_false_iff_eq.mpr c111
 clear c111
 replace H := Option.bind_eq_some_iff.mp H
 obtain ⟨⟨t352, t355, t358⟩, A1120, H⟩ := H
 replace H : ((impl_LeaveNow.f kj68 t352 t355 t358 a1).bind fun bt361 => ((laws_eqPresence.f kj68 bt361.1 bt361.2.1 bt361.2.2.1 t299 t302 t305).bind fun t372 => (if t372 = true then (laws_FnExactLeaveNow.j2 kj68 t347 (bt361.2.2.2 != t308) t348 t349 t350) else (laws_FnExactLeaveNow.j2 kj68 t347 true t348 t349 t350)))) = some r := H
 have A112 := Aside0.mk A1120
 clear A1120
 replace H := Option.bind_eq_some_iff.mp H
 obtain ⟨⟨t361, t364, t367, t370⟩, A1130, H⟩ := H
 replace H : ((laws_eqPresence.f kj68 t361 t364 t367 t299 t302 t305).bind fun t372 => (if t372 = true then (laws_FnExactLeaveNow.j2 kj68 t347 (t370 != t308) t348 t349 t350) else (laws_FnExactLeaveNow.j2 kj68 t347 true t348 t349 t350))) = some r := H
 have A113 := Aside0.mk A1130
 clear A1130
 have HC114 := Aside0.mk H
 clear H
 have hnb115 := NB330_288.out
 have hnc115 := NB288_330.out
 have hnb116 := NB330_309.out
 have hnc116 := NB309_330.out
 have hnb117 := NB330_319.out
 have hnc117 := NB319_330.out
 have hcz118_0 : wc.cell? ⟨gb330, 0, none⟩ = some (.slice Ao39 t320.length co39) := (blk_cell BK330.out 0).trans rfl
 have hcz118_1 : wc.cell? ⟨gb330, 1, none⟩ = some (.slice Ao44 t323.length co44) := (blk_cell BK330.out 1).trans rfl
 have hcz118_2 : wc.cell? ⟨gb330, 2, none⟩ = some (.slice Ao45 t326.length co45) := (blk_cell BK330.out 2).trans rfl
 have hfz118_0 := blk_frozen BK330.out 0
 have hfz118_1 := blk_frozen BK330.out 1
 have hfz118_2 := blk_frozen BK330.out 2
 go_upto_region 25 with (first | ((with_reducible refine gate_callee (f := 28) rfl ?_); refine goesL_ (some 68) rfl rfl Try.func28 s2_ rfl #[.agg #[.slice Ao39 t320.length co39, .slice Ao44 t323.length co44, .slice Ao45 t326.length co45], .int .i64 1] rfl s3_ ?_; (with_reducible refine (laws_markPresence.calls kj68 (fun k_ => some k_ = (.slice Ao39 t320.length co39 : Value).ownBlock) (.slice Ao39 t320.length co39) t320 (fun k_ => some k_ = (.slice Ao44 t323.length co44 : Value).ownBlock) (.slice Ao44 t323.length co44) t323 (fun k_ => some k_ = (.slice Ao45 t326.length co45 : Value).ownBlock) (.slice Ao45 t326.length co45) t326 1 t347 t348 t349 t350 w _ ?side1 ?side2 ?side3 ?side4 ?side5 ?side6 A101.out).mono ?_); (case side1 => repeat (first | (with_reducible first | exact HB.out | apply below_alloc | apply pw_below_drewN | apply below_drew1) | exact HB.out)); (case side2 => exact Kd.R_tight rfl HO_331000.out); (case side3 => exact fun k_ e_ => (HO_331000.out.1 k_ e_.symm).2.2.2.2); (case side4 => exact Kd.R_tight rfl HO_331001.out); (case side5 => exact fun k_ e_ => (HO_331001.out.1 k_ e_.symm).2.2.2.2); (case side6 => exact Kd.R_tight rfl HO_331002.out); rintro e w119 ⟨rfl, hy0, hy1, hy2, hb, hkp⟩; refine ⟨_, rfl, ?_⟩; have n0_ := Aside0.mk (Kd.R_mono (ok' := fun k_ => some k_ ≠ (.slice Ao26 t302.length co26 : Value).ownBlock ∧ some k_ ≠ (.slice Ao31 t343.length co31 : Value).ownBlock ∧ some k_ ≠ (.slice Ao35 t344.length co35 : Value).ownBlock ∧ some k_ ≠ (.slice Ao39 t320.length co39 : Value).ownBlock ∧ some k_ ≠ (.slice Ao44 t323.length co44 : Value).ownBlock) (Kd.R_keptB ((Kd.R_apart' HO_310000.out (Kd.R_typed HO_331002.out) (by decide))) hkp (fun k_ hk_ hs_ => Or.elim hs_ (fun e_ => (hk_.1.2.2.2.1) e_) (fun e_ => Or.elim e_ (fun e_ => (hk_.1.2.2.2.2) e_) (fun e_ => (hk_.2) e_)))) (fun k_ hk_ => ⟨hk_.1.1.1, hk_.1.1.2.1, hk_.1.1.2.2.1, hk_.1.1.2.2.2.1, hk_.1.1.2.2.2.2⟩)); have n1_ := Aside0.mk (Kd.R_mono (ok' := fun k_ => some k_ ≠ (.slice Ao23 t299.length co23 : Value).ownBlock ∧ some k_ ≠ (.slice Ao31 t343.length co31 : Value).ownBlock ∧ some k_ ≠ (.slice Ao35 t344.length co35 : Value).ownBlock ∧ some k_ ≠ (.slice Ao39 t320.length co39 : Value).ownBlock ∧ some k_ ≠ (.slice Ao44 t323.length co44 : Value).ownBlock) (Kd.R_keptB ((Kd.R_apart' HO_310001.out (Kd.R_typed HO_331002.out) (by decide))) hkp (fun k_ hk_ hs_ => Or.elim hs_ (fun e_ => (hk_.1.2.2.2.1) e_) (fun e_ => Or.elim e_ (fun e_ => (hk_.1.2.2.2.2) e_) (fun e_ => (hk_.2) e_)))) (fun k_ hk_ => ⟨hk_.1.1.1, hk_.1.1.2.1, hk_.1.1.2.2.1, hk_.1.1.2.2.2.1, hk_.1.1.2.2.2.2⟩)); have n2_ := Aside0.mk (Kd.R_mono (ok' := fun k_ => some k_ ≠ (.slice Ao36 t345.length co36 : Value).ownBlock ∧ some k_ ≠ (.slice Ao45 t326.length co45 : Value).ownBlock) (Kd.R_keptB ((Kd.R_apart' (Kd.R_apart' HO_310002.out (Kd.R_typed HO_331000.out) (by decide)) (Kd.R_typed HO_331001.out) (by decide))) hkp (fun k_ hk_ hs_ => Or.elim hs_ (fun e_ => (hk_.1.2) e_) (fun e_ => Or.elim e_ (fun e_ => (hk_.2) e_) (fun e_ => (hk_.1.1.2) e_)))) (fun k_ hk_ => ⟨hk_.1.1.1.1, hk_.1.1.1.2⟩)); have n3_ := Aside0.mk (Kd.R_mono (ok' := fun k_ => some k_ ≠ (.slice Ao23 t299.length co23 : Value).ownBlock ∧ some k_ ≠ (.slice Ao26 t302.length co26 : Value).ownBlock ∧ some k_ ≠ (.slice Ao35 t344.length co35 : Value).ownBlock ∧ some k_ ≠ (.slice Ao39 t320.length co39 : Value).ownBlock ∧ some k_ ≠ (.slice Ao44 t323.length co44 : Value).ownBlock) (Kd.R_keptB ((Kd.R_apart' HO_320000.out (Kd.R_typed HO_331002.out) (by decide))) hkp (fun k_ hk_ hs_ => Or.elim hs_ (fun e_ => (hk_.1.2.2.2.1) e_) (fun e_ => Or.elim e_ (fun e_ => (hk_.1.2.2.2.2) e_) (fun e_ => (hk_.2) e_)))) (fun k_ hk_ => ⟨hk_.1.1.1, hk_.1.1.2.1, hk_.1.1.2.2.1, hk_.1.1.2.2.2.1, hk_.1.1.2.2.2.2⟩)); have n4_ := Aside0.mk (Kd.R_mono (ok' := fun k_ => some k_ ≠ (.slice Ao23 t299.length co23 : Value).ownBlock ∧ some k_ ≠ (.slice Ao26 t302.length co26 : Value).ownBlock ∧ some k_ ≠ (.slice Ao31 t343.length co31 : Value).ownBlock ∧ some k_ ≠ (.slice Ao39 t320.length co39 : Value).ownBlock ∧ some k_ ≠ (.slice Ao44 t323.length co44 : Value).ownBlock) (Kd.R_keptB ((Kd.R_apart' HO_320001.out (Kd.R_typed HO_331002.out) (by decide))) hkp (fun k_ hk_ hs_ => Or.elim hs_ (fun e_ => (hk_.1.2.2.2.1) e_) (fun e_ => Or.elim e_ (fun e_ => (hk_.1.2.2.2.2) e_) (fun e_ => (hk_.2) e_)))) (fun k_ hk_ => ⟨hk_.1.1.1, hk_.1.1.2.1, hk_.1.1.2.2.1, hk_.1.1.2.2.2.1, hk_.1.1.2.2.2.2⟩)); have n5_ := Aside0.mk (Kd.R_mono (ok' := fun k_ => some k_ ≠ (.slice Ao27 t305.length co27 : Value).ownBlock ∧ some k_ ≠ (.slice Ao45 t326.length co45 : Value).ownBlock) (Kd.R_keptB ((Kd.R_apart' (Kd.R_apart' HO_320002.out (Kd.R_typed HO_331000.out) (by decide)) (Kd.R_typed HO_331001.out) (by decide))) hkp (fun k_ hk_ hs_ => Or.elim hs_ (fun e_ => (hk_.1.2) e_) (fun e_ => Or.elim e_ (fun e_ => (hk_.2) e_) (fun e_ => (hk_.1.1.2) e_)))) (fun k_ hk_ => ⟨hk_.1.1.1.1, hk_.1.1.1.2⟩)); have n6_ := Aside0.mk (Kd.R_reok rfl hy0 (fun k_ e_ => HO_331000.out.1 k_ e_)); have n7_ := Aside0.mk (Kd.R_reok rfl hy1 (fun k_ e_ => HO_331001.out.1 k_ e_)); have n8_ := Aside0.mk (Kd.R_reok rfl hy2 (fun k_ e_ => HO_331002.out.1 k_ e_)); have n9_ := Aside0.mk (blk_kept (b1_ BK288.out) hkp (fun hs_ => Or.elim hs_ (fun e_ => (fun e_ => (Kd.R_ne HO_331000.out BK288.out (by decide)) e_) e_) (fun e_ => Or.elim e_ (fun e_ => (fun e_ => (Kd.R_ne HO_331001.out BK288.out (by decide)) e_) e_) (fun e_ => (fun e_ => (Kd.R_ne HO_331002.out BK288.out (by decide)) e_) e_)))); have n10_ := Aside0.mk (blk_kept (b1_ BK309.out) hkp (fun hs_ => Or.elim hs_ (fun e_ => (fun e_ => (Kd.R_ne HO_331000.out BK309.out (by decide)) e_) e_) (fun e_ => Or.elim e_ (fun e_ => (fun e_ => (Kd.R_ne HO_331001.out BK309.out (by decide)) e_) e_) (fun e_ => (fun e_ => (Kd.R_ne HO_331002.out BK309.out (by decide)) e_) e_)))); have n11_ := Aside0.mk (blk_kept (b1_ BK319.out) hkp (fun hs_ => Or.elim hs_ (fun e_ => (fun e_ => (Kd.R_ne HO_331000.out BK319.out (by decide)) e_) e_) (fun e_ => Or.elim e_ (fun e_ => (fun e_ => (Kd.R_ne HO_331001.out BK319.out (by decide)) e_) e_) (fun e_ => (fun e_ => (Kd.R_ne HO_331002.out BK319.out (by decide)) e_) e_)))); have n12_ := Aside0.mk (blk_kept (b1_ BK330.out) hkp (fun hs_ => Or.elim hs_ (fun e_ => (fun e_ => (Kd.R_ne HO_331000.out BK330.out (by decide)) e_) e_) (fun e_ => Or.elim e_ (fun e_ => (fun e_ => (Kd.R_ne HO_331001.out BK330.out (by decide)) e_) e_) (fun e_ => (fun e_ => (Kd.R_ne HO_331002.out BK330.out (by decide)) e_) e_)))); have n13_ := Aside0.mk (hb); clear HO_310000; clear HO_310001; clear HO_310002; clear HO_320000; clear HO_320001; clear HO_320002; clear HO_331000; clear HO_331001; clear HO_331002; clear BK288; clear BK309; clear BK319; clear BK330; clear HB; have HO_310000 := n0_; have HO_310001 := n1_; have HO_310002 := n2_; have HO_320000 := n3_; have HO_320001 := n4_; have HO_320002 := n5_; have HO_331000 := n6_; have HO_331001 := n7_; have HO_331002 := n8_; have BK288 := n9_; have BK309 := n10_; have BK319 := n11_; have BK330 := n12_; have HB := n13_; clear n0_ n1_ n2_ n3_ n4_ n5_ n6_ n7_ n8_ n9_ n10_ n11_ n12_ n13_; (try clear hb); (try clear hkp); (try clear hy0); (try clear hy1); (try clear hy2); have hcz120_0 : w119.cell? ⟨gb330, 0, none⟩ = some (.slice Ao39 t320.length co39) := (blk_cell BK330.out 0).trans rfl; have hcz120_1 : w119.cell? ⟨gb330, 1, none⟩ = some (.slice Ao44 t323.length co44) := (blk_cell BK330.out 1).trans rfl; have hcz120_2 : w119.cell? ⟨gb330, 2, none⟩ = some (.slice Ao45 t326.length co45) := (blk_cell BK330.out 2).trans rfl; have hfz120_0 := blk_frozen BK330.out 0; have hfz120_1 := blk_frozen BK330.out 1; have hfz120_2 := blk_frozen BK330.out 2) | ((with_reducible refine gate_callee (f := 29) rfl ?_); refine goesL_ (some 71) rfl rfl Try.func29 s2_ rfl #[.agg #[.slice Ao39 t348.length co39, .slice Ao44 t349.length co44, .slice Ao45 t350.length co45], .int .i64 1] rfl (by (try simp only [List.map_toArray, List.map_cons, List.map_nil]); first | done | (rw [show t348.length = t320.length from (Kd.R_reads' HO_331000.out).1.symm, show t349.length = t323.length from (Kd.R_reads' HO_331001.out).1.symm, show t350.length = t326.length from (Kd.R_reads' HO_331002.out).1.symm] <;> rfl) | rfl | (simp only [List.length_drop, List.length_take]; rfl)) ?_; (with_reducible refine (laws_heldPresence.calls kj68 _ _ t348 _ _ t349 _ _ t350 1 t351 _ ?side1 ?side2 ?side3 ?side4 ?side5 ?side6 A102.out).mono ?_); (case side1 => exact y2_ (Kd.R_reads' HO_331000.out).2.2); (case side2 => rw [show t348.length = t320.length from (Kd.R_reads' HO_331000.out).1.symm]; exact (Kd.R_reads' HO_331000.out).2.1); (case side3 => exact y2_ (Kd.R_reads' HO_331001.out).2.2); (case side4 => rw [show t349.length = t323.length from (Kd.R_reads' HO_331001.out).1.symm]; exact (Kd.R_reads' HO_331001.out).2.1); (case side5 => exact y2_ (Kd.R_reads' HO_331002.out).2.2); (case side6 => rw [show t350.length = t326.length from (Kd.R_reads' HO_331002.out).1.symm]; exact (Kd.R_reads' HO_331002.out).2.1); rintro e w121 ⟨rfl, hb⟩; refine ⟨_, rfl, ?_⟩; have n0_ := Aside0.mk (Kd.R_below (b2_ HO_310000.out) hb); have n1_ := Aside0.mk (Kd.R_below (b2_ HO_310001.out) hb); have n2_ := Aside0.mk (Kd.R_below (b2_ HO_310002.out) hb); have n3_ := Aside0.mk (Kd.R_below (b2_ HO_320000.out) hb); have n4_ := Aside0.mk (Kd.R_below (b2_ HO_320001.out) hb); have n5_ := Aside0.mk (Kd.R_below (b2_ HO_320002.out) hb); have n6_ := Aside0.mk (Kd.R_below (b2_ HO_331000.out) hb); have n7_ := Aside0.mk (Kd.R_below (b2_ HO_331001.out) hb); have n8_ := Aside0.mk (Kd.R_below (b2_ HO_331002.out) hb); have n9_ := Aside0.mk (blk_below (g := gb288) (o := .cells #[.slice A0_0 l0_0.length c0_0, .slice A0_1 l0_1.length c0_1, .slice A0_2 l0_2.length c0_2] 45 (0, 0)) (b1_ BK288.out) hb); have n10_ := Aside0.mk (blk_below (g := gb309) (o := .cells #[.slice Ao23 t299.length co23, .slice Ao26 t302.length co26, .slice Ao27 t305.length co27] 27 (0, 0)) (b1_ BK309.out) hb); have n11_ := Aside0.mk (blk_below (g := gb319) (o := .cells #[.slice Ao31 t343.length co31, .slice Ao35 t344.length co35, .slice Ao36 t345.length co36] 27 (0, 0)) (b1_ BK319.out) hb); have n12_ := Aside0.mk (blk_below (g := gb330) (o := .cells #[.slice Ao39 t320.length co39, .slice Ao44 t323.length co44, .slice Ao45 t326.length co45] 27 (0, 0)) (b1_ BK330.out) hb); have n13_ := Aside0.mk (below_step (y1_ HB.out) hb); clear HO_310000; clear HO_310001; clear HO_310002; clear HO_320000; clear HO_320001; clear HO_320002; clear HO_331000; clear HO_331001; clear HO_331002; clear BK288; clear BK309; clear BK319; clear BK330; clear HB; have HO_310000 := n0_; have HO_310001 := n1_; have HO_310002 := n2_; have HO_320000 := n3_; have HO_320001 := n4_; have HO_320002 := n5_; have HO_331000 := n6_; have HO_331001 := n7_; have HO_331002 := n8_; have BK288 := n9_; have BK309 := n10_; have BK319 := n11_; have BK330 := n12_; have HB := n13_; clear n0_ n1_ n2_ n3_ n4_ n5_ n6_ n7_ n8_ n9_ n10_ n11_ n12_ n13_; (try clear hb); (try clear hb2); (try clear hk); (try clear hi); have hnb122 := NB288_309.out; have hnc122 := NB309_288.out; have hnb123 := NB288_319.out; have hnc123 := NB319_288.out; have hcz124_0 : w121.cell? ⟨gb288, 0, none⟩ = some (.slice A0_0 l0_0.length c0_0) := (blk_cell BK288.out 0).trans rfl; have hcz124_1 : w121.cell? ⟨gb288, 1, none⟩ = some (.slice A0_1 l0_1.length c0_1) := (blk_cell BK288.out 1).trans rfl; have hcz124_2 : w121.cell? ⟨gb288, 2, none⟩ = some (.slice A0_2 l0_2.length c0_2) := (blk_cell BK288.out 2).trans rfl; have hfz124_0 := blk_frozen BK288.out 0; have hfz124_1 := blk_frozen BK288.out 1; have hfz124_2 := blk_frozen BK288.out 2) | ((with_reducible refine gate_callee (f := 26) rfl ?_); refine goesL_ (some 79) rfl rfl Try.func26 s2_ rfl #[.agg #[.slice A0_0 l0_0.length c0_0, .slice A0_1 l0_1.length c0_1, .slice A0_2 l0_2.length c0_2]] rfl s3_ ?_; (with_reducible refine (laws_toPresence.calls kj68 _ _ l0_0 _ _ l0_1 _ _ l0_2 t352 t355 t358 _ ?side1 ?side2 ?side3 ?side4 ?side5 ?side6 A112.out).mono ?_); (case side1 => exact y2_ (Kd.C_below HR0_0.out HB.out)); (case side2 => exact HC0_0.out); (case side3 => exact y2_ (Kd.C_below HR0_1.out HB.out)); (case side4 => exact HC0_1.out); (case side5 => exact y2_ (Kd.C_below HR0_2.out HB.out)); (case side6 => exact HC0_2.out); rintro e w125 ⟨v353, v356, v359, rfl, ho0, ho1, ho2, hb⟩; refine ⟨_, rfl, ?_⟩; have n0_ := Aside0.mk (Kd.R_mono (Kd.R_told (Kd.R_told (Kd.R_old (b2_ HO_310000.out) hb) (Kd.R_base ho0)) (Kd.R_base ho1)) (fun _ h_ => h_.1)); have n1_ := Aside0.mk (Kd.R_mono (Kd.R_told (Kd.R_told (Kd.R_old (b2_ HO_310001.out) hb) (Kd.R_base ho0)) (Kd.R_base ho1)) (fun _ h_ => h_.1)); have n2_ := Aside0.mk (Kd.R_elder' (b2_ HO_310002.out) (Kd.R_base ho2) hb); have n3_ := Aside0.mk (Kd.R_mono (Kd.R_told (Kd.R_told (Kd.R_old (b2_ HO_320000.out) hb) (Kd.R_base ho0)) (Kd.R_base ho1)) (fun _ h_ => h_.1)); have n4_ := Aside0.mk (Kd.R_mono (Kd.R_told (Kd.R_told (Kd.R_old (b2_ HO_320001.out) hb) (Kd.R_base ho0)) (Kd.R_base ho1)) (fun _ h_ => h_.1)); have n5_ := Aside0.mk (Kd.R_elder' (b2_ HO_320002.out) (Kd.R_base ho2) hb); have n6_ := Aside0.mk (Kd.R_mono (Kd.R_told (Kd.R_told (Kd.R_old (b2_ HO_331000.out) hb) (Kd.R_base ho0)) (Kd.R_base ho1)) (fun _ h_ => h_.1)); have n7_ := Aside0.mk (Kd.R_mono (Kd.R_told (Kd.R_told (Kd.R_old (b2_ HO_331001.out) hb) (Kd.R_base ho0)) (Kd.R_base ho1)) (fun _ h_ => h_.1)); have n8_ := Aside0.mk (Kd.R_elder' (b2_ HO_331002.out) (Kd.R_base ho2) hb); have n9_ := Aside0.mk (Kd.R_lower (Kd.R_new' (Kd.R_new' (Kd.R_new' (Kd.R_new' (Kd.R_new' (Kd.R_new' ho0 (Kd.R_lt (b2_ HO_310000.out))) (Kd.R_lt (b2_ HO_310001.out))) (Kd.R_lt (b2_ HO_320000.out))) (Kd.R_lt (b2_ HO_320001.out))) (Kd.R_lt (b2_ HO_331000.out))) (Kd.R_lt (b2_ HO_331001.out))) (below_size (y1_ HB.out))); have n10_ := Aside0.mk (Kd.R_lower (Kd.R_new' (Kd.R_new' (Kd.R_new' (Kd.R_new' (Kd.R_new' (Kd.R_new' ho1 (Kd.R_lt (b2_ HO_310000.out))) (Kd.R_lt (b2_ HO_310001.out))) (Kd.R_lt (b2_ HO_320000.out))) (Kd.R_lt (b2_ HO_320001.out))) (Kd.R_lt (b2_ HO_331000.out))) (Kd.R_lt (b2_ HO_331001.out))) (below_size (y1_ HB.out))); have n11_ := Aside0.mk (Kd.R_lower (Kd.R_new' (Kd.R_new' (Kd.R_new' ho2 (Kd.R_lt (b2_ HO_310002.out))) (Kd.R_lt (b2_ HO_320002.out))) (Kd.R_lt (b2_ HO_331002.out))) (below_size (y1_ HB.out))); have n12_ := Aside0.mk (blk_below (g := gb288) (o := .cells #[.slice A0_0 l0_0.length c0_0, .slice A0_1 l0_1.length c0_1, .slice A0_2 l0_2.length c0_2] 45 (0, 0)) (b1_ BK288.out) hb); have n13_ := Aside0.mk (blk_below (g := gb309) (o := .cells #[.slice Ao23 t299.length co23, .slice Ao26 t302.length co26, .slice Ao27 t305.length co27] 27 (0, 0)) (b1_ BK309.out) hb); have n14_ := Aside0.mk (blk_below (g := gb319) (o := .cells #[.slice Ao31 t343.length co31, .slice Ao35 t344.length co35, .slice Ao36 t345.length co36] 27 (0, 0)) (b1_ BK319.out) hb); have n15_ := Aside0.mk (blk_below (g := gb330) (o := .cells #[.slice Ao39 t320.length co39, .slice Ao44 t323.length co44, .slice Ao45 t326.length co45] 27 (0, 0)) (b1_ BK330.out) hb); have n16_ := Aside0.mk (below_step (y1_ HB.out) hb); clear HO_310000; clear HO_310001; clear HO_310002; clear HO_320000; clear HO_320001; clear HO_320002; clear HO_331000; clear HO_331001; clear HO_331002; clear BK288; clear BK309; clear BK319; clear BK330; clear HB; have HO_310000 := n0_; have HO_310001 := n1_; have HO_310002 := n2_; have HO_320000 := n3_; have HO_320001 := n4_; have HO_320002 := n5_; have HO_331000 := n6_; have HO_331001 := n7_; have HO_331002 := n8_; have HO354 := n9_; have HO357 := n10_; have HO360 := n11_; have BK288 := n12_; have BK309 := n13_; have BK319 := n14_; have BK330 := n15_; have HB := n16_; clear n0_ n1_ n2_ n3_ n4_ n5_ n6_ n7_ n8_ n9_ n10_ n11_ n12_ n13_ n14_ n15_ n16_; (try clear hb); (try clear hb2); (try clear hk); (try clear hi); (try clear ho0); (try clear ho1); (try clear ho2); obtain ⟨Ao126, co126, eo126⟩ := Kd.R_slice HO354.out; subst eo126; obtain ⟨Ao127, co127, eo127⟩ := Kd.R_slice HO357.out; subst eo127; obtain ⟨Ao128, co128, eo128⟩ := Kd.R_slice HO360.out; subst eo128) | ((with_reducible refine gate_callee (f := 18) rfl ?_); refine goesL_ (some 81) rfl rfl Try.func18 s2_ rfl #[.agg #[.slice Ao126 t352.length co126, .slice Ao127 t355.length co127, .slice Ao128 t358.length co128], .int .i64 a1] rfl s3_ ?_; (with_reducible refine (impl_LeaveNow.calls kj68 _ _ t352 _ _ t355 _ _ t358 a1 t361 t364 t367 t370 _ ?side1 ?side2 ?side3 ?side4 ?side5 ?side6 A113.out).mono ?_); (case side1 => exact y2_ (Kd.R_reads' HO354.out).2.2); (case side2 => exact (Kd.R_reads' HO354.out).2.1); (case side3 => exact y2_ (Kd.R_reads' HO357.out).2.2); (case side4 => exact (Kd.R_reads' HO357.out).2.1); (case side5 => exact y2_ (Kd.R_reads' HO360.out).2.2); (case side6 => exact (Kd.R_reads' HO360.out).2.1); rintro e w129 ⟨v362, v365, v368, rfl, ho0, ho1, ho2, hb⟩; refine ⟨_, rfl, ?_⟩; have n0_ := Aside0.mk (Kd.R_mono (Kd.R_told (Kd.R_told (Kd.R_old (b2_ HO_310000.out) hb) (Kd.R_base ho0)) (Kd.R_base ho1)) (fun _ h_ => h_.1)); have n1_ := Aside0.mk (Kd.R_mono (Kd.R_told (Kd.R_told (Kd.R_old (b2_ HO_310001.out) hb) (Kd.R_base ho0)) (Kd.R_base ho1)) (fun _ h_ => h_.1)); have n2_ := Aside0.mk (Kd.R_elder' (b2_ HO_310002.out) (Kd.R_base ho2) hb); have n3_ := Aside0.mk (Kd.R_mono (Kd.R_told (Kd.R_told (Kd.R_old (b2_ HO_320000.out) hb) (Kd.R_base ho0)) (Kd.R_base ho1)) (fun _ h_ => h_.1)); have n4_ := Aside0.mk (Kd.R_mono (Kd.R_told (Kd.R_told (Kd.R_old (b2_ HO_320001.out) hb) (Kd.R_base ho0)) (Kd.R_base ho1)) (fun _ h_ => h_.1)); have n5_ := Aside0.mk (Kd.R_elder' (b2_ HO_320002.out) (Kd.R_base ho2) hb); have n6_ := Aside0.mk (Kd.R_mono (Kd.R_told (Kd.R_told (Kd.R_old (b2_ HO_331000.out) hb) (Kd.R_base ho0)) (Kd.R_base ho1)) (fun _ h_ => h_.1)); have n7_ := Aside0.mk (Kd.R_mono (Kd.R_told (Kd.R_told (Kd.R_old (b2_ HO_331001.out) hb) (Kd.R_base ho0)) (Kd.R_base ho1)) (fun _ h_ => h_.1)); have n8_ := Aside0.mk (Kd.R_elder' (b2_ HO_331002.out) (Kd.R_base ho2) hb); have n9_ := Aside0.mk (Kd.R_mono (Kd.R_told (Kd.R_told (Kd.R_old (b2_ HO354.out) hb) (Kd.R_base ho0)) (Kd.R_base ho1)) (fun _ h_ => h_.1)); have n10_ := Aside0.mk (Kd.R_mono (Kd.R_told (Kd.R_told (Kd.R_old (b2_ HO357.out) hb) (Kd.R_base ho0)) (Kd.R_base ho1)) (fun _ h_ => h_.1)); have n11_ := Aside0.mk (Kd.R_elder' (b2_ HO360.out) (Kd.R_base ho2) hb); have n12_ := Aside0.mk (Kd.R_lower (Kd.R_new' (Kd.R_new' (Kd.R_new' (Kd.R_new' (Kd.R_new' (Kd.R_new' (Kd.R_new' (Kd.R_new' ho0 (Kd.R_lt (b2_ HO_310000.out))) (Kd.R_lt (b2_ HO_310001.out))) (Kd.R_lt (b2_ HO_320000.out))) (Kd.R_lt (b2_ HO_320001.out))) (Kd.R_lt (b2_ HO_331000.out))) (Kd.R_lt (b2_ HO_331001.out))) (Kd.R_lt (b2_ HO354.out))) (Kd.R_lt (b2_ HO357.out))) (below_size (y1_ HB.out))); have n13_ := Aside0.mk (Kd.R_lower (Kd.R_new' (Kd.R_new' (Kd.R_new' (Kd.R_new' (Kd.R_new' (Kd.R_new' (Kd.R_new' (Kd.R_new' ho1 (Kd.R_lt (b2_ HO_310000.out))) (Kd.R_lt (b2_ HO_310001.out))) (Kd.R_lt (b2_ HO_320000.out))) (Kd.R_lt (b2_ HO_320001.out))) (Kd.R_lt (b2_ HO_331000.out))) (Kd.R_lt (b2_ HO_331001.out))) (Kd.R_lt (b2_ HO354.out))) (Kd.R_lt (b2_ HO357.out))) (below_size (y1_ HB.out))); have n14_ := Aside0.mk (Kd.R_lower (Kd.R_new' (Kd.R_new' (Kd.R_new' (Kd.R_new' ho2 (Kd.R_lt (b2_ HO_310002.out))) (Kd.R_lt (b2_ HO_320002.out))) (Kd.R_lt (b2_ HO_331002.out))) (Kd.R_lt (b2_ HO360.out))) (below_size (y1_ HB.out))); have n15_ := Aside0.mk (blk_below (g := gb288) (o := .cells #[.slice A0_0 l0_0.length c0_0, .slice A0_1 l0_1.length c0_1, .slice A0_2 l0_2.length c0_2] 45 (0, 0)) (b1_ BK288.out) hb); have n16_ := Aside0.mk (blk_below (g := gb309) (o := .cells #[.slice Ao23 t299.length co23, .slice Ao26 t302.length co26, .slice Ao27 t305.length co27] 27 (0, 0)) (b1_ BK309.out) hb); have n17_ := Aside0.mk (blk_below (g := gb319) (o := .cells #[.slice Ao31 t343.length co31, .slice Ao35 t344.length co35, .slice Ao36 t345.length co36] 27 (0, 0)) (b1_ BK319.out) hb); have n18_ := Aside0.mk (blk_below (g := gb330) (o := .cells #[.slice Ao39 t320.length co39, .slice Ao44 t323.length co44, .slice Ao45 t326.length co45] 27 (0, 0)) (b1_ BK330.out) hb); have n19_ := Aside0.mk (below_step (y1_ HB.out) hb); clear HO_310000; clear HO_310001; clear HO_310002; clear HO_320000; clear HO_320001; clear HO_320002; clear HO_331000; clear HO_331001; clear HO_331002; clear HO354; clear HO357; clear HO360; clear BK288; clear BK309; clear BK319; clear BK330; clear HB; have HO_310000 := n0_; have HO_310001 := n1_; have HO_310002 := n2_; have HO_320000 := n3_; have HO_320001 := n4_; have HO_320002 := n5_; have HO_331000 := n6_; have HO_331001 := n7_; have HO_331002 := n8_; have HO354 := n9_; have HO357 := n10_; have HO360 := n11_; have HO363 := n12_; have HO366 := n13_; have HO369 := n14_; have BK288 := n15_; have BK309 := n16_; have BK319 := n17_; have BK330 := n18_; have HB := n19_; clear n0_ n1_ n2_ n3_ n4_ n5_ n6_ n7_ n8_ n9_ n10_ n11_ n12_ n13_ n14_ n15_ n16_ n17_ n18_ n19_; (try clear hb); (try clear hb2); (try clear hk); (try clear hi); (try clear ho0); (try clear ho1); (try clear ho2)) | ((with_reducible refine gate_dst (N := 14) rfl ?_); refine box_event ?hg (N := 14) ?hd (cs := #[.slice none 0 0, .slice none 0 0, .slice none 0 0]) (t := 27) ?hr ?_; (case hd => rfl); (case hg => rfl); (case hr => first | (go_simp; done) | (go_simp; rfl)); intro gb371 hg w130 hbox hb; have n0_ := Aside0.mk (Kd.R_below (b2_ HO_310000.out) hb); have n1_ := Aside0.mk (Kd.R_below (b2_ HO_310001.out) hb); have n2_ := Aside0.mk (Kd.R_below (b2_ HO_310002.out) hb); have n3_ := Aside0.mk (Kd.R_below (b2_ HO_320000.out) hb); have n4_ := Aside0.mk (Kd.R_below (b2_ HO_320001.out) hb); have n5_ := Aside0.mk (Kd.R_below (b2_ HO_320002.out) hb); have n6_ := Aside0.mk (Kd.R_below (b2_ HO_331000.out) hb); have n7_ := Aside0.mk (Kd.R_below (b2_ HO_331001.out) hb); have n8_ := Aside0.mk (Kd.R_below (b2_ HO_331002.out) hb); have n9_ := Aside0.mk (Kd.R_below (b2_ HO354.out) hb); have n10_ := Aside0.mk (Kd.R_below (b2_ HO357.out) hb); have n11_ := Aside0.mk (Kd.R_below (b2_ HO360.out) hb); have n12_ := Aside0.mk (Kd.R_below (b2_ HO363.out) hb); have n13_ := Aside0.mk (Kd.R_below (b2_ HO366.out) hb); have n14_ := Aside0.mk (Kd.R_below (b2_ HO369.out) hb); have n15_ := Aside0.mk (blk_below (g := gb288) (o := .cells #[.slice A0_0 l0_0.length c0_0, .slice A0_1 l0_1.length c0_1, .slice A0_2 l0_2.length c0_2] 45 (0, 0)) (b1_ BK288.out) hb); have n16_ := Aside0.mk (blk_below (g := gb309) (o := .cells #[.slice Ao23 t299.length co23, .slice Ao26 t302.length co26, .slice Ao27 t305.length co27] 27 (0, 0)) (b1_ BK309.out) hb); have n17_ := Aside0.mk (blk_below (g := gb319) (o := .cells #[.slice Ao31 t343.length co31, .slice Ao35 t344.length co35, .slice Ao36 t345.length co36] 27 (0, 0)) (b1_ BK319.out) hb); have n18_ := Aside0.mk (blk_below (g := gb330) (o := .cells #[.slice Ao39 t320.length co39, .slice Ao44 t323.length co44, .slice Ao45 t326.length co45] 27 (0, 0)) (b1_ BK330.out) hb); have n19_ := Aside0.mk (below_step (y1_ HB.out) hb); have n20_ := Aside0.mk (hbox); have n21_ := Aside0.mk ((by rw [hg]; exact (below_size (y1_ HB.out)) : w.heap.size ≤ gb371)); have n22_ := Aside0.mk ((by rw [hg]; exact (below_size (y1_ HB.out)) : w.heap.size ≤ gb371)); have n23_ := Aside0.mk ((by rw [hg]; exact Nat.ne_of_lt (blk_lt (g := gb288) (o := .cells #[.slice A0_0 l0_0.length c0_0, .slice A0_1 l0_1.length c0_1, .slice A0_2 l0_2.length c0_2] 45 (0, 0)) (b1_ BK288.out)) : gb288 ≠ gb371)); have n24_ := Aside0.mk ((by rw [hg]; exact Nat.ne_of_gt (blk_lt (g := gb288) (o := .cells #[.slice A0_0 l0_0.length c0_0, .slice A0_1 l0_1.length c0_1, .slice A0_2 l0_2.length c0_2] 45 (0, 0)) (b1_ BK288.out)) : gb371 ≠ gb288)); have n25_ := Aside0.mk ((by rw [hg]; exact Nat.ne_of_lt (blk_lt (g := gb309) (o := .cells #[.slice Ao23 t299.length co23, .slice Ao26 t302.length co26, .slice Ao27 t305.length co27] 27 (0, 0)) (b1_ BK309.out)) : gb309 ≠ gb371)); have n26_ := Aside0.mk ((by rw [hg]; exact Nat.ne_of_gt (blk_lt (g := gb309) (o := .cells #[.slice Ao23 t299.length co23, .slice Ao26 t302.length co26, .slice Ao27 t305.length co27] 27 (0, 0)) (b1_ BK309.out)) : gb371 ≠ gb309)); have n27_ := Aside0.mk ((by rw [hg]; exact Nat.ne_of_lt (blk_lt (g := gb319) (o := .cells #[.slice Ao31 t343.length co31, .slice Ao35 t344.length co35, .slice Ao36 t345.length co36] 27 (0, 0)) (b1_ BK319.out)) : gb319 ≠ gb371)); have n28_ := Aside0.mk ((by rw [hg]; exact Nat.ne_of_gt (blk_lt (g := gb319) (o := .cells #[.slice Ao31 t343.length co31, .slice Ao35 t344.length co35, .slice Ao36 t345.length co36] 27 (0, 0)) (b1_ BK319.out)) : gb371 ≠ gb319)); have n29_ := Aside0.mk ((by rw [hg]; exact Nat.ne_of_lt (blk_lt (g := gb330) (o := .cells #[.slice Ao39 t320.length co39, .slice Ao44 t323.length co44, .slice Ao45 t326.length co45] 27 (0, 0)) (b1_ BK330.out)) : gb330 ≠ gb371)); have n30_ := Aside0.mk ((by rw [hg]; exact Nat.ne_of_gt (blk_lt (g := gb330) (o := .cells #[.slice Ao39 t320.length co39, .slice Ao44 t323.length co44, .slice Ao45 t326.length co45] 27 (0, 0)) (b1_ BK330.out)) : gb371 ≠ gb330)); clear HO_310000; clear HO_310001; clear HO_310002; clear HO_320000; clear HO_320001; clear HO_320002; clear HO_331000; clear HO_331001; clear HO_331002; clear HO354; clear HO357; clear HO360; clear HO363; clear HO366; clear HO369; clear BK288; clear BK309; clear BK319; clear BK330; clear HB; have HO_310000 := n0_; have HO_310001 := n1_; have HO_310002 := n2_; have HO_320000 := n3_; have HO_320001 := n4_; have HO_320002 := n5_; have HO_331000 := n6_; have HO_331001 := n7_; have HO_331002 := n8_; have HO354 := n9_; have HO357 := n10_; have HO360 := n11_; have HO363 := n12_; have HO366 := n13_; have HO369 := n14_; have BK288 := n15_; have BK309 := n16_; have BK319 := n17_; have BK330 := n18_; have HB := n19_; have BK371 := n20_; have GW371 := n21_; have GE371 := n22_; have NB288_371 := n23_; have NB371_288 := n24_; have NB309_371 := n25_; have NB371_309 := n26_; have NB319_371 := n27_; have NB371_319 := n28_; have NB330_371 := n29_; have NB371_330 := n30_; clear n0_ n1_ n2_ n3_ n4_ n5_ n6_ n7_ n8_ n9_ n10_ n11_ n12_ n13_ n14_ n15_ n16_ n17_ n18_ n19_ n20_ n21_ n22_ n23_ n24_ n25_ n26_ n27_ n28_ n29_ n30_; clear hb hbox hg; obtain ⟨Ao131, co131, eo131⟩ := Kd.R_slice HO363.out; subst eo131; have hnb132 := NB371_288.out; have hnc132 := NB288_371.out; have hnb133 := NB371_309.out; have hnc133 := NB309_371.out; have hnb134 := NB371_319.out; have hnc134 := NB319_371.out; have hnb135 := NB371_330.out; have hnc135 := NB330_371.out; have hcz136_0 : w130.cell? ⟨gb371, 0, none⟩ = some (.slice none 0 0) := (blk_cell BK371.out 0).trans rfl; have hcz136_1 : w130.cell? ⟨gb371, 1, none⟩ = some (.slice none 0 0) := (blk_cell BK371.out 1).trans rfl; have hcz136_2 : w130.cell? ⟨gb371, 2, none⟩ = some (.slice none 0 0) := (blk_cell BK371.out 2).trans rfl; have hfz136_0 := blk_frozen BK371.out 0; have hfz136_1 := blk_frozen BK371.out 1; have hfz136_2 := blk_frozen BK371.out 2; obtain ⟨Ao137, co137, eo137⟩ := Kd.R_slice HO366.out; subst eo137; obtain ⟨Ao138, co138, eo138⟩ := Kd.R_slice HO369.out; subst eo138))
 (try simp only [Act.put, List.setIfInBounds_toArray, List.set_cons_zero, List.set_cons_succ])
 go_cut [92] (fun v92 wc => ∃ (kq : Nat) (x92_113 : Bool), v92 = .bool x92_113 ∧ Aside0 (laws_FnExactLeaveNow.j2 kq t347 x92_113 t348 t349 t350 = some r) ∧ Aside0 (kq ≤ kj68) ∧ Aside0 (Kd.R k63 63 wc w.heap.size (fun k_ => some k_ ≠ ((.slice Ao26 t302.length co26) : Value).ownBlock ∧ some k_ ≠ ((.slice Ao31 t343.length co31) : Value).ownBlock ∧ some k_ ≠ ((.slice Ao35 t344.length co35) : Value).ownBlock ∧ some k_ ≠ ((.slice Ao39 t320.length co39) : Value).ownBlock ∧ some k_ ≠ ((.slice Ao44 t323.length co44) : Value).ownBlock ∧ some k_ ≠ ((.slice Ao131 t361.length co131) : Value).ownBlock ∧ some k_ ≠ ((.slice Ao137 t364.length co137) : Value).ownBlock) (.slice Ao23 t299.length co23) t299) ∧ Aside0 (Kd.R k63 63 wc w.heap.size (fun k_ => some k_ ≠ ((.slice Ao23 t299.length co23) : Value).ownBlock ∧ some k_ ≠ ((.slice Ao31 t343.length co31) : Value).ownBlock ∧ some k_ ≠ ((.slice Ao35 t344.length co35) : Value).ownBlock ∧ some k_ ≠ ((.slice Ao39 t320.length co39) : Value).ownBlock ∧ some k_ ≠ ((.slice Ao44 t323.length co44) : Value).ownBlock ∧ some k_ ≠ ((.slice Ao131 t361.length co131) : Value).ownBlock ∧ some k_ ≠ ((.slice Ao137 t364.length co137) : Value).ownBlock) (.slice Ao26 t302.length co26) t302) ∧ Aside0 (Kd.R k73 73 wc w.heap.size (fun k_ => some k_ ≠ ((.slice Ao36 t345.length co36) : Value).ownBlock ∧ some k_ ≠ ((.slice Ao45 t326.length co45) : Value).ownBlock ∧ some k_ ≠ ((.slice Ao138 t367.length co138) : Value).ownBlock) (.slice Ao27 t305.length co27) t305) ∧ Aside0 (Kd.R k63 63 wc w.heap.size (fun k_ => some k_ ≠ ((.slice Ao23 t299.length co23) : Value).ownBlock ∧ some k_ ≠ ((.slice Ao26 t302.length co26) : Value).ownBlock ∧ some k_ ≠ ((.slice Ao35 t344.length co35) : Value).ownBlock ∧ some k_ ≠ ((.slice Ao39 t320.length co39) : Value).ownBlock ∧ some k_ ≠ ((.slice Ao44 t323.length co44) : Value).ownBlock ∧ some k_ ≠ ((.slice Ao131 t361.length co131) : Value).ownBlock ∧ some k_ ≠ ((.slice Ao137 t364.length co137) : Value).ownBlock) (.slice Ao31 t343.length co31) t343) ∧ Aside0 (Kd.R k63 63 wc w.heap.size (fun k_ => some k_ ≠ ((.slice Ao23 t299.length co23) : Value).ownBlock ∧ some k_ ≠ ((.slice Ao26 t302.length co26) : Value).ownBlock ∧ some k_ ≠ ((.slice Ao31 t343.length co31) : Value).ownBlock ∧ some k_ ≠ ((.slice Ao39 t320.length co39) : Value).ownBlock ∧ some k_ ≠ ((.slice Ao44 t323.length co44) : Value).ownBlock ∧ some k_ ≠ ((.slice Ao131 t361.length co131) : Value).ownBlock ∧ some k_ ≠ ((.slice Ao137 t364.length co137) : Value).ownBlock) (.slice Ao35 t344.length co35) t344) ∧ Aside0 (Kd.R k73 73 wc w.heap.size (fun k_ => some k_ ≠ ((.slice Ao27 t305.length co27) : Value).ownBlock ∧ some k_ ≠ ((.slice Ao45 t326.length co45) : Value).ownBlock ∧ some k_ ≠ ((.slice Ao138 t367.length co138) : Value).ownBlock) (.slice Ao36 t345.length co36) t345) ∧ Aside0 (Kd.R k63 63 wc w.heap.size (fun k_ => some k_ ≠ ((.slice Ao23 t299.length co23) : Value).ownBlock ∧ some k_ ≠ ((.slice Ao26 t302.length co26) : Value).ownBlock ∧ some k_ ≠ ((.slice Ao31 t343.length co31) : Value).ownBlock ∧ some k_ ≠ ((.slice Ao35 t344.length co35) : Value).ownBlock ∧ some k_ ≠ ((.slice Ao44 t323.length co44) : Value).ownBlock ∧ some k_ ≠ ((.slice Ao131 t361.length co131) : Value).ownBlock ∧ some k_ ≠ ((.slice Ao137 t364.length co137) : Value).ownBlock) (.slice Ao39 t320.length co39) t348) ∧ Aside0 (Kd.R k63 63 wc w.heap.size (fun k_ => some k_ ≠ ((.slice Ao23 t299.length co23) : Value).ownBlock ∧ some k_ ≠ ((.slice Ao26 t302.length co26) : Value).ownBlock ∧ some k_ ≠ ((.slice Ao31 t343.length co31) : Value).ownBlock ∧ some k_ ≠ ((.slice Ao35 t344.length co35) : Value).ownBlock ∧ some k_ ≠ ((.slice Ao39 t320.length co39) : Value).ownBlock ∧ some k_ ≠ ((.slice Ao131 t361.length co131) : Value).ownBlock ∧ some k_ ≠ ((.slice Ao137 t364.length co137) : Value).ownBlock) (.slice Ao44 t323.length co44) t349) ∧ Aside0 (Kd.R k73 73 wc w.heap.size (fun k_ => some k_ ≠ ((.slice Ao27 t305.length co27) : Value).ownBlock ∧ some k_ ≠ ((.slice Ao36 t345.length co36) : Value).ownBlock ∧ some k_ ≠ ((.slice Ao138 t367.length co138) : Value).ownBlock) (.slice Ao45 t326.length co45) t350) ∧ Aside0 (Kd.R k63 63 wc w.heap.size (fun k_ => some k_ ≠ ((.slice Ao23 t299.length co23) : Value).ownBlock ∧ some k_ ≠ ((.slice Ao26 t302.length co26) : Value).ownBlock ∧ some k_ ≠ ((.slice Ao31 t343.length co31) : Value).ownBlock ∧ some k_ ≠ ((.slice Ao35 t344.length co35) : Value).ownBlock ∧ some k_ ≠ ((.slice Ao39 t320.length co39) : Value).ownBlock ∧ some k_ ≠ ((.slice Ao44 t323.length co44) : Value).ownBlock ∧ some k_ ≠ ((.slice Ao137 t364.length co137) : Value).ownBlock) (.slice Ao131 t361.length co131) t361) ∧ Aside0 (Kd.R k63 63 wc w.heap.size (fun k_ => some k_ ≠ ((.slice Ao23 t299.length co23) : Value).ownBlock ∧ some k_ ≠ ((.slice Ao26 t302.length co26) : Value).ownBlock ∧ some k_ ≠ ((.slice Ao31 t343.length co31) : Value).ownBlock ∧ some k_ ≠ ((.slice Ao35 t344.length co35) : Value).ownBlock ∧ some k_ ≠ ((.slice Ao39 t320.length co39) : Value).ownBlock ∧ some k_ ≠ ((.slice Ao44 t323.length co44) : Value).ownBlock ∧ some k_ ≠ ((.slice Ao131 t361.length co131) : Value).ownBlock) (.slice Ao137 t364.length co137) t364) ∧ Aside0 (Kd.R k73 73 wc w.heap.size (fun k_ => some k_ ≠ ((.slice Ao27 t305.length co27) : Value).ownBlock ∧ some k_ ≠ ((.slice Ao36 t345.length co36) : Value).ownBlock ∧ some k_ ≠ ((.slice Ao45 t326.length co45) : Value).ownBlock) (.slice Ao138 t367.length co138) t367) ∧ Aside0 (wc.heap[gb288]? = some (.cells #[(.slice A0_0 l0_0.length c0_0), (.slice A0_1 l0_1.length c0_1), (.slice A0_2 l0_2.length c0_2)] 45 (0, 0))) ∧ Aside0 (wc.heap[gb309]? = some (.cells #[(.slice Ao23 t299.length co23), (.slice Ao26 t302.length co26), (.slice Ao27 t305.length co27)] 27 (0, 0))) ∧ Aside0 (wc.heap[gb319]? = some (.cells #[(.slice Ao31 t343.length co31), (.slice Ao35 t344.length co35), (.slice Ao36 t345.length co36)] 27 (0, 0))) ∧ Aside0 (wc.heap[gb330]? = some (.cells #[(.slice Ao39 t320.length co39), (.slice Ao44 t323.length co44), (.slice Ao45 t326.length co45)] 27 (0, 0))) ∧ Aside0 (wc.heap[gb371]? = some (.cells #[(.slice Ao131 t361.length co131), (.slice Ao137 t364.length co137), (.slice Ao138 t367.length co138)] 27 (0, 0))) ∧ Aside0 (Below w.heap.size w wc))
 case first =>
  as_aux_lemma =>
   skip
   {
 have H := HC114.out
 clear HC114
 replace H := Option.bind_eq_some_iff.mp H
 obtain ⟨t372, A1390, H⟩ := H
 replace H : (if t372 = true then (laws_FnExactLeaveNow.j2 kj68 t347 (t370 != t308) t348 t349 t350) else (laws_FnExactLeaveNow.j2 kj68 t347 true t348 t349 t350)) = some r := H
 have A139 := Aside0.mk A1390
 clear A1390
 by_cases c140 : t372 = true
 {
 subst c140
 have H1 : (laws_FnExactLeaveNow.j2 kj68 t347 (t370 != t308) t348 t349 t350) = some r := by rw [if_pos rfl] at H; exact H
 clear H
 have H := H1
 clear H1
 have H' := Aside0.mk H
 clear H
 have hnb141 := NB371_288.out
 have hnc141 := NB288_371.out
 have hnb142 := NB371_309.out
 have hnc142 := NB309_371.out
 have hnb143 := NB371_319.out
 have hnc143 := NB319_371.out
 have hnb144 := NB371_330.out
 have hnc144 := NB330_371.out
 have hcz145_0 : w130.cell? ⟨gb371, 0, none⟩ = some (.slice none 0 0) := (blk_cell BK371.out 0).trans rfl
 have hcz145_1 : w130.cell? ⟨gb371, 1, none⟩ = some (.slice none 0 0) := (blk_cell BK371.out 1).trans rfl
 have hcz145_2 : w130.cell? ⟨gb371, 2, none⟩ = some (.slice none 0 0) := (blk_cell BK371.out 2).trans rfl
 have hfz145_0 := blk_frozen BK371.out 0
 have hfz145_1 := blk_frozen BK371.out 1
 have hfz145_2 := blk_frozen BK371.out 2
 have hnb146 := NB309_288.out
 have hnc146 := NB288_309.out
 have hnb147 := NB309_319.out
 have hnc147 := NB319_309.out
 have hnb148 := NB309_330.out
 have hnc148 := NB330_309.out
 have hcz149_0 : w130.cell? ⟨gb309, 0, none⟩ = some (.slice Ao23 t299.length co23) := (blk_cell BK309.out 0).trans rfl
 have hcz149_1 : w130.cell? ⟨gb309, 1, none⟩ = some (.slice Ao26 t302.length co26) := (blk_cell BK309.out 1).trans rfl
 have hcz149_2 : w130.cell? ⟨gb309, 2, none⟩ = some (.slice Ao27 t305.length co27) := (blk_cell BK309.out 2).trans rfl
 have hfz149_0 := blk_frozen BK309.out 0
 have hfz149_1 := blk_frozen BK309.out 1
 have hfz149_2 := blk_frozen BK309.out 2
 go_wp2_with (first | ((with_reducible refine gate_callee (f := 27) rfl ?_); refine goesL_ (some 86) rfl rfl Try.func27 s2_ rfl #[.agg #[.slice Ao131 t361.length co131, .slice Ao137 t364.length co137, .slice Ao138 t367.length co138], .agg #[.slice Ao23 t299.length co23, .slice Ao26 t302.length co26, .slice Ao27 t305.length co27]] rfl s3_ ?_; (with_reducible refine (laws_eqPresence.calls kj68 _ _ t361 _ _ t364 _ _ t367 _ _ t299 _ _ t302 _ _ t305 true _ ?side1 ?side2 ?side3 ?side4 ?side5 ?side6 ?side7 ?side8 ?side9 ?side10 ?side11 ?side12 A139.out).mono ?_); (case side1 => refine (Kd.R_reads' (e := 63) (base := w.heap.size) (ok := fun k_ => ((((((((some k_ ≠ (.slice Ao137 t364.length co137 : Value).ownBlock ∧ some k_ ≠ (.slice Ao23 t299.length co23 : Value).ownBlock) ∧ some k_ ≠ (.slice Ao26 t302.length co26 : Value).ownBlock) ∧ some k_ ≠ (.slice Ao31 t343.length co31 : Value).ownBlock) ∧ some k_ ≠ (.slice Ao35 t344.length co35 : Value).ownBlock) ∧ some k_ ≠ (.slice Ao39 t320.length co39 : Value).ownBlock) ∧ some k_ ≠ (.slice Ao44 t323.length co44 : Value).ownBlock) ∧ some k_ ≠ (.slice Ao126 t352.length co126 : Value).ownBlock) ∧ some k_ ≠ (.slice Ao127 t355.length co127 : Value).ownBlock)) (n := t361.length) (c := co131) ?_).2.2; exact (by (with_reducible repeat (first | apply Kd.R_alloc | apply Kd.R_drewN | apply Kd.R_drew)); exact (Kd.R_mono (Kd.R_far3 (g := gb371) (Kd.R_types HO363.out BK371.out (by decide)) (fun _ hk => hk.2)) (fun _ h_ => h_.1)))); (case side2 => exact (Kd.R_reads' HO363.out).2.1); (case side3 => refine (Kd.R_reads' (e := 63) (base := w.heap.size) (ok := fun k_ => ((((((((some k_ ≠ (.slice Ao131 t361.length co131 : Value).ownBlock ∧ some k_ ≠ (.slice Ao23 t299.length co23 : Value).ownBlock) ∧ some k_ ≠ (.slice Ao26 t302.length co26 : Value).ownBlock) ∧ some k_ ≠ (.slice Ao31 t343.length co31 : Value).ownBlock) ∧ some k_ ≠ (.slice Ao35 t344.length co35 : Value).ownBlock) ∧ some k_ ≠ (.slice Ao39 t320.length co39 : Value).ownBlock) ∧ some k_ ≠ (.slice Ao44 t323.length co44 : Value).ownBlock) ∧ some k_ ≠ (.slice Ao126 t352.length co126 : Value).ownBlock) ∧ some k_ ≠ (.slice Ao127 t355.length co127 : Value).ownBlock)) (n := t364.length) (c := co137) ?_).2.2; exact (by (with_reducible repeat (first | apply Kd.R_alloc | apply Kd.R_drewN | apply Kd.R_drew)); exact (Kd.R_mono (Kd.R_far3 (g := gb371) (Kd.R_types HO366.out BK371.out (by decide)) (fun _ hk => hk.2)) (fun _ h_ => h_.1)))); (case side4 => exact (Kd.R_reads' HO366.out).2.1); (case side5 => refine (Kd.R_reads' (e := 73) (base := w.heap.size) (ok := fun k_ => ((((True ∧ some k_ ≠ (.slice Ao27 t305.length co27 : Value).ownBlock) ∧ some k_ ≠ (.slice Ao36 t345.length co36 : Value).ownBlock) ∧ some k_ ≠ (.slice Ao45 t326.length co45 : Value).ownBlock) ∧ some k_ ≠ (.slice Ao128 t358.length co128 : Value).ownBlock)) (n := t367.length) (c := co138) ?_).2.2; exact (by (with_reducible repeat (first | apply Kd.R_alloc | apply Kd.R_drewN | apply Kd.R_drew)); exact (Kd.R_mono (Kd.R_far3 (g := gb371) (Kd.R_types HO369.out BK371.out (by decide)) (fun _ hk => hk.2)) (fun _ h_ => h_.1)))); (case side6 => exact (Kd.R_reads' HO369.out).2.1); (case side7 => refine (Kd.R_reads' (e := 63) (base := w.heap.size) (ok := fun k_ => (((((some k_ ≠ (.slice Ao26 t302.length co26 : Value).ownBlock ∧ (some k_ ≠ (.slice Ao31 t343.length co31 : Value).ownBlock ∧ (some k_ ≠ (.slice Ao35 t344.length co35 : Value).ownBlock ∧ (some k_ ≠ (.slice Ao39 t320.length co39 : Value).ownBlock ∧ some k_ ≠ (.slice Ao44 t323.length co44 : Value).ownBlock)))) ∧ some k_ ≠ (.slice Ao126 t352.length co126 : Value).ownBlock) ∧ some k_ ≠ (.slice Ao127 t355.length co127 : Value).ownBlock) ∧ some k_ ≠ (.slice Ao131 t361.length co131 : Value).ownBlock) ∧ some k_ ≠ (.slice Ao137 t364.length co137 : Value).ownBlock)) (n := t299.length) (c := co23) ?_).2.2; exact (by (with_reducible repeat (first | apply Kd.R_alloc | apply Kd.R_drewN | apply Kd.R_drew)); exact (Kd.R_mono (Kd.R_far3 (g := gb371) (Kd.R_types HO_310000.out BK371.out (by decide)) (fun _ hk => hk.2)) (fun _ h_ => h_.1)))); (case side8 => exact (Kd.R_reads' HO_310000.out).2.1); (case side9 => refine (Kd.R_reads' (e := 63) (base := w.heap.size) (ok := fun k_ => (((((some k_ ≠ (.slice Ao23 t299.length co23 : Value).ownBlock ∧ (some k_ ≠ (.slice Ao31 t343.length co31 : Value).ownBlock ∧ (some k_ ≠ (.slice Ao35 t344.length co35 : Value).ownBlock ∧ (some k_ ≠ (.slice Ao39 t320.length co39 : Value).ownBlock ∧ some k_ ≠ (.slice Ao44 t323.length co44 : Value).ownBlock)))) ∧ some k_ ≠ (.slice Ao126 t352.length co126 : Value).ownBlock) ∧ some k_ ≠ (.slice Ao127 t355.length co127 : Value).ownBlock) ∧ some k_ ≠ (.slice Ao131 t361.length co131 : Value).ownBlock) ∧ some k_ ≠ (.slice Ao137 t364.length co137 : Value).ownBlock)) (n := t302.length) (c := co26) ?_).2.2; exact (by (with_reducible repeat (first | apply Kd.R_alloc | apply Kd.R_drewN | apply Kd.R_drew)); exact (Kd.R_mono (Kd.R_far3 (g := gb371) (Kd.R_types HO_310001.out BK371.out (by decide)) (fun _ hk => hk.2)) (fun _ h_ => h_.1)))); (case side10 => exact (Kd.R_reads' HO_310001.out).2.1); (case side11 => refine (Kd.R_reads' (e := 73) (base := w.heap.size) (ok := fun k_ => (((some k_ ≠ (.slice Ao36 t345.length co36 : Value).ownBlock ∧ some k_ ≠ (.slice Ao45 t326.length co45 : Value).ownBlock) ∧ some k_ ≠ (.slice Ao128 t358.length co128 : Value).ownBlock) ∧ some k_ ≠ (.slice Ao138 t367.length co138 : Value).ownBlock)) (n := t305.length) (c := co27) ?_).2.2; exact (by (with_reducible repeat (first | apply Kd.R_alloc | apply Kd.R_drewN | apply Kd.R_drew)); exact (Kd.R_mono (Kd.R_far3 (g := gb371) (Kd.R_types HO_310002.out BK371.out (by decide)) (fun _ hk => hk.2)) (fun _ h_ => h_.1)))); (case side12 => exact (Kd.R_reads' HO_310002.out).2.1); rintro e w150 ⟨rfl, hb⟩; refine ⟨_, rfl, ?_⟩; have n0_ := Aside0.mk (Kd.R_below (by (with_reducible repeat (first | apply Kd.R_alloc | apply Kd.R_drewN | apply Kd.R_drew)); exact (Kd.R_mono (Kd.R_far3 (g := gb371) (Kd.R_types HO_310000.out BK371.out (by decide)) (fun _ hk => hk.2)) (fun _ h_ => h_.1))) hb); have n1_ := Aside0.mk (Kd.R_below (by (with_reducible repeat (first | apply Kd.R_alloc | apply Kd.R_drewN | apply Kd.R_drew)); exact (Kd.R_mono (Kd.R_far3 (g := gb371) (Kd.R_types HO_310001.out BK371.out (by decide)) (fun _ hk => hk.2)) (fun _ h_ => h_.1))) hb); have n2_ := Aside0.mk (Kd.R_below (by (with_reducible repeat (first | apply Kd.R_alloc | apply Kd.R_drewN | apply Kd.R_drew)); exact (Kd.R_mono (Kd.R_far3 (g := gb371) (Kd.R_types HO_310002.out BK371.out (by decide)) (fun _ hk => hk.2)) (fun _ h_ => h_.1))) hb); have n3_ := Aside0.mk (Kd.R_below (by (with_reducible repeat (first | apply Kd.R_alloc | apply Kd.R_drewN | apply Kd.R_drew)); exact (Kd.R_mono (Kd.R_far3 (g := gb371) (Kd.R_types HO_320000.out BK371.out (by decide)) (fun _ hk => hk.2)) (fun _ h_ => h_.1))) hb); have n4_ := Aside0.mk (Kd.R_below (by (with_reducible repeat (first | apply Kd.R_alloc | apply Kd.R_drewN | apply Kd.R_drew)); exact (Kd.R_mono (Kd.R_far3 (g := gb371) (Kd.R_types HO_320001.out BK371.out (by decide)) (fun _ hk => hk.2)) (fun _ h_ => h_.1))) hb); have n5_ := Aside0.mk (Kd.R_below (by (with_reducible repeat (first | apply Kd.R_alloc | apply Kd.R_drewN | apply Kd.R_drew)); exact (Kd.R_mono (Kd.R_far3 (g := gb371) (Kd.R_types HO_320002.out BK371.out (by decide)) (fun _ hk => hk.2)) (fun _ h_ => h_.1))) hb); have n6_ := Aside0.mk (Kd.R_below (by (with_reducible repeat (first | apply Kd.R_alloc | apply Kd.R_drewN | apply Kd.R_drew)); exact (Kd.R_mono (Kd.R_far3 (g := gb371) (Kd.R_types HO_331000.out BK371.out (by decide)) (fun _ hk => hk.2)) (fun _ h_ => h_.1))) hb); have n7_ := Aside0.mk (Kd.R_below (by (with_reducible repeat (first | apply Kd.R_alloc | apply Kd.R_drewN | apply Kd.R_drew)); exact (Kd.R_mono (Kd.R_far3 (g := gb371) (Kd.R_types HO_331001.out BK371.out (by decide)) (fun _ hk => hk.2)) (fun _ h_ => h_.1))) hb); have n8_ := Aside0.mk (Kd.R_below (by (with_reducible repeat (first | apply Kd.R_alloc | apply Kd.R_drewN | apply Kd.R_drew)); exact (Kd.R_mono (Kd.R_far3 (g := gb371) (Kd.R_types HO_331002.out BK371.out (by decide)) (fun _ hk => hk.2)) (fun _ h_ => h_.1))) hb); have n9_ := Aside0.mk (Kd.R_below (by (with_reducible repeat (first | apply Kd.R_alloc | apply Kd.R_drewN | apply Kd.R_drew)); exact (Kd.R_mono (Kd.R_far3 (g := gb371) (Kd.R_types HO354.out BK371.out (by decide)) (fun _ hk => hk.2)) (fun _ h_ => h_.1))) hb); have n10_ := Aside0.mk (Kd.R_below (by (with_reducible repeat (first | apply Kd.R_alloc | apply Kd.R_drewN | apply Kd.R_drew)); exact (Kd.R_mono (Kd.R_far3 (g := gb371) (Kd.R_types HO357.out BK371.out (by decide)) (fun _ hk => hk.2)) (fun _ h_ => h_.1))) hb); have n11_ := Aside0.mk (Kd.R_below (by (with_reducible repeat (first | apply Kd.R_alloc | apply Kd.R_drewN | apply Kd.R_drew)); exact (Kd.R_mono (Kd.R_far3 (g := gb371) (Kd.R_types HO360.out BK371.out (by decide)) (fun _ hk => hk.2)) (fun _ h_ => h_.1))) hb); have n12_ := Aside0.mk (Kd.R_below (by (with_reducible repeat (first | apply Kd.R_alloc | apply Kd.R_drewN | apply Kd.R_drew)); exact (Kd.R_mono (Kd.R_far3 (g := gb371) (Kd.R_types HO363.out BK371.out (by decide)) (fun _ hk => hk.2)) (fun _ h_ => h_.1))) hb); have n13_ := Aside0.mk (Kd.R_below (by (with_reducible repeat (first | apply Kd.R_alloc | apply Kd.R_drewN | apply Kd.R_drew)); exact (Kd.R_mono (Kd.R_far3 (g := gb371) (Kd.R_types HO366.out BK371.out (by decide)) (fun _ hk => hk.2)) (fun _ h_ => h_.1))) hb); have n14_ := Aside0.mk (Kd.R_below (by (with_reducible repeat (first | apply Kd.R_alloc | apply Kd.R_drewN | apply Kd.R_drew)); exact (Kd.R_mono (Kd.R_far3 (g := gb371) (Kd.R_types HO369.out BK371.out (by decide)) (fun _ hk => hk.2)) (fun _ h_ => h_.1))) hb); have n15_ := Aside0.mk (blk_below (g := gb288) (o := .cells #[.slice A0_0 l0_0.length c0_0, .slice A0_1 l0_1.length c0_1, .slice A0_2 l0_2.length c0_2] 45 (0, 0)) (by (with_reducible repeat (first | refine blk_drewN ?_ _ | refine blk_drew ?_ | refine blk_alloc ?_ _)); refine blk_far3 ?_ NB288_371.out; (with_reducible repeat (first | refine blk_drewN ?_ _ | refine blk_drew ?_ | refine blk_alloc ?_ _)); exact BK288.out) hb); have n16_ := Aside0.mk (blk_below (g := gb309) (o := .cells #[.slice Ao23 t299.length co23, .slice Ao26 t302.length co26, .slice Ao27 t305.length co27] 27 (0, 0)) (by (with_reducible repeat (first | refine blk_drewN ?_ _ | refine blk_drew ?_ | refine blk_alloc ?_ _)); refine blk_far3 ?_ NB309_371.out; (with_reducible repeat (first | refine blk_drewN ?_ _ | refine blk_drew ?_ | refine blk_alloc ?_ _)); exact BK309.out) hb); have n17_ := Aside0.mk (blk_below (g := gb319) (o := .cells #[.slice Ao31 t343.length co31, .slice Ao35 t344.length co35, .slice Ao36 t345.length co36] 27 (0, 0)) (by (with_reducible repeat (first | refine blk_drewN ?_ _ | refine blk_drew ?_ | refine blk_alloc ?_ _)); refine blk_far3 ?_ NB319_371.out; (with_reducible repeat (first | refine blk_drewN ?_ _ | refine blk_drew ?_ | refine blk_alloc ?_ _)); exact BK319.out) hb); have n18_ := Aside0.mk (blk_below (g := gb330) (o := .cells #[.slice Ao39 t320.length co39, .slice Ao44 t323.length co44, .slice Ao45 t326.length co45] 27 (0, 0)) (by (with_reducible repeat (first | refine blk_drewN ?_ _ | refine blk_drew ?_ | refine blk_alloc ?_ _)); refine blk_far3 ?_ NB330_371.out; (with_reducible repeat (first | refine blk_drewN ?_ _ | refine blk_drew ?_ | refine blk_alloc ?_ _)); exact BK330.out) hb); have n19_ := Aside0.mk (blk_below (g := gb371) (o := .cells #[.slice Ao131 t361.length co131, .slice Ao137 t364.length co137, .slice Ao138 t367.length co138] 27 (0, 0)) (by (with_reducible repeat (first | refine blk_drewN ?_ _ | refine blk_drew ?_ | refine blk_alloc ?_ _)); refine blk_put3 (cs := #[.slice none 0 0, .slice none 0 0, .slice none 0 0]) ?_ rfl; (with_reducible repeat (first | refine blk_drewN ?_ _ | refine blk_drew ?_ | refine blk_alloc ?_ _)); exact BK371.out) hb); have n20_ := Aside0.mk (below_step (by repeat (first | (with_reducible first | exact HB.out | apply below_alloc | apply pw_below_drewN | apply below_drew1 | refine below_set ?_ GE371.out) | exact HB.out)) hb); clear HO_310000; clear HO_310001; clear HO_310002; clear HO_320000; clear HO_320001; clear HO_320002; clear HO_331000; clear HO_331001; clear HO_331002; clear HO354; clear HO357; clear HO360; clear HO363; clear HO366; clear HO369; clear BK288; clear BK309; clear BK319; clear BK330; clear BK371; clear HB; have HO_310000 := n0_; have HO_310001 := n1_; have HO_310002 := n2_; have HO_320000 := n3_; have HO_320001 := n4_; have HO_320002 := n5_; have HO_331000 := n6_; have HO_331001 := n7_; have HO_331002 := n8_; have HO354 := n9_; have HO357 := n10_; have HO360 := n11_; have HO363 := n12_; have HO366 := n13_; have HO369 := n14_; have BK288 := n15_; have BK309 := n16_; have BK319 := n17_; have BK330 := n18_; have BK371 := n19_; have HB := n20_; clear n0_ n1_ n2_ n3_ n4_ n5_ n6_ n7_ n8_ n9_ n10_ n11_ n12_ n13_ n14_ n15_ n16_ n17_ n18_ n19_ n20_; (try clear hb); (try clear hb2); (try clear hk); (try clear hi)))
 go_meet
 case rel => exact ⟨_, ((t370 != t308)), s1_, H', ⟨by have := HJ11.out; have := HJ68.out; first | omega | exact Nat.le_refl _⟩, ⟨by (try simp only [hl320000_68]); (try simp only [hl320001_68]); (try simp only [hl320002_68]); (with_reducible repeat (first | apply Kd.R_alloc | apply Kd.R_drewN | apply Kd.R_drew)); exact Kd.R_mono HO_310000.out (fun _ hk => ⟨hk.1.1.1.1.1, ⟨hk.1.1.1.1.2.1, ⟨hk.1.1.1.1.2.2.1, ⟨hk.1.1.1.1.2.2.2.1, ⟨hk.1.1.1.1.2.2.2.2, ⟨hk.1.2, hk.2⟩⟩⟩⟩⟩⟩)⟩, ⟨by (try simp only [hl320000_68]); (try simp only [hl320001_68]); (try simp only [hl320002_68]); (with_reducible repeat (first | apply Kd.R_alloc | apply Kd.R_drewN | apply Kd.R_drew)); exact Kd.R_mono HO_310001.out (fun _ hk => ⟨hk.1.1.1.1.1, ⟨hk.1.1.1.1.2.1, ⟨hk.1.1.1.1.2.2.1, ⟨hk.1.1.1.1.2.2.2.1, ⟨hk.1.1.1.1.2.2.2.2, ⟨hk.1.2, hk.2⟩⟩⟩⟩⟩⟩)⟩, ⟨by (try simp only [hl320000_68]); (try simp only [hl320001_68]); (try simp only [hl320002_68]); (with_reducible repeat (first | apply Kd.R_alloc | apply Kd.R_drewN | apply Kd.R_drew)); exact Kd.R_mono HO_310002.out (fun _ hk => ⟨hk.1.1.1, ⟨hk.1.1.2, hk.2⟩⟩)⟩, ⟨by (try simp only [hl320000_68]); (try simp only [hl320001_68]); (try simp only [hl320002_68]); (with_reducible repeat (first | apply Kd.R_alloc | apply Kd.R_drewN | apply Kd.R_drew)); exact Kd.R_mono HO_320000.out (fun _ hk => ⟨hk.1.1.1.1.1, ⟨hk.1.1.1.1.2.1, ⟨hk.1.1.1.1.2.2.1, ⟨hk.1.1.1.1.2.2.2.1, ⟨hk.1.1.1.1.2.2.2.2, ⟨hk.1.2, hk.2⟩⟩⟩⟩⟩⟩)⟩, ⟨by (try simp only [hl320000_68]); (try simp only [hl320001_68]); (try simp only [hl320002_68]); (with_reducible repeat (first | apply Kd.R_alloc | apply Kd.R_drewN | apply Kd.R_drew)); exact Kd.R_mono HO_320001.out (fun _ hk => ⟨hk.1.1.1.1.1, ⟨hk.1.1.1.1.2.1, ⟨hk.1.1.1.1.2.2.1, ⟨hk.1.1.1.1.2.2.2.1, ⟨hk.1.1.1.1.2.2.2.2, ⟨hk.1.2, hk.2⟩⟩⟩⟩⟩⟩)⟩, ⟨by (try simp only [hl320000_68]); (try simp only [hl320001_68]); (try simp only [hl320002_68]); (with_reducible repeat (first | apply Kd.R_alloc | apply Kd.R_drewN | apply Kd.R_drew)); exact Kd.R_mono HO_320002.out (fun _ hk => ⟨hk.1.1.1, ⟨hk.1.1.2, hk.2⟩⟩)⟩, ⟨by (try simp only [hl320000_68]); (try simp only [hl320001_68]); (try simp only [hl320002_68]); (with_reducible repeat (first | apply Kd.R_alloc | apply Kd.R_drewN | apply Kd.R_drew)); exact Kd.R_mono HO_331000.out (fun _ hk => ⟨hk.1.1.1.1.1, ⟨hk.1.1.1.1.2.1, ⟨hk.1.1.1.1.2.2.1, ⟨hk.1.1.1.1.2.2.2.1, ⟨hk.1.1.1.1.2.2.2.2, ⟨hk.1.2, hk.2⟩⟩⟩⟩⟩⟩)⟩, ⟨by (try simp only [hl320000_68]); (try simp only [hl320001_68]); (try simp only [hl320002_68]); (with_reducible repeat (first | apply Kd.R_alloc | apply Kd.R_drewN | apply Kd.R_drew)); exact Kd.R_mono HO_331001.out (fun _ hk => ⟨hk.1.1.1.1.1, ⟨hk.1.1.1.1.2.1, ⟨hk.1.1.1.1.2.2.1, ⟨hk.1.1.1.1.2.2.2.1, ⟨hk.1.1.1.1.2.2.2.2, ⟨hk.1.2, hk.2⟩⟩⟩⟩⟩⟩)⟩, ⟨by (try simp only [hl320000_68]); (try simp only [hl320001_68]); (try simp only [hl320002_68]); (with_reducible repeat (first | apply Kd.R_alloc | apply Kd.R_drewN | apply Kd.R_drew)); exact Kd.R_mono HO_331002.out (fun _ hk => ⟨hk.1.1.1, ⟨hk.1.1.2, hk.2⟩⟩)⟩, ⟨by (try simp only [hl320000_68]); (try simp only [hl320001_68]); (try simp only [hl320002_68]); (with_reducible repeat (first | apply Kd.R_alloc | apply Kd.R_drewN | apply Kd.R_drew)); exact Kd.R_mono HO363.out (fun _ hk => ⟨hk.1.1.1.1.1.1.1.2, ⟨hk.1.1.1.1.1.1.2, ⟨hk.1.1.1.1.1.2, ⟨hk.1.1.1.1.2, ⟨hk.1.1.1.2, ⟨hk.1.1.2, hk.1.1.1.1.1.1.1.1⟩⟩⟩⟩⟩⟩)⟩, ⟨by (try simp only [hl320000_68]); (try simp only [hl320001_68]); (try simp only [hl320002_68]); (with_reducible repeat (first | apply Kd.R_alloc | apply Kd.R_drewN | apply Kd.R_drew)); exact Kd.R_mono HO366.out (fun _ hk => ⟨hk.1.1.1.1.1.1.1.2, ⟨hk.1.1.1.1.1.1.2, ⟨hk.1.1.1.1.1.2, ⟨hk.1.1.1.1.2, ⟨hk.1.1.1.2, ⟨hk.1.1.2, hk.1.1.1.1.1.1.1.1⟩⟩⟩⟩⟩⟩)⟩, ⟨by (try simp only [hl320000_68]); (try simp only [hl320001_68]); (try simp only [hl320002_68]); (with_reducible repeat (first | apply Kd.R_alloc | apply Kd.R_drewN | apply Kd.R_drew)); exact Kd.R_mono HO369.out (fun _ hk => ⟨hk.1.1.1.2, ⟨hk.1.1.2, hk.1.2⟩⟩)⟩, ⟨by (try simp only [hl320000_68]); (try simp only [hl320001_68]); (try simp only [hl320002_68]); (with_reducible repeat (first | refine blk_drewN ?_ _ | refine blk_drew ?_ | refine blk_alloc ?_ _)); exact BK288.out⟩, ⟨by (try simp only [hl320000_68]); (try simp only [hl320001_68]); (try simp only [hl320002_68]); (with_reducible repeat (first | refine blk_drewN ?_ _ | refine blk_drew ?_ | refine blk_alloc ?_ _)); exact BK309.out⟩, ⟨by (try simp only [hl320000_68]); (try simp only [hl320001_68]); (try simp only [hl320002_68]); (with_reducible repeat (first | refine blk_drewN ?_ _ | refine blk_drew ?_ | refine blk_alloc ?_ _)); exact BK319.out⟩, ⟨by (try simp only [hl320000_68]); (try simp only [hl320001_68]); (try simp only [hl320002_68]); (with_reducible repeat (first | refine blk_drewN ?_ _ | refine blk_drew ?_ | refine blk_alloc ?_ _)); exact BK330.out⟩, ⟨by (try simp only [hl320000_68]); (try simp only [hl320001_68]); (try simp only [hl320002_68]); (with_reducible repeat (first | refine blk_drewN ?_ _ | refine blk_drew ?_ | refine blk_alloc ?_ _)); exact BK371.out⟩, ⟨by repeat (first | (with_reducible first | exact HB.out | apply below_alloc | apply pw_below_drewN | apply below_drew1) | exact HB.out)⟩⟩}
 {
 replace c140 := Bool.eq_false_iff.mpr c140
 subst c140
 have H1 : (laws_FnExactLeaveNow.j2 kj68 t347 true t348 t349 t350) = some r := by rw [if_neg (show ¬ (false = true) by decide)] at H; exact H
 clear H
 have H := H1
 clear H1
 have H' := Aside0.mk H
 clear H
 have hnb151 := NB371_288.out
 have hnc151 := NB288_371.out
 have hnb152 := NB371_309.out
 have hnc152 := NB309_371.out
 have hnb153 := NB371_319.out
 have hnc153 := NB319_371.out
 have hnb154 := NB371_330.out
 have hnc154 := NB330_371.out
 have hcz155_0 : w130.cell? ⟨gb371, 0, none⟩ = some (.slice none 0 0) := (blk_cell BK371.out 0).trans rfl
 have hcz155_1 : w130.cell? ⟨gb371, 1, none⟩ = some (.slice none 0 0) := (blk_cell BK371.out 1).trans rfl
 have hcz155_2 : w130.cell? ⟨gb371, 2, none⟩ = some (.slice none 0 0) := (blk_cell BK371.out 2).trans rfl
 have hfz155_0 := blk_frozen BK371.out 0
 have hfz155_1 := blk_frozen BK371.out 1
 have hfz155_2 := blk_frozen BK371.out 2
 have hnb156 := NB309_288.out
 have hnc156 := NB288_309.out
 have hnb157 := NB309_319.out
 have hnc157 := NB319_309.out
 have hnb158 := NB309_330.out
 have hnc158 := NB330_309.out
 have hcz159_0 : w130.cell? ⟨gb309, 0, none⟩ = some (.slice Ao23 t299.length co23) := (blk_cell BK309.out 0).trans rfl
 have hcz159_1 : w130.cell? ⟨gb309, 1, none⟩ = some (.slice Ao26 t302.length co26) := (blk_cell BK309.out 1).trans rfl
 have hcz159_2 : w130.cell? ⟨gb309, 2, none⟩ = some (.slice Ao27 t305.length co27) := (blk_cell BK309.out 2).trans rfl
 have hfz159_0 := blk_frozen BK309.out 0
 have hfz159_1 := blk_frozen BK309.out 1
 have hfz159_2 := blk_frozen BK309.out 2
 go_wp2_with (first | ((with_reducible refine gate_callee (f := 27) rfl ?_); refine goesL_ (some 86) rfl rfl Try.func27 s2_ rfl #[.agg #[.slice Ao131 t361.length co131, .slice Ao137 t364.length co137, .slice Ao138 t367.length co138], .agg #[.slice Ao23 t299.length co23, .slice Ao26 t302.length co26, .slice Ao27 t305.length co27]] rfl s3_ ?_; (with_reducible refine (laws_eqPresence.calls kj68 _ _ t361 _ _ t364 _ _ t367 _ _ t299 _ _ t302 _ _ t305 false _ ?side1 ?side2 ?side3 ?side4 ?side5 ?side6 ?side7 ?side8 ?side9 ?side10 ?side11 ?side12 A139.out).mono ?_); (case side1 => refine (Kd.R_reads' (e := 63) (base := w.heap.size) (ok := fun k_ => ((((((((some k_ ≠ (.slice Ao137 t364.length co137 : Value).ownBlock ∧ some k_ ≠ (.slice Ao23 t299.length co23 : Value).ownBlock) ∧ some k_ ≠ (.slice Ao26 t302.length co26 : Value).ownBlock) ∧ some k_ ≠ (.slice Ao31 t343.length co31 : Value).ownBlock) ∧ some k_ ≠ (.slice Ao35 t344.length co35 : Value).ownBlock) ∧ some k_ ≠ (.slice Ao39 t320.length co39 : Value).ownBlock) ∧ some k_ ≠ (.slice Ao44 t323.length co44 : Value).ownBlock) ∧ some k_ ≠ (.slice Ao126 t352.length co126 : Value).ownBlock) ∧ some k_ ≠ (.slice Ao127 t355.length co127 : Value).ownBlock)) (n := t361.length) (c := co131) ?_).2.2; exact (by (with_reducible repeat (first | apply Kd.R_alloc | apply Kd.R_drewN | apply Kd.R_drew)); exact (Kd.R_mono (Kd.R_far3 (g := gb371) (Kd.R_types HO363.out BK371.out (by decide)) (fun _ hk => hk.2)) (fun _ h_ => h_.1)))); (case side2 => exact (Kd.R_reads' HO363.out).2.1); (case side3 => refine (Kd.R_reads' (e := 63) (base := w.heap.size) (ok := fun k_ => ((((((((some k_ ≠ (.slice Ao131 t361.length co131 : Value).ownBlock ∧ some k_ ≠ (.slice Ao23 t299.length co23 : Value).ownBlock) ∧ some k_ ≠ (.slice Ao26 t302.length co26 : Value).ownBlock) ∧ some k_ ≠ (.slice Ao31 t343.length co31 : Value).ownBlock) ∧ some k_ ≠ (.slice Ao35 t344.length co35 : Value).ownBlock) ∧ some k_ ≠ (.slice Ao39 t320.length co39 : Value).ownBlock) ∧ some k_ ≠ (.slice Ao44 t323.length co44 : Value).ownBlock) ∧ some k_ ≠ (.slice Ao126 t352.length co126 : Value).ownBlock) ∧ some k_ ≠ (.slice Ao127 t355.length co127 : Value).ownBlock)) (n := t364.length) (c := co137) ?_).2.2; exact (by (with_reducible repeat (first | apply Kd.R_alloc | apply Kd.R_drewN | apply Kd.R_drew)); exact (Kd.R_mono (Kd.R_far3 (g := gb371) (Kd.R_types HO366.out BK371.out (by decide)) (fun _ hk => hk.2)) (fun _ h_ => h_.1)))); (case side4 => exact (Kd.R_reads' HO366.out).2.1); (case side5 => refine (Kd.R_reads' (e := 73) (base := w.heap.size) (ok := fun k_ => ((((True ∧ some k_ ≠ (.slice Ao27 t305.length co27 : Value).ownBlock) ∧ some k_ ≠ (.slice Ao36 t345.length co36 : Value).ownBlock) ∧ some k_ ≠ (.slice Ao45 t326.length co45 : Value).ownBlock) ∧ some k_ ≠ (.slice Ao128 t358.length co128 : Value).ownBlock)) (n := t367.length) (c := co138) ?_).2.2; exact (by (with_reducible repeat (first | apply Kd.R_alloc | apply Kd.R_drewN | apply Kd.R_drew)); exact (Kd.R_mono (Kd.R_far3 (g := gb371) (Kd.R_types HO369.out BK371.out (by decide)) (fun _ hk => hk.2)) (fun _ h_ => h_.1)))); (case side6 => exact (Kd.R_reads' HO369.out).2.1); (case side7 => refine (Kd.R_reads' (e := 63) (base := w.heap.size) (ok := fun k_ => (((((some k_ ≠ (.slice Ao26 t302.length co26 : Value).ownBlock ∧ (some k_ ≠ (.slice Ao31 t343.length co31 : Value).ownBlock ∧ (some k_ ≠ (.slice Ao35 t344.length co35 : Value).ownBlock ∧ (some k_ ≠ (.slice Ao39 t320.length co39 : Value).ownBlock ∧ some k_ ≠ (.slice Ao44 t323.length co44 : Value).ownBlock)))) ∧ some k_ ≠ (.slice Ao126 t352.length co126 : Value).ownBlock) ∧ some k_ ≠ (.slice Ao127 t355.length co127 : Value).ownBlock) ∧ some k_ ≠ (.slice Ao131 t361.length co131 : Value).ownBlock) ∧ some k_ ≠ (.slice Ao137 t364.length co137 : Value).ownBlock)) (n := t299.length) (c := co23) ?_).2.2; exact (by (with_reducible repeat (first | apply Kd.R_alloc | apply Kd.R_drewN | apply Kd.R_drew)); exact (Kd.R_mono (Kd.R_far3 (g := gb371) (Kd.R_types HO_310000.out BK371.out (by decide)) (fun _ hk => hk.2)) (fun _ h_ => h_.1)))); (case side8 => exact (Kd.R_reads' HO_310000.out).2.1); (case side9 => refine (Kd.R_reads' (e := 63) (base := w.heap.size) (ok := fun k_ => (((((some k_ ≠ (.slice Ao23 t299.length co23 : Value).ownBlock ∧ (some k_ ≠ (.slice Ao31 t343.length co31 : Value).ownBlock ∧ (some k_ ≠ (.slice Ao35 t344.length co35 : Value).ownBlock ∧ (some k_ ≠ (.slice Ao39 t320.length co39 : Value).ownBlock ∧ some k_ ≠ (.slice Ao44 t323.length co44 : Value).ownBlock)))) ∧ some k_ ≠ (.slice Ao126 t352.length co126 : Value).ownBlock) ∧ some k_ ≠ (.slice Ao127 t355.length co127 : Value).ownBlock) ∧ some k_ ≠ (.slice Ao131 t361.length co131 : Value).ownBlock) ∧ some k_ ≠ (.slice Ao137 t364.length co137 : Value).ownBlock)) (n := t302.length) (c := co26) ?_).2.2; exact (by (with_reducible repeat (first | apply Kd.R_alloc | apply Kd.R_drewN | apply Kd.R_drew)); exact (Kd.R_mono (Kd.R_far3 (g := gb371) (Kd.R_types HO_310001.out BK371.out (by decide)) (fun _ hk => hk.2)) (fun _ h_ => h_.1)))); (case side10 => exact (Kd.R_reads' HO_310001.out).2.1); (case side11 => refine (Kd.R_reads' (e := 73) (base := w.heap.size) (ok := fun k_ => (((some k_ ≠ (.slice Ao36 t345.length co36 : Value).ownBlock ∧ some k_ ≠ (.slice Ao45 t326.length co45 : Value).ownBlock) ∧ some k_ ≠ (.slice Ao128 t358.length co128 : Value).ownBlock) ∧ some k_ ≠ (.slice Ao138 t367.length co138 : Value).ownBlock)) (n := t305.length) (c := co27) ?_).2.2; exact (by (with_reducible repeat (first | apply Kd.R_alloc | apply Kd.R_drewN | apply Kd.R_drew)); exact (Kd.R_mono (Kd.R_far3 (g := gb371) (Kd.R_types HO_310002.out BK371.out (by decide)) (fun _ hk => hk.2)) (fun _ h_ => h_.1)))); (case side12 => exact (Kd.R_reads' HO_310002.out).2.1); rintro e w160 ⟨rfl, hb⟩; refine ⟨_, rfl, ?_⟩; have n0_ := Aside0.mk (Kd.R_below (by (with_reducible repeat (first | apply Kd.R_alloc | apply Kd.R_drewN | apply Kd.R_drew)); exact (Kd.R_mono (Kd.R_far3 (g := gb371) (Kd.R_types HO_310000.out BK371.out (by decide)) (fun _ hk => hk.2)) (fun _ h_ => h_.1))) hb); have n1_ := Aside0.mk (Kd.R_below (by (with_reducible repeat (first | apply Kd.R_alloc | apply Kd.R_drewN | apply Kd.R_drew)); exact (Kd.R_mono (Kd.R_far3 (g := gb371) (Kd.R_types HO_310001.out BK371.out (by decide)) (fun _ hk => hk.2)) (fun _ h_ => h_.1))) hb); have n2_ := Aside0.mk (Kd.R_below (by (with_reducible repeat (first | apply Kd.R_alloc | apply Kd.R_drewN | apply Kd.R_drew)); exact (Kd.R_mono (Kd.R_far3 (g := gb371) (Kd.R_types HO_310002.out BK371.out (by decide)) (fun _ hk => hk.2)) (fun _ h_ => h_.1))) hb); have n3_ := Aside0.mk (Kd.R_below (by (with_reducible repeat (first | apply Kd.R_alloc | apply Kd.R_drewN | apply Kd.R_drew)); exact (Kd.R_mono (Kd.R_far3 (g := gb371) (Kd.R_types HO_320000.out BK371.out (by decide)) (fun _ hk => hk.2)) (fun _ h_ => h_.1))) hb); have n4_ := Aside0.mk (Kd.R_below (by (with_reducible repeat (first | apply Kd.R_alloc | apply Kd.R_drewN | apply Kd.R_drew)); exact (Kd.R_mono (Kd.R_far3 (g := gb371) (Kd.R_types HO_320001.out BK371.out (by decide)) (fun _ hk => hk.2)) (fun _ h_ => h_.1))) hb); have n5_ := Aside0.mk (Kd.R_below (by (with_reducible repeat (first | apply Kd.R_alloc | apply Kd.R_drewN | apply Kd.R_drew)); exact (Kd.R_mono (Kd.R_far3 (g := gb371) (Kd.R_types HO_320002.out BK371.out (by decide)) (fun _ hk => hk.2)) (fun _ h_ => h_.1))) hb); have n6_ := Aside0.mk (Kd.R_below (by (with_reducible repeat (first | apply Kd.R_alloc | apply Kd.R_drewN | apply Kd.R_drew)); exact (Kd.R_mono (Kd.R_far3 (g := gb371) (Kd.R_types HO_331000.out BK371.out (by decide)) (fun _ hk => hk.2)) (fun _ h_ => h_.1))) hb); have n7_ := Aside0.mk (Kd.R_below (by (with_reducible repeat (first | apply Kd.R_alloc | apply Kd.R_drewN | apply Kd.R_drew)); exact (Kd.R_mono (Kd.R_far3 (g := gb371) (Kd.R_types HO_331001.out BK371.out (by decide)) (fun _ hk => hk.2)) (fun _ h_ => h_.1))) hb); have n8_ := Aside0.mk (Kd.R_below (by (with_reducible repeat (first | apply Kd.R_alloc | apply Kd.R_drewN | apply Kd.R_drew)); exact (Kd.R_mono (Kd.R_far3 (g := gb371) (Kd.R_types HO_331002.out BK371.out (by decide)) (fun _ hk => hk.2)) (fun _ h_ => h_.1))) hb); have n9_ := Aside0.mk (Kd.R_below (by (with_reducible repeat (first | apply Kd.R_alloc | apply Kd.R_drewN | apply Kd.R_drew)); exact (Kd.R_mono (Kd.R_far3 (g := gb371) (Kd.R_types HO354.out BK371.out (by decide)) (fun _ hk => hk.2)) (fun _ h_ => h_.1))) hb); have n10_ := Aside0.mk (Kd.R_below (by (with_reducible repeat (first | apply Kd.R_alloc | apply Kd.R_drewN | apply Kd.R_drew)); exact (Kd.R_mono (Kd.R_far3 (g := gb371) (Kd.R_types HO357.out BK371.out (by decide)) (fun _ hk => hk.2)) (fun _ h_ => h_.1))) hb); have n11_ := Aside0.mk (Kd.R_below (by (with_reducible repeat (first | apply Kd.R_alloc | apply Kd.R_drewN | apply Kd.R_drew)); exact (Kd.R_mono (Kd.R_far3 (g := gb371) (Kd.R_types HO360.out BK371.out (by decide)) (fun _ hk => hk.2)) (fun _ h_ => h_.1))) hb); have n12_ := Aside0.mk (Kd.R_below (by (with_reducible repeat (first | apply Kd.R_alloc | apply Kd.R_drewN | apply Kd.R_drew)); exact (Kd.R_mono (Kd.R_far3 (g := gb371) (Kd.R_types HO363.out BK371.out (by decide)) (fun _ hk => hk.2)) (fun _ h_ => h_.1))) hb); have n13_ := Aside0.mk (Kd.R_below (by (with_reducible repeat (first | apply Kd.R_alloc | apply Kd.R_drewN | apply Kd.R_drew)); exact (Kd.R_mono (Kd.R_far3 (g := gb371) (Kd.R_types HO366.out BK371.out (by decide)) (fun _ hk => hk.2)) (fun _ h_ => h_.1))) hb); have n14_ := Aside0.mk (Kd.R_below (by (with_reducible repeat (first | apply Kd.R_alloc | apply Kd.R_drewN | apply Kd.R_drew)); exact (Kd.R_mono (Kd.R_far3 (g := gb371) (Kd.R_types HO369.out BK371.out (by decide)) (fun _ hk => hk.2)) (fun _ h_ => h_.1))) hb); have n15_ := Aside0.mk (blk_below (g := gb288) (o := .cells #[.slice A0_0 l0_0.length c0_0, .slice A0_1 l0_1.length c0_1, .slice A0_2 l0_2.length c0_2] 45 (0, 0)) (by (with_reducible repeat (first | refine blk_drewN ?_ _ | refine blk_drew ?_ | refine blk_alloc ?_ _)); refine blk_far3 ?_ NB288_371.out; (with_reducible repeat (first | refine blk_drewN ?_ _ | refine blk_drew ?_ | refine blk_alloc ?_ _)); exact BK288.out) hb); have n16_ := Aside0.mk (blk_below (g := gb309) (o := .cells #[.slice Ao23 t299.length co23, .slice Ao26 t302.length co26, .slice Ao27 t305.length co27] 27 (0, 0)) (by (with_reducible repeat (first | refine blk_drewN ?_ _ | refine blk_drew ?_ | refine blk_alloc ?_ _)); refine blk_far3 ?_ NB309_371.out; (with_reducible repeat (first | refine blk_drewN ?_ _ | refine blk_drew ?_ | refine blk_alloc ?_ _)); exact BK309.out) hb); have n17_ := Aside0.mk (blk_below (g := gb319) (o := .cells #[.slice Ao31 t343.length co31, .slice Ao35 t344.length co35, .slice Ao36 t345.length co36] 27 (0, 0)) (by (with_reducible repeat (first | refine blk_drewN ?_ _ | refine blk_drew ?_ | refine blk_alloc ?_ _)); refine blk_far3 ?_ NB319_371.out; (with_reducible repeat (first | refine blk_drewN ?_ _ | refine blk_drew ?_ | refine blk_alloc ?_ _)); exact BK319.out) hb); have n18_ := Aside0.mk (blk_below (g := gb330) (o := .cells #[.slice Ao39 t320.length co39, .slice Ao44 t323.length co44, .slice Ao45 t326.length co45] 27 (0, 0)) (by (with_reducible repeat (first | refine blk_drewN ?_ _ | refine blk_drew ?_ | refine blk_alloc ?_ _)); refine blk_far3 ?_ NB330_371.out; (with_reducible repeat (first | refine blk_drewN ?_ _ | refine blk_drew ?_ | refine blk_alloc ?_ _)); exact BK330.out) hb); have n19_ := Aside0.mk (blk_below (g := gb371) (o := .cells #[.slice Ao131 t361.length co131, .slice Ao137 t364.length co137, .slice Ao138 t367.length co138] 27 (0, 0)) (by (with_reducible repeat (first | refine blk_drewN ?_ _ | refine blk_drew ?_ | refine blk_alloc ?_ _)); refine blk_put3 (cs := #[.slice none 0 0, .slice none 0 0, .slice none 0 0]) ?_ rfl; (with_reducible repeat (first | refine blk_drewN ?_ _ | refine blk_drew ?_ | refine blk_alloc ?_ _)); exact BK371.out) hb); have n20_ := Aside0.mk (below_step (by repeat (first | (with_reducible first | exact HB.out | apply below_alloc | apply pw_below_drewN | apply below_drew1 | refine below_set ?_ GE371.out) | exact HB.out)) hb); clear HO_310000; clear HO_310001; clear HO_310002; clear HO_320000; clear HO_320001; clear HO_320002; clear HO_331000; clear HO_331001; clear HO_331002; clear HO354; clear HO357; clear HO360; clear HO363; clear HO366; clear HO369; clear BK288; clear BK309; clear BK319; clear BK330; clear BK371; clear HB; have HO_310000 := n0_; have HO_310001 := n1_; have HO_310002 := n2_; have HO_320000 := n3_; have HO_320001 := n4_; have HO_320002 := n5_; have HO_331000 := n6_; have HO_331001 := n7_; have HO_331002 := n8_; have HO354 := n9_; have HO357 := n10_; have HO360 := n11_; have HO363 := n12_; have HO366 := n13_; have HO369 := n14_; have BK288 := n15_; have BK309 := n16_; have BK319 := n17_; have BK330 := n18_; have BK371 := n19_; have HB := n20_; clear n0_ n1_ n2_ n3_ n4_ n5_ n6_ n7_ n8_ n9_ n10_ n11_ n12_ n13_ n14_ n15_ n16_ n17_ n18_ n19_ n20_; (try clear hb); (try clear hb2); (try clear hk); (try clear hi)))
 go_meet
 case rel => exact ⟨_, (true), s1_, H', ⟨by have := HJ11.out; have := HJ68.out; first | omega | exact Nat.le_refl _⟩, ⟨by (try simp only [hl320000_68]); (try simp only [hl320001_68]); (try simp only [hl320002_68]); (with_reducible repeat (first | apply Kd.R_alloc | apply Kd.R_drewN | apply Kd.R_drew)); exact Kd.R_mono HO_310000.out (fun _ hk => ⟨hk.1.1.1.1.1, ⟨hk.1.1.1.1.2.1, ⟨hk.1.1.1.1.2.2.1, ⟨hk.1.1.1.1.2.2.2.1, ⟨hk.1.1.1.1.2.2.2.2, ⟨hk.1.2, hk.2⟩⟩⟩⟩⟩⟩)⟩, ⟨by (try simp only [hl320000_68]); (try simp only [hl320001_68]); (try simp only [hl320002_68]); (with_reducible repeat (first | apply Kd.R_alloc | apply Kd.R_drewN | apply Kd.R_drew)); exact Kd.R_mono HO_310001.out (fun _ hk => ⟨hk.1.1.1.1.1, ⟨hk.1.1.1.1.2.1, ⟨hk.1.1.1.1.2.2.1, ⟨hk.1.1.1.1.2.2.2.1, ⟨hk.1.1.1.1.2.2.2.2, ⟨hk.1.2, hk.2⟩⟩⟩⟩⟩⟩)⟩, ⟨by (try simp only [hl320000_68]); (try simp only [hl320001_68]); (try simp only [hl320002_68]); (with_reducible repeat (first | apply Kd.R_alloc | apply Kd.R_drewN | apply Kd.R_drew)); exact Kd.R_mono HO_310002.out (fun _ hk => ⟨hk.1.1.1, ⟨hk.1.1.2, hk.2⟩⟩)⟩, ⟨by (try simp only [hl320000_68]); (try simp only [hl320001_68]); (try simp only [hl320002_68]); (with_reducible repeat (first | apply Kd.R_alloc | apply Kd.R_drewN | apply Kd.R_drew)); exact Kd.R_mono HO_320000.out (fun _ hk => ⟨hk.1.1.1.1.1, ⟨hk.1.1.1.1.2.1, ⟨hk.1.1.1.1.2.2.1, ⟨hk.1.1.1.1.2.2.2.1, ⟨hk.1.1.1.1.2.2.2.2, ⟨hk.1.2, hk.2⟩⟩⟩⟩⟩⟩)⟩, ⟨by (try simp only [hl320000_68]); (try simp only [hl320001_68]); (try simp only [hl320002_68]); (with_reducible repeat (first | apply Kd.R_alloc | apply Kd.R_drewN | apply Kd.R_drew)); exact Kd.R_mono HO_320001.out (fun _ hk => ⟨hk.1.1.1.1.1, ⟨hk.1.1.1.1.2.1, ⟨hk.1.1.1.1.2.2.1, ⟨hk.1.1.1.1.2.2.2.1, ⟨hk.1.1.1.1.2.2.2.2, ⟨hk.1.2, hk.2⟩⟩⟩⟩⟩⟩)⟩, ⟨by (try simp only [hl320000_68]); (try simp only [hl320001_68]); (try simp only [hl320002_68]); (with_reducible repeat (first | apply Kd.R_alloc | apply Kd.R_drewN | apply Kd.R_drew)); exact Kd.R_mono HO_320002.out (fun _ hk => ⟨hk.1.1.1, ⟨hk.1.1.2, hk.2⟩⟩)⟩, ⟨by (try simp only [hl320000_68]); (try simp only [hl320001_68]); (try simp only [hl320002_68]); (with_reducible repeat (first | apply Kd.R_alloc | apply Kd.R_drewN | apply Kd.R_drew)); exact Kd.R_mono HO_331000.out (fun _ hk => ⟨hk.1.1.1.1.1, ⟨hk.1.1.1.1.2.1, ⟨hk.1.1.1.1.2.2.1, ⟨hk.1.1.1.1.2.2.2.1, ⟨hk.1.1.1.1.2.2.2.2, ⟨hk.1.2, hk.2⟩⟩⟩⟩⟩⟩)⟩, ⟨by (try simp only [hl320000_68]); (try simp only [hl320001_68]); (try simp only [hl320002_68]); (with_reducible repeat (first | apply Kd.R_alloc | apply Kd.R_drewN | apply Kd.R_drew)); exact Kd.R_mono HO_331001.out (fun _ hk => ⟨hk.1.1.1.1.1, ⟨hk.1.1.1.1.2.1, ⟨hk.1.1.1.1.2.2.1, ⟨hk.1.1.1.1.2.2.2.1, ⟨hk.1.1.1.1.2.2.2.2, ⟨hk.1.2, hk.2⟩⟩⟩⟩⟩⟩)⟩, ⟨by (try simp only [hl320000_68]); (try simp only [hl320001_68]); (try simp only [hl320002_68]); (with_reducible repeat (first | apply Kd.R_alloc | apply Kd.R_drewN | apply Kd.R_drew)); exact Kd.R_mono HO_331002.out (fun _ hk => ⟨hk.1.1.1, ⟨hk.1.1.2, hk.2⟩⟩)⟩, ⟨by (try simp only [hl320000_68]); (try simp only [hl320001_68]); (try simp only [hl320002_68]); (with_reducible repeat (first | apply Kd.R_alloc | apply Kd.R_drewN | apply Kd.R_drew)); exact Kd.R_mono HO363.out (fun _ hk => ⟨hk.1.1.1.1.1.1.1.2, ⟨hk.1.1.1.1.1.1.2, ⟨hk.1.1.1.1.1.2, ⟨hk.1.1.1.1.2, ⟨hk.1.1.1.2, ⟨hk.1.1.2, hk.1.1.1.1.1.1.1.1⟩⟩⟩⟩⟩⟩)⟩, ⟨by (try simp only [hl320000_68]); (try simp only [hl320001_68]); (try simp only [hl320002_68]); (with_reducible repeat (first | apply Kd.R_alloc | apply Kd.R_drewN | apply Kd.R_drew)); exact Kd.R_mono HO366.out (fun _ hk => ⟨hk.1.1.1.1.1.1.1.2, ⟨hk.1.1.1.1.1.1.2, ⟨hk.1.1.1.1.1.2, ⟨hk.1.1.1.1.2, ⟨hk.1.1.1.2, ⟨hk.1.1.2, hk.1.1.1.1.1.1.1.1⟩⟩⟩⟩⟩⟩)⟩, ⟨by (try simp only [hl320000_68]); (try simp only [hl320001_68]); (try simp only [hl320002_68]); (with_reducible repeat (first | apply Kd.R_alloc | apply Kd.R_drewN | apply Kd.R_drew)); exact Kd.R_mono HO369.out (fun _ hk => ⟨hk.1.1.1.2, ⟨hk.1.1.2, hk.1.2⟩⟩)⟩, ⟨by (try simp only [hl320000_68]); (try simp only [hl320001_68]); (try simp only [hl320002_68]); (with_reducible repeat (first | refine blk_drewN ?_ _ | refine blk_drew ?_ | refine blk_alloc ?_ _)); exact BK288.out⟩, ⟨by (try simp only [hl320000_68]); (try simp only [hl320001_68]); (try simp only [hl320002_68]); (with_reducible repeat (first | refine blk_drewN ?_ _ | refine blk_drew ?_ | refine blk_alloc ?_ _)); exact BK309.out⟩, ⟨by (try simp only [hl320000_68]); (try simp only [hl320001_68]); (try simp only [hl320002_68]); (with_reducible repeat (first | refine blk_drewN ?_ _ | refine blk_drew ?_ | refine blk_alloc ?_ _)); exact BK319.out⟩, ⟨by (try simp only [hl320000_68]); (try simp only [hl320001_68]); (try simp only [hl320002_68]); (with_reducible repeat (first | refine blk_drewN ?_ _ | refine blk_drew ?_ | refine blk_alloc ?_ _)); exact BK330.out⟩, ⟨by (try simp only [hl320000_68]); (try simp only [hl320001_68]); (try simp only [hl320002_68]); (with_reducible repeat (first | refine blk_drewN ?_ _ | refine blk_drew ?_ | refine blk_alloc ?_ _)); exact BK371.out⟩, ⟨by repeat (first | (with_reducible first | exact HB.out | apply below_alloc | apply pw_below_drewN | apply below_drew1) | exact HB.out)⟩⟩}}
 case rest =>
  skip
  {
 clear HC114
 try clear c1
 try clear c2
 try clear p2
 try clear c3
 try clear c4
 try clear c4b0
 try clear c5
 try clear c6
 try clear c7
 try clear c8
 try clear c9
 try clear c10
 try clear c11
 try clear c12
 try clear c13
 try clear c14
 try clear c15
 try clear c18
 try clear c24
 try clear c25
 try clear c26
 try clear c27
 try clear c28
 try clear c29
 try clear c32
 try clear c33
 try clear c40
 try clear c41
 try clear c42
 try clear c47
 try clear c48
 try clear c49
 try clear c50
 try clear c52
 try clear c53
 try clear c56
 try clear c57
 try clear c58
 try clear c60
 try clear c61
 try clear c64
 try clear c67
 try clear c76
 try clear c77
 try clear c78
 try clear c81
 try clear c81b0
 try clear c83
 try clear c84
 try clear c85
 try clear c86
 try clear c88
 try clear c89
 try clear c92
 try clear c93
 try clear c94
 try clear c96
 try clear c97
 try clear c100
 try clear c103
 try clear c103b0
 try clear c104
 try clear c105
 try clear c106
 try clear c111
 try clear c111b0
 try clear c111b1
 try clear c115
 try clear c116
 try clear c117
 try clear c122
 try clear c123
 try clear c132
 try clear c133
 try clear c134
 try clear c135
 try clear c140
 try clear c141
 try clear c142
 try clear c143
 try clear c144
 try clear c146
 try clear c147
 try clear c148
 try clear c151
 try clear c152
 try clear c153
 try clear c154
 try clear c156
 try clear c157
 try clear c158
 try clear hcz107_0
 try clear hcz107_1
 try clear hcz107_2
 try clear hcz109_0
 try clear hcz109_1
 try clear hcz109_2
 try clear hcz118_0
 try clear hcz118_1
 try clear hcz118_2
 try clear hcz120_0
 try clear hcz120_1
 try clear hcz120_2
 try clear hcz124_0
 try clear hcz124_1
 try clear hcz124_2
 try clear hcz136_0
 try clear hcz136_1
 try clear hcz136_2
 try clear hcz145_0
 try clear hcz145_1
 try clear hcz145_2
 try clear hcz149_0
 try clear hcz149_1
 try clear hcz149_2
 try clear hcz14_0
 try clear hcz14_1
 try clear hcz14_2
 try clear hcz155_0
 try clear hcz155_1
 try clear hcz155_2
 try clear hcz159_0
 try clear hcz159_1
 try clear hcz159_2
 try clear hcz16_0
 try clear hcz16_1
 try clear hcz16_2
 try clear hcz25_0
 try clear hcz25_1
 try clear hcz25_2
 try clear hcz28_0
 try clear hcz28_1
 try clear hcz28_2
 try clear hcz34_0
 try clear hcz34_1
 try clear hcz34_2
 try clear hcz43_0
 try clear hcz43_1
 try clear hcz43_2
 try clear hcz51_0
 try clear hcz51_1
 try clear hcz51_2
 try clear hcz54_0
 try clear hcz54_1
 try clear hcz54_2
 try clear hcz59_0
 try clear hcz59_1
 try clear hcz59_2
 try clear hcz62_0
 try clear hcz62_1
 try clear hcz62_2
 try clear hcz6_0
 try clear hcz6_1
 try clear hcz6_2
 try clear hcz79_0
 try clear hcz79_1
 try clear hcz79_2
 try clear hcz87_0
 try clear hcz87_1
 try clear hcz87_2
 try clear hcz90_0
 try clear hcz90_1
 try clear hcz90_2
 try clear hcz95_0
 try clear hcz95_1
 try clear hcz95_2
 try clear hcz98_0
 try clear hcz98_1
 try clear hcz98_2
 try clear hfz107_0
 try clear hfz107_1
 try clear hfz107_2
 try clear hfz109_0
 try clear hfz109_1
 try clear hfz109_2
 try clear hfz118_0
 try clear hfz118_1
 try clear hfz118_2
 try clear hfz120_0
 try clear hfz120_1
 try clear hfz120_2
 try clear hfz124_0
 try clear hfz124_1
 try clear hfz124_2
 try clear hfz136_0
 try clear hfz136_1
 try clear hfz136_2
 try clear hfz145_0
 try clear hfz145_1
 try clear hfz145_2
 try clear hfz149_0
 try clear hfz149_1
 try clear hfz149_2
 try clear hfz14_0
 try clear hfz14_1
 try clear hfz14_2
 try clear hfz155_0
 try clear hfz155_1
 try clear hfz155_2
 try clear hfz159_0
 try clear hfz159_1
 try clear hfz159_2
 try clear hfz16_0
 try clear hfz16_1
 try clear hfz16_2
 try clear hfz25_0
 try clear hfz25_1
 try clear hfz25_2
 try clear hfz28_0
 try clear hfz28_1
 try clear hfz28_2
 try clear hfz34_0
 try clear hfz34_1
 try clear hfz34_2
 try clear hfz43_0
 try clear hfz43_1
 try clear hfz43_2
 try clear hfz51_0
 try clear hfz51_1
 try clear hfz51_2
 try clear hfz54_0
 try clear hfz54_1
 try clear hfz54_2
 try clear hfz59_0
 try clear hfz59_1
 try clear hfz59_2
 try clear hfz62_0
 try clear hfz62_1
 try clear hfz62_2
 try clear hfz6_0
 try clear hfz6_1
 try clear hfz6_2
 try clear hfz79_0
 try clear hfz79_1
 try clear hfz79_2
 try clear hfz87_0
 try clear hfz87_1
 try clear hfz87_2
 try clear hfz90_0
 try clear hfz90_1
 try clear hfz90_2
 try clear hfz95_0
 try clear hfz95_1
 try clear hfz95_2
 try clear hfz98_0
 try clear hfz98_1
 try clear hfz98_2
 try clear p2
 obtain ⟨kq, x92_113, rfl, HA, HJ113, HO_310000, HO_310001, HO_310002, HO_320000, HO_320001, HO_320002, HO_331000, HO_331001, HO_331002, HO_372000, HO_372001, HO_372002, BK288, BK309, BK319, BK330, BK371, HB⟩ := hcut
 have hl331000_113 := (Kd.R_reads' HO_331000.out).1
 rw [hl331000_113] at HO_331000
 (try simp only [hl331000_113])
 (try simp only [hl331000_113] at BK288)
 (try simp only [hl331000_113] at BK309)
 (try simp only [hl331000_113] at BK319)
 (try simp only [hl331000_113] at BK330)
 (try simp only [hl331000_113] at BK371)
 (try simp only [hl331000_113] at HO_310000)
 (try simp only [hl331000_113] at HO_310001)
 (try simp only [hl331000_113] at HO_310002)
 (try simp only [hl331000_113] at HO_320000)
 (try simp only [hl331000_113] at HO_320001)
 (try simp only [hl331000_113] at HO_320002)
 (try simp only [hl331000_113] at HO_331001)
 (try simp only [hl331000_113] at HO_331002)
 (try simp only [hl331000_113] at HO_372000)
 (try simp only [hl331000_113] at HO_372001)
 (try simp only [hl331000_113] at HO_372002)
 have hl331001_113 := (Kd.R_reads' HO_331001.out).1
 rw [hl331001_113] at HO_331001
 (try simp only [hl331001_113])
 (try simp only [hl331001_113] at BK288)
 (try simp only [hl331001_113] at BK309)
 (try simp only [hl331001_113] at BK319)
 (try simp only [hl331001_113] at BK330)
 (try simp only [hl331001_113] at BK371)
 (try simp only [hl331001_113] at HO_310000)
 (try simp only [hl331001_113] at HO_310001)
 (try simp only [hl331001_113] at HO_310002)
 (try simp only [hl331001_113] at HO_320000)
 (try simp only [hl331001_113] at HO_320001)
 (try simp only [hl331001_113] at HO_320002)
 (try simp only [hl331001_113] at HO_331000)
 (try simp only [hl331001_113] at HO_331002)
 (try simp only [hl331001_113] at HO_372000)
 (try simp only [hl331001_113] at HO_372001)
 (try simp only [hl331001_113] at HO_372002)
 have hl331002_113 := (Kd.R_reads' HO_331002.out).1
 rw [hl331002_113] at HO_331002
 (try simp only [hl331002_113])
 (try simp only [hl331002_113] at BK288)
 (try simp only [hl331002_113] at BK309)
 (try simp only [hl331002_113] at BK319)
 (try simp only [hl331002_113] at BK330)
 (try simp only [hl331002_113] at BK371)
 (try simp only [hl331002_113] at HO_310000)
 (try simp only [hl331002_113] at HO_310001)
 (try simp only [hl331002_113] at HO_310002)
 (try simp only [hl331002_113] at HO_320000)
 (try simp only [hl331002_113] at HO_320001)
 (try simp only [hl331002_113] at HO_320002)
 (try simp only [hl331002_113] at HO_331000)
 (try simp only [hl331002_113] at HO_331001)
 (try simp only [hl331002_113] at HO_372000)
 (try simp only [hl331002_113] at HO_372001)
 (try simp only [hl331002_113] at HO_372002)
 cases kq with
 | zero => exact absurd HA.out (by simp [laws_FnExactLeaveNow.j2])
 | succ kj113 =>
  skip
  {
 have H := HA.out
 clear HA
 simp only [laws_FnExactLeaveNow.j2] at H
 by_cases c161 : x92_113 = true
 {
 subst c161
 have H1 : (some false) = some r := by rw [if_pos rfl] at H; exact H
 clear H
 have H := H1
 clear H1
 obtain rfl := Option.some.inj H
 go_wp2
 go_ret
 exact ⟨by first | rfl | (simp [errW_none, errW_some] <;> rfl) | (simp [*, errW_none, errW_some] <;> rfl), by repeat (first | (with_reducible first | exact HB.out | apply below_alloc | apply pw_below_drewN | apply below_drew1) | exact HB.out)⟩}
 {
 replace c161 := Bool.eq_false_iff.mpr c161
 subst c161
 have H1 : ((laws_heldPresence.f kj113 t348 t349 t350 1).bind fun t373 => (if t373 < 0 then (some false) else (if t373 = t347 then (some true) else (some false)))) = some r := by rw [if_neg (show ¬ (false = true) by decide)] at H; exact H
 clear H
 have H := H1
 clear H1
 replace H := Option.bind_eq_some_iff.mp H
 obtain ⟨t373, A1620, H⟩ := H
 replace H : (if t373 < 0 then (some false) else (if t373 = t347 then (some true) else (some false))) = some r := H
 have A162 := Aside0.mk A1620
 clear A1620
 by_cases c163 : t373 < 0
 {
 rw [if_pos c163] at H
 have c163b0 : decide (t373 < 0) = true := decide_eq_true c163
 clear c163
 obtain rfl := Option.some.inj H
 have hnb164 := NB330_288.out
 have hnc164 := NB288_330.out
 have hnb165 := NB330_309.out
 have hnc165 := NB309_330.out
 have hnb166 := NB330_319.out
 have hnc166 := NB319_330.out
 have hnb167 := NB330_371.out
 have hnc167 := NB371_330.out
 have hcz168_0 : wc.cell? ⟨gb330, 0, none⟩ = some (.slice Ao39 t348.length co39) := (blk_cell BK330.out 0).trans rfl
 have hcz168_1 : wc.cell? ⟨gb330, 1, none⟩ = some (.slice Ao44 t349.length co44) := (blk_cell BK330.out 1).trans rfl
 have hcz168_2 : wc.cell? ⟨gb330, 2, none⟩ = some (.slice Ao45 t350.length co45) := (blk_cell BK330.out 2).trans rfl
 have hfz168_0 := blk_frozen BK330.out 0
 have hfz168_1 := blk_frozen BK330.out 1
 have hfz168_2 := blk_frozen BK330.out 2
 go_wp2_with (first | ((with_reducible refine gate_callee (f := 29) rfl ?_); refine goesL_ (some 95) rfl rfl Try.func29 s2_ rfl #[.agg #[.slice Ao39 t348.length co39, .slice Ao44 t349.length co44, .slice Ao45 t350.length co45], .int .i64 1] rfl s3_ ?_; (with_reducible refine (laws_heldPresence.calls kj113 _ _ t348 _ _ t349 _ _ t350 1 t373 _ ?side1 ?side2 ?side3 ?side4 ?side5 ?side6 A162.out).mono ?_); (case side1 => exact y2_ (Kd.R_reads' HO_331000.out).2.2); (case side2 => exact (Kd.R_reads' HO_331000.out).2.1); (case side3 => exact y2_ (Kd.R_reads' HO_331001.out).2.2); (case side4 => exact (Kd.R_reads' HO_331001.out).2.1); (case side5 => exact y2_ (Kd.R_reads' HO_331002.out).2.2); (case side6 => exact (Kd.R_reads' HO_331002.out).2.1); rintro e w169 ⟨rfl, hb⟩; refine ⟨_, rfl, ?_⟩; have n0_ := Aside0.mk (Kd.R_below (b2_ HO_310000.out) hb); have n1_ := Aside0.mk (Kd.R_below (b2_ HO_310001.out) hb); have n2_ := Aside0.mk (Kd.R_below (b2_ HO_310002.out) hb); have n3_ := Aside0.mk (Kd.R_below (b2_ HO_320000.out) hb); have n4_ := Aside0.mk (Kd.R_below (b2_ HO_320001.out) hb); have n5_ := Aside0.mk (Kd.R_below (b2_ HO_320002.out) hb); have n6_ := Aside0.mk (Kd.R_below (b2_ HO_331000.out) hb); have n7_ := Aside0.mk (Kd.R_below (b2_ HO_331001.out) hb); have n8_ := Aside0.mk (Kd.R_below (b2_ HO_331002.out) hb); have n9_ := Aside0.mk (Kd.R_below (b2_ HO_372000.out) hb); have n10_ := Aside0.mk (Kd.R_below (b2_ HO_372001.out) hb); have n11_ := Aside0.mk (Kd.R_below (b2_ HO_372002.out) hb); have n12_ := Aside0.mk (blk_below (g := gb288) (o := .cells #[.slice A0_0 l0_0.length c0_0, .slice A0_1 l0_1.length c0_1, .slice A0_2 l0_2.length c0_2] 45 (0, 0)) (b1_ BK288.out) hb); have n13_ := Aside0.mk (blk_below (g := gb309) (o := .cells #[.slice Ao23 t299.length co23, .slice Ao26 t302.length co26, .slice Ao27 t305.length co27] 27 (0, 0)) (b1_ BK309.out) hb); have n14_ := Aside0.mk (blk_below (g := gb319) (o := .cells #[.slice Ao31 t343.length co31, .slice Ao35 t344.length co35, .slice Ao36 t345.length co36] 27 (0, 0)) (b1_ BK319.out) hb); have n15_ := Aside0.mk (blk_below (g := gb330) (o := .cells #[.slice Ao39 t348.length co39, .slice Ao44 t349.length co44, .slice Ao45 t350.length co45] 27 (0, 0)) (b1_ BK330.out) hb); have n16_ := Aside0.mk (blk_below (g := gb371) (o := .cells #[.slice Ao131 t361.length co131, .slice Ao137 t364.length co137, .slice Ao138 t367.length co138] 27 (0, 0)) (b1_ BK371.out) hb); have n17_ := Aside0.mk (below_step (y1_ HB.out) hb); clear HO_310000; clear HO_310001; clear HO_310002; clear HO_320000; clear HO_320001; clear HO_320002; clear HO_331000; clear HO_331001; clear HO_331002; clear HO_372000; clear HO_372001; clear HO_372002; clear BK288; clear BK309; clear BK319; clear BK330; clear BK371; clear HB; have HO_310000 := n0_; have HO_310001 := n1_; have HO_310002 := n2_; have HO_320000 := n3_; have HO_320001 := n4_; have HO_320002 := n5_; have HO_331000 := n6_; have HO_331001 := n7_; have HO_331002 := n8_; have HO_372000 := n9_; have HO_372001 := n10_; have HO_372002 := n11_; have BK288 := n12_; have BK309 := n13_; have BK319 := n14_; have BK330 := n15_; have BK371 := n16_; have HB := n17_; clear n0_ n1_ n2_ n3_ n4_ n5_ n6_ n7_ n8_ n9_ n10_ n11_ n12_ n13_ n14_ n15_ n16_ n17_; (try clear hb); (try clear hb2); (try clear hk); (try clear hi)))
 go_ret
 exact ⟨by first | rfl | (simp [errW_none, errW_some] <;> rfl) | (simp [*, errW_none, errW_some] <;> rfl), by repeat (first | (with_reducible first | exact HB.out | apply below_alloc | apply pw_below_drewN | apply below_drew1) | exact HB.out)⟩}
 {
 rw [if_neg c163] at H
 have c163b0 : decide (t373 < 0) = false := decide_eq_false c163
 clear c163
 by_cases c170 : t373 = t347
 {
 rw [if_pos c170] at H
 have c170b0 : (t373 == t347) = true := beq_iff_eq.mpr c170
 have c170b1 : (t373 != t347) = false := bne_eq_false_iff_eq.mpr c170
 clear c170
 obtain rfl := Option.some.inj H
 have hnb171 := NB330_288.out
 have hnc171 := NB288_330.out
 have hnb172 := NB330_309.out
 have hnc172 := NB309_330.out
 have hnb173 := NB330_319.out
 have hnc173 := NB319_330.out
 have hnb174 := NB330_371.out
 have hnc174 := NB371_330.out
 have hcz175_0 : wc.cell? ⟨gb330, 0, none⟩ = some (.slice Ao39 t348.length co39) := (blk_cell BK330.out 0).trans rfl
 have hcz175_1 : wc.cell? ⟨gb330, 1, none⟩ = some (.slice Ao44 t349.length co44) := (blk_cell BK330.out 1).trans rfl
 have hcz175_2 : wc.cell? ⟨gb330, 2, none⟩ = some (.slice Ao45 t350.length co45) := (blk_cell BK330.out 2).trans rfl
 have hfz175_0 := blk_frozen BK330.out 0
 have hfz175_1 := blk_frozen BK330.out 1
 have hfz175_2 := blk_frozen BK330.out 2
 go_wp2_with (first | ((with_reducible refine gate_callee (f := 29) rfl ?_); refine goesL_ (some 95) rfl rfl Try.func29 s2_ rfl #[.agg #[.slice Ao39 t348.length co39, .slice Ao44 t349.length co44, .slice Ao45 t350.length co45], .int .i64 1] rfl s3_ ?_; (with_reducible refine (laws_heldPresence.calls kj113 _ _ t348 _ _ t349 _ _ t350 1 t373 _ ?side1 ?side2 ?side3 ?side4 ?side5 ?side6 A162.out).mono ?_); (case side1 => exact y2_ (Kd.R_reads' HO_331000.out).2.2); (case side2 => exact (Kd.R_reads' HO_331000.out).2.1); (case side3 => exact y2_ (Kd.R_reads' HO_331001.out).2.2); (case side4 => exact (Kd.R_reads' HO_331001.out).2.1); (case side5 => exact y2_ (Kd.R_reads' HO_331002.out).2.2); (case side6 => exact (Kd.R_reads' HO_331002.out).2.1); rintro e w176 ⟨rfl, hb⟩; refine ⟨_, rfl, ?_⟩; have n0_ := Aside0.mk (Kd.R_below (b2_ HO_310000.out) hb); have n1_ := Aside0.mk (Kd.R_below (b2_ HO_310001.out) hb); have n2_ := Aside0.mk (Kd.R_below (b2_ HO_310002.out) hb); have n3_ := Aside0.mk (Kd.R_below (b2_ HO_320000.out) hb); have n4_ := Aside0.mk (Kd.R_below (b2_ HO_320001.out) hb); have n5_ := Aside0.mk (Kd.R_below (b2_ HO_320002.out) hb); have n6_ := Aside0.mk (Kd.R_below (b2_ HO_331000.out) hb); have n7_ := Aside0.mk (Kd.R_below (b2_ HO_331001.out) hb); have n8_ := Aside0.mk (Kd.R_below (b2_ HO_331002.out) hb); have n9_ := Aside0.mk (Kd.R_below (b2_ HO_372000.out) hb); have n10_ := Aside0.mk (Kd.R_below (b2_ HO_372001.out) hb); have n11_ := Aside0.mk (Kd.R_below (b2_ HO_372002.out) hb); have n12_ := Aside0.mk (blk_below (g := gb288) (o := .cells #[.slice A0_0 l0_0.length c0_0, .slice A0_1 l0_1.length c0_1, .slice A0_2 l0_2.length c0_2] 45 (0, 0)) (b1_ BK288.out) hb); have n13_ := Aside0.mk (blk_below (g := gb309) (o := .cells #[.slice Ao23 t299.length co23, .slice Ao26 t302.length co26, .slice Ao27 t305.length co27] 27 (0, 0)) (b1_ BK309.out) hb); have n14_ := Aside0.mk (blk_below (g := gb319) (o := .cells #[.slice Ao31 t343.length co31, .slice Ao35 t344.length co35, .slice Ao36 t345.length co36] 27 (0, 0)) (b1_ BK319.out) hb); have n15_ := Aside0.mk (blk_below (g := gb330) (o := .cells #[.slice Ao39 t348.length co39, .slice Ao44 t349.length co44, .slice Ao45 t350.length co45] 27 (0, 0)) (b1_ BK330.out) hb); have n16_ := Aside0.mk (blk_below (g := gb371) (o := .cells #[.slice Ao131 t361.length co131, .slice Ao137 t364.length co137, .slice Ao138 t367.length co138] 27 (0, 0)) (b1_ BK371.out) hb); have n17_ := Aside0.mk (below_step (y1_ HB.out) hb); clear HO_310000; clear HO_310001; clear HO_310002; clear HO_320000; clear HO_320001; clear HO_320002; clear HO_331000; clear HO_331001; clear HO_331002; clear HO_372000; clear HO_372001; clear HO_372002; clear BK288; clear BK309; clear BK319; clear BK330; clear BK371; clear HB; have HO_310000 := n0_; have HO_310001 := n1_; have HO_310002 := n2_; have HO_320000 := n3_; have HO_320001 := n4_; have HO_320002 := n5_; have HO_331000 := n6_; have HO_331001 := n7_; have HO_331002 := n8_; have HO_372000 := n9_; have HO_372001 := n10_; have HO_372002 := n11_; have BK288 := n12_; have BK309 := n13_; have BK319 := n14_; have BK330 := n15_; have BK371 := n16_; have HB := n17_; clear n0_ n1_ n2_ n3_ n4_ n5_ n6_ n7_ n8_ n9_ n10_ n11_ n12_ n13_ n14_ n15_ n16_ n17_; (try clear hb); (try clear hb2); (try clear hk); (try clear hi)))
 go_ret
 exact ⟨by first | rfl | (simp [errW_none, errW_some] <;> rfl) | (simp [*, errW_none, errW_some] <;> rfl), by repeat (first | (with_reducible first | exact HB.out | apply below_alloc | apply pw_below_drewN | apply below_drew1) | exact HB.out)⟩}
 {
 rw [if_neg c170] at H
 have c170b0 : (t373 == t347) = false := beq_eq_false_iff_ne.mpr c170
 have c170b1 : (t373 != t347) = true := bne_iff_ne.mpr c170
 obtain rfl := Option.some.inj H
 have hnb177 := NB330_288.out
 have hnc177 := NB288_330.out
 have hnb178 := NB330_309.out
 have hnc178 := NB309_330.out
 have hnb179 := NB330_319.out
 have hnc179 := NB319_330.out
 have hnb180 := NB330_371.out
 have hnc180 := NB371_330.out
 have hcz181_0 : wc.cell? ⟨gb330, 0, none⟩ = some (.slice Ao39 t348.length co39) := (blk_cell BK330.out 0).trans rfl
 have hcz181_1 : wc.cell? ⟨gb330, 1, none⟩ = some (.slice Ao44 t349.length co44) := (blk_cell BK330.out 1).trans rfl
 have hcz181_2 : wc.cell? ⟨gb330, 2, none⟩ = some (.slice Ao45 t350.length co45) := (blk_cell BK330.out 2).trans rfl
 have hfz181_0 := blk_frozen BK330.out 0
 have hfz181_1 := blk_frozen BK330.out 1
 have hfz181_2 := blk_frozen BK330.out 2
 go_wp2_with (first | ((with_reducible refine gate_callee (f := 29) rfl ?_); refine goesL_ (some 95) rfl rfl Try.func29 s2_ rfl #[.agg #[.slice Ao39 t348.length co39, .slice Ao44 t349.length co44, .slice Ao45 t350.length co45], .int .i64 1] rfl s3_ ?_; (with_reducible refine (laws_heldPresence.calls kj113 _ _ t348 _ _ t349 _ _ t350 1 t373 _ ?side1 ?side2 ?side3 ?side4 ?side5 ?side6 A162.out).mono ?_); (case side1 => exact y2_ (Kd.R_reads' HO_331000.out).2.2); (case side2 => exact (Kd.R_reads' HO_331000.out).2.1); (case side3 => exact y2_ (Kd.R_reads' HO_331001.out).2.2); (case side4 => exact (Kd.R_reads' HO_331001.out).2.1); (case side5 => exact y2_ (Kd.R_reads' HO_331002.out).2.2); (case side6 => exact (Kd.R_reads' HO_331002.out).2.1); rintro e w182 ⟨rfl, hb⟩; refine ⟨_, rfl, ?_⟩; have n0_ := Aside0.mk (Kd.R_below (b2_ HO_310000.out) hb); have n1_ := Aside0.mk (Kd.R_below (b2_ HO_310001.out) hb); have n2_ := Aside0.mk (Kd.R_below (b2_ HO_310002.out) hb); have n3_ := Aside0.mk (Kd.R_below (b2_ HO_320000.out) hb); have n4_ := Aside0.mk (Kd.R_below (b2_ HO_320001.out) hb); have n5_ := Aside0.mk (Kd.R_below (b2_ HO_320002.out) hb); have n6_ := Aside0.mk (Kd.R_below (b2_ HO_331000.out) hb); have n7_ := Aside0.mk (Kd.R_below (b2_ HO_331001.out) hb); have n8_ := Aside0.mk (Kd.R_below (b2_ HO_331002.out) hb); have n9_ := Aside0.mk (Kd.R_below (b2_ HO_372000.out) hb); have n10_ := Aside0.mk (Kd.R_below (b2_ HO_372001.out) hb); have n11_ := Aside0.mk (Kd.R_below (b2_ HO_372002.out) hb); have n12_ := Aside0.mk (blk_below (g := gb288) (o := .cells #[.slice A0_0 l0_0.length c0_0, .slice A0_1 l0_1.length c0_1, .slice A0_2 l0_2.length c0_2] 45 (0, 0)) (b1_ BK288.out) hb); have n13_ := Aside0.mk (blk_below (g := gb309) (o := .cells #[.slice Ao23 t299.length co23, .slice Ao26 t302.length co26, .slice Ao27 t305.length co27] 27 (0, 0)) (b1_ BK309.out) hb); have n14_ := Aside0.mk (blk_below (g := gb319) (o := .cells #[.slice Ao31 t343.length co31, .slice Ao35 t344.length co35, .slice Ao36 t345.length co36] 27 (0, 0)) (b1_ BK319.out) hb); have n15_ := Aside0.mk (blk_below (g := gb330) (o := .cells #[.slice Ao39 t348.length co39, .slice Ao44 t349.length co44, .slice Ao45 t350.length co45] 27 (0, 0)) (b1_ BK330.out) hb); have n16_ := Aside0.mk (blk_below (g := gb371) (o := .cells #[.slice Ao131 t361.length co131, .slice Ao137 t364.length co137, .slice Ao138 t367.length co138] 27 (0, 0)) (b1_ BK371.out) hb); have n17_ := Aside0.mk (below_step (y1_ HB.out) hb); clear HO_310000; clear HO_310001; clear HO_310002; clear HO_320000; clear HO_320001; clear HO_320002; clear HO_331000; clear HO_331001; clear HO_331002; clear HO_372000; clear HO_372001; clear HO_372002; clear BK288; clear BK309; clear BK319; clear BK330; clear BK371; clear HB; have HO_310000 := n0_; have HO_310001 := n1_; have HO_310002 := n2_; have HO_320000 := n3_; have HO_320001 := n4_; have HO_320002 := n5_; have HO_331000 := n6_; have HO_331001 := n7_; have HO_331002 := n8_; have HO_372000 := n9_; have HO_372001 := n10_; have HO_372002 := n11_; have BK288 := n12_; have BK309 := n13_; have BK319 := n14_; have BK330 := n15_; have BK371 := n16_; have HB := n17_; clear n0_ n1_ n2_ n3_ n4_ n5_ n6_ n7_ n8_ n9_ n10_ n11_ n12_ n13_ n14_ n15_ n16_ n17_; (try clear hb); (try clear hb2); (try clear hk); (try clear hi)))
 go_ret
 exact ⟨by first | rfl | (simp [errW_none, errW_some] <;> rfl) | (simp [*, errW_none, errW_some] <;> rfl), by repeat (first | (with_reducible first | exact HB.out | apply below_alloc | apply pw_below_drewN | apply below_drew1) | exact HB.out)⟩}}}}}}
 {
 rw [if_neg c111] at H
 have c111b0 : (t351 == t347) = false := beq_eq_false_iff_ne.mpr c111
 have c111b1 : (t351 != t347) = true := bne_iff_ne.mpr c111
 obtain rfl := Option.some.inj H
 have hnb183 := NB330_288.out
 have hnc183 := NB288_330.out
 have hnb184 := NB330_309.out
 have hnc184 := NB309_330.out
 have hnb185 := NB330_319.out
 have hnc185 := NB319_330.out
 have hcz186_0 : wc.cell? ⟨gb330, 0, none⟩ = some (.slice Ao39 t320.length co39) := (blk_cell BK330.out 0).trans rfl
 have hcz186_1 : wc.cell? ⟨gb330, 1, none⟩ = some (.slice Ao44 t323.length co44) := (blk_cell BK330.out 1).trans rfl
 have hcz186_2 : wc.cell? ⟨gb330, 2, none⟩ = some (.slice Ao45 t326.length co45) := (blk_cell BK330.out 2).trans rfl
 have hfz186_0 := blk_frozen BK330.out 0
 have hfz186_1 := blk_frozen BK330.out 1
 have hfz186_2 := blk_frozen BK330.out 2
 go_wp2_with (first | ((with_reducible refine gate_callee (f := 28) rfl ?_); refine goesL_ (some 68) rfl rfl Try.func28 s2_ rfl #[.agg #[.slice Ao39 t320.length co39, .slice Ao44 t323.length co44, .slice Ao45 t326.length co45], .int .i64 1] rfl s3_ ?_; (with_reducible refine (laws_markPresence.calls kj68 (fun k_ => some k_ = (.slice Ao39 t320.length co39 : Value).ownBlock) (.slice Ao39 t320.length co39) t320 (fun k_ => some k_ = (.slice Ao44 t323.length co44 : Value).ownBlock) (.slice Ao44 t323.length co44) t323 (fun k_ => some k_ = (.slice Ao45 t326.length co45 : Value).ownBlock) (.slice Ao45 t326.length co45) t326 1 t347 t348 t349 t350 w _ ?side1 ?side2 ?side3 ?side4 ?side5 ?side6 A101.out).mono ?_); (case side1 => repeat (first | (with_reducible first | exact HB.out | apply below_alloc | apply pw_below_drewN | apply below_drew1) | exact HB.out)); (case side2 => exact Kd.R_tight rfl HO_331000.out); (case side3 => exact fun k_ e_ => (HO_331000.out.1 k_ e_.symm).2.2.2.2); (case side4 => exact Kd.R_tight rfl HO_331001.out); (case side5 => exact fun k_ e_ => (HO_331001.out.1 k_ e_.symm).2.2.2.2); (case side6 => exact Kd.R_tight rfl HO_331002.out); rintro e w187 ⟨rfl, hy0, hy1, hy2, hb, hkp⟩; refine ⟨_, rfl, ?_⟩; have n0_ := Aside0.mk (Kd.R_mono (ok' := fun k_ => some k_ ≠ (.slice Ao26 t302.length co26 : Value).ownBlock ∧ some k_ ≠ (.slice Ao31 t343.length co31 : Value).ownBlock ∧ some k_ ≠ (.slice Ao35 t344.length co35 : Value).ownBlock ∧ some k_ ≠ (.slice Ao39 t320.length co39 : Value).ownBlock ∧ some k_ ≠ (.slice Ao44 t323.length co44 : Value).ownBlock) (Kd.R_keptB ((Kd.R_apart' HO_310000.out (Kd.R_typed HO_331002.out) (by decide))) hkp (fun k_ hk_ hs_ => Or.elim hs_ (fun e_ => (hk_.1.2.2.2.1) e_) (fun e_ => Or.elim e_ (fun e_ => (hk_.1.2.2.2.2) e_) (fun e_ => (hk_.2) e_)))) (fun k_ hk_ => ⟨hk_.1.1.1, hk_.1.1.2.1, hk_.1.1.2.2.1, hk_.1.1.2.2.2.1, hk_.1.1.2.2.2.2⟩)); have n1_ := Aside0.mk (Kd.R_mono (ok' := fun k_ => some k_ ≠ (.slice Ao23 t299.length co23 : Value).ownBlock ∧ some k_ ≠ (.slice Ao31 t343.length co31 : Value).ownBlock ∧ some k_ ≠ (.slice Ao35 t344.length co35 : Value).ownBlock ∧ some k_ ≠ (.slice Ao39 t320.length co39 : Value).ownBlock ∧ some k_ ≠ (.slice Ao44 t323.length co44 : Value).ownBlock) (Kd.R_keptB ((Kd.R_apart' HO_310001.out (Kd.R_typed HO_331002.out) (by decide))) hkp (fun k_ hk_ hs_ => Or.elim hs_ (fun e_ => (hk_.1.2.2.2.1) e_) (fun e_ => Or.elim e_ (fun e_ => (hk_.1.2.2.2.2) e_) (fun e_ => (hk_.2) e_)))) (fun k_ hk_ => ⟨hk_.1.1.1, hk_.1.1.2.1, hk_.1.1.2.2.1, hk_.1.1.2.2.2.1, hk_.1.1.2.2.2.2⟩)); have n2_ := Aside0.mk (Kd.R_mono (ok' := fun k_ => some k_ ≠ (.slice Ao36 t345.length co36 : Value).ownBlock ∧ some k_ ≠ (.slice Ao45 t326.length co45 : Value).ownBlock) (Kd.R_keptB ((Kd.R_apart' (Kd.R_apart' HO_310002.out (Kd.R_typed HO_331000.out) (by decide)) (Kd.R_typed HO_331001.out) (by decide))) hkp (fun k_ hk_ hs_ => Or.elim hs_ (fun e_ => (hk_.1.2) e_) (fun e_ => Or.elim e_ (fun e_ => (hk_.2) e_) (fun e_ => (hk_.1.1.2) e_)))) (fun k_ hk_ => ⟨hk_.1.1.1.1, hk_.1.1.1.2⟩)); have n3_ := Aside0.mk (Kd.R_mono (ok' := fun k_ => some k_ ≠ (.slice Ao23 t299.length co23 : Value).ownBlock ∧ some k_ ≠ (.slice Ao26 t302.length co26 : Value).ownBlock ∧ some k_ ≠ (.slice Ao35 t344.length co35 : Value).ownBlock ∧ some k_ ≠ (.slice Ao39 t320.length co39 : Value).ownBlock ∧ some k_ ≠ (.slice Ao44 t323.length co44 : Value).ownBlock) (Kd.R_keptB ((Kd.R_apart' HO_320000.out (Kd.R_typed HO_331002.out) (by decide))) hkp (fun k_ hk_ hs_ => Or.elim hs_ (fun e_ => (hk_.1.2.2.2.1) e_) (fun e_ => Or.elim e_ (fun e_ => (hk_.1.2.2.2.2) e_) (fun e_ => (hk_.2) e_)))) (fun k_ hk_ => ⟨hk_.1.1.1, hk_.1.1.2.1, hk_.1.1.2.2.1, hk_.1.1.2.2.2.1, hk_.1.1.2.2.2.2⟩)); have n4_ := Aside0.mk (Kd.R_mono (ok' := fun k_ => some k_ ≠ (.slice Ao23 t299.length co23 : Value).ownBlock ∧ some k_ ≠ (.slice Ao26 t302.length co26 : Value).ownBlock ∧ some k_ ≠ (.slice Ao31 t343.length co31 : Value).ownBlock ∧ some k_ ≠ (.slice Ao39 t320.length co39 : Value).ownBlock ∧ some k_ ≠ (.slice Ao44 t323.length co44 : Value).ownBlock) (Kd.R_keptB ((Kd.R_apart' HO_320001.out (Kd.R_typed HO_331002.out) (by decide))) hkp (fun k_ hk_ hs_ => Or.elim hs_ (fun e_ => (hk_.1.2.2.2.1) e_) (fun e_ => Or.elim e_ (fun e_ => (hk_.1.2.2.2.2) e_) (fun e_ => (hk_.2) e_)))) (fun k_ hk_ => ⟨hk_.1.1.1, hk_.1.1.2.1, hk_.1.1.2.2.1, hk_.1.1.2.2.2.1, hk_.1.1.2.2.2.2⟩)); have n5_ := Aside0.mk (Kd.R_mono (ok' := fun k_ => some k_ ≠ (.slice Ao27 t305.length co27 : Value).ownBlock ∧ some k_ ≠ (.slice Ao45 t326.length co45 : Value).ownBlock) (Kd.R_keptB ((Kd.R_apart' (Kd.R_apart' HO_320002.out (Kd.R_typed HO_331000.out) (by decide)) (Kd.R_typed HO_331001.out) (by decide))) hkp (fun k_ hk_ hs_ => Or.elim hs_ (fun e_ => (hk_.1.2) e_) (fun e_ => Or.elim e_ (fun e_ => (hk_.2) e_) (fun e_ => (hk_.1.1.2) e_)))) (fun k_ hk_ => ⟨hk_.1.1.1.1, hk_.1.1.1.2⟩)); have n6_ := Aside0.mk (Kd.R_reok rfl hy0 (fun k_ e_ => HO_331000.out.1 k_ e_)); have n7_ := Aside0.mk (Kd.R_reok rfl hy1 (fun k_ e_ => HO_331001.out.1 k_ e_)); have n8_ := Aside0.mk (Kd.R_reok rfl hy2 (fun k_ e_ => HO_331002.out.1 k_ e_)); have n9_ := Aside0.mk (blk_kept (b1_ BK288.out) hkp (fun hs_ => Or.elim hs_ (fun e_ => (fun e_ => (Kd.R_ne HO_331000.out BK288.out (by decide)) e_) e_) (fun e_ => Or.elim e_ (fun e_ => (fun e_ => (Kd.R_ne HO_331001.out BK288.out (by decide)) e_) e_) (fun e_ => (fun e_ => (Kd.R_ne HO_331002.out BK288.out (by decide)) e_) e_)))); have n10_ := Aside0.mk (blk_kept (b1_ BK309.out) hkp (fun hs_ => Or.elim hs_ (fun e_ => (fun e_ => (Kd.R_ne HO_331000.out BK309.out (by decide)) e_) e_) (fun e_ => Or.elim e_ (fun e_ => (fun e_ => (Kd.R_ne HO_331001.out BK309.out (by decide)) e_) e_) (fun e_ => (fun e_ => (Kd.R_ne HO_331002.out BK309.out (by decide)) e_) e_)))); have n11_ := Aside0.mk (blk_kept (b1_ BK319.out) hkp (fun hs_ => Or.elim hs_ (fun e_ => (fun e_ => (Kd.R_ne HO_331000.out BK319.out (by decide)) e_) e_) (fun e_ => Or.elim e_ (fun e_ => (fun e_ => (Kd.R_ne HO_331001.out BK319.out (by decide)) e_) e_) (fun e_ => (fun e_ => (Kd.R_ne HO_331002.out BK319.out (by decide)) e_) e_)))); have n12_ := Aside0.mk (blk_kept (b1_ BK330.out) hkp (fun hs_ => Or.elim hs_ (fun e_ => (fun e_ => (Kd.R_ne HO_331000.out BK330.out (by decide)) e_) e_) (fun e_ => Or.elim e_ (fun e_ => (fun e_ => (Kd.R_ne HO_331001.out BK330.out (by decide)) e_) e_) (fun e_ => (fun e_ => (Kd.R_ne HO_331002.out BK330.out (by decide)) e_) e_)))); have n13_ := Aside0.mk (hb); clear HO_310000; clear HO_310001; clear HO_310002; clear HO_320000; clear HO_320001; clear HO_320002; clear HO_331000; clear HO_331001; clear HO_331002; clear BK288; clear BK309; clear BK319; clear BK330; clear HB; have HO_310000 := n0_; have HO_310001 := n1_; have HO_310002 := n2_; have HO_320000 := n3_; have HO_320001 := n4_; have HO_320002 := n5_; have HO_331000 := n6_; have HO_331001 := n7_; have HO_331002 := n8_; have BK288 := n9_; have BK309 := n10_; have BK319 := n11_; have BK330 := n12_; have HB := n13_; clear n0_ n1_ n2_ n3_ n4_ n5_ n6_ n7_ n8_ n9_ n10_ n11_ n12_ n13_; (try clear hb); (try clear hkp); (try clear hy0); (try clear hy1); (try clear hy2); have hcz188_0 : w187.cell? ⟨gb330, 0, none⟩ = some (.slice Ao39 t320.length co39) := (blk_cell BK330.out 0).trans rfl; have hcz188_1 : w187.cell? ⟨gb330, 1, none⟩ = some (.slice Ao44 t323.length co44) := (blk_cell BK330.out 1).trans rfl; have hcz188_2 : w187.cell? ⟨gb330, 2, none⟩ = some (.slice Ao45 t326.length co45) := (blk_cell BK330.out 2).trans rfl; have hfz188_0 := blk_frozen BK330.out 0; have hfz188_1 := blk_frozen BK330.out 1; have hfz188_2 := blk_frozen BK330.out 2) | ((with_reducible refine gate_callee (f := 29) rfl ?_); refine goesL_ (some 71) rfl rfl Try.func29 s2_ rfl #[.agg #[.slice Ao39 t348.length co39, .slice Ao44 t349.length co44, .slice Ao45 t350.length co45], .int .i64 1] rfl (by (try simp only [List.map_toArray, List.map_cons, List.map_nil]); first | done | (rw [show t348.length = t320.length from (Kd.R_reads' HO_331000.out).1.symm, show t349.length = t323.length from (Kd.R_reads' HO_331001.out).1.symm, show t350.length = t326.length from (Kd.R_reads' HO_331002.out).1.symm] <;> rfl) | rfl | (simp only [List.length_drop, List.length_take]; rfl)) ?_; (with_reducible refine (laws_heldPresence.calls kj68 _ _ t348 _ _ t349 _ _ t350 1 t351 _ ?side1 ?side2 ?side3 ?side4 ?side5 ?side6 A102.out).mono ?_); (case side1 => exact y2_ (Kd.R_reads' HO_331000.out).2.2); (case side2 => rw [show t348.length = t320.length from (Kd.R_reads' HO_331000.out).1.symm]; exact (Kd.R_reads' HO_331000.out).2.1); (case side3 => exact y2_ (Kd.R_reads' HO_331001.out).2.2); (case side4 => rw [show t349.length = t323.length from (Kd.R_reads' HO_331001.out).1.symm]; exact (Kd.R_reads' HO_331001.out).2.1); (case side5 => exact y2_ (Kd.R_reads' HO_331002.out).2.2); (case side6 => rw [show t350.length = t326.length from (Kd.R_reads' HO_331002.out).1.symm]; exact (Kd.R_reads' HO_331002.out).2.1); rintro e w189 ⟨rfl, hb⟩; refine ⟨_, rfl, ?_⟩; have n0_ := Aside0.mk (Kd.R_below (b2_ HO_310000.out) hb); have n1_ := Aside0.mk (Kd.R_below (b2_ HO_310001.out) hb); have n2_ := Aside0.mk (Kd.R_below (b2_ HO_310002.out) hb); have n3_ := Aside0.mk (Kd.R_below (b2_ HO_320000.out) hb); have n4_ := Aside0.mk (Kd.R_below (b2_ HO_320001.out) hb); have n5_ := Aside0.mk (Kd.R_below (b2_ HO_320002.out) hb); have n6_ := Aside0.mk (Kd.R_below (b2_ HO_331000.out) hb); have n7_ := Aside0.mk (Kd.R_below (b2_ HO_331001.out) hb); have n8_ := Aside0.mk (Kd.R_below (b2_ HO_331002.out) hb); have n9_ := Aside0.mk (blk_below (g := gb288) (o := .cells #[.slice A0_0 l0_0.length c0_0, .slice A0_1 l0_1.length c0_1, .slice A0_2 l0_2.length c0_2] 45 (0, 0)) (b1_ BK288.out) hb); have n10_ := Aside0.mk (blk_below (g := gb309) (o := .cells #[.slice Ao23 t299.length co23, .slice Ao26 t302.length co26, .slice Ao27 t305.length co27] 27 (0, 0)) (b1_ BK309.out) hb); have n11_ := Aside0.mk (blk_below (g := gb319) (o := .cells #[.slice Ao31 t343.length co31, .slice Ao35 t344.length co35, .slice Ao36 t345.length co36] 27 (0, 0)) (b1_ BK319.out) hb); have n12_ := Aside0.mk (blk_below (g := gb330) (o := .cells #[.slice Ao39 t320.length co39, .slice Ao44 t323.length co44, .slice Ao45 t326.length co45] 27 (0, 0)) (b1_ BK330.out) hb); have n13_ := Aside0.mk (below_step (y1_ HB.out) hb); clear HO_310000; clear HO_310001; clear HO_310002; clear HO_320000; clear HO_320001; clear HO_320002; clear HO_331000; clear HO_331001; clear HO_331002; clear BK288; clear BK309; clear BK319; clear BK330; clear HB; have HO_310000 := n0_; have HO_310001 := n1_; have HO_310002 := n2_; have HO_320000 := n3_; have HO_320001 := n4_; have HO_320002 := n5_; have HO_331000 := n6_; have HO_331001 := n7_; have HO_331002 := n8_; have BK288 := n9_; have BK309 := n10_; have BK319 := n11_; have BK330 := n12_; have HB := n13_; clear n0_ n1_ n2_ n3_ n4_ n5_ n6_ n7_ n8_ n9_ n10_ n11_ n12_ n13_; (try clear hb); (try clear hb2); (try clear hk); (try clear hi)))
 go_ret
 exact ⟨by first | rfl | (simp [errW_none, errW_some] <;> rfl) | (simp [*, errW_none, errW_some] <;> rfl), by repeat (first | (with_reducible first | exact HB.out | apply below_alloc | apply pw_below_drewN | apply below_drew1) | exact HB.out)⟩}}}}}}
 {
 replace c67 := Bool.eq_false_iff.mpr c67
 subst c67
 have H1 : (some false) = some r := by rw [if_neg (show ¬ (false = true) by decide)] at H; exact H
 clear H
 have H := H1
 clear H1
 obtain rfl := Option.some.inj H
 try go_wp2
 have n0_ := Aside0.mk (Kd.R_drew HO_310000.out)
 have n1_ := Aside0.mk (Kd.R_drew HO_310001.out)
 have n2_ := Aside0.mk (Kd.R_drew HO_310002.out)
 have n3_ := Aside0.mk (Kd.R_drew HO_320000.out)
 have n4_ := Aside0.mk (Kd.R_drew HO_320001.out)
 have n5_ := Aside0.mk (Kd.R_drew HO_320002.out)
 have n6_ := Aside0.mk (Kd.R_drew HO_331000.out)
 have n7_ := Aside0.mk (Kd.R_drew HO_331001.out)
 have n8_ := Aside0.mk (Kd.R_drew HO_331002.out)
 have n9_ := Aside0.mk (blk_drew BK288.out)
 have n10_ := Aside0.mk (blk_drew BK309.out)
 have n11_ := Aside0.mk (blk_drew BK319.out)
 have n12_ := Aside0.mk (blk_drew BK330.out)
 have n13_ := Aside0.mk (below_drew1 HB.out)
 clear HO_310000
 clear HO_310001
 clear HO_310002
 clear HO_320000
 clear HO_320001
 clear HO_320002
 clear HO_331000
 clear HO_331001
 clear HO_331002
 clear BK288
 clear BK309
 clear BK319
 clear BK330
 clear HB
 have HO_310000 := n0_
 have HO_310001 := n1_
 have HO_310002 := n2_
 have HO_320000 := n3_
 have HO_320001 := n4_
 have HO_320002 := n5_
 have HO_331000 := n6_
 have HO_331001 := n7_
 have HO_331002 := n8_
 have BK288 := n9_
 have BK309 := n10_
 have BK319 := n11_
 have BK330 := n12_
 have HB := n13_
 clear n0_ n1_ n2_ n3_ n4_ n5_ n6_ n7_ n8_ n9_ n10_ n11_ n12_ n13_
 refine start_ (n := 5) (S := fun w' => w'.cell? ⟨gb319, 0, none⟩ = some (.slice Ao31 t310.length co31) ∧ w'.cell? ⟨gb319, 1, none⟩ = some (.slice Ao35 t313.length co35) ∧ w'.cell? ⟨gb319, 2, none⟩ = some (.slice Ao36 t316.length co36) ∧ w'.cell? ⟨gb288, 0, none⟩ = some (.slice A0_0 l0_0.length c0_0) ∧ w'.cell? ⟨gb288, 1, none⟩ = some (.slice A0_1 l0_1.length c0_1) ∧ w'.cell? ⟨gb288, 2, none⟩ = some (.slice A0_2 l0_2.length c0_2)) (ds := []) #[F,F,F,F,F] s2_ rfl rfl ⟨(blk_cell BK319.out 0).trans rfl, (blk_cell BK319.out 1).trans rfl, (blk_cell BK319.out 2).trans rfl, (blk_cell BK288.out 0).trans rfl, (blk_cell BK288.out 1).trans rfl, (blk_cell BK288.out 2).trans rfl⟩ (fun hHeld => ?_)
 generalize wc.drew = w190 at HO_310000 HO_310001 HO_310002 HO_320000 HO_320001 HO_320002 HO_331000 HO_331001 HO_331002 BK288 BK309 BK319 BK330 HB hHeld ⊢
 refine take_ (i := 0) (N := some 45) (v := ?_) (a' := ?_) #[T,F,F,F,F] rfl rfl s2_ (fun _ _ _ h => h) (Or.inl ⟨by rfl, ?_⟩) hHeld ?_ ?_
 rotate_left
 {
 rintro w' ⟨s0, s1, s2, s3, s4, s5⟩
 go_simp
 with_reducible rfl}
 rotate_left
 · exact p1_
 refine take_ (i := 1) (N := some 46) (v := ?_) (a' := ?_) #[T,T,F,F,F] rfl rfl s2_ (fun _ _ _ h => h) (Or.inl ⟨by rfl, ?_⟩) hHeld ?_ ?_
 rotate_left
 {
 rintro w' ⟨s0, s1, s2, s3, s4, s5⟩
 go_simp
 with_reducible rfl}
 rotate_left
 · exact p1_
 refine one_ (i := 2) (N := some 47) #[T,T,T,F,F] rfl rfl s2_ (by decide) (fun K hK => ?_)
 refine goes_ Try.func26 s2_ rfl #[.agg #[.slice A0_0 l0_0.length c0_0, .slice A0_1 l0_1.length c0_1, .slice A0_2 l0_2.length c0_2]] (by rfl) rfl rfl s3_ ?_
 with_reducible refine (laws_toPresence.calls kj11 _ _ l0_0 _ _ l0_1 _ _ l0_2 t332 t335 t338 _ ?side1 ?side2 ?side3 ?side4 ?side5 ?side6 A65.out).mono ?_
 (case side1 => exact y2_ (Kd.C_below HR0_0.out HB.out))
 (case side2 => exact HC0_0.out)
 (case side3 => exact y2_ (Kd.C_below HR0_1.out HB.out))
 (case side4 => exact HC0_1.out)
 (case side5 => exact y2_ (Kd.C_below HR0_2.out HB.out))
 (case side6 => exact HC0_2.out)
 rintro e w191 ⟨v333, v336, v339, rfl, ho0, ho1, ho2, hb⟩
 refine ⟨_, rfl, ?_⟩
 have n0_ := Aside0.mk (Kd.R_mono (Kd.R_told (Kd.R_told (Kd.R_old (b2_ HO_310000.out) hb) (Kd.R_base ho0)) (Kd.R_base ho1)) (fun _ h_ => h_.1))
 have n1_ := Aside0.mk (Kd.R_mono (Kd.R_told (Kd.R_told (Kd.R_old (b2_ HO_310001.out) hb) (Kd.R_base ho0)) (Kd.R_base ho1)) (fun _ h_ => h_.1))
 have n2_ := Aside0.mk (Kd.R_elder' (b2_ HO_310002.out) (Kd.R_base ho2) hb)
 have n3_ := Aside0.mk (Kd.R_mono (Kd.R_told (Kd.R_told (Kd.R_old (b2_ HO_320000.out) hb) (Kd.R_base ho0)) (Kd.R_base ho1)) (fun _ h_ => h_.1))
 have n4_ := Aside0.mk (Kd.R_mono (Kd.R_told (Kd.R_told (Kd.R_old (b2_ HO_320001.out) hb) (Kd.R_base ho0)) (Kd.R_base ho1)) (fun _ h_ => h_.1))
 have n5_ := Aside0.mk (Kd.R_elder' (b2_ HO_320002.out) (Kd.R_base ho2) hb)
 have n6_ := Aside0.mk (Kd.R_mono (Kd.R_told (Kd.R_told (Kd.R_old (b2_ HO_331000.out) hb) (Kd.R_base ho0)) (Kd.R_base ho1)) (fun _ h_ => h_.1))
 have n7_ := Aside0.mk (Kd.R_mono (Kd.R_told (Kd.R_told (Kd.R_old (b2_ HO_331001.out) hb) (Kd.R_base ho0)) (Kd.R_base ho1)) (fun _ h_ => h_.1))
 have n8_ := Aside0.mk (Kd.R_elder' (b2_ HO_331002.out) (Kd.R_base ho2) hb)
 have n9_ := Aside0.mk (Kd.R_lower (Kd.R_new' (Kd.R_new' (Kd.R_new' (Kd.R_new' (Kd.R_new' (Kd.R_new' ho0 (Kd.R_lt (b2_ HO_310000.out))) (Kd.R_lt (b2_ HO_310001.out))) (Kd.R_lt (b2_ HO_320000.out))) (Kd.R_lt (b2_ HO_320001.out))) (Kd.R_lt (b2_ HO_331000.out))) (Kd.R_lt (b2_ HO_331001.out))) (below_size (y1_ HB.out)))
 have n10_ := Aside0.mk (Kd.R_lower (Kd.R_new' (Kd.R_new' (Kd.R_new' (Kd.R_new' (Kd.R_new' (Kd.R_new' ho1 (Kd.R_lt (b2_ HO_310000.out))) (Kd.R_lt (b2_ HO_310001.out))) (Kd.R_lt (b2_ HO_320000.out))) (Kd.R_lt (b2_ HO_320001.out))) (Kd.R_lt (b2_ HO_331000.out))) (Kd.R_lt (b2_ HO_331001.out))) (below_size (y1_ HB.out)))
 have n11_ := Aside0.mk (Kd.R_lower (Kd.R_new' (Kd.R_new' (Kd.R_new' ho2 (Kd.R_lt (b2_ HO_310002.out))) (Kd.R_lt (b2_ HO_320002.out))) (Kd.R_lt (b2_ HO_331002.out))) (below_size (y1_ HB.out)))
 have n12_ := Aside0.mk (blk_below (g := gb288) (o := .cells #[.slice A0_0 l0_0.length c0_0, .slice A0_1 l0_1.length c0_1, .slice A0_2 l0_2.length c0_2] 45 (0, 0)) (b1_ BK288.out) hb)
 have n13_ := Aside0.mk (blk_below (g := gb309) (o := .cells #[.slice Ao23 t299.length co23, .slice Ao26 t302.length co26, .slice Ao27 t305.length co27] 27 (0, 0)) (b1_ BK309.out) hb)
 have n14_ := Aside0.mk (blk_below (g := gb319) (o := .cells #[.slice Ao31 t310.length co31, .slice Ao35 t313.length co35, .slice Ao36 t316.length co36] 27 (0, 0)) (b1_ BK319.out) hb)
 have n15_ := Aside0.mk (blk_below (g := gb330) (o := .cells #[.slice Ao39 t320.length co39, .slice Ao44 t323.length co44, .slice Ao45 t326.length co45] 27 (0, 0)) (b1_ BK330.out) hb)
 have n16_ := Aside0.mk (below_step (y1_ HB.out) hb)
 clear HO_310000
 clear HO_310001
 clear HO_310002
 clear HO_320000
 clear HO_320001
 clear HO_320002
 clear HO_331000
 clear HO_331001
 clear HO_331002
 clear BK288
 clear BK309
 clear BK319
 clear BK330
 clear HB
 have HO_310000 := n0_
 have HO_310001 := n1_
 have HO_310002 := n2_
 have HO_320000 := n3_
 have HO_320001 := n4_
 have HO_320002 := n5_
 have HO_331000 := n6_
 have HO_331001 := n7_
 have HO_331002 := n8_
 have HO334 := n9_
 have HO337 := n10_
 have HO340 := n11_
 have BK288 := n12_
 have BK309 := n13_
 have BK319 := n14_
 have BK330 := n15_
 have HB := n16_
 clear n0_ n1_ n2_ n3_ n4_ n5_ n6_ n7_ n8_ n9_ n10_ n11_ n12_ n13_ n14_ n15_ n16_
 (try clear hb)
 (try clear hb2)
 (try clear hk)
 (try clear hi)
 (try clear ho0)
 (try clear ho1)
 (try clear ho2)
 obtain ⟨Ao192, co192, eo192⟩ := Kd.R_slice HO334.out
 (first | subst eo192 | (injection eo192 with f1_ f2_ f3_; have f4_ := f1_.symm; have f5_ := f3_.symm; clear f1_ f2_ f3_; subst f4_; subst f5_))
 obtain ⟨Ao193, co193, eo193⟩ := Kd.R_slice HO337.out
 (first | subst eo193 | (injection eo193 with f1_ f2_ f3_; have f4_ := f1_.symm; have f5_ := f3_.symm; clear f1_ f2_ f3_; subst f4_; subst f5_))
 obtain ⟨Ao194, co194, eo194⟩ := Kd.R_slice HO340.out
 (first | subst eo194 | (injection eo194 with f1_ f2_ f3_; have f4_ := f1_.symm; have f5_ := f3_.symm; clear f1_ f2_ f3_; subst f4_; subst f5_))
 refine hK.out _ _ ⟨(blk_cell BK319.out 0).trans rfl, (blk_cell BK319.out 1).trans rfl, (blk_cell BK319.out 2).trans rfl, (blk_cell BK288.out 0).trans rfl, (blk_cell BK288.out 1).trans rfl, (blk_cell BK288.out 2).trans rfl⟩ (fun hHeld => ?_)
 clear hK K
 refine norm_ (a' := ?_) ?_ ?_
 rotate_left
 {
 show Act.put _ (some 47) _ = _
 simp only [Act.put, List.setIfInBounds_toArray, List.set_cons_zero, List.set_cons_succ, i64_w, i32_w]
 rfl}
 refine one_ (i := 3) (N := some 48) #[T,T,T,T,F] rfl rfl s2_ (by decide) (fun K hK => ?_)
 refine goes_ Try.func27 s2_ rfl #[.agg #[.slice Ao31 t310.length co31, .slice Ao35 t313.length co35, .slice Ao36 t316.length co36], .agg #[.slice Ao192 t332.length co192, .slice Ao193 t335.length co193, .slice Ao194 t338.length co194]] (by rfl) rfl rfl s3_ ?_
 with_reducible refine (laws_eqPresence.calls kj11 _ _ t310 _ _ t313 _ _ t316 _ _ t332 _ _ t335 _ _ t338 false _ ?side1 ?side2 ?side3 ?side4 ?side5 ?side6 ?side7 ?side8 ?side9 ?side10 ?side11 ?side12 A66.out).mono ?_
 (case side1 => exact y2_ (Kd.R_reads' HO_320000.out).2.2)
 (case side2 => exact (Kd.R_reads' HO_320000.out).2.1)
 (case side3 => exact y2_ (Kd.R_reads' HO_320001.out).2.2)
 (case side4 => exact (Kd.R_reads' HO_320001.out).2.1)
 (case side5 => exact y2_ (Kd.R_reads' HO_320002.out).2.2)
 (case side6 => exact (Kd.R_reads' HO_320002.out).2.1)
 (case side7 => exact y2_ (Kd.R_reads' HO334.out).2.2)
 (case side8 => exact (Kd.R_reads' HO334.out).2.1)
 (case side9 => exact y2_ (Kd.R_reads' HO337.out).2.2)
 (case side10 => exact (Kd.R_reads' HO337.out).2.1)
 (case side11 => exact y2_ (Kd.R_reads' HO340.out).2.2)
 (case side12 => exact (Kd.R_reads' HO340.out).2.1)
 rintro e w195 ⟨rfl, hb⟩
 refine ⟨_, rfl, ?_⟩
 have n0_ := Aside0.mk (Kd.R_below (b2_ HO_310000.out) hb)
 have n1_ := Aside0.mk (Kd.R_below (b2_ HO_310001.out) hb)
 have n2_ := Aside0.mk (Kd.R_below (b2_ HO_310002.out) hb)
 have n3_ := Aside0.mk (Kd.R_below (b2_ HO_320000.out) hb)
 have n4_ := Aside0.mk (Kd.R_below (b2_ HO_320001.out) hb)
 have n5_ := Aside0.mk (Kd.R_below (b2_ HO_320002.out) hb)
 have n6_ := Aside0.mk (Kd.R_below (b2_ HO_331000.out) hb)
 have n7_ := Aside0.mk (Kd.R_below (b2_ HO_331001.out) hb)
 have n8_ := Aside0.mk (Kd.R_below (b2_ HO_331002.out) hb)
 have n9_ := Aside0.mk (Kd.R_below (b2_ HO334.out) hb)
 have n10_ := Aside0.mk (Kd.R_below (b2_ HO337.out) hb)
 have n11_ := Aside0.mk (Kd.R_below (b2_ HO340.out) hb)
 have n12_ := Aside0.mk (blk_below (g := gb288) (o := .cells #[.slice A0_0 l0_0.length c0_0, .slice A0_1 l0_1.length c0_1, .slice A0_2 l0_2.length c0_2] 45 (0, 0)) (b1_ BK288.out) hb)
 have n13_ := Aside0.mk (blk_below (g := gb309) (o := .cells #[.slice Ao23 t299.length co23, .slice Ao26 t302.length co26, .slice Ao27 t305.length co27] 27 (0, 0)) (b1_ BK309.out) hb)
 have n14_ := Aside0.mk (blk_below (g := gb319) (o := .cells #[.slice Ao31 t310.length co31, .slice Ao35 t313.length co35, .slice Ao36 t316.length co36] 27 (0, 0)) (b1_ BK319.out) hb)
 have n15_ := Aside0.mk (blk_below (g := gb330) (o := .cells #[.slice Ao39 t320.length co39, .slice Ao44 t323.length co44, .slice Ao45 t326.length co45] 27 (0, 0)) (b1_ BK330.out) hb)
 have n16_ := Aside0.mk (below_step (y1_ HB.out) hb)
 clear HO_310000
 clear HO_310001
 clear HO_310002
 clear HO_320000
 clear HO_320001
 clear HO_320002
 clear HO_331000
 clear HO_331001
 clear HO_331002
 clear HO334
 clear HO337
 clear HO340
 clear BK288
 clear BK309
 clear BK319
 clear BK330
 clear HB
 have HO_310000 := n0_
 have HO_310001 := n1_
 have HO_310002 := n2_
 have HO_320000 := n3_
 have HO_320001 := n4_
 have HO_320002 := n5_
 have HO_331000 := n6_
 have HO_331001 := n7_
 have HO_331002 := n8_
 have HO334 := n9_
 have HO337 := n10_
 have HO340 := n11_
 have BK288 := n12_
 have BK309 := n13_
 have BK319 := n14_
 have BK330 := n15_
 have HB := n16_
 clear n0_ n1_ n2_ n3_ n4_ n5_ n6_ n7_ n8_ n9_ n10_ n11_ n12_ n13_ n14_ n15_ n16_
 (try clear hb)
 (try clear hb2)
 (try clear hk)
 (try clear hi)
 refine hK.out _ _ ⟨(blk_cell BK319.out 0).trans rfl, (blk_cell BK319.out 1).trans rfl, (blk_cell BK319.out 2).trans rfl, (blk_cell BK288.out 0).trans rfl, (blk_cell BK288.out 1).trans rfl, (blk_cell BK288.out 2).trans rfl⟩ (fun hHeld => ?_)
 clear hK K
 refine norm_ (a' := ?_) ?_ ?_
 rotate_left
 {
 show Act.put _ (some 48) _ = _
 simp only [Act.put, List.setIfInBounds_toArray, List.set_cons_zero, List.set_cons_succ, i64_w, i32_w]
 rfl}
 refine pure_ (i := 4) (N := some 49) (v := ?_) (a' := ?_) #[T,T,T,T,T] rfl rfl s2_ (fun _ _ _ h => h) (Or.inl ⟨by rfl, ?_⟩) ?_ ?_
 rotate_left
 {
 intro w'
 go_simp
 with_reducible rfl}
 rotate_left
 · exact p1_
 refine done_ s2_ ?_
 try go_wp2
 go_ret
 exact ⟨by first | rfl | (simp [errW_none, errW_some] <;> rfl) | (simp [*, errW_none, errW_some] <;> rfl), by repeat (first | (with_reducible first | exact HB.out | apply below_alloc | apply pw_below_drewN | apply below_drew1) | exact HB.out)⟩}}}}}

/-- THE ONE PURE STATEMENT of laws_FnExactLeaveNow: yours. -/
def laws_FnExactLeaveNow.Pure : Prop := ∀ (l0_0 : List (S108)) (l0_1 : List (S108)) (l0_2 : List (S110)) (a1 : Int), (l0_0.length ≤ maxLen ∧ l0_0.length * 16 ≤ 140737488351232 ∧ ∀ y0_ ∈ l0_0, fit108 y0_) → (l0_1.length ≤ maxLen ∧ l0_1.length * 16 ≤ 140737488351232 ∧ ∀ y0_ ∈ l0_1, fit108 y0_) → (l0_2.length ≤ maxLen ∧ l0_2.length * 16 ≤ 140737488351232 ∧ ∀ y0_ ∈ l0_2, fit110 y0_) → ((Lit.int .i64 a1).wf = true) → ∃ k, laws_FnExactLeaveNow.f k l0_0 l0_1 l0_2 a1 = some true
theorem laws_FnExactLeaveNow.walk (P : laws_FnExactLeaveNow.Pure) (A0_0 : Option Addr) (c0_0 : Nat) (l0_0 : List (S108)) (A0_1 : Option Addr) (c0_1 : Nat) (l0_1 : List (S108)) (A0_2 : Option Addr) (c0_2 : Nat) (l0_2 : List (S110)) (a1 : Int) (w : World) (hr0_0 : Kd.C k108 w A0_0 l0_0.length l0_0) (hc0_0 : l0_0.length ≤ c0_0) (hr0_1 : Kd.C k108 w A0_1 l0_1.length l0_1) (hc0_1 : l0_1.length ≤ c0_1) (hr0_2 : Kd.C k110 w A0_2 l0_2.length l0_2) (hc0_2 : l0_2.length ≤ c0_2) (F0_0 : l0_0.length ≤ maxLen ∧ l0_0.length * 16 ≤ 140737488351232 ∧ ∀ y0_ ∈ l0_0, fit108 y0_) (F0_1 : l0_1.length ≤ maxLen ∧ l0_1.length * 16 ≤ 140737488351232 ∧ ∀ y0_ ∈ l0_1, fit108 y0_) (F0_2 : l0_2.length ≤ maxLen ∧ l0_2.length * 16 ≤ 140737488351232 ∧ ∀ y0_ ∈ l0_2, fit110 y0_) (F1 : (Lit.int .i64 a1).wf = true) :
    Calls Try.prog 4 #[.agg #[.slice A0_0 l0_0.length c0_0, .slice A0_1 l0_1.length c0_1, .slice A0_2 l0_2.length c0_2], .int .i64 a1] w fun e w' => e = .returned (.bool true) ∧ Below w.heap.size w w' := by
  obtain ⟨k, h⟩ := P l0_0 l0_1 l0_2 a1 F0_0 F0_1 F0_2 F1
  refine (laws_FnExactLeaveNow.calls k A0_0 c0_0 l0_0 A0_1 c0_1 l0_1 A0_2 c0_2 l0_2 a1 true w hr0_0 hc0_0 hr0_1 hc0_1 hr0_2 hc0_2 h).mono ?_
  rintro e w' ⟨rfl, hd⟩
  exact ⟨rfl, hd⟩

end Go.Proofs.Ytgfilednbllkmaa.QFnExactLeaveNow
