-- written by a program of this session, on the lines of the kit's print
import Derived.Test.YtgfilednbllkmaaQFnExactJoinPresencex0
import Derived.Test.YtgfilednbllkmaaQFnExactJoinPresencex1
namespace Go.Proofs.Ytgfilednbllkmaa.QFnExactJoinPresence
open Go.RowKit Go.Proofs.YtgfilednbllkmaaW.PrintWords Go.Proofs.YtgfilednbllkmaaW.PrintLast Go.Proofs.YtgfilednbllkmaaW.PrintMore
attribute [local go_sem] max2_int min2_int max_two min_two max_three min_three max_four min_four   -- for this text's walks alone
set_option linter.unusedVariables false
set_option linter.unusedSimpArgs false

/-! ### laws_eqLeaseS: function 66 -/
abbrev laws_eqLeaseS.T : Bool := true
abbrev laws_eqLeaseS.F : Bool := false
abbrev laws_eqLeaseS.m0_ : Array Bool := #[F,F,F,F,F,F,F,F,F,F]
abbrev laws_eqLeaseS.m1_ : Array Bool := #[T,F,F,F,F,F,F,F,F,F]
abbrev laws_eqLeaseS.m2_ : Array Bool := #[T,T,F,F,F,F,F,F,F,F]
abbrev laws_eqLeaseS.m3_ : Array Bool := #[T,T,T,F,F,F,F,F,F,F]
abbrev laws_eqLeaseS.m4_ : Array Bool := #[T,T,T,F,T,F,F,F,F,F]
abbrev laws_eqLeaseS.m5_ : Array Bool := #[T,T,T,F,T,T,F,F,F,F]
abbrev laws_eqLeaseS.m6_ : Array Bool := #[T,T,T,F,T,T,T,F,F,F]
abbrev laws_eqLeaseS.m7_ : Array Bool := #[T,T,T,T,T,T,T,F,F,F]
abbrev laws_eqLeaseS.m8_ : Array Bool := #[T,T,T,T,T,T,T,T,F,F]
abbrev laws_eqLeaseS.m9_ : Array Bool := #[T,T,T,T,T,T,T,T,T,F]
abbrev laws_eqLeaseS.m10_ : Array Bool := #[T,T,T,T,T,T,T,T,T,T]
def laws_eqLeaseS.l0 : Nat → List (S63) → List (S63) → Int → Option (Bool)
  | 0, _, _, _ => none
  | k + 1, x0, x1, x5 => if x5 < (x0.length : Int) then (if 0 ≤ x5 then (if x5 < (x1.length : Int) then ((laws_eqLease.f ((rd_T63 x0 x5).f0) ((rd_T63 x0 x5).f1) ((rd_T63 x1 x5).f0) ((rd_T63 x1 x5).f1)).bind fun t141 => (if t141 = true then (laws_eqLeaseS.l0 k x0 x1 (wrap64 (x5 + 1))) else (some false))) else (none)) else (none)) else (some true)
def laws_eqLeaseS.f (k : Nat) (l0 : List (S63)) (l1 : List (S63)) : Option (Bool) := if (l0.length : Int) = (l1.length : Int) then (laws_eqLeaseS.l0 k l0 l1 0) else (some false)
theorem laws_eqLeaseS.mono_l : ∀ k, (∀ y0 y1 y2, LeO (laws_eqLeaseS.l0 k y0 y1 y2) (laws_eqLeaseS.l0 (k + 1) y0 y1 y2))
  | 0 => fun _ _ _ r h => by simp [laws_eqLeaseS.l0] at h
  | k + 1 => by
    have ih0 := laws_eqLeaseS.mono_l k
    · intro y0 y1 y2
      unfold laws_eqLeaseS.l0
      repeat' first
      | (with_reducible exact ih0 _ _ _)
      | (with_reducible exact LeO.refl _)
      | (with_reducible exact LeO.none _)
      | (with_reducible refine LeO.ite ?_ ?_)
      | (with_reducible refine LeO.bind ?_ (fun _ => ?_))
      | exact ih0 _ _ _
      | exact LeO.none _
      | refine LeO.ite ?_ ?_
      | refine LeO.bind ?_ (fun _ => ?_)
theorem laws_eqLeaseS.mono : ∀ a0 a1 k, LeO (laws_eqLeaseS.f k a0 a1) (laws_eqLeaseS.f (k + 1) a0 a1) := by
  intro a0 a1 k
  have ih0 := laws_eqLeaseS.mono_l k
  unfold laws_eqLeaseS.f
  repeat' first
      | (with_reducible exact ih0 _ _ _)
      | (with_reducible exact LeO.refl _)
      | (with_reducible exact LeO.none _)
      | (with_reducible refine LeO.ite ?_ ?_)
      | (with_reducible refine LeO.bind ?_ (fun _ => ?_))
      | exact ih0 _ _ _
      | exact LeO.none _
      | refine LeO.ite ?_ ?_
      | refine LeO.bind ?_ (fun _ => ?_)
def laws_eqLeaseS.T6 : Bool × List (List Nat × List Nat) := (true, [([], []), ([], []), ([0, 1], [0, 1]), ([2], [2]), ([], []), ([], []), ([4, 5], [4, 5]), ([6], [6]), ([3, 7], [3, 7]), ([8], [8])])
def laws_eqLeaseS.B6 : List Nat := [0, 0, 3, 7, 0, 0, 48, 112, 255, 511]
theorem laws_eqLeaseS.tab6 : rtab .any (opsOf Try.f66 6) = laws_eqLeaseS.T6 := by kernel_rfl
theorem laws_eqLeaseS.bits6 : waitsOk laws_eqLeaseS.T6.2 laws_eqLeaseS.B6 = true := by kernel_rfl
set_option maxHeartbeats 8000000 in
set_option maxRecDepth 100000 in
theorem laws_eqLeaseS.calls (k : Nat) (A0 : Option Addr) (c0 : Nat) (l0 : List (S63)) (A1 : Option Addr) (c1 : Nat) (l1 : List (S63)) (r : Bool) (w : World) (hr0 : Kd.C k63 w A0 l0.length l0) (hc0 : l0.length ≤ c0) (hr1 : Kd.C k63 w A1 l1.length l1) (hc1 : l1.length ≤ c1) (h : laws_eqLeaseS.f k l0 l1 = some r) :
    Calls Try.prog 66 #[.slice A0 l0.length c0, .slice A1 l1.length c1] w fun e w' => e = .returned (.bool r) ∧ Below w.heap.size w w' := by
 have hu63 := Try.underlying63
 have HR0 := A_ hr0
 have HC0 := A_ hc0
 clear hr0 hc0
 have HR1 := A_ hr1
 have HC1 := A_ hc1
 clear hr1 hc1
 have HB := A_ (Below.refl w.heap.size w)
 have H : (if (l0.length : Int) = (l1.length : Int) then (laws_eqLeaseS.l0 k l0 l1 0) else (some false)) = some r := h
 clear h
 by_cases c3 : (l0.length : Int) = (l1.length : Int)
 {
 rw [if_pos c3] at H
 have c3b0 : ((l0.length : Int) == (l1.length : Int)) = true := beq_iff_eq.mpr c3
 have c3b1 : ((l0.length : Int) != (l1.length : Int)) = false := bne_eq_false_iff_eq.mpr c3
 have c3b2 : (l0.length == l1.length) = true := by first | simpa using c3 | (simp at c3 ⊢; omega)
 clear c3
 have H' := A_ H
 clear H
 go_enter Try.func66, Try.ntmps66
 go_wp2
 go_loopg [5] k (fun kq v5 w' => ∃ (x5_1 : Int), v5 = .int .i64 x5_1 ∧ Aside0 (laws_eqLeaseS.l0 kq l0 l1 x5_1 = some r) ∧ Aside0 (kq ≤ k) ∧ Aside0 (Below w.heap.size w w'))
 case atStart => exact ⟨(0), (by first | rfl | (simp; done) | (simp [*]; done)), H', ⟨Nat.le_refl _⟩, ⟨y1_ HB.out⟩⟩
 case round =>
  skip
  {
 clear H'
 try clear c1
 try clear p2
 try clear c3
 try clear c3b0
 try clear c3b1
 try clear c3b2
 obtain ⟨x5_1, rfl, HA, HK1, HB⟩ := hrel
 cases gk with
 | zero => exact absurd HA.out (by simp [laws_eqLeaseS.l0])
 | succ k1 =>
  skip
  {
 have H := HA.out
 clear HA
 simp only [laws_eqLeaseS.l0] at H
 by_cases c4 : x5_1 < (l0.length : Int)
 {
 rw [if_pos c4] at H
 have c4b0 : decide (x5_1 < (l0.length : Int)) = true := decide_eq_true c4
 clear c4
 by_cases c5 : 0 ≤ x5_1
 {
 rw [if_pos c5] at H
 have c5b0 : decide (0 ≤ x5_1) = true := decide_eq_true c5
 clear c5
 by_cases c6 : x5_1 < (l1.length : Int)
 {
 rw [if_pos c6] at H
 have c6b0 : decide (x5_1 < (l1.length : Int)) = true := decide_eq_true c6
 clear c6
 replace H := Option.bind_eq_some_iff.mp H
 obtain ⟨t141, A70, H⟩ := H
 replace H : (if t141 = true then (laws_eqLeaseS.l0 k1 l0 l1 (wrap64 (x5_1 + 1))) else (some false)) = some r := H
 have A7 := A_ A70
 clear A70
 by_cases c8 : t141 = true
 {
 subst c8
 have H1 : (laws_eqLeaseS.l0 k1 l0 l1 (wrap64 (x5_1 + 1))) = some r := by rw [if_pos rfl] at H; exact H
 clear H
 have H := H1
 clear H1
 have H' := A_ H
 clear H
 try go_wp2
 replace HB := A_ (below_drew1 HB.out)
 have p139 : 0 ≤ (x5_1 : Int) := o1_
 have q139 : x5_1 < (l0.length : Int) := o1_
 obtain ⟨ad139, e139, hx139_0, hx139_1⟩ := at_T63 HR0.out x5_1 p139 q139
 have hw139_1 := hx139_1
 have hw139_0 := hx139_0
 cases e139
 replace hx139_0 := (HB.out.cell (World.block_lt_of_cell? w _ hx139_0)).trans hx139_0
 replace hx139_1 := (HB.out.cell (World.block_lt_of_cell? w _ hx139_1)).trans hx139_1
 replace p139 := eq_true p139
 replace q139 := eq_true q139
 have p140 : 0 ≤ (x5_1 : Int) := o1_
 have q140 : x5_1 < (l1.length : Int) := o1_
 obtain ⟨ad140, e140, hx140_0, hx140_1⟩ := at_T63 HR1.out x5_1 p140 q140
 have hw140_1 := hx140_1
 have hw140_0 := hx140_0
 cases e140
 replace hx140_0 := (HB.out.cell (World.block_lt_of_cell? w _ hx140_0)).trans hx140_0
 replace hx140_1 := (HB.out.cell (World.block_lt_of_cell? w _ hx140_1)).trans hx140_1
 replace p140 := eq_true p140
 replace q140 := eq_true q140
 refine start_ (n := 10) (S := fun w' => w'.cell? (ad139.add ((x5_1).toNat * 2)) = some (.int .i64 ((rd_T63 l0 x5_1).f0)) ∧ w'.cell? ⟨(ad139.add ((x5_1).toNat * 2)).block, (ad139.add ((x5_1).toNat * 2)).off + 1, none⟩ = some (.int .i64 ((rd_T63 l0 x5_1).f1)) ∧ w'.cell? (ad140.add ((x5_1).toNat * 2)) = some (.int .i64 ((rd_T63 l1 x5_1).f0)) ∧ w'.cell? ⟨(ad140.add ((x5_1).toNat * 2)).block, (ad140.add ((x5_1).toNat * 2)).off + 1, none⟩ = some (.int .i64 ((rd_T63 l1 x5_1).f1))) (ds := []) m0_ s2_ rfl rfl ⟨((HB.out.cell (World.block_lt_of_cell? w _ hw139_0)).trans hw139_0), ((HB.out.cell (World.block_lt_of_cell? w _ hw139_1)).trans hw139_1), ((HB.out.cell (World.block_lt_of_cell? w _ hw140_0)).trans hw140_0), ((HB.out.cell (World.block_lt_of_cell? w _ hw140_1)).trans hw140_1)⟩ (fun hHeld => ?_); refine with_tabW laws_eqLeaseS.tab6 laws_eqLeaseS.bits6 (fun HT_ HW_ => ?_)
 generalize wr.drew = w9 at HB hx139_0 hx139_1 hx140_0 hx140_1 hHeld ⊢
 refine pu_ 0 17 m1_ (any_of HT_.out s2_) ?_
 refine pu_ 1 18 m2_ (any_of HT_.out s2_) ?_
 refine pu_ 2 19 m3_ (any_of HT_.out s2_) ?_
 refine pu_ 4 21 m4_ (any_of HT_.out s2_) ?_
 refine pu_ 5 22 m5_ (any_of HT_.out s2_) ?_
 refine pu_ 6 23 m6_ (any_of HT_.out s2_) ?_
 refine take_ (i := 3) (N := some 20) (v := ?_) (a' := ?_) m7_ rfl rfl (take_ofW HT_.out HW_.out s2_) (fun _ _ _ h => h) (Or.inl ⟨by rfl, ?_⟩) hHeld ?_ ?_
 rotate_left
 {
 rintro w' ⟨s0, s1, s2, s3⟩
 go_simp
 with_reducible rfl}
 rotate_left
 · exact p1_
 refine take_ (i := 7) (N := some 24) (v := ?_) (a' := ?_) m8_ rfl rfl (take_ofW HT_.out HW_.out s2_) (fun _ _ _ h => h) (Or.inl ⟨by rfl, ?_⟩) hHeld ?_ ?_
 rotate_left
 {
 rintro w' ⟨s0, s1, s2, s3⟩
 go_simp
 with_reducible rfl}
 rotate_left
 · exact p1_
 refine one_ (i := 8) (N := some 25) m9_ rfl rfl (one_of HT_.out s2_) (by decide) (fun K hK => ?_)
 refine goes_ Try.func103 s2_ rfl #[.agg #[.int .i64 ((rd_T63 l0 x5_1).f0), .int .i64 ((rd_T63 l0 x5_1).f1)], .agg #[.int .i64 ((rd_T63 l1 x5_1).f0), .int .i64 ((rd_T63 l1 x5_1).f1)]] (by rfl) rfl rfl (by (try simp only [List.map_toArray, List.map_cons, List.map_nil]); first | done | rfl | (simp only [List.length_drop, List.length_take]; rfl)) ?_
 with_reducible refine (laws_eqLease.calls ((rd_T63 l0 x5_1).f0) ((rd_T63 l0 x5_1).f1) ((rd_T63 l1 x5_1).f0) ((rd_T63 l1 x5_1).f1) true _ A7.out).mono ?_
 rintro e w10 ⟨rfl, hb⟩
 refine ⟨_, rfl, ?_⟩
 replace HB := A_ (below_step (y1_ HB.out) hb)
 (try clear hb)
 (try clear hb2)
 (try clear hk)
 (try clear hi)
 refine hK.out _ _ ⟨((HB.out.cell (World.block_lt_of_cell? w _ hw139_0)).trans hw139_0), ((HB.out.cell (World.block_lt_of_cell? w _ hw139_1)).trans hw139_1), ((HB.out.cell (World.block_lt_of_cell? w _ hw140_0)).trans hw140_0), ((HB.out.cell (World.block_lt_of_cell? w _ hw140_1)).trans hw140_1)⟩ (fun hHeld => ?_)
 clear hK K
 refine norm_ (a' := ?_) ?_ ?_
 rotate_left
 {
 show Act.put _ (some 25) _ = _
 simp only [Act.put, List.setIfInBounds_toArray, List.set_cons_zero, List.set_cons_succ, i64_w, i32_w]
 rfl}
 refine pu_ 9 26 m10_ (any_of HT_.out s2_) ?_
 refine done_ (done_of HT_.out s2_) ?_
 try go_wp2
 go_roundg k1
 case measure => have := HK1.out; omega
 case rel => exact ⟨(wrap64 (x5_1 + 1)), (by first | rfl | (simp; done) | (simp [*]; done)), H', ⟨by have := HK1.out; omega⟩, ⟨y1_ HB.out⟩⟩}
 {
 replace c8 := Bool.eq_false_iff.mpr c8
 subst c8
 have H1 : (some false) = some r := by rw [if_neg (show ¬ (false = true) by decide)] at H; exact H
 clear H
 have H := H1
 clear H1
 obtain rfl := Option.some.inj H
 try go_wp2
 replace HB := A_ (below_drew1 HB.out)
 have p139 : 0 ≤ (x5_1 : Int) := o1_
 have q139 : x5_1 < (l0.length : Int) := o1_
 obtain ⟨ad139, e139, hx139_0, hx139_1⟩ := at_T63 HR0.out x5_1 p139 q139
 have hw139_1 := hx139_1
 have hw139_0 := hx139_0
 cases e139
 replace hx139_0 := (HB.out.cell (World.block_lt_of_cell? w _ hx139_0)).trans hx139_0
 replace hx139_1 := (HB.out.cell (World.block_lt_of_cell? w _ hx139_1)).trans hx139_1
 replace p139 := eq_true p139
 replace q139 := eq_true q139
 have p140 : 0 ≤ (x5_1 : Int) := o1_
 have q140 : x5_1 < (l1.length : Int) := o1_
 obtain ⟨ad140, e140, hx140_0, hx140_1⟩ := at_T63 HR1.out x5_1 p140 q140
 have hw140_1 := hx140_1
 have hw140_0 := hx140_0
 cases e140
 replace hx140_0 := (HB.out.cell (World.block_lt_of_cell? w _ hx140_0)).trans hx140_0
 replace hx140_1 := (HB.out.cell (World.block_lt_of_cell? w _ hx140_1)).trans hx140_1
 replace p140 := eq_true p140
 replace q140 := eq_true q140
 refine start_ (n := 10) (S := fun w' => w'.cell? (ad139.add ((x5_1).toNat * 2)) = some (.int .i64 ((rd_T63 l0 x5_1).f0)) ∧ w'.cell? ⟨(ad139.add ((x5_1).toNat * 2)).block, (ad139.add ((x5_1).toNat * 2)).off + 1, none⟩ = some (.int .i64 ((rd_T63 l0 x5_1).f1)) ∧ w'.cell? (ad140.add ((x5_1).toNat * 2)) = some (.int .i64 ((rd_T63 l1 x5_1).f0)) ∧ w'.cell? ⟨(ad140.add ((x5_1).toNat * 2)).block, (ad140.add ((x5_1).toNat * 2)).off + 1, none⟩ = some (.int .i64 ((rd_T63 l1 x5_1).f1))) (ds := []) m0_ s2_ rfl rfl ⟨((HB.out.cell (World.block_lt_of_cell? w _ hw139_0)).trans hw139_0), ((HB.out.cell (World.block_lt_of_cell? w _ hw139_1)).trans hw139_1), ((HB.out.cell (World.block_lt_of_cell? w _ hw140_0)).trans hw140_0), ((HB.out.cell (World.block_lt_of_cell? w _ hw140_1)).trans hw140_1)⟩ (fun hHeld => ?_); refine with_tabW laws_eqLeaseS.tab6 laws_eqLeaseS.bits6 (fun HT_ HW_ => ?_)
 generalize wr.drew = w11 at HB hx139_0 hx139_1 hx140_0 hx140_1 hHeld ⊢
 refine pu_ 0 17 m1_ (any_of HT_.out s2_) ?_
 refine pu_ 1 18 m2_ (any_of HT_.out s2_) ?_
 refine pu_ 2 19 m3_ (any_of HT_.out s2_) ?_
 refine pu_ 4 21 m4_ (any_of HT_.out s2_) ?_
 refine pu_ 5 22 m5_ (any_of HT_.out s2_) ?_
 refine pu_ 6 23 m6_ (any_of HT_.out s2_) ?_
 refine take_ (i := 3) (N := some 20) (v := ?_) (a' := ?_) m7_ rfl rfl (take_ofW HT_.out HW_.out s2_) (fun _ _ _ h => h) (Or.inl ⟨by rfl, ?_⟩) hHeld ?_ ?_
 rotate_left
 {
 rintro w' ⟨s0, s1, s2, s3⟩
 go_simp
 with_reducible rfl}
 rotate_left
 · exact p1_
 refine take_ (i := 7) (N := some 24) (v := ?_) (a' := ?_) m8_ rfl rfl (take_ofW HT_.out HW_.out s2_) (fun _ _ _ h => h) (Or.inl ⟨by rfl, ?_⟩) hHeld ?_ ?_
 rotate_left
 {
 rintro w' ⟨s0, s1, s2, s3⟩
 go_simp
 with_reducible rfl}
 rotate_left
 · exact p1_
 refine one_ (i := 8) (N := some 25) m9_ rfl rfl (one_of HT_.out s2_) (by decide) (fun K hK => ?_)
 refine goes_ Try.func103 s2_ rfl #[.agg #[.int .i64 ((rd_T63 l0 x5_1).f0), .int .i64 ((rd_T63 l0 x5_1).f1)], .agg #[.int .i64 ((rd_T63 l1 x5_1).f0), .int .i64 ((rd_T63 l1 x5_1).f1)]] (by rfl) rfl rfl (by (try simp only [List.map_toArray, List.map_cons, List.map_nil]); first | done | rfl | (simp only [List.length_drop, List.length_take]; rfl)) ?_
 with_reducible refine (laws_eqLease.calls ((rd_T63 l0 x5_1).f0) ((rd_T63 l0 x5_1).f1) ((rd_T63 l1 x5_1).f0) ((rd_T63 l1 x5_1).f1) false _ A7.out).mono ?_
 rintro e w12 ⟨rfl, hb⟩
 refine ⟨_, rfl, ?_⟩
 replace HB := A_ (below_step (y1_ HB.out) hb)
 (try clear hb)
 (try clear hb2)
 (try clear hk)
 (try clear hi)
 refine hK.out _ _ ⟨((HB.out.cell (World.block_lt_of_cell? w _ hw139_0)).trans hw139_0), ((HB.out.cell (World.block_lt_of_cell? w _ hw139_1)).trans hw139_1), ((HB.out.cell (World.block_lt_of_cell? w _ hw140_0)).trans hw140_0), ((HB.out.cell (World.block_lt_of_cell? w _ hw140_1)).trans hw140_1)⟩ (fun hHeld => ?_)
 clear hK K
 refine norm_ (a' := ?_) ?_ ?_
 rotate_left
 {
 show Act.put _ (some 25) _ = _
 simp only [Act.put, List.setIfInBounds_toArray, List.set_cons_zero, List.set_cons_succ, i64_w, i32_w]
 rfl}
 refine pu_ 9 26 m10_ (any_of HT_.out s2_) ?_
 refine done_ (done_of HT_.out s2_) ?_
 try go_wp2
 go_ret
 exact ⟨e1_, y1_ HB.out⟩}}
 {
 rw [if_neg c6] at H
 exact absurd H (by simp)}}
 {
 rw [if_neg c5] at H
 exact absurd H (by simp)}}
 {
 rw [if_neg c4] at H
 have c4b0 : decide (x5_1 < (l0.length : Int)) = false := decide_eq_false c4
 clear c4
 obtain rfl := Option.some.inj H
 go_wp2
 go_ret
 exact ⟨e1_, y1_ HB.out⟩}}}}
 {
 rw [if_neg c3] at H
 have c3b0 : ((l0.length : Int) == (l1.length : Int)) = false := beq_eq_false_iff_ne.mpr c3
 have c3b1 : ((l0.length : Int) != (l1.length : Int)) = true := bne_iff_ne.mpr c3
 have c3b2 : (l0.length == l1.length) = false := by first | simpa using c3 | (simp at c3 ⊢; omega)
 obtain rfl := Option.some.inj H
 go_enter Try.func66, Try.ntmps66
 go_wp2
 go_ret
 exact ⟨e1_, y1_ HB.out⟩}

/-! ### laws_eqMark: function 104 -/
abbrev laws_eqMark.T : Bool := true
abbrev laws_eqMark.F : Bool := false
def laws_eqMark.f (a0_0 : Int) (a0_1 : Int) (a1_0 : Int) (a1_1 : Int) : Option (Bool) := if a0_0 = a1_0 then (if a0_1 = a1_1 then (some true) else (some false)) else (some false)
set_option maxHeartbeats 8000000 in
set_option maxRecDepth 100000 in
theorem laws_eqMark.calls (a0_0 : Int) (a0_1 : Int) (a1_0 : Int) (a1_1 : Int) (r : Bool) (w : World) (h : laws_eqMark.f a0_0 a0_1 a1_0 a1_1 = some r) :
    Calls Try.prog 104 #[.agg #[.int .i64 a0_0, .int .i64 a0_1], .agg #[.int .i64 a1_0, .int .i64 a1_1]] w fun e w' => e = .returned (.bool r) ∧ Below w.heap.size w w' := by
 have hu73 := Try.underlying73
 have HB := A_ (Below.refl w.heap.size w)
 have H : (if a0_0 = a1_0 then (if a0_1 = a1_1 then (some true) else (some false)) else (some false)) = some r := h
 clear h
 by_cases c3 : a0_0 = a1_0
 {
 rw [if_pos c3] at H
 have c3b0 : (a0_0 == a1_0) = true := beq_iff_eq.mpr c3
 have c3b1 : (a0_0 != a1_0) = false := bne_eq_false_iff_eq.mpr c3
 clear c3
 by_cases c4 : a0_1 = a1_1
 {
 rw [if_pos c4] at H
 have c4b0 : (a0_1 == a1_1) = true := beq_iff_eq.mpr c4
 have c4b1 : (a0_1 != a1_1) = false := bne_eq_false_iff_eq.mpr c4
 clear c4
 obtain rfl := Option.some.inj H
 go_enter Try.func104, Try.ntmps104
 go_wp2_with (first | ((with_reducible refine gate_dst (N := 2) rfl ?_); refine bx_ 2 #[.int .i64 a0_0, .int .i64 a0_1] 73 ?_; intro gb142 hg w5 hbox hb; have GW142 := b6_ hg HB; have GE142 := b6_ hg HB; replace HB := A_ (below_step (y1_ HB.out) hb); have BK142 := A_ (hbox); clear hb hbox hg) | ((with_reducible refine gate_dst (N := 3) rfl ?_); refine bx_ 3 #[.int .i64 a1_0, .int .i64 a1_1] 73 ?_; intro gb143 hg w6 hbox hb; have GW143 := b6_ hg HB; have GE143 := b6_ hg HB; have NB142_143 := b4_ hg BK142; have NB143_142 := b5_ hg BK142; replace BK142 := b3_ BK142 hb; replace HB := A_ (below_step (y1_ HB.out) hb); have BK143 := A_ (hbox); clear hb hbox hg; have hnb7 := NB142_143.out; have hnc7 := NB143_142.out; have hcz8_0 := c1_ BK142 0 (.int .i64 a0_0); have hcz8_1 := c1_ BK142 1 (.int .i64 a0_1); have hfz8_0 := f1_ BK142 0; have hfz8_1 := f1_ BK142 1; have hcz9_0 := c1_ BK143 0 (.int .i64 a1_0); have hcz9_1 := c1_ BK143 1 (.int .i64 a1_1); have hfz9_0 := f1_ BK143 0; have hfz9_1 := f1_ BK143 1))
 go_ret
 exact ⟨e1_, y1_ HB.out⟩}
 {
 rw [if_neg c4] at H
 have c4b0 : (a0_1 == a1_1) = false := beq_eq_false_iff_ne.mpr c4
 have c4b1 : (a0_1 != a1_1) = true := bne_iff_ne.mpr c4
 obtain rfl := Option.some.inj H
 go_enter Try.func104, Try.ntmps104
 go_wp2_with (first | ((with_reducible refine gate_dst (N := 2) rfl ?_); refine bx_ 2 #[.int .i64 a0_0, .int .i64 a0_1] 73 ?_; intro gb142 hg w10 hbox hb; have GW142 := b6_ hg HB; have GE142 := b6_ hg HB; replace HB := A_ (below_step (y1_ HB.out) hb); have BK142 := A_ (hbox); clear hb hbox hg) | ((with_reducible refine gate_dst (N := 3) rfl ?_); refine bx_ 3 #[.int .i64 a1_0, .int .i64 a1_1] 73 ?_; intro gb143 hg w11 hbox hb; have GW143 := b6_ hg HB; have GE143 := b6_ hg HB; have NB142_143 := b4_ hg BK142; have NB143_142 := b5_ hg BK142; replace BK142 := b3_ BK142 hb; replace HB := A_ (below_step (y1_ HB.out) hb); have BK143 := A_ (hbox); clear hb hbox hg; have hnb12 := NB142_143.out; have hnc12 := NB143_142.out; have hcz13_0 := c1_ BK142 0 (.int .i64 a0_0); have hcz13_1 := c1_ BK142 1 (.int .i64 a0_1); have hfz13_0 := f1_ BK142 0; have hfz13_1 := f1_ BK142 1; have hcz14_0 := c1_ BK143 0 (.int .i64 a1_0); have hcz14_1 := c1_ BK143 1 (.int .i64 a1_1); have hfz14_0 := f1_ BK143 0; have hfz14_1 := f1_ BK143 1))
 go_ret
 exact ⟨e1_, y1_ HB.out⟩}}
 {
 rw [if_neg c3] at H
 have c3b0 : (a0_0 == a1_0) = false := beq_eq_false_iff_ne.mpr c3
 have c3b1 : (a0_0 != a1_0) = true := bne_iff_ne.mpr c3
 obtain rfl := Option.some.inj H
 go_enter Try.func104, Try.ntmps104
 go_wp2_with (first | ((with_reducible refine gate_dst (N := 2) rfl ?_); refine bx_ 2 #[.int .i64 a0_0, .int .i64 a0_1] 73 ?_; intro gb142 hg w15 hbox hb; have GW142 := b6_ hg HB; have GE142 := b6_ hg HB; replace HB := A_ (below_step (y1_ HB.out) hb); have BK142 := A_ (hbox); clear hb hbox hg) | ((with_reducible refine gate_dst (N := 3) rfl ?_); refine bx_ 3 #[.int .i64 a1_0, .int .i64 a1_1] 73 ?_; intro gb143 hg w16 hbox hb; have GW143 := b6_ hg HB; have GE143 := b6_ hg HB; have NB142_143 := b4_ hg BK142; have NB143_142 := b5_ hg BK142; replace BK142 := b3_ BK142 hb; replace HB := A_ (below_step (y1_ HB.out) hb); have BK143 := A_ (hbox); clear hb hbox hg; have hnb17 := NB142_143.out; have hnc17 := NB143_142.out; have hcz18_0 := c1_ BK142 0 (.int .i64 a0_0); have hcz18_1 := c1_ BK142 1 (.int .i64 a0_1); have hfz18_0 := f1_ BK142 0; have hfz18_1 := f1_ BK142 1; have hcz19_0 := c1_ BK143 0 (.int .i64 a1_0); have hcz19_1 := c1_ BK143 1 (.int .i64 a1_1); have hfz19_0 := f1_ BK143 0; have hfz19_1 := f1_ BK143 1))
 go_ret
 exact ⟨e1_, y1_ HB.out⟩}

/-! ### laws_eqMarkS: function 67 -/
abbrev laws_eqMarkS.T : Bool := true
abbrev laws_eqMarkS.F : Bool := false
abbrev laws_eqMarkS.m0_ : Array Bool := #[F,F,F,F,F,F,F,F,F,F]
abbrev laws_eqMarkS.m1_ : Array Bool := #[T,F,F,F,F,F,F,F,F,F]
abbrev laws_eqMarkS.m2_ : Array Bool := #[T,T,F,F,F,F,F,F,F,F]
abbrev laws_eqMarkS.m3_ : Array Bool := #[T,T,T,F,F,F,F,F,F,F]
abbrev laws_eqMarkS.m4_ : Array Bool := #[T,T,T,F,T,F,F,F,F,F]
abbrev laws_eqMarkS.m5_ : Array Bool := #[T,T,T,F,T,T,F,F,F,F]
abbrev laws_eqMarkS.m6_ : Array Bool := #[T,T,T,F,T,T,T,F,F,F]
abbrev laws_eqMarkS.m7_ : Array Bool := #[T,T,T,T,T,T,T,F,F,F]
abbrev laws_eqMarkS.m8_ : Array Bool := #[T,T,T,T,T,T,T,T,F,F]
abbrev laws_eqMarkS.m9_ : Array Bool := #[T,T,T,T,T,T,T,T,T,F]
abbrev laws_eqMarkS.m10_ : Array Bool := #[T,T,T,T,T,T,T,T,T,T]
def laws_eqMarkS.l0 : Nat → List (S73) → List (S73) → Int → Option (Bool)
  | 0, _, _, _ => none
  | k + 1, x0, x1, x5 => if x5 < (x0.length : Int) then (if 0 ≤ x5 then (if x5 < (x1.length : Int) then ((laws_eqMark.f ((rd_T73 x0 x5).f0) ((rd_T73 x0 x5).f1) ((rd_T73 x1 x5).f0) ((rd_T73 x1 x5).f1)).bind fun t146 => (if t146 = true then (laws_eqMarkS.l0 k x0 x1 (wrap64 (x5 + 1))) else (some false))) else (none)) else (none)) else (some true)
def laws_eqMarkS.f (k : Nat) (l0 : List (S73)) (l1 : List (S73)) : Option (Bool) := if (l0.length : Int) = (l1.length : Int) then (laws_eqMarkS.l0 k l0 l1 0) else (some false)
theorem laws_eqMarkS.mono_l : ∀ k, (∀ y0 y1 y2, LeO (laws_eqMarkS.l0 k y0 y1 y2) (laws_eqMarkS.l0 (k + 1) y0 y1 y2))
  | 0 => fun _ _ _ r h => by simp [laws_eqMarkS.l0] at h
  | k + 1 => by
    have ih0 := laws_eqMarkS.mono_l k
    · intro y0 y1 y2
      unfold laws_eqMarkS.l0
      repeat' first
      | (with_reducible exact ih0 _ _ _)
      | (with_reducible exact LeO.refl _)
      | (with_reducible exact LeO.none _)
      | (with_reducible refine LeO.ite ?_ ?_)
      | (with_reducible refine LeO.bind ?_ (fun _ => ?_))
      | exact ih0 _ _ _
      | exact LeO.none _
      | refine LeO.ite ?_ ?_
      | refine LeO.bind ?_ (fun _ => ?_)
theorem laws_eqMarkS.mono : ∀ a0 a1 k, LeO (laws_eqMarkS.f k a0 a1) (laws_eqMarkS.f (k + 1) a0 a1) := by
  intro a0 a1 k
  have ih0 := laws_eqMarkS.mono_l k
  unfold laws_eqMarkS.f
  repeat' first
      | (with_reducible exact ih0 _ _ _)
      | (with_reducible exact LeO.refl _)
      | (with_reducible exact LeO.none _)
      | (with_reducible refine LeO.ite ?_ ?_)
      | (with_reducible refine LeO.bind ?_ (fun _ => ?_))
      | exact ih0 _ _ _
      | exact LeO.none _
      | refine LeO.ite ?_ ?_
      | refine LeO.bind ?_ (fun _ => ?_)
def laws_eqMarkS.T6 : Bool × List (List Nat × List Nat) := (true, [([], []), ([], []), ([0, 1], [0, 1]), ([2], [2]), ([], []), ([], []), ([4, 5], [4, 5]), ([6], [6]), ([3, 7], [3, 7]), ([8], [8])])
def laws_eqMarkS.B6 : List Nat := [0, 0, 3, 7, 0, 0, 48, 112, 255, 511]
theorem laws_eqMarkS.tab6 : rtab .any (opsOf Try.f67 6) = laws_eqMarkS.T6 := by kernel_rfl
theorem laws_eqMarkS.bits6 : waitsOk laws_eqMarkS.T6.2 laws_eqMarkS.B6 = true := by kernel_rfl
set_option maxHeartbeats 8000000 in
set_option maxRecDepth 100000 in
theorem laws_eqMarkS.calls (k : Nat) (A0 : Option Addr) (c0 : Nat) (l0 : List (S73)) (A1 : Option Addr) (c1 : Nat) (l1 : List (S73)) (r : Bool) (w : World) (hr0 : Kd.C k73 w A0 l0.length l0) (hc0 : l0.length ≤ c0) (hr1 : Kd.C k73 w A1 l1.length l1) (hc1 : l1.length ≤ c1) (h : laws_eqMarkS.f k l0 l1 = some r) :
    Calls Try.prog 67 #[.slice A0 l0.length c0, .slice A1 l1.length c1] w fun e w' => e = .returned (.bool r) ∧ Below w.heap.size w w' := by
 have hu73 := Try.underlying73
 have HR0 := A_ hr0
 have HC0 := A_ hc0
 clear hr0 hc0
 have HR1 := A_ hr1
 have HC1 := A_ hc1
 clear hr1 hc1
 have HB := A_ (Below.refl w.heap.size w)
 have H : (if (l0.length : Int) = (l1.length : Int) then (laws_eqMarkS.l0 k l0 l1 0) else (some false)) = some r := h
 clear h
 by_cases c3 : (l0.length : Int) = (l1.length : Int)
 {
 rw [if_pos c3] at H
 have c3b0 : ((l0.length : Int) == (l1.length : Int)) = true := beq_iff_eq.mpr c3
 have c3b1 : ((l0.length : Int) != (l1.length : Int)) = false := bne_eq_false_iff_eq.mpr c3
 have c3b2 : (l0.length == l1.length) = true := by first | simpa using c3 | (simp at c3 ⊢; omega)
 clear c3
 have H' := A_ H
 clear H
 go_enter Try.func67, Try.ntmps67
 go_wp2
 go_loopg [5] k (fun kq v5 w' => ∃ (x5_1 : Int), v5 = .int .i64 x5_1 ∧ Aside0 (laws_eqMarkS.l0 kq l0 l1 x5_1 = some r) ∧ Aside0 (kq ≤ k) ∧ Aside0 (Below w.heap.size w w'))
 case atStart => exact ⟨(0), (by first | rfl | (simp; done) | (simp [*]; done)), H', ⟨Nat.le_refl _⟩, ⟨y1_ HB.out⟩⟩
 case round =>
  skip
  {
 clear H'
 try clear c1
 try clear p2
 try clear c3
 try clear c3b0
 try clear c3b1
 try clear c3b2
 obtain ⟨x5_1, rfl, HA, HK1, HB⟩ := hrel
 cases gk with
 | zero => exact absurd HA.out (by simp [laws_eqMarkS.l0])
 | succ k1 =>
  skip
  {
 have H := HA.out
 clear HA
 simp only [laws_eqMarkS.l0] at H
 by_cases c4 : x5_1 < (l0.length : Int)
 {
 rw [if_pos c4] at H
 have c4b0 : decide (x5_1 < (l0.length : Int)) = true := decide_eq_true c4
 clear c4
 by_cases c5 : 0 ≤ x5_1
 {
 rw [if_pos c5] at H
 have c5b0 : decide (0 ≤ x5_1) = true := decide_eq_true c5
 clear c5
 by_cases c6 : x5_1 < (l1.length : Int)
 {
 rw [if_pos c6] at H
 have c6b0 : decide (x5_1 < (l1.length : Int)) = true := decide_eq_true c6
 clear c6
 replace H := Option.bind_eq_some_iff.mp H
 obtain ⟨t146, A70, H⟩ := H
 replace H : (if t146 = true then (laws_eqMarkS.l0 k1 l0 l1 (wrap64 (x5_1 + 1))) else (some false)) = some r := H
 have A7 := A_ A70
 clear A70
 by_cases c8 : t146 = true
 {
 subst c8
 have H1 : (laws_eqMarkS.l0 k1 l0 l1 (wrap64 (x5_1 + 1))) = some r := by rw [if_pos rfl] at H; exact H
 clear H
 have H := H1
 clear H1
 have H' := A_ H
 clear H
 try go_wp2
 replace HB := A_ (below_drew1 HB.out)
 have p144 : 0 ≤ (x5_1 : Int) := o1_
 have q144 : x5_1 < (l0.length : Int) := o1_
 obtain ⟨ad144, e144, hx144_0, hx144_1⟩ := at_T73 HR0.out x5_1 p144 q144
 have hw144_1 := hx144_1
 have hw144_0 := hx144_0
 cases e144
 replace hx144_0 := (HB.out.cell (World.block_lt_of_cell? w _ hx144_0)).trans hx144_0
 replace hx144_1 := (HB.out.cell (World.block_lt_of_cell? w _ hx144_1)).trans hx144_1
 replace p144 := eq_true p144
 replace q144 := eq_true q144
 have p145 : 0 ≤ (x5_1 : Int) := o1_
 have q145 : x5_1 < (l1.length : Int) := o1_
 obtain ⟨ad145, e145, hx145_0, hx145_1⟩ := at_T73 HR1.out x5_1 p145 q145
 have hw145_1 := hx145_1
 have hw145_0 := hx145_0
 cases e145
 replace hx145_0 := (HB.out.cell (World.block_lt_of_cell? w _ hx145_0)).trans hx145_0
 replace hx145_1 := (HB.out.cell (World.block_lt_of_cell? w _ hx145_1)).trans hx145_1
 replace p145 := eq_true p145
 replace q145 := eq_true q145
 refine start_ (n := 10) (S := fun w' => w'.cell? (ad144.add ((x5_1).toNat * 2)) = some (.int .i64 ((rd_T73 l0 x5_1).f0)) ∧ w'.cell? ⟨(ad144.add ((x5_1).toNat * 2)).block, (ad144.add ((x5_1).toNat * 2)).off + 1, none⟩ = some (.int .i64 ((rd_T73 l0 x5_1).f1)) ∧ w'.cell? (ad145.add ((x5_1).toNat * 2)) = some (.int .i64 ((rd_T73 l1 x5_1).f0)) ∧ w'.cell? ⟨(ad145.add ((x5_1).toNat * 2)).block, (ad145.add ((x5_1).toNat * 2)).off + 1, none⟩ = some (.int .i64 ((rd_T73 l1 x5_1).f1))) (ds := []) m0_ s2_ rfl rfl ⟨((HB.out.cell (World.block_lt_of_cell? w _ hw144_0)).trans hw144_0), ((HB.out.cell (World.block_lt_of_cell? w _ hw144_1)).trans hw144_1), ((HB.out.cell (World.block_lt_of_cell? w _ hw145_0)).trans hw145_0), ((HB.out.cell (World.block_lt_of_cell? w _ hw145_1)).trans hw145_1)⟩ (fun hHeld => ?_); refine with_tabW laws_eqMarkS.tab6 laws_eqMarkS.bits6 (fun HT_ HW_ => ?_)
 generalize wr.drew = w9 at HB hx144_0 hx144_1 hx145_0 hx145_1 hHeld ⊢
 refine pu_ 0 17 m1_ (any_of HT_.out s2_) ?_
 refine pu_ 1 18 m2_ (any_of HT_.out s2_) ?_
 refine pu_ 2 19 m3_ (any_of HT_.out s2_) ?_
 refine pu_ 4 21 m4_ (any_of HT_.out s2_) ?_
 refine pu_ 5 22 m5_ (any_of HT_.out s2_) ?_
 refine pu_ 6 23 m6_ (any_of HT_.out s2_) ?_
 refine take_ (i := 3) (N := some 20) (v := ?_) (a' := ?_) m7_ rfl rfl (take_ofW HT_.out HW_.out s2_) (fun _ _ _ h => h) (Or.inl ⟨by rfl, ?_⟩) hHeld ?_ ?_
 rotate_left
 {
 rintro w' ⟨s0, s1, s2, s3⟩
 go_simp
 with_reducible rfl}
 rotate_left
 · exact p1_
 refine take_ (i := 7) (N := some 24) (v := ?_) (a' := ?_) m8_ rfl rfl (take_ofW HT_.out HW_.out s2_) (fun _ _ _ h => h) (Or.inl ⟨by rfl, ?_⟩) hHeld ?_ ?_
 rotate_left
 {
 rintro w' ⟨s0, s1, s2, s3⟩
 go_simp
 with_reducible rfl}
 rotate_left
 · exact p1_
 refine one_ (i := 8) (N := some 25) m9_ rfl rfl (one_of HT_.out s2_) (by decide) (fun K hK => ?_)
 refine goes_ Try.func104 s2_ rfl #[.agg #[.int .i64 ((rd_T73 l0 x5_1).f0), .int .i64 ((rd_T73 l0 x5_1).f1)], .agg #[.int .i64 ((rd_T73 l1 x5_1).f0), .int .i64 ((rd_T73 l1 x5_1).f1)]] (by rfl) rfl rfl (by (try simp only [List.map_toArray, List.map_cons, List.map_nil]); first | done | rfl | (simp only [List.length_drop, List.length_take]; rfl)) ?_
 with_reducible refine (laws_eqMark.calls ((rd_T73 l0 x5_1).f0) ((rd_T73 l0 x5_1).f1) ((rd_T73 l1 x5_1).f0) ((rd_T73 l1 x5_1).f1) true _ A7.out).mono ?_
 rintro e w10 ⟨rfl, hb⟩
 refine ⟨_, rfl, ?_⟩
 replace HB := A_ (below_step (y1_ HB.out) hb)
 (try clear hb)
 (try clear hb2)
 (try clear hk)
 (try clear hi)
 refine hK.out _ _ ⟨((HB.out.cell (World.block_lt_of_cell? w _ hw144_0)).trans hw144_0), ((HB.out.cell (World.block_lt_of_cell? w _ hw144_1)).trans hw144_1), ((HB.out.cell (World.block_lt_of_cell? w _ hw145_0)).trans hw145_0), ((HB.out.cell (World.block_lt_of_cell? w _ hw145_1)).trans hw145_1)⟩ (fun hHeld => ?_)
 clear hK K
 refine norm_ (a' := ?_) ?_ ?_
 rotate_left
 {
 show Act.put _ (some 25) _ = _
 simp only [Act.put, List.setIfInBounds_toArray, List.set_cons_zero, List.set_cons_succ, i64_w, i32_w]
 rfl}
 refine pu_ 9 26 m10_ (any_of HT_.out s2_) ?_
 refine done_ (done_of HT_.out s2_) ?_
 try go_wp2
 go_roundg k1
 case measure => have := HK1.out; omega
 case rel => exact ⟨(wrap64 (x5_1 + 1)), (by first | rfl | (simp; done) | (simp [*]; done)), H', ⟨by have := HK1.out; omega⟩, ⟨y1_ HB.out⟩⟩}
 {
 replace c8 := Bool.eq_false_iff.mpr c8
 subst c8
 have H1 : (some false) = some r := by rw [if_neg (show ¬ (false = true) by decide)] at H; exact H
 clear H
 have H := H1
 clear H1
 obtain rfl := Option.some.inj H
 try go_wp2
 replace HB := A_ (below_drew1 HB.out)
 have p144 : 0 ≤ (x5_1 : Int) := o1_
 have q144 : x5_1 < (l0.length : Int) := o1_
 obtain ⟨ad144, e144, hx144_0, hx144_1⟩ := at_T73 HR0.out x5_1 p144 q144
 have hw144_1 := hx144_1
 have hw144_0 := hx144_0
 cases e144
 replace hx144_0 := (HB.out.cell (World.block_lt_of_cell? w _ hx144_0)).trans hx144_0
 replace hx144_1 := (HB.out.cell (World.block_lt_of_cell? w _ hx144_1)).trans hx144_1
 replace p144 := eq_true p144
 replace q144 := eq_true q144
 have p145 : 0 ≤ (x5_1 : Int) := o1_
 have q145 : x5_1 < (l1.length : Int) := o1_
 obtain ⟨ad145, e145, hx145_0, hx145_1⟩ := at_T73 HR1.out x5_1 p145 q145
 have hw145_1 := hx145_1
 have hw145_0 := hx145_0
 cases e145
 replace hx145_0 := (HB.out.cell (World.block_lt_of_cell? w _ hx145_0)).trans hx145_0
 replace hx145_1 := (HB.out.cell (World.block_lt_of_cell? w _ hx145_1)).trans hx145_1
 replace p145 := eq_true p145
 replace q145 := eq_true q145
 refine start_ (n := 10) (S := fun w' => w'.cell? (ad144.add ((x5_1).toNat * 2)) = some (.int .i64 ((rd_T73 l0 x5_1).f0)) ∧ w'.cell? ⟨(ad144.add ((x5_1).toNat * 2)).block, (ad144.add ((x5_1).toNat * 2)).off + 1, none⟩ = some (.int .i64 ((rd_T73 l0 x5_1).f1)) ∧ w'.cell? (ad145.add ((x5_1).toNat * 2)) = some (.int .i64 ((rd_T73 l1 x5_1).f0)) ∧ w'.cell? ⟨(ad145.add ((x5_1).toNat * 2)).block, (ad145.add ((x5_1).toNat * 2)).off + 1, none⟩ = some (.int .i64 ((rd_T73 l1 x5_1).f1))) (ds := []) m0_ s2_ rfl rfl ⟨((HB.out.cell (World.block_lt_of_cell? w _ hw144_0)).trans hw144_0), ((HB.out.cell (World.block_lt_of_cell? w _ hw144_1)).trans hw144_1), ((HB.out.cell (World.block_lt_of_cell? w _ hw145_0)).trans hw145_0), ((HB.out.cell (World.block_lt_of_cell? w _ hw145_1)).trans hw145_1)⟩ (fun hHeld => ?_); refine with_tabW laws_eqMarkS.tab6 laws_eqMarkS.bits6 (fun HT_ HW_ => ?_)
 generalize wr.drew = w11 at HB hx144_0 hx144_1 hx145_0 hx145_1 hHeld ⊢
 refine pu_ 0 17 m1_ (any_of HT_.out s2_) ?_
 refine pu_ 1 18 m2_ (any_of HT_.out s2_) ?_
 refine pu_ 2 19 m3_ (any_of HT_.out s2_) ?_
 refine pu_ 4 21 m4_ (any_of HT_.out s2_) ?_
 refine pu_ 5 22 m5_ (any_of HT_.out s2_) ?_
 refine pu_ 6 23 m6_ (any_of HT_.out s2_) ?_
 refine take_ (i := 3) (N := some 20) (v := ?_) (a' := ?_) m7_ rfl rfl (take_ofW HT_.out HW_.out s2_) (fun _ _ _ h => h) (Or.inl ⟨by rfl, ?_⟩) hHeld ?_ ?_
 rotate_left
 {
 rintro w' ⟨s0, s1, s2, s3⟩
 go_simp
 with_reducible rfl}
 rotate_left
 · exact p1_
 refine take_ (i := 7) (N := some 24) (v := ?_) (a' := ?_) m8_ rfl rfl (take_ofW HT_.out HW_.out s2_) (fun _ _ _ h => h) (Or.inl ⟨by rfl, ?_⟩) hHeld ?_ ?_
 rotate_left
 {
 rintro w' ⟨s0, s1, s2, s3⟩
 go_simp
 with_reducible rfl}
 rotate_left
 · exact p1_
 refine one_ (i := 8) (N := some 25) m9_ rfl rfl (one_of HT_.out s2_) (by decide) (fun K hK => ?_)
 refine goes_ Try.func104 s2_ rfl #[.agg #[.int .i64 ((rd_T73 l0 x5_1).f0), .int .i64 ((rd_T73 l0 x5_1).f1)], .agg #[.int .i64 ((rd_T73 l1 x5_1).f0), .int .i64 ((rd_T73 l1 x5_1).f1)]] (by rfl) rfl rfl (by (try simp only [List.map_toArray, List.map_cons, List.map_nil]); first | done | rfl | (simp only [List.length_drop, List.length_take]; rfl)) ?_
 with_reducible refine (laws_eqMark.calls ((rd_T73 l0 x5_1).f0) ((rd_T73 l0 x5_1).f1) ((rd_T73 l1 x5_1).f0) ((rd_T73 l1 x5_1).f1) false _ A7.out).mono ?_
 rintro e w12 ⟨rfl, hb⟩
 refine ⟨_, rfl, ?_⟩
 replace HB := A_ (below_step (y1_ HB.out) hb)
 (try clear hb)
 (try clear hb2)
 (try clear hk)
 (try clear hi)
 refine hK.out _ _ ⟨((HB.out.cell (World.block_lt_of_cell? w _ hw144_0)).trans hw144_0), ((HB.out.cell (World.block_lt_of_cell? w _ hw144_1)).trans hw144_1), ((HB.out.cell (World.block_lt_of_cell? w _ hw145_0)).trans hw145_0), ((HB.out.cell (World.block_lt_of_cell? w _ hw145_1)).trans hw145_1)⟩ (fun hHeld => ?_)
 clear hK K
 refine norm_ (a' := ?_) ?_ ?_
 rotate_left
 {
 show Act.put _ (some 25) _ = _
 simp only [Act.put, List.setIfInBounds_toArray, List.set_cons_zero, List.set_cons_succ, i64_w, i32_w]
 rfl}
 refine pu_ 9 26 m10_ (any_of HT_.out s2_) ?_
 refine done_ (done_of HT_.out s2_) ?_
 try go_wp2
 go_ret
 exact ⟨e1_, y1_ HB.out⟩}}
 {
 rw [if_neg c6] at H
 exact absurd H (by simp)}}
 {
 rw [if_neg c5] at H
 exact absurd H (by simp)}}
 {
 rw [if_neg c4] at H
 have c4b0 : decide (x5_1 < (l0.length : Int)) = false := decide_eq_false c4
 clear c4
 obtain rfl := Option.some.inj H
 go_wp2
 go_ret
 exact ⟨e1_, y1_ HB.out⟩}}}}
 {
 rw [if_neg c3] at H
 have c3b0 : ((l0.length : Int) == (l1.length : Int)) = false := beq_eq_false_iff_ne.mpr c3
 have c3b1 : ((l0.length : Int) != (l1.length : Int)) = true := bne_iff_ne.mpr c3
 have c3b2 : (l0.length == l1.length) = false := by first | simpa using c3 | (simp at c3 ⊢; omega)
 obtain rfl := Option.some.inj H
 go_enter Try.func67, Try.ntmps67
 go_wp2
 go_ret
 exact ⟨e1_, y1_ HB.out⟩}

/-! ### laws_eqPresence: function 27 -/
abbrev laws_eqPresence.T : Bool := true
abbrev laws_eqPresence.F : Bool := false
def laws_eqPresence.f (k : Nat) (l0_0 : List (S63)) (l0_1 : List (S63)) (l0_2 : List (S73)) (l1_0 : List (S63)) (l1_1 : List (S63)) (l1_2 : List (S73)) : Option (Bool) := (laws_eqLeaseS.f k l0_0 l1_0).bind fun t149 => (if t149 = true then ((laws_eqLeaseS.f k l0_1 l1_1).bind fun t150 => (if t150 = true then ((laws_eqMarkS.f k l0_2 l1_2).bind fun t151 => (if t151 = true then (some true) else (some false))) else (some false))) else (some false))
theorem laws_eqPresence.mono : ∀ a0 a1 a2 a3 a4 a5 k, LeO (laws_eqPresence.f k a0 a1 a2 a3 a4 a5) (laws_eqPresence.f (k + 1) a0 a1 a2 a3 a4 a5) := by
  intro a0 a1 a2 a3 a4 a5 k
  unfold laws_eqPresence.f
  repeat' first
      | (with_reducible exact laws_eqLeaseS.mono _ _ _)
      | (with_reducible exact laws_eqMarkS.mono _ _ _)
      | (with_reducible exact LeO.refl _)
      | (with_reducible exact LeO.none _)
      | (with_reducible refine LeO.ite ?_ ?_)
      | (with_reducible refine LeO.bind ?_ (fun _ => ?_))
      | exact laws_eqLeaseS.mono _ _ _
      | exact laws_eqMarkS.mono _ _ _
      | exact LeO.none _
      | refine LeO.ite ?_ ?_
      | refine LeO.bind ?_ (fun _ => ?_)
set_option maxHeartbeats 8000000 in
set_option maxRecDepth 100000 in
theorem laws_eqPresence.calls (k : Nat) (A0_0 : Option Addr) (c0_0 : Nat) (l0_0 : List (S63)) (A0_1 : Option Addr) (c0_1 : Nat) (l0_1 : List (S63)) (A0_2 : Option Addr) (c0_2 : Nat) (l0_2 : List (S73)) (A1_0 : Option Addr) (c1_0 : Nat) (l1_0 : List (S63)) (A1_1 : Option Addr) (c1_1 : Nat) (l1_1 : List (S63)) (A1_2 : Option Addr) (c1_2 : Nat) (l1_2 : List (S73)) (r : Bool) (w : World) (hr0_0 : Kd.C k63 w A0_0 l0_0.length l0_0) (hc0_0 : l0_0.length ≤ c0_0) (hr0_1 : Kd.C k63 w A0_1 l0_1.length l0_1) (hc0_1 : l0_1.length ≤ c0_1) (hr0_2 : Kd.C k73 w A0_2 l0_2.length l0_2) (hc0_2 : l0_2.length ≤ c0_2) (hr1_0 : Kd.C k63 w A1_0 l1_0.length l1_0) (hc1_0 : l1_0.length ≤ c1_0) (hr1_1 : Kd.C k63 w A1_1 l1_1.length l1_1) (hc1_1 : l1_1.length ≤ c1_1) (hr1_2 : Kd.C k73 w A1_2 l1_2.length l1_2) (hc1_2 : l1_2.length ≤ c1_2) (h : laws_eqPresence.f k l0_0 l0_1 l0_2 l1_0 l1_1 l1_2 = some r) :
    Calls Try.prog 27 #[.agg #[.slice A0_0 l0_0.length c0_0, .slice A0_1 l0_1.length c0_1, .slice A0_2 l0_2.length c0_2], .agg #[.slice A1_0 l1_0.length c1_0, .slice A1_1 l1_1.length c1_1, .slice A1_2 l1_2.length c1_2]] w fun e w' => e = .returned (.bool r) ∧ Below w.heap.size w w' := by
 have hu27 := Try.underlying27
 have HR0_0 := A_ hr0_0
 have HC0_0 := A_ hc0_0
 clear hr0_0 hc0_0
 have HR0_1 := A_ hr0_1
 have HC0_1 := A_ hc0_1
 clear hr0_1 hc0_1
 have HR0_2 := A_ hr0_2
 have HC0_2 := A_ hc0_2
 clear hr0_2 hc0_2
 have HR1_0 := A_ hr1_0
 have HC1_0 := A_ hc1_0
 clear hr1_0 hc1_0
 have HR1_1 := A_ hr1_1
 have HC1_1 := A_ hc1_1
 clear hr1_1 hc1_1
 have HR1_2 := A_ hr1_2
 have HC1_2 := A_ hc1_2
 clear hr1_2 hc1_2
 have HB := A_ (Below.refl w.heap.size w)
 have H : ((laws_eqLeaseS.f k l0_0 l1_0).bind fun t149 => (if t149 = true then ((laws_eqLeaseS.f k l0_1 l1_1).bind fun t150 => (if t150 = true then ((laws_eqMarkS.f k l0_2 l1_2).bind fun t151 => (if t151 = true then (some true) else (some false))) else (some false))) else (some false))) = some r := h
 clear h
 replace H := Option.bind_eq_some_iff.mp H
 obtain ⟨t149, A30, H⟩ := H
 replace H : (if t149 = true then ((laws_eqLeaseS.f k l0_1 l1_1).bind fun t150 => (if t150 = true then ((laws_eqMarkS.f k l0_2 l1_2).bind fun t151 => (if t151 = true then (some true) else (some false))) else (some false))) else (some false)) = some r := H
 have A3 := A_ A30
 clear A30
 by_cases c4 : t149 = true
 {
 subst c4
 have H1 : ((laws_eqLeaseS.f k l0_1 l1_1).bind fun t150 => (if t150 = true then ((laws_eqMarkS.f k l0_2 l1_2).bind fun t151 => (if t151 = true then (some true) else (some false))) else (some false))) = some r := by rw [if_pos rfl] at H; exact H
 clear H
 have H := H1
 clear H1
 replace H := Option.bind_eq_some_iff.mp H
 obtain ⟨t150, A50, H⟩ := H
 replace H : (if t150 = true then ((laws_eqMarkS.f k l0_2 l1_2).bind fun t151 => (if t151 = true then (some true) else (some false))) else (some false)) = some r := H
 have A5 := A_ A50
 clear A50
 by_cases c6 : t150 = true
 {
 subst c6
 have H1 : ((laws_eqMarkS.f k l0_2 l1_2).bind fun t151 => (if t151 = true then (some true) else (some false))) = some r := by rw [if_pos rfl] at H; exact H
 clear H
 have H := H1
 clear H1
 replace H := Option.bind_eq_some_iff.mp H
 obtain ⟨t151, A70, H⟩ := H
 replace H : (if t151 = true then (some true) else (some false)) = some r := H
 have A7 := A_ A70
 clear A70
 by_cases c8 : t151 = true
 {
 subst c8
 have H1 : (some true) = some r := by rw [if_pos rfl] at H; exact H
 clear H
 have H := H1
 clear H1
 obtain rfl := Option.some.inj H
 go_enter Try.func27, Try.ntmps27
 go_wp2_with (first | ((with_reducible refine gate_dst (N := 2) rfl ?_); refine bx_ 2 #[.slice A0_0 l0_0.length c0_0, .slice A0_1 l0_1.length c0_1, .slice A0_2 l0_2.length c0_2] 27 ?_; intro gb147 hg w9 hbox hb; have GW147 := b6_ hg HB; have GE147 := b6_ hg HB; replace HB := A_ (below_step (y1_ HB.out) hb); have BK147 := A_ (hbox); clear hb hbox hg) | ((with_reducible refine gate_dst (N := 3) rfl ?_); refine bx_ 3 #[.slice A1_0 l1_0.length c1_0, .slice A1_1 l1_1.length c1_1, .slice A1_2 l1_2.length c1_2] 27 ?_; intro gb148 hg w10 hbox hb; have GW148 := b6_ hg HB; have GE148 := b6_ hg HB; have NB147_148 := b4_ hg BK147; have NB148_147 := b5_ hg BK147; replace BK147 := b3_ BK147 hb; replace HB := A_ (below_step (y1_ HB.out) hb); have BK148 := A_ (hbox); clear hb hbox hg; have hnb11 := NB147_148.out; have hnc11 := NB148_147.out; have hcz12_0 := c1_ BK147 0 (.slice A0_0 l0_0.length c0_0); have hcz12_1 := c1_ BK147 1 (.slice A0_1 l0_1.length c0_1); have hcz12_2 := c1_ BK147 2 (.slice A0_2 l0_2.length c0_2); have hfz12_0 := f1_ BK147 0; have hfz12_1 := f1_ BK147 1; have hfz12_2 := f1_ BK147 2; have hcz13_0 := c1_ BK148 0 (.slice A1_0 l1_0.length c1_0); have hcz13_1 := c1_ BK148 1 (.slice A1_1 l1_1.length c1_1); have hcz13_2 := c1_ BK148 2 (.slice A1_2 l1_2.length c1_2); have hfz13_0 := f1_ BK148 0; have hfz13_1 := f1_ BK148 1; have hfz13_2 := f1_ BK148 2) | ((with_reducible refine gate_callee (f := 66) rfl ?_); refine goesL_ (some 9) rfl rfl Try.func66 s2_ rfl #[.slice A0_0 l0_0.length c0_0, .slice A1_0 l1_0.length c1_0] rfl s3_ ?_; (with_reducible refine (laws_eqLeaseS.calls k _ _ l0_0 _ _ l1_0 true _ ?side1 ?side2 ?side3 ?side4 A3.out).mono ?_); (case side1 => exact y2_ (Kd.C_below HR0_0.out HB.out)); (case side2 => exact HC0_0.out); (case side3 => exact y2_ (Kd.C_below HR1_0.out HB.out)); (case side4 => exact HC1_0.out); rintro e w14 ⟨rfl, hb⟩; refine ⟨_, rfl, ?_⟩; replace BK147 := b3_ BK147 hb; replace BK148 := b3_ BK148 hb; replace HB := A_ (below_step (y1_ HB.out) hb); (try clear hb); (try clear hb2); (try clear hk); (try clear hi); have hcz15_0 := c1_ BK147 0 (.slice A0_0 l0_0.length c0_0); have hcz15_1 := c1_ BK147 1 (.slice A0_1 l0_1.length c0_1); have hcz15_2 := c1_ BK147 2 (.slice A0_2 l0_2.length c0_2); have hfz15_0 := f1_ BK147 0; have hfz15_1 := f1_ BK147 1; have hfz15_2 := f1_ BK147 2; have hcz16_0 := c1_ BK148 0 (.slice A1_0 l1_0.length c1_0); have hcz16_1 := c1_ BK148 1 (.slice A1_1 l1_1.length c1_1); have hcz16_2 := c1_ BK148 2 (.slice A1_2 l1_2.length c1_2); have hfz16_0 := f1_ BK148 0; have hfz16_1 := f1_ BK148 1; have hfz16_2 := f1_ BK148 2) | ((with_reducible refine gate_callee (f := 66) rfl ?_); refine goesL_ (some 15) rfl rfl Try.func66 s2_ rfl #[.slice A0_1 l0_1.length c0_1, .slice A1_1 l1_1.length c1_1] rfl s3_ ?_; (with_reducible refine (laws_eqLeaseS.calls k _ _ l0_1 _ _ l1_1 true _ ?side1 ?side2 ?side3 ?side4 A5.out).mono ?_); (case side1 => exact y2_ (Kd.C_below HR0_1.out HB.out)); (case side2 => exact HC0_1.out); (case side3 => exact y2_ (Kd.C_below HR1_1.out HB.out)); (case side4 => exact HC1_1.out); rintro e w17 ⟨rfl, hb⟩; refine ⟨_, rfl, ?_⟩; replace BK147 := b3_ BK147 hb; replace BK148 := b3_ BK148 hb; replace HB := A_ (below_step (y1_ HB.out) hb); (try clear hb); (try clear hb2); (try clear hk); (try clear hi); have hcz18_0 := c1_ BK147 0 (.slice A0_0 l0_0.length c0_0); have hcz18_1 := c1_ BK147 1 (.slice A0_1 l0_1.length c0_1); have hcz18_2 := c1_ BK147 2 (.slice A0_2 l0_2.length c0_2); have hfz18_0 := f1_ BK147 0; have hfz18_1 := f1_ BK147 1; have hfz18_2 := f1_ BK147 2; have hcz19_0 := c1_ BK148 0 (.slice A1_0 l1_0.length c1_0); have hcz19_1 := c1_ BK148 1 (.slice A1_1 l1_1.length c1_1); have hcz19_2 := c1_ BK148 2 (.slice A1_2 l1_2.length c1_2); have hfz19_0 := f1_ BK148 0; have hfz19_1 := f1_ BK148 1; have hfz19_2 := f1_ BK148 2) | ((with_reducible refine gate_callee (f := 67) rfl ?_); refine goesL_ (some 21) rfl rfl Try.func67 s2_ rfl #[.slice A0_2 l0_2.length c0_2, .slice A1_2 l1_2.length c1_2] rfl s3_ ?_; (with_reducible refine (laws_eqMarkS.calls k _ _ l0_2 _ _ l1_2 true _ ?side1 ?side2 ?side3 ?side4 A7.out).mono ?_); (case side1 => exact y2_ (Kd.C_below HR0_2.out HB.out)); (case side2 => exact HC0_2.out); (case side3 => exact y2_ (Kd.C_below HR1_2.out HB.out)); (case side4 => exact HC1_2.out); rintro e w20 ⟨rfl, hb⟩; refine ⟨_, rfl, ?_⟩; replace BK147 := b3_ BK147 hb; replace BK148 := b3_ BK148 hb; replace HB := A_ (below_step (y1_ HB.out) hb); (try clear hb); (try clear hb2); (try clear hk); (try clear hi)))
 go_ret
 exact ⟨e1_, y1_ HB.out⟩}
 {
 replace c8 := Bool.eq_false_iff.mpr c8
 subst c8
 have H1 : (some false) = some r := by rw [if_neg (show ¬ (false = true) by decide)] at H; exact H
 clear H
 have H := H1
 clear H1
 obtain rfl := Option.some.inj H
 go_enter Try.func27, Try.ntmps27
 go_wp2_with (first | ((with_reducible refine gate_dst (N := 2) rfl ?_); refine bx_ 2 #[.slice A0_0 l0_0.length c0_0, .slice A0_1 l0_1.length c0_1, .slice A0_2 l0_2.length c0_2] 27 ?_; intro gb147 hg w21 hbox hb; have GW147 := b6_ hg HB; have GE147 := b6_ hg HB; replace HB := A_ (below_step (y1_ HB.out) hb); have BK147 := A_ (hbox); clear hb hbox hg) | ((with_reducible refine gate_dst (N := 3) rfl ?_); refine bx_ 3 #[.slice A1_0 l1_0.length c1_0, .slice A1_1 l1_1.length c1_1, .slice A1_2 l1_2.length c1_2] 27 ?_; intro gb148 hg w22 hbox hb; have GW148 := b6_ hg HB; have GE148 := b6_ hg HB; have NB147_148 := b4_ hg BK147; have NB148_147 := b5_ hg BK147; replace BK147 := b3_ BK147 hb; replace HB := A_ (below_step (y1_ HB.out) hb); have BK148 := A_ (hbox); clear hb hbox hg; have hnb23 := NB147_148.out; have hnc23 := NB148_147.out; have hcz24_0 := c1_ BK147 0 (.slice A0_0 l0_0.length c0_0); have hcz24_1 := c1_ BK147 1 (.slice A0_1 l0_1.length c0_1); have hcz24_2 := c1_ BK147 2 (.slice A0_2 l0_2.length c0_2); have hfz24_0 := f1_ BK147 0; have hfz24_1 := f1_ BK147 1; have hfz24_2 := f1_ BK147 2; have hcz25_0 := c1_ BK148 0 (.slice A1_0 l1_0.length c1_0); have hcz25_1 := c1_ BK148 1 (.slice A1_1 l1_1.length c1_1); have hcz25_2 := c1_ BK148 2 (.slice A1_2 l1_2.length c1_2); have hfz25_0 := f1_ BK148 0; have hfz25_1 := f1_ BK148 1; have hfz25_2 := f1_ BK148 2) | ((with_reducible refine gate_callee (f := 66) rfl ?_); refine goesL_ (some 9) rfl rfl Try.func66 s2_ rfl #[.slice A0_0 l0_0.length c0_0, .slice A1_0 l1_0.length c1_0] rfl s3_ ?_; (with_reducible refine (laws_eqLeaseS.calls k _ _ l0_0 _ _ l1_0 true _ ?side1 ?side2 ?side3 ?side4 A3.out).mono ?_); (case side1 => exact y2_ (Kd.C_below HR0_0.out HB.out)); (case side2 => exact HC0_0.out); (case side3 => exact y2_ (Kd.C_below HR1_0.out HB.out)); (case side4 => exact HC1_0.out); rintro e w26 ⟨rfl, hb⟩; refine ⟨_, rfl, ?_⟩; replace BK147 := b3_ BK147 hb; replace BK148 := b3_ BK148 hb; replace HB := A_ (below_step (y1_ HB.out) hb); (try clear hb); (try clear hb2); (try clear hk); (try clear hi); have hcz27_0 := c1_ BK147 0 (.slice A0_0 l0_0.length c0_0); have hcz27_1 := c1_ BK147 1 (.slice A0_1 l0_1.length c0_1); have hcz27_2 := c1_ BK147 2 (.slice A0_2 l0_2.length c0_2); have hfz27_0 := f1_ BK147 0; have hfz27_1 := f1_ BK147 1; have hfz27_2 := f1_ BK147 2; have hcz28_0 := c1_ BK148 0 (.slice A1_0 l1_0.length c1_0); have hcz28_1 := c1_ BK148 1 (.slice A1_1 l1_1.length c1_1); have hcz28_2 := c1_ BK148 2 (.slice A1_2 l1_2.length c1_2); have hfz28_0 := f1_ BK148 0; have hfz28_1 := f1_ BK148 1; have hfz28_2 := f1_ BK148 2) | ((with_reducible refine gate_callee (f := 66) rfl ?_); refine goesL_ (some 15) rfl rfl Try.func66 s2_ rfl #[.slice A0_1 l0_1.length c0_1, .slice A1_1 l1_1.length c1_1] rfl s3_ ?_; (with_reducible refine (laws_eqLeaseS.calls k _ _ l0_1 _ _ l1_1 true _ ?side1 ?side2 ?side3 ?side4 A5.out).mono ?_); (case side1 => exact y2_ (Kd.C_below HR0_1.out HB.out)); (case side2 => exact HC0_1.out); (case side3 => exact y2_ (Kd.C_below HR1_1.out HB.out)); (case side4 => exact HC1_1.out); rintro e w29 ⟨rfl, hb⟩; refine ⟨_, rfl, ?_⟩; replace BK147 := b3_ BK147 hb; replace BK148 := b3_ BK148 hb; replace HB := A_ (below_step (y1_ HB.out) hb); (try clear hb); (try clear hb2); (try clear hk); (try clear hi); have hcz30_0 := c1_ BK147 0 (.slice A0_0 l0_0.length c0_0); have hcz30_1 := c1_ BK147 1 (.slice A0_1 l0_1.length c0_1); have hcz30_2 := c1_ BK147 2 (.slice A0_2 l0_2.length c0_2); have hfz30_0 := f1_ BK147 0; have hfz30_1 := f1_ BK147 1; have hfz30_2 := f1_ BK147 2; have hcz31_0 := c1_ BK148 0 (.slice A1_0 l1_0.length c1_0); have hcz31_1 := c1_ BK148 1 (.slice A1_1 l1_1.length c1_1); have hcz31_2 := c1_ BK148 2 (.slice A1_2 l1_2.length c1_2); have hfz31_0 := f1_ BK148 0; have hfz31_1 := f1_ BK148 1; have hfz31_2 := f1_ BK148 2) | ((with_reducible refine gate_callee (f := 67) rfl ?_); refine goesL_ (some 21) rfl rfl Try.func67 s2_ rfl #[.slice A0_2 l0_2.length c0_2, .slice A1_2 l1_2.length c1_2] rfl s3_ ?_; (with_reducible refine (laws_eqMarkS.calls k _ _ l0_2 _ _ l1_2 false _ ?side1 ?side2 ?side3 ?side4 A7.out).mono ?_); (case side1 => exact y2_ (Kd.C_below HR0_2.out HB.out)); (case side2 => exact HC0_2.out); (case side3 => exact y2_ (Kd.C_below HR1_2.out HB.out)); (case side4 => exact HC1_2.out); rintro e w32 ⟨rfl, hb⟩; refine ⟨_, rfl, ?_⟩; replace BK147 := b3_ BK147 hb; replace BK148 := b3_ BK148 hb; replace HB := A_ (below_step (y1_ HB.out) hb); (try clear hb); (try clear hb2); (try clear hk); (try clear hi)))
 go_ret
 exact ⟨e1_, y1_ HB.out⟩}}
 {
 replace c6 := Bool.eq_false_iff.mpr c6
 subst c6
 have H1 : (some false) = some r := by rw [if_neg (show ¬ (false = true) by decide)] at H; exact H
 clear H
 have H := H1
 clear H1
 obtain rfl := Option.some.inj H
 go_enter Try.func27, Try.ntmps27
 go_wp2_with (first | ((with_reducible refine gate_dst (N := 2) rfl ?_); refine bx_ 2 #[.slice A0_0 l0_0.length c0_0, .slice A0_1 l0_1.length c0_1, .slice A0_2 l0_2.length c0_2] 27 ?_; intro gb147 hg w33 hbox hb; have GW147 := b6_ hg HB; have GE147 := b6_ hg HB; replace HB := A_ (below_step (y1_ HB.out) hb); have BK147 := A_ (hbox); clear hb hbox hg) | ((with_reducible refine gate_dst (N := 3) rfl ?_); refine bx_ 3 #[.slice A1_0 l1_0.length c1_0, .slice A1_1 l1_1.length c1_1, .slice A1_2 l1_2.length c1_2] 27 ?_; intro gb148 hg w34 hbox hb; have GW148 := b6_ hg HB; have GE148 := b6_ hg HB; have NB147_148 := b4_ hg BK147; have NB148_147 := b5_ hg BK147; replace BK147 := b3_ BK147 hb; replace HB := A_ (below_step (y1_ HB.out) hb); have BK148 := A_ (hbox); clear hb hbox hg; have hnb35 := NB147_148.out; have hnc35 := NB148_147.out; have hcz36_0 := c1_ BK147 0 (.slice A0_0 l0_0.length c0_0); have hcz36_1 := c1_ BK147 1 (.slice A0_1 l0_1.length c0_1); have hcz36_2 := c1_ BK147 2 (.slice A0_2 l0_2.length c0_2); have hfz36_0 := f1_ BK147 0; have hfz36_1 := f1_ BK147 1; have hfz36_2 := f1_ BK147 2; have hcz37_0 := c1_ BK148 0 (.slice A1_0 l1_0.length c1_0); have hcz37_1 := c1_ BK148 1 (.slice A1_1 l1_1.length c1_1); have hcz37_2 := c1_ BK148 2 (.slice A1_2 l1_2.length c1_2); have hfz37_0 := f1_ BK148 0; have hfz37_1 := f1_ BK148 1; have hfz37_2 := f1_ BK148 2) | ((with_reducible refine gate_callee (f := 66) rfl ?_); refine goesL_ (some 9) rfl rfl Try.func66 s2_ rfl #[.slice A0_0 l0_0.length c0_0, .slice A1_0 l1_0.length c1_0] rfl s3_ ?_; (with_reducible refine (laws_eqLeaseS.calls k _ _ l0_0 _ _ l1_0 true _ ?side1 ?side2 ?side3 ?side4 A3.out).mono ?_); (case side1 => exact y2_ (Kd.C_below HR0_0.out HB.out)); (case side2 => exact HC0_0.out); (case side3 => exact y2_ (Kd.C_below HR1_0.out HB.out)); (case side4 => exact HC1_0.out); rintro e w38 ⟨rfl, hb⟩; refine ⟨_, rfl, ?_⟩; replace BK147 := b3_ BK147 hb; replace BK148 := b3_ BK148 hb; replace HB := A_ (below_step (y1_ HB.out) hb); (try clear hb); (try clear hb2); (try clear hk); (try clear hi); have hcz39_0 := c1_ BK147 0 (.slice A0_0 l0_0.length c0_0); have hcz39_1 := c1_ BK147 1 (.slice A0_1 l0_1.length c0_1); have hcz39_2 := c1_ BK147 2 (.slice A0_2 l0_2.length c0_2); have hfz39_0 := f1_ BK147 0; have hfz39_1 := f1_ BK147 1; have hfz39_2 := f1_ BK147 2; have hcz40_0 := c1_ BK148 0 (.slice A1_0 l1_0.length c1_0); have hcz40_1 := c1_ BK148 1 (.slice A1_1 l1_1.length c1_1); have hcz40_2 := c1_ BK148 2 (.slice A1_2 l1_2.length c1_2); have hfz40_0 := f1_ BK148 0; have hfz40_1 := f1_ BK148 1; have hfz40_2 := f1_ BK148 2) | ((with_reducible refine gate_callee (f := 66) rfl ?_); refine goesL_ (some 15) rfl rfl Try.func66 s2_ rfl #[.slice A0_1 l0_1.length c0_1, .slice A1_1 l1_1.length c1_1] rfl s3_ ?_; (with_reducible refine (laws_eqLeaseS.calls k _ _ l0_1 _ _ l1_1 false _ ?side1 ?side2 ?side3 ?side4 A5.out).mono ?_); (case side1 => exact y2_ (Kd.C_below HR0_1.out HB.out)); (case side2 => exact HC0_1.out); (case side3 => exact y2_ (Kd.C_below HR1_1.out HB.out)); (case side4 => exact HC1_1.out); rintro e w41 ⟨rfl, hb⟩; refine ⟨_, rfl, ?_⟩; replace BK147 := b3_ BK147 hb; replace BK148 := b3_ BK148 hb; replace HB := A_ (below_step (y1_ HB.out) hb); (try clear hb); (try clear hb2); (try clear hk); (try clear hi)))
 go_ret
 exact ⟨e1_, y1_ HB.out⟩}}
 {
 replace c4 := Bool.eq_false_iff.mpr c4
 subst c4
 have H1 : (some false) = some r := by rw [if_neg (show ¬ (false = true) by decide)] at H; exact H
 clear H
 have H := H1
 clear H1
 obtain rfl := Option.some.inj H
 go_enter Try.func27, Try.ntmps27
 go_wp2_with (first | ((with_reducible refine gate_dst (N := 2) rfl ?_); refine bx_ 2 #[.slice A0_0 l0_0.length c0_0, .slice A0_1 l0_1.length c0_1, .slice A0_2 l0_2.length c0_2] 27 ?_; intro gb147 hg w42 hbox hb; have GW147 := b6_ hg HB; have GE147 := b6_ hg HB; replace HB := A_ (below_step (y1_ HB.out) hb); have BK147 := A_ (hbox); clear hb hbox hg) | ((with_reducible refine gate_dst (N := 3) rfl ?_); refine bx_ 3 #[.slice A1_0 l1_0.length c1_0, .slice A1_1 l1_1.length c1_1, .slice A1_2 l1_2.length c1_2] 27 ?_; intro gb148 hg w43 hbox hb; have GW148 := b6_ hg HB; have GE148 := b6_ hg HB; have NB147_148 := b4_ hg BK147; have NB148_147 := b5_ hg BK147; replace BK147 := b3_ BK147 hb; replace HB := A_ (below_step (y1_ HB.out) hb); have BK148 := A_ (hbox); clear hb hbox hg; have hnb44 := NB147_148.out; have hnc44 := NB148_147.out; have hcz45_0 := c1_ BK147 0 (.slice A0_0 l0_0.length c0_0); have hcz45_1 := c1_ BK147 1 (.slice A0_1 l0_1.length c0_1); have hcz45_2 := c1_ BK147 2 (.slice A0_2 l0_2.length c0_2); have hfz45_0 := f1_ BK147 0; have hfz45_1 := f1_ BK147 1; have hfz45_2 := f1_ BK147 2; have hcz46_0 := c1_ BK148 0 (.slice A1_0 l1_0.length c1_0); have hcz46_1 := c1_ BK148 1 (.slice A1_1 l1_1.length c1_1); have hcz46_2 := c1_ BK148 2 (.slice A1_2 l1_2.length c1_2); have hfz46_0 := f1_ BK148 0; have hfz46_1 := f1_ BK148 1; have hfz46_2 := f1_ BK148 2) | ((with_reducible refine gate_callee (f := 66) rfl ?_); refine goesL_ (some 9) rfl rfl Try.func66 s2_ rfl #[.slice A0_0 l0_0.length c0_0, .slice A1_0 l1_0.length c1_0] rfl s3_ ?_; (with_reducible refine (laws_eqLeaseS.calls k _ _ l0_0 _ _ l1_0 false _ ?side1 ?side2 ?side3 ?side4 A3.out).mono ?_); (case side1 => exact y2_ (Kd.C_below HR0_0.out HB.out)); (case side2 => exact HC0_0.out); (case side3 => exact y2_ (Kd.C_below HR1_0.out HB.out)); (case side4 => exact HC1_0.out); rintro e w47 ⟨rfl, hb⟩; refine ⟨_, rfl, ?_⟩; replace BK147 := b3_ BK147 hb; replace BK148 := b3_ BK148 hb; replace HB := A_ (below_step (y1_ HB.out) hb); (try clear hb); (try clear hb2); (try clear hk); (try clear hi)))
 go_ret
 exact ⟨e1_, y1_ HB.out⟩}

end Go.Proofs.Ytgfilednbllkmaa.QFnExactJoinPresence
