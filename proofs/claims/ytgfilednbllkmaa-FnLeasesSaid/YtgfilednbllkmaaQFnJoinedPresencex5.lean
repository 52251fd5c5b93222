-- written by a program of this session, on the lines of the kit's print
import Derived.Test.YtgfilednbllkmaaQFnJoinedPresencex0
import Derived.Test.YtgfilednbllkmaaQFnJoinedPresencex3
namespace Go.Proofs.Ytgfilednbllkmaa.QFnJoinedPresence
open Go.RowKit Go.Proofs.YtgfilednbllkmaaW.PrintWords Go.Proofs.YtgfilednbllkmaaW.PrintLast Go.Proofs.YtgfilednbllkmaaW.PrintMore
attribute [local go_sem] max2_int min2_int max_two min_two max_three min_three max_four min_four   -- for this text's walks alone
set_option linter.unusedVariables false
set_option linter.unusedSimpArgs false

/-! ### spec_l00Max: function 108 -/
def spec_l00Max.f (a0 : Int) (a1 : Int) : Option (Int) := if a0 > a1 then (some a0) else (some a1)
set_option maxHeartbeats 8000000 in
set_option maxRecDepth 100000 in
theorem spec_l00Max.calls (a0 : Int) (a1 : Int) (r : Int) (w : World) (h : spec_l00Max.f a0 a1 = some r) :
    Calls Try.prog 108 #[.int .i64 a0, .int .i64 a1] w fun e w' => e = .returned (.int .i64 r) ∧ Drawn0 w w' := by
  have H : (if a0 > a1 then (some a0) else (some a1)) = some r := h
  clear h
  by_cases c3 : a0 > a1
  · rw [if_pos c3] at H
    have c3b0 : decide (a1 < a0) = true := decide_eq_true c3
    clear c3
    obtain rfl := Option.some.inj H
    go_enter Try.func108, Try.ntmps108
    go_wp2
    go_ret
    exact ⟨by first | rfl | (simp; done) | (simp [*]; done), by repeat (first | exact Drawn0.refl _ | apply Drawn0.step)⟩
  · rw [if_neg c3] at H
    have c3b0 : decide (a1 < a0) = false := decide_eq_false c3
    clear c3
    obtain rfl := Option.some.inj H
    go_enter Try.func108, Try.ntmps108
    go_wp2
    go_ret
    exact ⟨by first | rfl | (simp; done) | (simp [*]; done), by repeat (first | exact Drawn0.refl _ | apply Drawn0.step)⟩

/-! ### spec_l05Put: function 80 -/
abbrev spec_l05Put.T : Bool := true
abbrev spec_l05Put.F : Bool := false
mutual
def spec_l05Put.l0 : Nat → List (S63) → Int → Int → List (S63) → Bool → Int → Int → Option ((List (S63)))
  | 0, _, _, _, _, _, _, _ => none
  | k + 1, x0, x1, x2, x7, x8, x13, x14 => if x14 < x13 then (if 0 ≤ x14 then (if x14 < (x0.length : Int) then (if x8 = true then (spec_l05Put.j1 k x0 x1 x2 x7 x8 x13 x14 false ((rd_T63 x0 x14).f0) ((rd_T63 x0 x14).f1)) else (spec_l05Put.j1 k x0 x1 x2 x7 x8 x13 x14 (decide (((rd_T63 x0 x14).f0) ≥ x1)) ((rd_T63 x0 x14).f0) ((rd_T63 x0 x14).f1))) else (none)) else (none)) else (if x8 = true then (some x7) else (if x7.length < 8796093022208 then (some (x7 ++ [(⟨x1, x2⟩ : S63)])) else (none)))
def spec_l05Put.j1 : Nat → List (S63) → Int → Int → List (S63) → Bool → Int → Int → Bool → Int → Int → Option ((List (S63)))
  | 0, _, _, _, _, _, _, _, _, _, _ => none
  | k + 1, x0, x1, x2, x7, x8, x13, x14, x28, x130000, x130001 => if x28 = true then (if x130000 = x1 then ((spec_l00Max.f x130001 x2).bind fun t130 => (if x7.length < 8796093022208 then (spec_l05Put.l0 k x0 x1 x2 (x7 ++ [(⟨x130000, t130⟩ : S63)]) true x13 (wrap64 (x14 + 1))) else (none))) else (if x7.length < 8796093022208 then ((some (x7 ++ [(⟨x1, x2⟩ : S63)] : List (S63))).bind fun y134 => (if y134.length < 8796093022208 then (spec_l05Put.l0 k x0 x1 x2 (y134 ++ [(⟨x130000, x130001⟩ : S63)]) true x13 (wrap64 (x14 + 1))) else (none))) else (none))) else (if x7.length < 8796093022208 then (spec_l05Put.l0 k x0 x1 x2 (x7 ++ [(⟨x130000, x130001⟩ : S63)]) x8 x13 (wrap64 (x14 + 1))) else (none))
end
def spec_l05Put.f (k : Nat) (l0 : List (S63)) (a1 : Int) (a2 : Int) : Option ((List (S63))) := spec_l05Put.l0 k l0 a1 a2 (([] : List (S63))) false (l0.length : Int) 0
theorem spec_l05Put.mono_l : ∀ k, (∀ y0 y1 y2 y3 y4 y5 y6, LeO (spec_l05Put.l0 k y0 y1 y2 y3 y4 y5 y6) (spec_l05Put.l0 (k + 1) y0 y1 y2 y3 y4 y5 y6)) ∧ (∀ y0 y1 y2 y3 y4 y5 y6 y7 y8 y9, LeO (spec_l05Put.j1 k y0 y1 y2 y3 y4 y5 y6 y7 y8 y9) (spec_l05Put.j1 (k + 1) y0 y1 y2 y3 y4 y5 y6 y7 y8 y9))
  | 0 => ⟨fun _ _ _ _ _ _ _ r h => by simp [spec_l05Put.l0] at h, fun _ _ _ _ _ _ _ _ _ _ r h => by simp [spec_l05Put.j1] at h⟩
  | k + 1 => by
    obtain ⟨ih0, ih1⟩ := spec_l05Put.mono_l k
    refine ⟨?_, ?_⟩
    · intro y0 y1 y2 y3 y4 y5 y6
      unfold spec_l05Put.l0
      repeat' first
      | (with_reducible exact ih0 _ _ _ _ _ _ _)
      | (with_reducible exact ih1 _ _ _ _ _ _ _ _ _ _)
      | (with_reducible exact LeO.refl _)
      | (with_reducible exact LeO.none _)
      | (with_reducible refine LeO.ite ?_ ?_)
      | (with_reducible refine LeO.bind ?_ (fun _ => ?_))
      | exact ih0 _ _ _ _ _ _ _
      | exact ih1 _ _ _ _ _ _ _ _ _ _
      | exact LeO.none _
      | refine LeO.ite ?_ ?_
      | refine LeO.bind ?_ (fun _ => ?_)
    · intro y0 y1 y2 y3 y4 y5 y6 y7 y8 y9
      unfold spec_l05Put.j1
      repeat' first
      | (with_reducible exact ih0 _ _ _ _ _ _ _)
      | (with_reducible exact ih1 _ _ _ _ _ _ _ _ _ _)
      | (with_reducible exact LeO.refl _)
      | (with_reducible exact LeO.none _)
      | (with_reducible refine LeO.ite ?_ ?_)
      | (with_reducible refine LeO.bind ?_ (fun _ => ?_))
      | exact ih0 _ _ _ _ _ _ _
      | exact ih1 _ _ _ _ _ _ _ _ _ _
      | exact LeO.none _
      | refine LeO.ite ?_ ?_
      | refine LeO.bind ?_ (fun _ => ?_)
theorem spec_l05Put.mono : ∀ a0 a1 a2 k, LeO (spec_l05Put.f k a0 a1 a2) (spec_l05Put.f (k + 1) a0 a1 a2) := by
  intro a0 a1 a2 k
  obtain ⟨ih0, ih1⟩ := spec_l05Put.mono_l k
  unfold spec_l05Put.f
  repeat' first
      | (with_reducible exact ih0 _ _ _ _ _ _ _)
      | (with_reducible exact ih1 _ _ _ _ _ _ _ _ _ _)
      | (with_reducible exact LeO.refl _)
      | (with_reducible exact LeO.none _)
      | (with_reducible refine LeO.ite ?_ ?_)
      | (with_reducible refine LeO.bind ?_ (fun _ => ?_))
      | exact ih0 _ _ _ _ _ _ _
      | exact ih1 _ _ _ _ _ _ _ _ _ _
      | exact LeO.none _
      | refine LeO.ite ?_ ?_
      | refine LeO.bind ?_ (fun _ => ?_)
set_option maxHeartbeats 8000000 in
set_option maxRecDepth 100000 in
theorem spec_l05Put.calls (k : Nat) (A0 : Option Addr) (c0 : Nat) (l0 : List (S63)) (a1 : Int) (a2 : Int) (r : List (S63)) (w : World) (hr0 : Kd.C k63 w A0 l0.length l0) (hc0 : l0.length ≤ c0) (h : spec_l05Put.f k l0 a1 a2 = some r) :
    Calls Try.prog 80 #[.slice A0 l0.length c0, .int .i64 a1, .int .i64 a2] w fun e w' => ∃ v0_ : Value, e = .returned (v0_) ∧ Kd.R k63 63 w' w.heap.size (fun _ => True) v0_ r ∧ Below w.heap.size w w' := by
 have hu63 := Try.underlying63
 have HR0 := A_ hr0
 have HC0 := A_ hc0
 clear hr0 hc0
 have HB := A_ (Below.refl w.heap.size w)
 have H : (spec_l05Put.l0 k l0 a1 a2 (([] : List (S63))) false (l0.length : Int) 0) = some r := h
 clear h
 obtain ⟨y122, hy122⟩ : ∃ y_ : List (S63), y_ = (([] : List (S63))) := ⟨_, rfl⟩
 replace H : (spec_l05Put.l0 k l0 a1 a2 y122 false (l0.length : Int) 0) = some r := by first | (rw [hy122]; with_reducible exact H) | (have H2_ := (Option.bind_some _ _).symm.trans H; rw [hy122]; with_reducible exact H2_) | (have H2_ := (Option.bind_some _ _).symm.trans H; with_reducible exact H2_) | with_reducible exact H | (rw [hy122]; exact H) | exact H
 have Ny122 := A_ hy122
 clear hy122
 have H' := A_ H
 clear H
 go_enter Try.func80, Try.ntmps80
 go_wp2_with (first | ((with_reducible refine gate_dst (N := 11) rfl ?_); refine Kd.R_lit k63 _ 63 ?hg (N := 11) ?hd (xs := ([] : List (S63))) (inner := []) (ok := fun _ => True) (okp := fun _ => True) ?hr ?hp (fun _ hk => hk) trivial (Below.refl _ _) (Nat.le_refl _) (by simp) ?_; (case hd => rfl); (case hg => rfl); (case hr => first | (go_simp; done) | (go_simp; rfl)); (case hp => exact (Reps.none _ _)); intro v123 w4 ho5 hb hg_ hnew_; clear hg_ hnew_; (first | rw [← Ny122.out] at ho5 | (simp only [Int.reduceToNat] at ho5; rw [← Ny122.out] at ho5)); have HO124 := A_ (Kd.R_lower ho5 (below_size (y1_ HB.out))); replace HB := A_ (below_step (y1_ HB.out) hb); clear hb ho5))
 go_loopg [7, 8, 14] k (fun kq v7 v8 v14 w' => ∃ (x7_1 : List (S63)) (x8_1 : Bool) (x14_1 : Int), v8 = .bool x8_1 ∧ v14 = .int .i64 x14_1 ∧ Aside0 (spec_l05Put.l0 kq l0 a1 a2 x7_1 x8_1 (l0.length : Int) x14_1 = some r) ∧ Aside0 (kq ≤ k) ∧ Aside0 (Kd.R k63 63 w' w.heap.size (fun _ => True) v7 x7_1) ∧ Aside0 (Below w.heap.size w w'))
 case atStart => exact ⟨(y122), (false), (0), s1_, s1_, H', ⟨Nat.le_refl _⟩, ⟨b2_ HO124.out⟩, ⟨y1_ HB.out⟩⟩
 case round =>
  skip
  {
 clear H'
 try clear p2
 obtain ⟨x7_1, x8_1, x14_1, rfl, rfl, HA, HK1, HO_7, HB⟩ := hrel
 cases gk with
 | zero => exact absurd HA.out (by simp [spec_l05Put.l0])
 | succ k1 =>
  skip
  {
 have H := HA.out
 clear HA
 simp only [spec_l05Put.l0] at H
 by_cases c6 : x14_1 < (l0.length : Int)
 {
 rw [if_pos c6] at H
 have c6b0 : decide (x14_1 < (l0.length : Int)) = true := decide_eq_true c6
 clear c6
 by_cases c7 : 0 ≤ x14_1
 {
 rw [if_pos c7] at H
 have c7b0 : decide (0 ≤ x14_1) = true := decide_eq_true c7
 clear c7
 by_cases c8 : x14_1 < (l0.length : Int)
 {
 rw [if_pos c8] at H
 have c8b0 : decide (x14_1 < (l0.length : Int)) = true := decide_eq_true c8
 clear c8
 have HC9 := A_ H
 clear H
 have p128 : 0 ≤ (x14_1 : Int) := o1_
 have q128 : x14_1 < (l0.length : Int) := o1_
 have hbd128 := A_ (And.intro p128 q128)
 obtain ⟨ad128, e128, hx128_0, hx128_1⟩ := at_T63 HR0.out x14_1 p128 q128
 cases e128
 replace hx128_0 := (HB.out.cell (World.block_lt_of_cell? w _ hx128_0)).trans hx128_0
 replace hx128_1 := (HB.out.cell (World.block_lt_of_cell? w _ hx128_1)).trans hx128_1
 replace p128 := eq_true p128
 replace q128 := eq_true q128
 go_upto_region 7 with (first | ((with_reducible refine gate_dst (N := 10) rfl ?_); refine box_event ?hg (N := 10) ?hd (cs := #[.int .i64 0, .int .i64 0]) (t := 63) ?hr ?_; (case hd => rfl); (case hg => rfl); (case hr => first | (go_simp; done) | (go_simp; rfl)); intro gb129 hg w10 hbox hb; have GW129 := b6_ hg HB; have GE129 := b6_ hg HB; replace HO_7 := A_ (Kd.R_below (Kd.R_elderB (b2_ HO_7.out) gb129 (Nat.le_of_eq hg.symm)) hb); replace HB := A_ (below_step (y1_ HB.out) hb); have BK129 := A_ (hbox); clear hb hbox hg; have hcz11_0 := c1_ BK129 0 (.int .i64 0); have hcz11_1 := c1_ BK129 1 (.int .i64 0); have hfz11_0 := f1_ BK129 0; have hfz11_1 := f1_ BK129 1))
 (try simp only [Act.put, List.setIfInBounds_toArray, List.set_cons_zero, List.set_cons_succ])
 go_cut [28] (fun v28 wc => ∃ (kq : Nat) (x28_8 : Bool), v28 = .bool x28_8 ∧ Aside0 (spec_l05Put.j1 kq l0 a1 a2 x7_1 x8_1 (l0.length : Int) x14_1 x28_8 ((rd_T63 l0 x14_1).f0) ((rd_T63 l0 x14_1).f1) = some r) ∧ Aside0 (kq ≤ k1) ∧ Aside0 (Kd.R k63 63 wc w.heap.size (fun k_ => k_ ≠ gb129) u7 x7_1) ∧ Aside0 (wc.heap[gb129]? = some (.cells #[.int .i64 ((rd_T63 l0 x14_1).f0), .int .i64 ((rd_T63 l0 x14_1).f1)] 63 (0, 0))) ∧ Aside0 (Below w.heap.size w wc))
 case first =>
  skip
  {
 have H := HC9.out
 clear HC9
 by_cases c12 : x8_1 = true
 {
 subst c12
 have H1 : (spec_l05Put.j1 k1 l0 a1 a2 x7_1 true (l0.length : Int) x14_1 false ((rd_T63 l0 x14_1).f0) ((rd_T63 l0 x14_1).f1)) = some r := by rw [if_pos rfl] at H; exact H
 clear H
 have H := H1
 clear H1
 have H' := A_ H
 clear H
 go_wp2
 go_meet
 case rel => exact ⟨_, (false), s1_, H', ⟨by have := HK1.out; first | omega | exact Nat.le_refl _⟩, ⟨by refine b2_ ?_; exact Kd.R_mono (Kd.R_far (p := ⟨gb129, 1, none⟩) (Kd.R_far (p := ⟨gb129, 0, none⟩) (Kd.R_mono HO_7.out (fun k_ hk => (⟨hk, hk.2⟩ : _ ∧ k_ ≠ gb129))) (fun _ hk => hk.2) (.int .i64 ((rd_T63 l0 x14_1).f0))) (fun _ hk => hk.2) (.int .i64 ((rd_T63 l0 x14_1).f1))) (fun _ hk => hk.1.2)⟩, ⟨by refine b1_ ?_; refine blk_put (cs := #[.int .i64 ((rd_T63 l0 x14_1).f0), .int .i64 0]) ?_ 1 _ rfl; refine b1_ ?_; refine blk_put (cs := #[.int .i64 0, .int .i64 0]) ?_ 0 _ rfl; refine b1_ ?_; exact BK129.out⟩, ⟨by repeat (first | (with_reducible first | exact HB.out | apply below_alloc | apply pw_below_drewN | apply below_drew1 | refine below_set ?_ GE129.out) | exact HB.out)⟩⟩}
 {
 replace c12 := Bool.eq_false_iff.mpr c12
 subst c12
 have H1 : (spec_l05Put.j1 k1 l0 a1 a2 x7_1 false (l0.length : Int) x14_1 (decide (((rd_T63 l0 x14_1).f0) ≥ a1)) ((rd_T63 l0 x14_1).f0) ((rd_T63 l0 x14_1).f1)) = some r := by rw [if_neg (show ¬ (false = true) by decide)] at H; exact H
 clear H
 have H := H1
 clear H1
 have H' := A_ H
 clear H
 have hcz13_0 := c1_ BK129 0 (.int .i64 0)
 have hcz13_1 := c1_ BK129 1 (.int .i64 0)
 have hfz13_0 := f1_ BK129 0
 have hfz13_1 := f1_ BK129 1
 go_wp2
 go_meet
 case rel => exact ⟨_, (decide (((rd_T63 l0 x14_1).f0) ≥ a1)), s1_, H', ⟨by have := HK1.out; first | omega | exact Nat.le_refl _⟩, ⟨by refine b2_ ?_; exact Kd.R_mono (Kd.R_far (p := ⟨gb129, 1, none⟩) (Kd.R_far (p := ⟨gb129, 0, none⟩) (Kd.R_mono HO_7.out (fun k_ hk => (⟨hk, hk.2⟩ : _ ∧ k_ ≠ gb129))) (fun _ hk => hk.2) (.int .i64 ((rd_T63 l0 x14_1).f0))) (fun _ hk => hk.2) (.int .i64 ((rd_T63 l0 x14_1).f1))) (fun _ hk => hk.1.2)⟩, ⟨by refine b1_ ?_; refine blk_put (cs := #[.int .i64 ((rd_T63 l0 x14_1).f0), .int .i64 0]) ?_ 1 _ rfl; refine b1_ ?_; refine blk_put (cs := #[.int .i64 0, .int .i64 0]) ?_ 0 _ rfl; refine b1_ ?_; exact BK129.out⟩, ⟨by repeat (first | (with_reducible first | exact HB.out | apply below_alloc | apply pw_below_drewN | apply below_drew1 | refine below_set ?_ GE129.out) | exact HB.out)⟩⟩}}
 case rest =>
  skip
  {
 clear HC9
 try clear c1
 try clear p1
 try clear q1
 try clear hx1
 try clear p2
 try clear c6
 try clear c6b0
 try clear c7
 try clear c7b0
 try clear c8
 try clear c8b0
 try clear c12
 try clear p12
 try clear q12
 try clear hx12
 try clear hcz11_0
 try clear hcz11_1
 try clear hcz13_0
 try clear hcz13_1
 try clear hfz11_0
 try clear hfz11_1
 try clear hfz13_0
 try clear hfz13_1
 try clear hx128_0
 try clear hx128_1
 try clear p128
 try clear p2
 try clear q128
 obtain ⟨kq, x28_8, rfl, HA, HJ8, HO_7, BK129, HB⟩ := hcut
 cases kq with
 | zero => exact absurd HA.out (by simp [spec_l05Put.j1])
 | succ kj8 =>
  skip
  {
 have H := HA.out
 clear HA
 simp only [spec_l05Put.j1] at H
 by_cases c14 : x28_8 = true
 {
 subst c14
 have H1 : (if ((rd_T63 l0 x14_1).f0) = a1 then ((spec_l00Max.f ((rd_T63 l0 x14_1).f1) a2).bind fun t130 => (if x7_1.length < 8796093022208 then (spec_l05Put.l0 kj8 l0 a1 a2 (x7_1 ++ [(⟨((rd_T63 l0 x14_1).f0), t130⟩ : S63)]) true (l0.length : Int) (wrap64 (x14_1 + 1))) else (none))) else (if x7_1.length < 8796093022208 then ((some (x7_1 ++ [(⟨a1, a2⟩ : S63)] : List (S63))).bind fun y134 => (if y134.length < 8796093022208 then (spec_l05Put.l0 kj8 l0 a1 a2 (y134 ++ [(⟨((rd_T63 l0 x14_1).f0), ((rd_T63 l0 x14_1).f1)⟩ : S63)]) true (l0.length : Int) (wrap64 (x14_1 + 1))) else (none))) else (none))) = some r := by rw [if_pos rfl] at H; exact H
 clear H
 have H := H1
 clear H1
 by_cases c15 : ((rd_T63 l0 x14_1).f0) = a1
 {
 rw [if_pos c15] at H
 have c15b0 : (((rd_T63 l0 x14_1).f0) == a1) = true := beq_iff_eq.mpr c15
 have c15b1 : (((rd_T63 l0 x14_1).f0) != a1) = false := bne_eq_false_iff_eq.mpr c15
 clear c15
 replace H := Option.bind_eq_some_iff.mp H
 obtain ⟨t130, A160, H⟩ := H
 replace H : (if x7_1.length < 8796093022208 then (spec_l05Put.l0 kj8 l0 a1 a2 (x7_1 ++ [(⟨((rd_T63 l0 x14_1).f0), t130⟩ : S63)]) true (l0.length : Int) (wrap64 (x14_1 + 1))) else (none)) = some r := H
 have A16 := A_ A160
 clear A160
 by_cases c17 : x7_1.length < 8796093022208
 {
 rw [if_pos c17] at H
 have LMc17 := A_ c17
 clear c17
 obtain ⟨y131, hy131⟩ : ∃ y_ : List (S63), y_ = (x7_1 ++ [(⟨((rd_T63 l0 x14_1).f0), t130⟩ : S63)]) := ⟨_, rfl⟩
 replace H : (spec_l05Put.l0 kj8 l0 a1 a2 y131 true (l0.length : Int) (wrap64 (x14_1 + 1))) = some r := by first | (rw [hy131]; with_reducible exact H) | (have H2_ := (Option.bind_some _ _).symm.trans H; rw [hy131]; with_reducible exact H2_) | (have H2_ := (Option.bind_some _ _).symm.trans H; with_reducible exact H2_) | with_reducible exact H | (rw [hy131]; exact H) | exact H
 have Ny131 := A_ hy131
 clear hy131
 have H' := A_ H
 clear H
 have hcz18_0 := c1_ BK129 0 (.int .i64 ((rd_T63 l0 x14_1).f0))
 have hcz18_1 := c1_ BK129 1 (.int .i64 ((rd_T63 l0 x14_1).f1))
 have hfz18_0 := f1_ BK129 0
 have hfz18_1 := f1_ BK129 1
 go_wp2_with (first | ((with_reducible refine gate_callee (f := 108) rfl ?_); refine goesL_ (some 36) rfl rfl Try.func108 (by kernel_rfl) rfl #[.int .i64 ((rd_T63 l0 x14_1).f1), .int .i64 a2] rfl (by (try simp only [List.map_toArray, List.map_cons, List.map_nil]); first | done | rfl | (simp only [List.length_drop, List.length_take]; rfl)) ?_; (with_reducible refine (spec_l00Max.calls ((rd_T63 l0 x14_1).f1) a2 t130 _ A16.out).mono ?_); rintro e w' ⟨rfl, ⟨nd, rfl⟩⟩; refine ⟨_, rfl, ?_⟩; (try (rw [drewN_self wc]; generalize hq_ : World.drewN wc _ = wc; have n0_ : Aside0 (Kd.R k63 63 wc w.heap.size (fun k_ => k_ ≠ gb129) u7 x7_1) := ⟨by rw [← hq_]; exact (b2_ HO_7.out)⟩; have n1_ : Aside0 (wc.heap[gb129]? = some (.cells #[.int .i64 ((rd_T63 l0 x14_1).f0), .int .i64 ((rd_T63 l0 x14_1).f1)] 63 (0, 0))) := ⟨by rw [← hq_]; exact (b1_ BK129.out)⟩; have n2_ : Aside0 (Below w.heap.size w wc) := ⟨by rw [← hq_]; exact (y1_ HB.out)⟩; clear HO_7 BK129 HB hq_; have HO_7 := n0_; have BK129 := n1_; have HB := n2_; clear n0_ n1_ n2_)); have hcz19_0 := c1_ BK129 0 (.int .i64 ((rd_T63 l0 x14_1).f0)); have hcz19_1 := c1_ BK129 1 (.int .i64 ((rd_T63 l0 x14_1).f1)); have hfz19_0 := f1_ BK129 0; have hfz19_1 := f1_ BK129 1) | ((with_reducible refine gate_builtin (b := .append) (xs := #[.tmp 44, .tmp 46]) rfl ?_); at_builtin; refine Kd.R_append k63 (w0 := w) w.heap.size rfl (.tmp 44) (.tmp 46) 24 63 (.agg #[(.int .i64 0), (.int .i64 0)]) 16 rfl Try.underlying24 info63 rfl (by decide) (by omega) u7 x7_1 (⟨((rd_T63 l0 x14_1).f0), t130⟩ : S63) [.int .i64 ((rd_T63 l0 x14_1).f0), .int .i64 t130] (fun k_ => k_ ≠ gb129) (fun _ => False) rfl (by first | (go_simp; done) | (go_simp; rfl)) ?aP (fun _ hk => hk.elim) ?aF ?aO ?aB ?aS ?aL ?_; (case aP => exact k63_mkM _ _ _ (⟨((rd_T63 l0 x14_1).f0), t130⟩ : S63)); (case aB => exact (by repeat (first | (with_reducible first | exact HB.out | apply below_alloc | apply pw_below_drewN | apply below_drew1 | refine below_set ?_ GE129.out) | exact HB.out))); (case aF => exact (fun k_ hk => Kd.freshB (g := gb129) (o := .cells #[.int .i64 ((rd_T63 l0 x14_1).f0), .int .i64 t130] 63 (0, 0)) (by refine b1_ ?_; refine blk_put (cs := #[.int .i64 ((rd_T63 l0 x14_1).f0), .int .i64 ((rd_T63 l0 x14_1).f1)]) ?_ 1 _ rfl; refine b1_ ?_; exact BK129.out) k_ hk)); (case aO => exact (by refine b2_ ?_; exact Kd.R_mono (Kd.R_far (p := ⟨gb129, 1, none⟩) (Kd.R_mono HO_7.out (fun k_ hk => (⟨hk, hk⟩ : _ ∧ k_ ≠ gb129))) (fun _ hk => hk.2) (.int .i64 t130)) (fun _ hk => hk.1))); (case aS => exact (below_size (by repeat (first | (with_reducible first | exact HB.out | apply below_alloc | apply pw_below_drewN | apply below_drew1 | refine below_set ?_ GE129.out) | exact HB.out)))); (case aL => have := LMc17.out; omega); intro v132 w20 ho hb hg hat; rw [← Ny131.out] at ho; replace BK129 := A_ (blk_grown (g := gb129) (o := .cells #[.int .i64 ((rd_T63 l0 x14_1).f0), .int .i64 t130] 63 (0, 0)) (by refine b1_ ?_; refine blk_put (cs := #[.int .i64 ((rd_T63 l0 x14_1).f0), .int .i64 ((rd_T63 l0 x14_1).f1)]) ?_ 1 _ rfl; refine b1_ ?_; exact BK129.out) hg (Kd.R_away HO_7.out (fun _ hk => hk))); replace HB := A_ (hb); have HO133 := A_ (ho); clear HO_7; clear ho hb hg hat))
 go_roundg kj8
 case measure => have := HK1.out; have := HJ8.out; omega
 case rel => exact ⟨(y131), (true), (wrap64 (x14_1 + 1)), s1_, s1_, H', ⟨by have := HK1.out; have := HJ8.out; omega⟩, ⟨by refine b2_ ?_; exact Kd.R_mono HO133.out (fun _ hk => trivial)⟩, ⟨y1_ HB.out⟩⟩}
 {
 rw [if_neg c17] at H
 exact absurd H (by simp)}}
 {
 rw [if_neg c15] at H
 have c15b0 : (((rd_T63 l0 x14_1).f0) == a1) = false := beq_eq_false_iff_ne.mpr c15
 have c15b1 : (((rd_T63 l0 x14_1).f0) != a1) = true := bne_iff_ne.mpr c15
 by_cases c21 : x7_1.length < 8796093022208
 {
 rw [if_pos c21] at H
 have LMc21 := A_ c21
 clear c21
 obtain ⟨y134, hy134⟩ : ∃ y_ : List (S63), y_ = (x7_1 ++ [(⟨a1, a2⟩ : S63)]) := ⟨_, rfl⟩
 replace H : (if y134.length < 8796093022208 then (spec_l05Put.l0 kj8 l0 a1 a2 (y134 ++ [(⟨((rd_T63 l0 x14_1).f0), ((rd_T63 l0 x14_1).f1)⟩ : S63)]) true (l0.length : Int) (wrap64 (x14_1 + 1))) else (none)) = some r := by first | (rw [hy134]; with_reducible exact H) | (have H2_ := (Option.bind_some _ _).symm.trans H; rw [hy134]; with_reducible exact H2_) | (have H2_ := (Option.bind_some _ _).symm.trans H; with_reducible exact H2_) | with_reducible exact H | (rw [hy134]; exact H) | exact H
 have Ny134 := A_ hy134
 clear hy134
 by_cases c22 : y134.length < 8796093022208
 {
 rw [if_pos c22] at H
 have LMc22 := A_ c22
 clear c22
 obtain ⟨y137, hy137⟩ : ∃ y_ : List (S63), y_ = (y134 ++ [(⟨((rd_T63 l0 x14_1).f0), ((rd_T63 l0 x14_1).f1)⟩ : S63)]) := ⟨_, rfl⟩
 replace H : (spec_l05Put.l0 kj8 l0 a1 a2 y137 true (l0.length : Int) (wrap64 (x14_1 + 1))) = some r := by first | (rw [hy137]; with_reducible exact H) | (have H2_ := (Option.bind_some _ _).symm.trans H; rw [hy137]; with_reducible exact H2_) | (have H2_ := (Option.bind_some _ _).symm.trans H; with_reducible exact H2_) | with_reducible exact H | (rw [hy137]; exact H) | exact H
 have Ny137 := A_ hy137
 clear hy137
 have H' := A_ H
 clear H
 have hcz23_0 := c1_ BK129 0 (.int .i64 ((rd_T63 l0 x14_1).f0))
 have hcz23_1 := c1_ BK129 1 (.int .i64 ((rd_T63 l0 x14_1).f1))
 have hfz23_0 := f1_ BK129 0
 have hfz23_1 := f1_ BK129 1
 go_wp2_with (first | ((with_reducible refine gate_builtin (b := .append) (xs := #[.tmp 38, .tmp 42]) rfl ?_); at_builtin; refine Kd.R_append k63 (w0 := w) w.heap.size rfl (.tmp 38) (.tmp 42) 24 63 (.agg #[(.int .i64 0), (.int .i64 0)]) 16 rfl Try.underlying24 info63 rfl (by decide) (by omega) u7 x7_1 (⟨a1, a2⟩ : S63) [.int .i64 a1, .int .i64 a2] (fun k_ => k_ ≠ gb129) (fun _ => False) rfl rfl ?aP (fun _ hk => hk.elim) ?aF ?aO ?aB ?aS ?aL ?_; (case aP => exact k63_mkM _ _ _ (⟨a1, a2⟩ : S63)); (case aB => exact (y1_ HB.out)); (case aF => exact (fun k_ hk => Kd.freshB (g := gb129) (o := .cells #[.int .i64 ((rd_T63 l0 x14_1).f0), .int .i64 ((rd_T63 l0 x14_1).f1)] 63 (0, 0)) (b1_ BK129.out) k_ hk)); (case aO => exact (b2_ HO_7.out)); (case aS => exact (below_size (y1_ HB.out))); (case aL => have := LMc21.out; omega); intro v135 w24 ho hb hg hat; rw [← Ny134.out] at ho; replace BK129 := A_ (blk_grown (g := gb129) (o := .cells #[.int .i64 ((rd_T63 l0 x14_1).f0), .int .i64 ((rd_T63 l0 x14_1).f1)] 63 (0, 0)) (b1_ BK129.out) hg (Kd.R_away HO_7.out (fun _ hk => hk))); replace HB := A_ (hb); have HO136 := A_ (ho); clear HO_7; clear ho hb hg hat; have hcz25_0 := c1_ BK129 0 (.int .i64 ((rd_T63 l0 x14_1).f0)); have hcz25_1 := c1_ BK129 1 (.int .i64 ((rd_T63 l0 x14_1).f1)); have hfz25_0 := f1_ BK129 0; have hfz25_1 := f1_ BK129 1) | ((with_reducible refine gate_builtin (b := .append) (xs := #[.tmp 44, .tmp 46]) rfl ?_); at_builtin; refine Kd.R_append k63 (w0 := w) w.heap.size rfl (.tmp 44) (.tmp 46) 24 63 (.agg #[(.int .i64 0), (.int .i64 0)]) 16 rfl Try.underlying24 info63 rfl (by decide) (by omega) v135 y134 (⟨((rd_T63 l0 x14_1).f0), ((rd_T63 l0 x14_1).f1)⟩ : S63) [.int .i64 ((rd_T63 l0 x14_1).f0), .int .i64 ((rd_T63 l0 x14_1).f1)] (fun k_ => k_ ≠ gb129) (fun _ => False) rfl rfl ?aP (fun _ hk => hk.elim) ?aF ?aO ?aB ?aS ?aL ?_; (case aP => exact k63_mkM _ _ _ (⟨((rd_T63 l0 x14_1).f0), ((rd_T63 l0 x14_1).f1)⟩ : S63)); (case aB => exact (y1_ HB.out)); (case aF => exact (fun k_ hk => Kd.freshB (g := gb129) (o := .cells #[.int .i64 ((rd_T63 l0 x14_1).f0), .int .i64 ((rd_T63 l0 x14_1).f1)] 63 (0, 0)) (b1_ BK129.out) k_ hk)); (case aO => exact (b2_ HO136.out)); (case aS => exact (below_size (y1_ HB.out))); (case aL => have := LMc22.out; omega); intro v138 w26 ho hb hg hat; rw [← Ny137.out] at ho; replace BK129 := A_ (blk_grown (g := gb129) (o := .cells #[.int .i64 ((rd_T63 l0 x14_1).f0), .int .i64 ((rd_T63 l0 x14_1).f1)] 63 (0, 0)) (b1_ BK129.out) hg (Kd.R_away HO136.out (fun _ hk => hk))); replace HB := A_ (hb); have HO139 := A_ (ho); clear HO136; clear ho hb hg hat))
 go_roundg kj8
 case measure => have := HK1.out; have := HJ8.out; omega
 case rel => exact ⟨(y137), (true), (wrap64 (x14_1 + 1)), s1_, s1_, H', ⟨by have := HK1.out; have := HJ8.out; omega⟩, ⟨by refine b2_ ?_; exact Kd.R_mono HO139.out (fun _ hk => trivial)⟩, ⟨y1_ HB.out⟩⟩}
 {
 rw [if_neg c22] at H
 exact absurd H (by simp)}}
 {
 rw [if_neg c21] at H
 exact absurd H (by simp)}}}
 {
 replace c14 := Bool.eq_false_iff.mpr c14
 subst c14
 have H1 : (if x7_1.length < 8796093022208 then (spec_l05Put.l0 kj8 l0 a1 a2 (x7_1 ++ [(⟨((rd_T63 l0 x14_1).f0), ((rd_T63 l0 x14_1).f1)⟩ : S63)]) x8_1 (l0.length : Int) (wrap64 (x14_1 + 1))) else (none)) = some r := by rw [if_neg (show ¬ (false = true) by decide)] at H; exact H
 clear H
 have H := H1
 clear H1
 by_cases c27 : x7_1.length < 8796093022208
 {
 rw [if_pos c27] at H
 have LMc27 := A_ c27
 clear c27
 obtain ⟨y140, hy140⟩ : ∃ y_ : List (S63), y_ = (x7_1 ++ [(⟨((rd_T63 l0 x14_1).f0), ((rd_T63 l0 x14_1).f1)⟩ : S63)]) := ⟨_, rfl⟩
 replace H : (spec_l05Put.l0 kj8 l0 a1 a2 y140 x8_1 (l0.length : Int) (wrap64 (x14_1 + 1))) = some r := by first | (rw [hy140]; with_reducible exact H) | (have H2_ := (Option.bind_some _ _).symm.trans H; rw [hy140]; with_reducible exact H2_) | (have H2_ := (Option.bind_some _ _).symm.trans H; with_reducible exact H2_) | with_reducible exact H | (rw [hy140]; exact H) | exact H
 have Ny140 := A_ hy140
 clear hy140
 have H' := A_ H
 clear H
 have hcz28_0 := c1_ BK129 0 (.int .i64 ((rd_T63 l0 x14_1).f0))
 have hcz28_1 := c1_ BK129 1 (.int .i64 ((rd_T63 l0 x14_1).f1))
 have hfz28_0 := f1_ BK129 0
 have hfz28_1 := f1_ BK129 1
 go_wp2_with (first | ((with_reducible refine gate_builtin (b := .append) (xs := #[.tmp 44, .tmp 46]) rfl ?_); at_builtin; refine Kd.R_append k63 (w0 := w) w.heap.size rfl (.tmp 44) (.tmp 46) 24 63 (.agg #[(.int .i64 0), (.int .i64 0)]) 16 rfl Try.underlying24 info63 rfl (by decide) (by omega) u7 x7_1 (⟨((rd_T63 l0 x14_1).f0), ((rd_T63 l0 x14_1).f1)⟩ : S63) [.int .i64 ((rd_T63 l0 x14_1).f0), .int .i64 ((rd_T63 l0 x14_1).f1)] (fun k_ => k_ ≠ gb129) (fun _ => False) rfl rfl ?aP (fun _ hk => hk.elim) ?aF ?aO ?aB ?aS ?aL ?_; (case aP => exact k63_mkM _ _ _ (⟨((rd_T63 l0 x14_1).f0), ((rd_T63 l0 x14_1).f1)⟩ : S63)); (case aB => exact (y1_ HB.out)); (case aF => exact (fun k_ hk => Kd.freshB (g := gb129) (o := .cells #[.int .i64 ((rd_T63 l0 x14_1).f0), .int .i64 ((rd_T63 l0 x14_1).f1)] 63 (0, 0)) (b1_ BK129.out) k_ hk)); (case aO => exact (b2_ HO_7.out)); (case aS => exact (below_size (y1_ HB.out))); (case aL => have := LMc27.out; omega); intro v141 w29 ho hb hg hat; rw [← Ny140.out] at ho; replace BK129 := A_ (blk_grown (g := gb129) (o := .cells #[.int .i64 ((rd_T63 l0 x14_1).f0), .int .i64 ((rd_T63 l0 x14_1).f1)] 63 (0, 0)) (b1_ BK129.out) hg (Kd.R_away HO_7.out (fun _ hk => hk))); replace HB := A_ (hb); have HO142 := A_ (ho); clear HO_7; clear ho hb hg hat))
 go_roundg kj8
 case measure => have := HK1.out; have := HJ8.out; omega
 case rel => exact ⟨(y140), (x8_1), (wrap64 (x14_1 + 1)), s1_, s1_, H', ⟨by have := HK1.out; have := HJ8.out; omega⟩, ⟨by refine b2_ ?_; exact Kd.R_mono HO142.out (fun _ hk => trivial)⟩, ⟨y1_ HB.out⟩⟩}
 {
 rw [if_neg c27] at H
 exact absurd H (by simp)}}}}}
 {
 rw [if_neg c8] at H
 exact absurd H (by simp)}}
 {
 rw [if_neg c7] at H
 exact absurd H (by simp)}}
 {
 rw [if_neg c6] at H
 have c6b0 : decide (x14_1 < (l0.length : Int)) = false := decide_eq_false c6
 clear c6
 by_cases c30 : x8_1 = true
 {
 subst c30
 have H1 : (some x7_1) = some r := by rw [if_pos rfl] at H; exact H
 clear H
 have H := H1
 clear H1
 obtain rfl := Option.some.inj H
 go_wp2
 go_ret
 exact ⟨_, e1_, b2_ HO_7.out, y1_ HB.out⟩}
 {
 replace c30 := Bool.eq_false_iff.mpr c30
 subst c30
 have H1 : (if x7_1.length < 8796093022208 then (some (x7_1 ++ [(⟨a1, a2⟩ : S63)])) else (none)) = some r := by rw [if_neg (show ¬ (false = true) by decide)] at H; exact H
 clear H
 have H := H1
 clear H1
 by_cases c31 : x7_1.length < 8796093022208
 {
 rw [if_pos c31] at H
 have LMc31 := A_ c31
 clear c31
 obtain ⟨y125, hy125⟩ : ∃ y_ : List (S63), y_ = (x7_1 ++ [(⟨a1, a2⟩ : S63)]) := ⟨_, rfl⟩
 replace H : (some y125) = some r := by first | (rw [hy125]; with_reducible exact H) | (have H2_ := (Option.bind_some _ _).symm.trans H; rw [hy125]; with_reducible exact H2_) | (have H2_ := (Option.bind_some _ _).symm.trans H; with_reducible exact H2_) | with_reducible exact H | (rw [hy125]; exact H) | exact H
 have Ny125 := A_ hy125
 clear hy125
 obtain rfl := Option.some.inj H
 go_wp2_with (first | ((with_reducible refine gate_builtin (b := .append) (xs := #[.tmp 51, .tmp 55]) rfl ?_); at_builtin; refine Kd.R_append k63 (w0 := w) w.heap.size rfl (.tmp 51) (.tmp 55) 24 63 (.agg #[(.int .i64 0), (.int .i64 0)]) 16 rfl Try.underlying24 info63 rfl (by decide) (by omega) u7 x7_1 (⟨a1, a2⟩ : S63) [.int .i64 a1, .int .i64 a2] (fun _ => True) (fun _ => False) rfl rfl ?aP (fun _ hk => hk.elim) ?aF ?aO ?aB ?aS ?aL ?_; (case aP => exact k63_mkM _ _ _ (⟨a1, a2⟩ : S63)); (case aB => exact (y1_ HB.out)); (case aF => exact (fun _ _ => trivial)); (case aO => exact (b2_ HO_7.out)); (case aS => exact (below_size (y1_ HB.out))); (case aL => have := LMc31.out; omega); intro v126 w32 ho hb hg hat; rw [← Ny125.out] at ho; replace HB := A_ (hb); have HO127 := A_ (ho); clear HO_7; clear ho hb hg hat))
 go_ret
 exact ⟨_, e1_, b2_ HO127.out, y1_ HB.out⟩}
 {
 rw [if_neg c31] at H
 exact absurd H (by simp)}}}}}

/-! ### spec_l01Member: function 98 -/
def spec_l01Member.f (a0 : Int) : Option (Bool) := (spec_l00In.f a0 1 1000).bind fun t143 => (some t143)
set_option maxHeartbeats 8000000 in
set_option maxRecDepth 100000 in
theorem spec_l01Member.calls (a0 : Int) (r : Bool) (w : World) (h : spec_l01Member.f a0 = some r) :
    Calls Try.prog 98 #[.int .i64 a0] w fun e w' => e = .returned (.bool r) ∧ Drawn0 w w' := by
  have H : ((spec_l00In.f a0 1 1000).bind fun t143 => (some t143)) = some r := h
  clear h
  replace H := Option.bind_eq_some_iff.mp H
  obtain ⟨t143, A20, H⟩ := H
  replace H : (some t143) = some r := H
  have A2 := A_ A20
  clear A20
  obtain rfl := Option.some.inj H
  go_enter Try.func98, Try.ntmps98
  go_wp2_with (first | ((with_reducible refine gate_callee (f := 99) rfl ?_); refine goesL_ (some 4) rfl rfl Try.func99 (by kernel_rfl) rfl #[.int .i64 a0, .int .i64 1, .int .i64 1000] rfl (by (try simp only [List.map_toArray, List.map_cons, List.map_nil]); first | done | rfl | (simp only [List.length_drop, List.length_take]; rfl)) ?_; (with_reducible refine (spec_l00In.calls a0 1 1000 t143 _ A2.out).mono ?_); rintro e w' ⟨rfl, ⟨nd, rfl⟩⟩; refine ⟨_, rfl, ?_⟩))
  go_ret
  exact ⟨by first | rfl | (simp; done) | (simp [*]; done), by repeat (first | exact Drawn0.refl _ | apply Drawn0.step)⟩

end Go.Proofs.Ytgfilednbllkmaa.QFnJoinedPresence
