-- written by a program of this session, on the lines of the kit's print
import Derived.Test.YtgfilednbllkmaaQFnExactJoinPresencex0
import Derived.Test.YtgfilednbllkmaaQFnExactJoinPresencex5
namespace Go.Proofs.Ytgfilednbllkmaa.QFnExactJoinPresence
open Go.RowKit Go.Proofs.YtgfilednbllkmaaW.PrintWords Go.Proofs.YtgfilednbllkmaaW.PrintLast Go.Proofs.YtgfilednbllkmaaW.PrintMore
attribute [local go_sem] max2_int min2_int max_two min_two max_three min_three max_four min_four   -- for this text's walks alone
set_option linter.unusedVariables false
set_option linter.unusedSimpArgs false

/-! ### spec_l00Max: function 108 -/
def spec_l00Max.f (a0 : Int) (a1 : Int) : Option (Int) := if a0 > a1 then (some a0) else (some a1)
set_option maxHeartbeats 8000000 in
set_option maxRecDepth 100000 in
theorem spec_l00Max.calls (a0 : Int) (a1 : Int) (r : Int) (w : World) (h : spec_l00Max.f a0 a1 = some r) :
    Calls Try.prog 108 #[.int .i64 a0, .int .i64 a1] w fun e w' => e = .returned (.int .i64 r) ∧ Drawn0 w w' := by
  have H : (if a0 > a1 then (some a0) else (some a1)) = some r := h
  clear h
  by_cases c3 : a0 > a1
  · rw [if_pos c3] at H
    have c3b0 : decide (a1 < a0) = true := decide_eq_true c3
    clear c3
    obtain rfl := Option.some.inj H
    go_enter Try.func108, Try.ntmps108
    go_wp2
    go_ret
    exact ⟨by first | rfl | (simp; done) | (simp [*]; done), by repeat (first | exact Drawn0.refl _ | apply Drawn0.step)⟩
  · rw [if_neg c3] at H
    have c3b0 : decide (a1 < a0) = false := decide_eq_false c3
    clear c3
    obtain rfl := Option.some.inj H
    go_enter Try.func108, Try.ntmps108
    go_wp2
    go_ret
    exact ⟨by first | rfl | (simp; done) | (simp [*]; done), by repeat (first | exact Drawn0.refl _ | apply Drawn0.step)⟩

/-! ### spec_l05Put: function 80 -/
abbrev spec_l05Put.T : Bool := true
abbrev spec_l05Put.F : Bool := false
mutual
def spec_l05Put.l0 : Nat → List (S63) → Int → Int → List (S63) → Bool → Int → Int → Option ((List (S63)))
  | 0, _, _, _, _, _, _, _ => none
  | k + 1, x0, x1, x2, x7, x8, x13, x14 => if x14 < x13 then (if 0 ≤ x14 then (if x14 < (x0.length : Int) then (if x8 = true then (spec_l05Put.j1 k x0 x1 x2 x7 x8 x13 x14 false ((rd_T63 x0 x14).f0) ((rd_T63 x0 x14).f1)) else (spec_l05Put.j1 k x0 x1 x2 x7 x8 x13 x14 (decide (((rd_T63 x0 x14).f0) ≥ x1)) ((rd_T63 x0 x14).f0) ((rd_T63 x0 x14).f1))) else (none)) else (none)) else (if x8 = true then (some x7) else (if x7.length < 8796093022208 then (some (x7 ++ [(⟨x1, x2⟩ : S63)])) else (none)))
def spec_l05Put.j1 : Nat → List (S63) → Int → Int → List (S63) → Bool → Int → Int → Bool → Int → Int → Option ((List (S63)))
  | 0, _, _, _, _, _, _, _, _, _, _ => none
  | k + 1, x0, x1, x2, x7, x8, x13, x14, x28, x213000, x213001 => if x28 = true then (if x213000 = x1 then ((spec_l00Max.f x213001 x2).bind fun t213 => (if x7.length < 8796093022208 then (spec_l05Put.l0 k x0 x1 x2 (x7 ++ [(⟨x213000, t213⟩ : S63)]) true x13 (wrap64 (x14 + 1))) else (none))) else (if x7.length < 8796093022208 then ((some (x7 ++ [(⟨x1, x2⟩ : S63)] : List (S63))).bind fun y217 => (if y217.length < 8796093022208 then (spec_l05Put.l0 k x0 x1 x2 (y217 ++ [(⟨x213000, x213001⟩ : S63)]) true x13 (wrap64 (x14 + 1))) else (none))) else (none))) else (if x7.length < 8796093022208 then (spec_l05Put.l0 k x0 x1 x2 (x7 ++ [(⟨x213000, x213001⟩ : S63)]) x8 x13 (wrap64 (x14 + 1))) else (none))
end
def spec_l05Put.f (k : Nat) (l0 : List (S63)) (a1 : Int) (a2 : Int) : Option ((List (S63))) := spec_l05Put.l0 k l0 a1 a2 (([] : List (S63))) false (l0.length : Int) 0
theorem spec_l05Put.mono_l : ∀ k, (∀ y0 y1 y2 y3 y4 y5 y6, LeO (spec_l05Put.l0 k y0 y1 y2 y3 y4 y5 y6) (spec_l05Put.l0 (k + 1) y0 y1 y2 y3 y4 y5 y6)) ∧ (∀ y0 y1 y2 y3 y4 y5 y6 y7 y8 y9, LeO (spec_l05Put.j1 k y0 y1 y2 y3 y4 y5 y6 y7 y8 y9) (spec_l05Put.j1 (k + 1) y0 y1 y2 y3 y4 y5 y6 y7 y8 y9))
  | 0 => ⟨fun _ _ _ _ _ _ _ r h => by simp [spec_l05Put.l0] at h, fun _ _ _ _ _ _ _ _ _ _ r h => by simp [spec_l05Put.j1] at h⟩
  | k + 1 => by
    obtain ⟨ih0, ih1⟩ := spec_l05Put.mono_l k
    refine ⟨?_, ?_⟩
    · intro y0 y1 y2 y3 y4 y5 y6
      unfold spec_l05Put.l0
      repeat' first
      | (with_reducible exact ih0 _ _ _ _ _ _ _)
      | (with_reducible exact ih1 _ _ _ _ _ _ _ _ _ _)
      | (with_reducible exact LeO.refl _)
      | (with_reducible exact LeO.none _)
      | (with_reducible refine LeO.ite ?_ ?_)
      | (with_reducible refine LeO.bind ?_ (fun _ => ?_))
      | exact ih0 _ _ _ _ _ _ _
      | exact ih1 _ _ _ _ _ _ _ _ _ _
      | exact LeO.none _
      | refine LeO.ite ?_ ?_
      | refine LeO.bind ?_ (fun _ => ?_)
    · intro y0 y1 y2 y3 y4 y5 y6 y7 y8 y9
      unfold spec_l05Put.j1
      repeat' first
      | (with_reducible exact ih0 _ _ _ _ _ _ _)
      | (with_reducible exact ih1 _ _ _ _ _ _ _ _ _ _)
      | (with_reducible exact LeO.refl _)
      | (with_reducible exact LeO.none _)
      | (with_reducible refine LeO.ite ?_ ?_)
      | (with_reducible refine LeO.bind ?_ (fun _ => ?_))
      | exact ih0 _ _ _ _ _ _ _
      | exact ih1 _ _ _ _ _ _ _ _ _ _
      | exact LeO.none _
      | refine LeO.ite ?_ ?_
      | refine LeO.bind ?_ (fun _ => ?_)
theorem spec_l05Put.mono : ∀ a0 a1 a2 k, LeO (spec_l05Put.f k a0 a1 a2) (spec_l05Put.f (k + 1) a0 a1 a2) := by
  intro a0 a1 a2 k
  obtain ⟨ih0, ih1⟩ := spec_l05Put.mono_l k
  unfold spec_l05Put.f
  repeat' first
      | (with_reducible exact ih0 _ _ _ _ _ _ _)
      | (with_reducible exact ih1 _ _ _ _ _ _ _ _ _ _)
      | (with_reducible exact LeO.refl _)
      | (with_reducible exact LeO.none _)
      | (with_reducible refine LeO.ite ?_ ?_)
      | (with_reducible refine LeO.bind ?_ (fun _ => ?_))
      | exact ih0 _ _ _ _ _ _ _
      | exact ih1 _ _ _ _ _ _ _ _ _ _
      | exact LeO.none _
      | refine LeO.ite ?_ ?_
      | refine LeO.bind ?_ (fun _ => ?_)
set_option maxHeartbeats 8000000 in
set_option maxRecDepth 100000 in
theorem spec_l05Put.calls (k : Nat) (A0 : Option Addr) (c0 : Nat) (l0 : List (S63)) (a1 : Int) (a2 : Int) (r : List (S63)) (w : World) (hr0 : Kd.C k63 w A0 l0.length l0) (hc0 : l0.length ≤ c0) (h : spec_l05Put.f k l0 a1 a2 = some r) :
    Calls Try.prog 80 #[.slice A0 l0.length c0, .int .i64 a1, .int .i64 a2] w fun e w' => ∃ v0_ : Value, e = .returned (v0_) ∧ Kd.R k63 63 w' w.heap.size (fun _ => True) v0_ r ∧ Below w.heap.size w w' := by
 have hu63 := Try.underlying63
 have HR0 := A_ hr0
 have HC0 := A_ hc0
 clear hr0 hc0
 have HB := A_ (Below.refl w.heap.size w)
 have H : (spec_l05Put.l0 k l0 a1 a2 (([] : List (S63))) false (l0.length : Int) 0) = some r := h
 clear h
 obtain ⟨y205, hy205⟩ : ∃ y_ : List (S63), y_ = (([] : List (S63))) := ⟨_, rfl⟩
 replace H : (spec_l05Put.l0 k l0 a1 a2 y205 false (l0.length : Int) 0) = some r := by first | (rw [hy205]; with_reducible exact H) | (have H2_ := (Option.bind_some _ _).symm.trans H; rw [hy205]; with_reducible exact H2_) | (have H2_ := (Option.bind_some _ _).symm.trans H; with_reducible exact H2_) | with_reducible exact H | (rw [hy205]; exact H) | exact H
 have Ny205 := A_ hy205
 clear hy205
 have H' := A_ H
 clear H
 go_enter Try.func80, Try.ntmps80
 go_wp2_with (first | ((with_reducible refine gate_dst (N := 11) rfl ?_); refine Kd.R_lit k63 _ 63 ?hg (N := 11) ?hd (xs := ([] : List (S63))) (inner := []) (ok := fun _ => True) (okp := fun _ => True) ?hr ?hp (fun _ hk => hk) trivial (Below.refl _ _) (Nat.le_refl _) (by simp) ?_; (case hd => rfl); (case hg => rfl); (case hr => first | (go_simp; done) | (go_simp; rfl)); (case hp => exact (Reps.none _ _)); intro v206 w4 ho5 hb hg_ hnew_; clear hg_ hnew_; (first | rw [← Ny205.out] at ho5 | (simp only [Int.reduceToNat] at ho5; rw [← Ny205.out] at ho5)); have HO207 := A_ (Kd.R_lower ho5 (below_size (y1_ HB.out))); replace HB := A_ (below_step (y1_ HB.out) hb); clear hb ho5))
 go_loopg [7, 8, 14] k (fun kq v7 v8 v14 w' => ∃ (x7_1 : List (S63)) (x8_1 : Bool) (x14_1 : Int), v8 = .bool x8_1 ∧ v14 = .int .i64 x14_1 ∧ Aside0 (spec_l05Put.l0 kq l0 a1 a2 x7_1 x8_1 (l0.length : Int) x14_1 = some r) ∧ Aside0 (kq ≤ k) ∧ Aside0 (Kd.R k63 63 w' w.heap.size (fun _ => True) v7 x7_1) ∧ Aside0 (Below w.heap.size w w'))
 case atStart => exact ⟨(y205), (false), (0), s1_, s1_, H', ⟨Nat.le_refl _⟩, ⟨b2_ HO207.out⟩, ⟨y1_ HB.out⟩⟩
 case round =>
  skip
  {
 clear H'
 try clear p2
 obtain ⟨x7_1, x8_1, x14_1, rfl, rfl, HA, HK1, HO_7, HB⟩ := hrel
 cases gk with
 | zero => exact absurd HA.out (by simp [spec_l05Put.l0])
 | succ k1 =>
  skip
  {
 have H := HA.out
 clear HA
 simp only [spec_l05Put.l0] at H
 by_cases c6 : x14_1 < (l0.length : Int)
 {
 rw [if_pos c6] at H
 have c6b0 : decide (x14_1 < (l0.length : Int)) = true := decide_eq_true c6
 clear c6
 by_cases c7 : 0 ≤ x14_1
 {
 rw [if_pos c7] at H
 have c7b0 : decide (0 ≤ x14_1) = true := decide_eq_true c7
 clear c7
 by_cases c8 : x14_1 < (l0.length : Int)
 {
 rw [if_pos c8] at H
 have c8b0 : decide (x14_1 < (l0.length : Int)) = true := decide_eq_true c8
 clear c8
 have HC9 := A_ H
 clear H
 have p211 : 0 ≤ (x14_1 : Int) := o1_
 have q211 : x14_1 < (l0.length : Int) := o1_
 have hbd211 := A_ (And.intro p211 q211)
 obtain ⟨ad211, e211, hx211_0, hx211_1⟩ := at_T63 HR0.out x14_1 p211 q211
 cases e211
 replace hx211_0 := (HB.out.cell (World.block_lt_of_cell? w _ hx211_0)).trans hx211_0
 replace hx211_1 := (HB.out.cell (World.block_lt_of_cell? w _ hx211_1)).trans hx211_1
 replace p211 := eq_true p211
 replace q211 := eq_true q211
 go_upto_region 7 with (first | ((with_reducible refine gate_dst (N := 10) rfl ?_); refine box_event ?hg (N := 10) ?hd (cs := #[.int .i64 0, .int .i64 0]) (t := 63) ?hr ?_; (case hd => rfl); (case hg => rfl); (case hr => first | (go_simp; done) | (go_simp; rfl)); intro gb212 hg w10 hbox hb; have GW212 := b6_ hg HB; have GE212 := b6_ hg HB; replace HO_7 := A_ (Kd.R_below (Kd.R_elderB (b2_ HO_7.out) gb212 (Nat.le_of_eq hg.symm)) hb); replace HB := A_ (below_step (y1_ HB.out) hb); have BK212 := A_ (hbox); clear hb hbox hg; have hcz11_0 := c1_ BK212 0 (.int .i64 0); have hcz11_1 := c1_ BK212 1 (.int .i64 0); have hfz11_0 := f1_ BK212 0; have hfz11_1 := f1_ BK212 1))
 (try simp only [Act.put, List.setIfInBounds_toArray, List.set_cons_zero, List.set_cons_succ])
 go_cut [28] (fun v28 wc => ∃ (kq : Nat) (x28_8 : Bool), v28 = .bool x28_8 ∧ Aside0 (spec_l05Put.j1 kq l0 a1 a2 x7_1 x8_1 (l0.length : Int) x14_1 x28_8 ((rd_T63 l0 x14_1).f0) ((rd_T63 l0 x14_1).f1) = some r) ∧ Aside0 (kq ≤ k1) ∧ Aside0 (Kd.R k63 63 wc w.heap.size (fun k_ => k_ ≠ gb212) u7 x7_1) ∧ Aside0 (wc.heap[gb212]? = some (.cells #[.int .i64 ((rd_T63 l0 x14_1).f0), .int .i64 ((rd_T63 l0 x14_1).f1)] 63 (0, 0))) ∧ Aside0 (Below w.heap.size w wc))
 case first =>
  skip
  {
 have H := HC9.out
 clear HC9
 by_cases c12 : x8_1 = true
 {
 subst c12
 have H1 : (spec_l05Put.j1 k1 l0 a1 a2 x7_1 true (l0.length : Int) x14_1 false ((rd_T63 l0 x14_1).f0) ((rd_T63 l0 x14_1).f1)) = some r := by rw [if_pos rfl] at H; exact H
 clear H
 have H := H1
 clear H1
 have H' := A_ H
 clear H
 go_wp2
 go_meet
 case rel => exact ⟨_, (false), s1_, H', ⟨by have := HK1.out; first | omega | exact Nat.le_refl _⟩, ⟨by refine b2_ ?_; exact Kd.R_mono (Kd.R_far (p := ⟨gb212, 1, none⟩) (Kd.R_far (p := ⟨gb212, 0, none⟩) (Kd.R_mono HO_7.out (fun k_ hk => (⟨hk, hk.2⟩ : _ ∧ k_ ≠ gb212))) (fun _ hk => hk.2) (.int .i64 ((rd_T63 l0 x14_1).f0))) (fun _ hk => hk.2) (.int .i64 ((rd_T63 l0 x14_1).f1))) (fun _ hk => hk.1.2)⟩, ⟨by refine b1_ ?_; refine blk_put (cs := #[.int .i64 ((rd_T63 l0 x14_1).f0), .int .i64 0]) ?_ 1 _ rfl; refine b1_ ?_; refine blk_put (cs := #[.int .i64 0, .int .i64 0]) ?_ 0 _ rfl; refine b1_ ?_; exact BK212.out⟩, ⟨by repeat (first | (with_reducible first | exact HB.out | apply below_alloc | apply pw_below_drewN | apply below_drew1 | refine below_set ?_ GE212.out) | exact HB.out)⟩⟩}
 {
 replace c12 := Bool.eq_false_iff.mpr c12
 subst c12
 have H1 : (spec_l05Put.j1 k1 l0 a1 a2 x7_1 false (l0.length : Int) x14_1 (decide (((rd_T63 l0 x14_1).f0) ≥ a1)) ((rd_T63 l0 x14_1).f0) ((rd_T63 l0 x14_1).f1)) = some r := by rw [if_neg (show ¬ (false = true) by decide)] at H; exact H
 clear H
 have H := H1
 clear H1
 have H' := A_ H
 clear H
 have hcz13_0 := c1_ BK212 0 (.int .i64 0)
 have hcz13_1 := c1_ BK212 1 (.int .i64 0)
 have hfz13_0 := f1_ BK212 0
 have hfz13_1 := f1_ BK212 1
 go_wp2
 go_meet
 case rel => exact ⟨_, (decide (((rd_T63 l0 x14_1).f0) ≥ a1)), s1_, H', ⟨by have := HK1.out; first | omega | exact Nat.le_refl _⟩, ⟨by refine b2_ ?_; exact Kd.R_mono (Kd.R_far (p := ⟨gb212, 1, none⟩) (Kd.R_far (p := ⟨gb212, 0, none⟩) (Kd.R_mono HO_7.out (fun k_ hk => (⟨hk, hk.2⟩ : _ ∧ k_ ≠ gb212))) (fun _ hk => hk.2) (.int .i64 ((rd_T63 l0 x14_1).f0))) (fun _ hk => hk.2) (.int .i64 ((rd_T63 l0 x14_1).f1))) (fun _ hk => hk.1.2)⟩, ⟨by refine b1_ ?_; refine blk_put (cs := #[.int .i64 ((rd_T63 l0 x14_1).f0), .int .i64 0]) ?_ 1 _ rfl; refine b1_ ?_; refine blk_put (cs := #[.int .i64 0, .int .i64 0]) ?_ 0 _ rfl; refine b1_ ?_; exact BK212.out⟩, ⟨by repeat (first | (with_reducible first | exact HB.out | apply below_alloc | apply pw_below_drewN | apply below_drew1 | refine below_set ?_ GE212.out) | exact HB.out)⟩⟩}}
 case rest =>
  skip
  {
 clear HC9
 try clear c1
 try clear p2
 try clear q2
 try clear hx2
 try clear c6
 try clear c6b0
 try clear c7
 try clear c7b0
 try clear c8
 try clear c8b0
 try clear c12
 try clear hcz11_0
 try clear hcz11_1
 try clear hcz13_0
 try clear hcz13_1
 try clear hfz11_0
 try clear hfz11_1
 try clear hfz13_0
 try clear hfz13_1
 try clear hx211_0
 try clear hx211_1
 try clear p2
 try clear p211
 try clear q211
 obtain ⟨kq, x28_8, rfl, HA, HJ8, HO_7, BK212, HB⟩ := hcut
 cases kq with
 | zero => exact absurd HA.out (by simp [spec_l05Put.j1])
 | succ kj8 =>
  skip
  {
 have H := HA.out
 clear HA
 simp only [spec_l05Put.j1] at H
 by_cases c14 : x28_8 = true
 {
 subst c14
 have H1 : (if ((rd_T63 l0 x14_1).f0) = a1 then ((spec_l00Max.f ((rd_T63 l0 x14_1).f1) a2).bind fun t213 => (if x7_1.length < 8796093022208 then (spec_l05Put.l0 kj8 l0 a1 a2 (x7_1 ++ [(⟨((rd_T63 l0 x14_1).f0), t213⟩ : S63)]) true (l0.length : Int) (wrap64 (x14_1 + 1))) else (none))) else (if x7_1.length < 8796093022208 then ((some (x7_1 ++ [(⟨a1, a2⟩ : S63)] : List (S63))).bind fun y217 => (if y217.length < 8796093022208 then (spec_l05Put.l0 kj8 l0 a1 a2 (y217 ++ [(⟨((rd_T63 l0 x14_1).f0), ((rd_T63 l0 x14_1).f1)⟩ : S63)]) true (l0.length : Int) (wrap64 (x14_1 + 1))) else (none))) else (none))) = some r := by rw [if_pos rfl] at H; exact H
 clear H
 have H := H1
 clear H1
 by_cases c15 : ((rd_T63 l0 x14_1).f0) = a1
 {
 rw [if_pos c15] at H
 have c15b0 : (((rd_T63 l0 x14_1).f0) == a1) = true := beq_iff_eq.mpr c15
 have c15b1 : (((rd_T63 l0 x14_1).f0) != a1) = false := bne_eq_false_iff_eq.mpr c15
 clear c15
 replace H := Option.bind_eq_some_iff.mp H
 obtain ⟨t213, A160, H⟩ := H
 replace H : (if x7_1.length < 8796093022208 then (spec_l05Put.l0 kj8 l0 a1 a2 (x7_1 ++ [(⟨((rd_T63 l0 x14_1).f0), t213⟩ : S63)]) true (l0.length : Int) (wrap64 (x14_1 + 1))) else (none)) = some r := H
 have A16 := A_ A160
 clear A160
 by_cases c17 : x7_1.length < 8796093022208
 {
 rw [if_pos c17] at H
 have LMc17 := A_ c17
 clear c17
 obtain ⟨y214, hy214⟩ : ∃ y_ : List (S63), y_ = (x7_1 ++ [(⟨((rd_T63 l0 x14_1).f0), t213⟩ : S63)]) := ⟨_, rfl⟩
 replace H : (spec_l05Put.l0 kj8 l0 a1 a2 y214 true (l0.length : Int) (wrap64 (x14_1 + 1))) = some r := by first | (rw [hy214]; with_reducible exact H) | (have H2_ := (Option.bind_some _ _).symm.trans H; rw [hy214]; with_reducible exact H2_) | (have H2_ := (Option.bind_some _ _).symm.trans H; with_reducible exact H2_) | with_reducible exact H | (rw [hy214]; exact H) | exact H
 have Ny214 := A_ hy214
 clear hy214
 have H' := A_ H
 clear H
 have hcz18_0 := c1_ BK212 0 (.int .i64 ((rd_T63 l0 x14_1).f0))
 have hcz18_1 := c1_ BK212 1 (.int .i64 ((rd_T63 l0 x14_1).f1))
 have hfz18_0 := f1_ BK212 0
 have hfz18_1 := f1_ BK212 1
 go_wp2_with (first | ((with_reducible refine gate_callee (f := 108) rfl ?_); refine goesL_ (some 36) rfl rfl Try.func108 (by kernel_rfl) rfl #[.int .i64 ((rd_T63 l0 x14_1).f1), .int .i64 a2] rfl (by (try simp only [List.map_toArray, List.map_cons, List.map_nil]); first | done | rfl | (simp only [List.length_drop, List.length_take]; rfl)) ?_; (with_reducible refine (spec_l00Max.calls ((rd_T63 l0 x14_1).f1) a2 t213 _ A16.out).mono ?_); rintro e w' ⟨rfl, ⟨nd, rfl⟩⟩; refine ⟨_, rfl, ?_⟩; (try (rw [drewN_self wc]; generalize hq_ : World.drewN wc _ = wc; have n0_ : Aside0 (Kd.R k63 63 wc w.heap.size (fun k_ => k_ ≠ gb212) u7 x7_1) := ⟨by rw [← hq_]; exact (b2_ HO_7.out)⟩; have n1_ : Aside0 (wc.heap[gb212]? = some (.cells #[.int .i64 ((rd_T63 l0 x14_1).f0), .int .i64 ((rd_T63 l0 x14_1).f1)] 63 (0, 0))) := ⟨by rw [← hq_]; exact (b1_ BK212.out)⟩; have n2_ : Aside0 (Below w.heap.size w wc) := ⟨by rw [← hq_]; exact (y1_ HB.out)⟩; clear HO_7 BK212 HB hq_; have HO_7 := n0_; have BK212 := n1_; have HB := n2_; clear n0_ n1_ n2_)); have hcz19_0 := c1_ BK212 0 (.int .i64 ((rd_T63 l0 x14_1).f0)); have hcz19_1 := c1_ BK212 1 (.int .i64 ((rd_T63 l0 x14_1).f1)); have hfz19_0 := f1_ BK212 0; have hfz19_1 := f1_ BK212 1) | ((with_reducible refine gate_builtin (b := .append) (xs := #[.tmp 44, .tmp 46]) rfl ?_); at_builtin; refine Kd.R_append k63 (w0 := w) w.heap.size rfl (.tmp 44) (.tmp 46) 24 63 (.agg #[(.int .i64 0), (.int .i64 0)]) 16 rfl Try.underlying24 info63 rfl (by decide) (by omega) u7 x7_1 (⟨((rd_T63 l0 x14_1).f0), t213⟩ : S63) [.int .i64 ((rd_T63 l0 x14_1).f0), .int .i64 t213] (fun k_ => k_ ≠ gb212) (fun _ => False) rfl (by first | (go_simp; done) | (go_simp; rfl)) ?aP (fun _ hk => hk.elim) ?aF ?aO ?aB ?aS ?aL ?_; (case aP => exact k63_mkM _ _ _ (⟨((rd_T63 l0 x14_1).f0), t213⟩ : S63)); (case aB => exact (by repeat (first | (with_reducible first | exact HB.out | apply below_alloc | apply pw_below_drewN | apply below_drew1 | refine below_set ?_ GE212.out) | exact HB.out))); (case aF => exact (fun k_ hk => Kd.freshB (g := gb212) (o := .cells #[.int .i64 ((rd_T63 l0 x14_1).f0), .int .i64 t213] 63 (0, 0)) (by refine b1_ ?_; refine blk_put (cs := #[.int .i64 ((rd_T63 l0 x14_1).f0), .int .i64 ((rd_T63 l0 x14_1).f1)]) ?_ 1 _ rfl; refine b1_ ?_; exact BK212.out) k_ hk)); (case aO => exact (by refine b2_ ?_; exact Kd.R_mono (Kd.R_far (p := ⟨gb212, 1, none⟩) (Kd.R_mono HO_7.out (fun k_ hk => (⟨hk, hk⟩ : _ ∧ k_ ≠ gb212))) (fun _ hk => hk.2) (.int .i64 t213)) (fun _ hk => hk.1))); (case aS => exact (below_size (by repeat (first | (with_reducible first | exact HB.out | apply below_alloc | apply pw_below_drewN | apply below_drew1 | refine below_set ?_ GE212.out) | exact HB.out)))); (case aL => have := LMc17.out; omega); intro v215 w20 ho hb hg hat; rw [← Ny214.out] at ho; replace BK212 := A_ (blk_grown (g := gb212) (o := .cells #[.int .i64 ((rd_T63 l0 x14_1).f0), .int .i64 t213] 63 (0, 0)) (by refine b1_ ?_; refine blk_put (cs := #[.int .i64 ((rd_T63 l0 x14_1).f0), .int .i64 ((rd_T63 l0 x14_1).f1)]) ?_ 1 _ rfl; refine b1_ ?_; exact BK212.out) hg (Kd.R_away HO_7.out (fun _ hk => hk))); replace HB := A_ (hb); have HO216 := A_ (ho); clear HO_7; clear ho hb hg hat))
 go_roundg kj8
 case measure => have := HK1.out; have := HJ8.out; omega
 case rel => exact ⟨(y214), (true), (wrap64 (x14_1 + 1)), s1_, s1_, H', ⟨by have := HK1.out; have := HJ8.out; omega⟩, ⟨by refine b2_ ?_; exact Kd.R_mono HO216.out (fun _ hk => trivial)⟩, ⟨y1_ HB.out⟩⟩}
 {
 rw [if_neg c17] at H
 exact absurd H (by simp)}}
 {
 rw [if_neg c15] at H
 have c15b0 : (((rd_T63 l0 x14_1).f0) == a1) = false := beq_eq_false_iff_ne.mpr c15
 have c15b1 : (((rd_T63 l0 x14_1).f0) != a1) = true := bne_iff_ne.mpr c15
 by_cases c21 : x7_1.length < 8796093022208
 {
 rw [if_pos c21] at H
 have LMc21 := A_ c21
 clear c21
 obtain ⟨y217, hy217⟩ : ∃ y_ : List (S63), y_ = (x7_1 ++ [(⟨a1, a2⟩ : S63)]) := ⟨_, rfl⟩
 replace H : (if y217.length < 8796093022208 then (spec_l05Put.l0 kj8 l0 a1 a2 (y217 ++ [(⟨((rd_T63 l0 x14_1).f0), ((rd_T63 l0 x14_1).f1)⟩ : S63)]) true (l0.length : Int) (wrap64 (x14_1 + 1))) else (none)) = some r := by first | (rw [hy217]; with_reducible exact H) | (have H2_ := (Option.bind_some _ _).symm.trans H; rw [hy217]; with_reducible exact H2_) | (have H2_ := (Option.bind_some _ _).symm.trans H; with_reducible exact H2_) | with_reducible exact H | (rw [hy217]; exact H) | exact H
 have Ny217 := A_ hy217
 clear hy217
 by_cases c22 : y217.length < 8796093022208
 {
 rw [if_pos c22] at H
 have LMc22 := A_ c22
 clear c22
 obtain ⟨y220, hy220⟩ : ∃ y_ : List (S63), y_ = (y217 ++ [(⟨((rd_T63 l0 x14_1).f0), ((rd_T63 l0 x14_1).f1)⟩ : S63)]) := ⟨_, rfl⟩
 replace H : (spec_l05Put.l0 kj8 l0 a1 a2 y220 true (l0.length : Int) (wrap64 (x14_1 + 1))) = some r := by first | (rw [hy220]; with_reducible exact H) | (have H2_ := (Option.bind_some _ _).symm.trans H; rw [hy220]; with_reducible exact H2_) | (have H2_ := (Option.bind_some _ _).symm.trans H; with_reducible exact H2_) | with_reducible exact H | (rw [hy220]; exact H) | exact H
 have Ny220 := A_ hy220
 clear hy220
 have H' := A_ H
 clear H
 have hcz23_0 := c1_ BK212 0 (.int .i64 ((rd_T63 l0 x14_1).f0))
 have hcz23_1 := c1_ BK212 1 (.int .i64 ((rd_T63 l0 x14_1).f1))
 have hfz23_0 := f1_ BK212 0
 have hfz23_1 := f1_ BK212 1
 go_wp2_with (first | ((with_reducible refine gate_builtin (b := .append) (xs := #[.tmp 38, .tmp 42]) rfl ?_); at_builtin; refine Kd.R_append k63 (w0 := w) w.heap.size rfl (.tmp 38) (.tmp 42) 24 63 (.agg #[(.int .i64 0), (.int .i64 0)]) 16 rfl Try.underlying24 info63 rfl (by decide) (by omega) u7 x7_1 (⟨a1, a2⟩ : S63) [.int .i64 a1, .int .i64 a2] (fun k_ => k_ ≠ gb212) (fun _ => False) rfl rfl ?aP (fun _ hk => hk.elim) ?aF ?aO ?aB ?aS ?aL ?_; (case aP => exact k63_mkM _ _ _ (⟨a1, a2⟩ : S63)); (case aB => exact (y1_ HB.out)); (case aF => exact (fun k_ hk => Kd.freshB (g := gb212) (o := .cells #[.int .i64 ((rd_T63 l0 x14_1).f0), .int .i64 ((rd_T63 l0 x14_1).f1)] 63 (0, 0)) (b1_ BK212.out) k_ hk)); (case aO => exact (b2_ HO_7.out)); (case aS => exact (below_size (y1_ HB.out))); (case aL => have := LMc21.out; omega); intro v218 w24 ho hb hg hat; rw [← Ny217.out] at ho; replace BK212 := A_ (blk_grown (g := gb212) (o := .cells #[.int .i64 ((rd_T63 l0 x14_1).f0), .int .i64 ((rd_T63 l0 x14_1).f1)] 63 (0, 0)) (b1_ BK212.out) hg (Kd.R_away HO_7.out (fun _ hk => hk))); replace HB := A_ (hb); have HO219 := A_ (ho); clear HO_7; clear ho hb hg hat; have hcz25_0 := c1_ BK212 0 (.int .i64 ((rd_T63 l0 x14_1).f0)); have hcz25_1 := c1_ BK212 1 (.int .i64 ((rd_T63 l0 x14_1).f1)); have hfz25_0 := f1_ BK212 0; have hfz25_1 := f1_ BK212 1) | ((with_reducible refine gate_builtin (b := .append) (xs := #[.tmp 44, .tmp 46]) rfl ?_); at_builtin; refine Kd.R_append k63 (w0 := w) w.heap.size rfl (.tmp 44) (.tmp 46) 24 63 (.agg #[(.int .i64 0), (.int .i64 0)]) 16 rfl Try.underlying24 info63 rfl (by decide) (by omega) v218 y217 (⟨((rd_T63 l0 x14_1).f0), ((rd_T63 l0 x14_1).f1)⟩ : S63) [.int .i64 ((rd_T63 l0 x14_1).f0), .int .i64 ((rd_T63 l0 x14_1).f1)] (fun k_ => k_ ≠ gb212) (fun _ => False) rfl rfl ?aP (fun _ hk => hk.elim) ?aF ?aO ?aB ?aS ?aL ?_; (case aP => exact k63_mkM _ _ _ (⟨((rd_T63 l0 x14_1).f0), ((rd_T63 l0 x14_1).f1)⟩ : S63)); (case aB => exact (y1_ HB.out)); (case aF => exact (fun k_ hk => Kd.freshB (g := gb212) (o := .cells #[.int .i64 ((rd_T63 l0 x14_1).f0), .int .i64 ((rd_T63 l0 x14_1).f1)] 63 (0, 0)) (b1_ BK212.out) k_ hk)); (case aO => exact (b2_ HO219.out)); (case aS => exact (below_size (y1_ HB.out))); (case aL => have := LMc22.out; omega); intro v221 w26 ho hb hg hat; rw [← Ny220.out] at ho; replace BK212 := A_ (blk_grown (g := gb212) (o := .cells #[.int .i64 ((rd_T63 l0 x14_1).f0), .int .i64 ((rd_T63 l0 x14_1).f1)] 63 (0, 0)) (b1_ BK212.out) hg (Kd.R_away HO219.out (fun _ hk => hk))); replace HB := A_ (hb); have HO222 := A_ (ho); clear HO219; clear ho hb hg hat))
 go_roundg kj8
 case measure => have := HK1.out; have := HJ8.out; omega
 case rel => exact ⟨(y220), (true), (wrap64 (x14_1 + 1)), s1_, s1_, H', ⟨by have := HK1.out; have := HJ8.out; omega⟩, ⟨by refine b2_ ?_; exact Kd.R_mono HO222.out (fun _ hk => trivial)⟩, ⟨y1_ HB.out⟩⟩}
 {
 rw [if_neg c22] at H
 exact absurd H (by simp)}}
 {
 rw [if_neg c21] at H
 exact absurd H (by simp)}}}
 {
 replace c14 := Bool.eq_false_iff.mpr c14
 subst c14
 have H1 : (if x7_1.length < 8796093022208 then (spec_l05Put.l0 kj8 l0 a1 a2 (x7_1 ++ [(⟨((rd_T63 l0 x14_1).f0), ((rd_T63 l0 x14_1).f1)⟩ : S63)]) x8_1 (l0.length : Int) (wrap64 (x14_1 + 1))) else (none)) = some r := by rw [if_neg (show ¬ (false = true) by decide)] at H; exact H
 clear H
 have H := H1
 clear H1
 by_cases c27 : x7_1.length < 8796093022208
 {
 rw [if_pos c27] at H
 have LMc27 := A_ c27
 clear c27
 obtain ⟨y223, hy223⟩ : ∃ y_ : List (S63), y_ = (x7_1 ++ [(⟨((rd_T63 l0 x14_1).f0), ((rd_T63 l0 x14_1).f1)⟩ : S63)]) := ⟨_, rfl⟩
 replace H : (spec_l05Put.l0 kj8 l0 a1 a2 y223 x8_1 (l0.length : Int) (wrap64 (x14_1 + 1))) = some r := by first | (rw [hy223]; with_reducible exact H) | (have H2_ := (Option.bind_some _ _).symm.trans H; rw [hy223]; with_reducible exact H2_) | (have H2_ := (Option.bind_some _ _).symm.trans H; with_reducible exact H2_) | with_reducible exact H | (rw [hy223]; exact H) | exact H
 have Ny223 := A_ hy223
 clear hy223
 have H' := A_ H
 clear H
 have hcz28_0 := c1_ BK212 0 (.int .i64 ((rd_T63 l0 x14_1).f0))
 have hcz28_1 := c1_ BK212 1 (.int .i64 ((rd_T63 l0 x14_1).f1))
 have hfz28_0 := f1_ BK212 0
 have hfz28_1 := f1_ BK212 1
 go_wp2_with (first | ((with_reducible refine gate_builtin (b := .append) (xs := #[.tmp 44, .tmp 46]) rfl ?_); at_builtin; refine Kd.R_append k63 (w0 := w) w.heap.size rfl (.tmp 44) (.tmp 46) 24 63 (.agg #[(.int .i64 0), (.int .i64 0)]) 16 rfl Try.underlying24 info63 rfl (by decide) (by omega) u7 x7_1 (⟨((rd_T63 l0 x14_1).f0), ((rd_T63 l0 x14_1).f1)⟩ : S63) [.int .i64 ((rd_T63 l0 x14_1).f0), .int .i64 ((rd_T63 l0 x14_1).f1)] (fun k_ => k_ ≠ gb212) (fun _ => False) rfl rfl ?aP (fun _ hk => hk.elim) ?aF ?aO ?aB ?aS ?aL ?_; (case aP => exact k63_mkM _ _ _ (⟨((rd_T63 l0 x14_1).f0), ((rd_T63 l0 x14_1).f1)⟩ : S63)); (case aB => exact (y1_ HB.out)); (case aF => exact (fun k_ hk => Kd.freshB (g := gb212) (o := .cells #[.int .i64 ((rd_T63 l0 x14_1).f0), .int .i64 ((rd_T63 l0 x14_1).f1)] 63 (0, 0)) (b1_ BK212.out) k_ hk)); (case aO => exact (b2_ HO_7.out)); (case aS => exact (below_size (y1_ HB.out))); (case aL => have := LMc27.out; omega); intro v224 w29 ho hb hg hat; rw [← Ny223.out] at ho; replace BK212 := A_ (blk_grown (g := gb212) (o := .cells #[.int .i64 ((rd_T63 l0 x14_1).f0), .int .i64 ((rd_T63 l0 x14_1).f1)] 63 (0, 0)) (b1_ BK212.out) hg (Kd.R_away HO_7.out (fun _ hk => hk))); replace HB := A_ (hb); have HO225 := A_ (ho); clear HO_7; clear ho hb hg hat))
 go_roundg kj8
 case measure => have := HK1.out; have := HJ8.out; omega
 case rel => exact ⟨(y223), (x8_1), (wrap64 (x14_1 + 1)), s1_, s1_, H', ⟨by have := HK1.out; have := HJ8.out; omega⟩, ⟨by refine b2_ ?_; exact Kd.R_mono HO225.out (fun _ hk => trivial)⟩, ⟨y1_ HB.out⟩⟩}
 {
 rw [if_neg c27] at H
 exact absurd H (by simp)}}}}}
 {
 rw [if_neg c8] at H
 exact absurd H (by simp)}}
 {
 rw [if_neg c7] at H
 exact absurd H (by simp)}}
 {
 rw [if_neg c6] at H
 have c6b0 : decide (x14_1 < (l0.length : Int)) = false := decide_eq_false c6
 clear c6
 by_cases c30 : x8_1 = true
 {
 subst c30
 have H1 : (some x7_1) = some r := by rw [if_pos rfl] at H; exact H
 clear H
 have H := H1
 clear H1
 obtain rfl := Option.some.inj H
 go_wp2
 go_ret
 exact ⟨_, e1_, b2_ HO_7.out, y1_ HB.out⟩}
 {
 replace c30 := Bool.eq_false_iff.mpr c30
 subst c30
 have H1 : (if x7_1.length < 8796093022208 then (some (x7_1 ++ [(⟨a1, a2⟩ : S63)])) else (none)) = some r := by rw [if_neg (show ¬ (false = true) by decide)] at H; exact H
 clear H
 have H := H1
 clear H1
 by_cases c31 : x7_1.length < 8796093022208
 {
 rw [if_pos c31] at H
 have LMc31 := A_ c31
 clear c31
 obtain ⟨y208, hy208⟩ : ∃ y_ : List (S63), y_ = (x7_1 ++ [(⟨a1, a2⟩ : S63)]) := ⟨_, rfl⟩
 replace H : (some y208) = some r := by first | (rw [hy208]; with_reducible exact H) | (have H2_ := (Option.bind_some _ _).symm.trans H; rw [hy208]; with_reducible exact H2_) | (have H2_ := (Option.bind_some _ _).symm.trans H; with_reducible exact H2_) | with_reducible exact H | (rw [hy208]; exact H) | exact H
 have Ny208 := A_ hy208
 clear hy208
 obtain rfl := Option.some.inj H
 go_wp2_with (first | ((with_reducible refine gate_builtin (b := .append) (xs := #[.tmp 51, .tmp 55]) rfl ?_); at_builtin; refine Kd.R_append k63 (w0 := w) w.heap.size rfl (.tmp 51) (.tmp 55) 24 63 (.agg #[(.int .i64 0), (.int .i64 0)]) 16 rfl Try.underlying24 info63 rfl (by decide) (by omega) u7 x7_1 (⟨a1, a2⟩ : S63) [.int .i64 a1, .int .i64 a2] (fun _ => True) (fun _ => False) rfl rfl ?aP (fun _ hk => hk.elim) ?aF ?aO ?aB ?aS ?aL ?_; (case aP => exact k63_mkM _ _ _ (⟨a1, a2⟩ : S63)); (case aB => exact (y1_ HB.out)); (case aF => exact (fun _ _ => trivial)); (case aO => exact (b2_ HO_7.out)); (case aS => exact (below_size (y1_ HB.out))); (case aL => have := LMc31.out; omega); intro v209 w32 ho hb hg hat; rw [← Ny208.out] at ho; replace HB := A_ (hb); have HO210 := A_ (ho); clear HO_7; clear ho hb hg hat))
 go_ret
 exact ⟨_, e1_, b2_ HO210.out, y1_ HB.out⟩}
 {
 rw [if_neg c31] at H
 exact absurd H (by simp)}}}}}

/-! ### spec_l05Read: function 81 -/
abbrev spec_l05Read.T : Bool := true
abbrev spec_l05Read.F : Bool := false
mutual
def spec_l05Read.l0 : Nat → List (S73) → Int → Int → List (S73) → Bool → Int → Int → Option ((List (S73)))
  | 0, _, _, _, _, _, _, _ => none
  | k + 1, x0, x1, x2, x7, x8, x13, x14 => if x14 < x13 then (if 0 ≤ x14 then (if x14 < (x0.length : Int) then (if x8 = true then (spec_l05Read.j1 k x0 x1 x2 x7 x8 x13 x14 false ((rd_T73 x0 x14).f0) ((rd_T73 x0 x14).f1)) else (spec_l05Read.j1 k x0 x1 x2 x7 x8 x13 x14 (decide (((rd_T73 x0 x14).f0) ≥ x1)) ((rd_T73 x0 x14).f0) ((rd_T73 x0 x14).f1))) else (none)) else (none)) else (if x8 = true then (some x7) else (if x7.length < 8796093022208 then (some (x7 ++ [(⟨x1, x2⟩ : S73)])) else (none)))
def spec_l05Read.j1 : Nat → List (S73) → Int → Int → List (S73) → Bool → Int → Int → Bool → Int → Int → Option ((List (S73)))
  | 0, _, _, _, _, _, _, _, _, _, _ => none
  | k + 1, x0, x1, x2, x7, x8, x13, x14, x28, x234000, x234001 => if x28 = true then (if x234000 = x1 then ((spec_l00Max.f x234001 x2).bind fun t234 => (if x7.length < 8796093022208 then (spec_l05Read.l0 k x0 x1 x2 (x7 ++ [(⟨x234000, t234⟩ : S73)]) true x13 (wrap64 (x14 + 1))) else (none))) else (if x7.length < 8796093022208 then ((some (x7 ++ [(⟨x1, x2⟩ : S73)] : List (S73))).bind fun y238 => (if y238.length < 8796093022208 then (spec_l05Read.l0 k x0 x1 x2 (y238 ++ [(⟨x234000, x234001⟩ : S73)]) true x13 (wrap64 (x14 + 1))) else (none))) else (none))) else (if x7.length < 8796093022208 then (spec_l05Read.l0 k x0 x1 x2 (x7 ++ [(⟨x234000, x234001⟩ : S73)]) x8 x13 (wrap64 (x14 + 1))) else (none))
end
def spec_l05Read.f (k : Nat) (l0 : List (S73)) (a1 : Int) (a2 : Int) : Option ((List (S73))) := spec_l05Read.l0 k l0 a1 a2 (([] : List (S73))) false (l0.length : Int) 0
theorem spec_l05Read.mono_l : ∀ k, (∀ y0 y1 y2 y3 y4 y5 y6, LeO (spec_l05Read.l0 k y0 y1 y2 y3 y4 y5 y6) (spec_l05Read.l0 (k + 1) y0 y1 y2 y3 y4 y5 y6)) ∧ (∀ y0 y1 y2 y3 y4 y5 y6 y7 y8 y9, LeO (spec_l05Read.j1 k y0 y1 y2 y3 y4 y5 y6 y7 y8 y9) (spec_l05Read.j1 (k + 1) y0 y1 y2 y3 y4 y5 y6 y7 y8 y9))
  | 0 => ⟨fun _ _ _ _ _ _ _ r h => by simp [spec_l05Read.l0] at h, fun _ _ _ _ _ _ _ _ _ _ r h => by simp [spec_l05Read.j1] at h⟩
  | k + 1 => by
    obtain ⟨ih0, ih1⟩ := spec_l05Read.mono_l k
    refine ⟨?_, ?_⟩
    · intro y0 y1 y2 y3 y4 y5 y6
      unfold spec_l05Read.l0
      repeat' first
      | (with_reducible exact ih0 _ _ _ _ _ _ _)
      | (with_reducible exact ih1 _ _ _ _ _ _ _ _ _ _)
      | (with_reducible exact LeO.refl _)
      | (with_reducible exact LeO.none _)
      | (with_reducible refine LeO.ite ?_ ?_)
      | (with_reducible refine LeO.bind ?_ (fun _ => ?_))
      | exact ih0 _ _ _ _ _ _ _
      | exact ih1 _ _ _ _ _ _ _ _ _ _
      | exact LeO.none _
      | refine LeO.ite ?_ ?_
      | refine LeO.bind ?_ (fun _ => ?_)
    · intro y0 y1 y2 y3 y4 y5 y6 y7 y8 y9
      unfold spec_l05Read.j1
      repeat' first
      | (with_reducible exact ih0 _ _ _ _ _ _ _)
      | (with_reducible exact ih1 _ _ _ _ _ _ _ _ _ _)
      | (with_reducible exact LeO.refl _)
      | (with_reducible exact LeO.none _)
      | (with_reducible refine LeO.ite ?_ ?_)
      | (with_reducible refine LeO.bind ?_ (fun _ => ?_))
      | exact ih0 _ _ _ _ _ _ _
      | exact ih1 _ _ _ _ _ _ _ _ _ _
      | exact LeO.none _
      | refine LeO.ite ?_ ?_
      | refine LeO.bind ?_ (fun _ => ?_)
theorem spec_l05Read.mono : ∀ a0 a1 a2 k, LeO (spec_l05Read.f k a0 a1 a2) (spec_l05Read.f (k + 1) a0 a1 a2) := by
  intro a0 a1 a2 k
  obtain ⟨ih0, ih1⟩ := spec_l05Read.mono_l k
  unfold spec_l05Read.f
  repeat' first
      | (with_reducible exact ih0 _ _ _ _ _ _ _)
      | (with_reducible exact ih1 _ _ _ _ _ _ _ _ _ _)
      | (with_reducible exact LeO.refl _)
      | (with_reducible exact LeO.none _)
      | (with_reducible refine LeO.ite ?_ ?_)
      | (with_reducible refine LeO.bind ?_ (fun _ => ?_))
      | exact ih0 _ _ _ _ _ _ _
      | exact ih1 _ _ _ _ _ _ _ _ _ _
      | exact LeO.none _
      | refine LeO.ite ?_ ?_
      | refine LeO.bind ?_ (fun _ => ?_)
set_option maxHeartbeats 8000000 in
set_option maxRecDepth 100000 in
theorem spec_l05Read.calls (k : Nat) (A0 : Option Addr) (c0 : Nat) (l0 : List (S73)) (a1 : Int) (a2 : Int) (r : List (S73)) (w : World) (hr0 : Kd.C k73 w A0 l0.length l0) (hc0 : l0.length ≤ c0) (h : spec_l05Read.f k l0 a1 a2 = some r) :
    Calls Try.prog 81 #[.slice A0 l0.length c0, .int .i64 a1, .int .i64 a2] w fun e w' => ∃ v0_ : Value, e = .returned (v0_) ∧ Kd.R k73 73 w' w.heap.size (fun _ => True) v0_ r ∧ Below w.heap.size w w' := by
 have hu73 := Try.underlying73
 have HR0 := A_ hr0
 have HC0 := A_ hc0
 clear hr0 hc0
 have HB := A_ (Below.refl w.heap.size w)
 have H : (spec_l05Read.l0 k l0 a1 a2 (([] : List (S73))) false (l0.length : Int) 0) = some r := h
 clear h
 obtain ⟨y226, hy226⟩ : ∃ y_ : List (S73), y_ = (([] : List (S73))) := ⟨_, rfl⟩
 replace H : (spec_l05Read.l0 k l0 a1 a2 y226 false (l0.length : Int) 0) = some r := by first | (rw [hy226]; with_reducible exact H) | (have H2_ := (Option.bind_some _ _).symm.trans H; rw [hy226]; with_reducible exact H2_) | (have H2_ := (Option.bind_some _ _).symm.trans H; with_reducible exact H2_) | with_reducible exact H | (rw [hy226]; exact H) | exact H
 have Ny226 := A_ hy226
 clear hy226
 have H' := A_ H
 clear H
 go_enter Try.func81, Try.ntmps81
 go_wp2_with (first | ((with_reducible refine gate_dst (N := 11) rfl ?_); refine Kd.R_lit k73 _ 73 ?hg (N := 11) ?hd (xs := ([] : List (S73))) (inner := []) (ok := fun _ => True) (okp := fun _ => True) ?hr ?hp (fun _ hk => hk) trivial (Below.refl _ _) (Nat.le_refl _) (by simp) ?_; (case hd => rfl); (case hg => rfl); (case hr => first | (go_simp; done) | (go_simp; rfl)); (case hp => exact (Reps.none _ _)); intro v227 w4 ho5 hb hg_ hnew_; clear hg_ hnew_; (first | rw [← Ny226.out] at ho5 | (simp only [Int.reduceToNat] at ho5; rw [← Ny226.out] at ho5)); have HO228 := A_ (Kd.R_lower ho5 (below_size (y1_ HB.out))); replace HB := A_ (below_step (y1_ HB.out) hb); clear hb ho5))
 go_loopg [7, 8, 14] k (fun kq v7 v8 v14 w' => ∃ (x7_1 : List (S73)) (x8_1 : Bool) (x14_1 : Int), v8 = .bool x8_1 ∧ v14 = .int .i64 x14_1 ∧ Aside0 (spec_l05Read.l0 kq l0 a1 a2 x7_1 x8_1 (l0.length : Int) x14_1 = some r) ∧ Aside0 (kq ≤ k) ∧ Aside0 (Kd.R k73 73 w' w.heap.size (fun _ => True) v7 x7_1) ∧ Aside0 (Below w.heap.size w w'))
 case atStart => exact ⟨(y226), (false), (0), s1_, s1_, H', ⟨Nat.le_refl _⟩, ⟨b2_ HO228.out⟩, ⟨y1_ HB.out⟩⟩
 case round =>
  skip
  {
 clear H'
 try clear p2
 obtain ⟨x7_1, x8_1, x14_1, rfl, rfl, HA, HK1, HO_7, HB⟩ := hrel
 cases gk with
 | zero => exact absurd HA.out (by simp [spec_l05Read.l0])
 | succ k1 =>
  skip
  {
 have H := HA.out
 clear HA
 simp only [spec_l05Read.l0] at H
 by_cases c6 : x14_1 < (l0.length : Int)
 {
 rw [if_pos c6] at H
 have c6b0 : decide (x14_1 < (l0.length : Int)) = true := decide_eq_true c6
 clear c6
 by_cases c7 : 0 ≤ x14_1
 {
 rw [if_pos c7] at H
 have c7b0 : decide (0 ≤ x14_1) = true := decide_eq_true c7
 clear c7
 by_cases c8 : x14_1 < (l0.length : Int)
 {
 rw [if_pos c8] at H
 have c8b0 : decide (x14_1 < (l0.length : Int)) = true := decide_eq_true c8
 clear c8
 have HC9 := A_ H
 clear H
 have p232 : 0 ≤ (x14_1 : Int) := o1_
 have q232 : x14_1 < (l0.length : Int) := o1_
 have hbd232 := A_ (And.intro p232 q232)
 obtain ⟨ad232, e232, hx232_0, hx232_1⟩ := at_T73 HR0.out x14_1 p232 q232
 cases e232
 replace hx232_0 := (HB.out.cell (World.block_lt_of_cell? w _ hx232_0)).trans hx232_0
 replace hx232_1 := (HB.out.cell (World.block_lt_of_cell? w _ hx232_1)).trans hx232_1
 replace p232 := eq_true p232
 replace q232 := eq_true q232
 go_upto_region 7 with (first | ((with_reducible refine gate_dst (N := 10) rfl ?_); refine box_event ?hg (N := 10) ?hd (cs := #[.int .i64 0, .int .i64 0]) (t := 73) ?hr ?_; (case hd => rfl); (case hg => rfl); (case hr => first | (go_simp; done) | (go_simp; rfl)); intro gb233 hg w10 hbox hb; have GW233 := b6_ hg HB; have GE233 := b6_ hg HB; replace HO_7 := A_ (Kd.R_below (Kd.R_elderB (b2_ HO_7.out) gb233 (Nat.le_of_eq hg.symm)) hb); replace HB := A_ (below_step (y1_ HB.out) hb); have BK233 := A_ (hbox); clear hb hbox hg; have hcz11_0 := c1_ BK233 0 (.int .i64 0); have hcz11_1 := c1_ BK233 1 (.int .i64 0); have hfz11_0 := f1_ BK233 0; have hfz11_1 := f1_ BK233 1))
 (try simp only [Act.put, List.setIfInBounds_toArray, List.set_cons_zero, List.set_cons_succ])
 go_cut [28] (fun v28 wc => ∃ (kq : Nat) (x28_8 : Bool), v28 = .bool x28_8 ∧ Aside0 (spec_l05Read.j1 kq l0 a1 a2 x7_1 x8_1 (l0.length : Int) x14_1 x28_8 ((rd_T73 l0 x14_1).f0) ((rd_T73 l0 x14_1).f1) = some r) ∧ Aside0 (kq ≤ k1) ∧ Aside0 (Kd.R k73 73 wc w.heap.size (fun k_ => k_ ≠ gb233) u7 x7_1) ∧ Aside0 (wc.heap[gb233]? = some (.cells #[.int .i64 ((rd_T73 l0 x14_1).f0), .int .i64 ((rd_T73 l0 x14_1).f1)] 73 (0, 0))) ∧ Aside0 (Below w.heap.size w wc))
 case first =>
  skip
  {
 have H := HC9.out
 clear HC9
 by_cases c12 : x8_1 = true
 {
 subst c12
 have H1 : (spec_l05Read.j1 k1 l0 a1 a2 x7_1 true (l0.length : Int) x14_1 false ((rd_T73 l0 x14_1).f0) ((rd_T73 l0 x14_1).f1)) = some r := by rw [if_pos rfl] at H; exact H
 clear H
 have H := H1
 clear H1
 have H' := A_ H
 clear H
 go_wp2
 go_meet
 case rel => exact ⟨_, (false), s1_, H', ⟨by have := HK1.out; first | omega | exact Nat.le_refl _⟩, ⟨by refine b2_ ?_; exact Kd.R_mono (Kd.R_far (p := ⟨gb233, 1, none⟩) (Kd.R_far (p := ⟨gb233, 0, none⟩) (Kd.R_mono HO_7.out (fun k_ hk => (⟨hk, hk.2⟩ : _ ∧ k_ ≠ gb233))) (fun _ hk => hk.2) (.int .i64 ((rd_T73 l0 x14_1).f0))) (fun _ hk => hk.2) (.int .i64 ((rd_T73 l0 x14_1).f1))) (fun _ hk => hk.1.2)⟩, ⟨by refine b1_ ?_; refine blk_put (cs := #[.int .i64 ((rd_T73 l0 x14_1).f0), .int .i64 0]) ?_ 1 _ rfl; refine b1_ ?_; refine blk_put (cs := #[.int .i64 0, .int .i64 0]) ?_ 0 _ rfl; refine b1_ ?_; exact BK233.out⟩, ⟨by repeat (first | (with_reducible first | exact HB.out | apply below_alloc | apply pw_below_drewN | apply below_drew1 | refine below_set ?_ GE233.out) | exact HB.out)⟩⟩}
 {
 replace c12 := Bool.eq_false_iff.mpr c12
 subst c12
 have H1 : (spec_l05Read.j1 k1 l0 a1 a2 x7_1 false (l0.length : Int) x14_1 (decide (((rd_T73 l0 x14_1).f0) ≥ a1)) ((rd_T73 l0 x14_1).f0) ((rd_T73 l0 x14_1).f1)) = some r := by rw [if_neg (show ¬ (false = true) by decide)] at H; exact H
 clear H
 have H := H1
 clear H1
 have H' := A_ H
 clear H
 have hcz13_0 := c1_ BK233 0 (.int .i64 0)
 have hcz13_1 := c1_ BK233 1 (.int .i64 0)
 have hfz13_0 := f1_ BK233 0
 have hfz13_1 := f1_ BK233 1
 go_wp2
 go_meet
 case rel => exact ⟨_, (decide (((rd_T73 l0 x14_1).f0) ≥ a1)), s1_, H', ⟨by have := HK1.out; first | omega | exact Nat.le_refl _⟩, ⟨by refine b2_ ?_; exact Kd.R_mono (Kd.R_far (p := ⟨gb233, 1, none⟩) (Kd.R_far (p := ⟨gb233, 0, none⟩) (Kd.R_mono HO_7.out (fun k_ hk => (⟨hk, hk.2⟩ : _ ∧ k_ ≠ gb233))) (fun _ hk => hk.2) (.int .i64 ((rd_T73 l0 x14_1).f0))) (fun _ hk => hk.2) (.int .i64 ((rd_T73 l0 x14_1).f1))) (fun _ hk => hk.1.2)⟩, ⟨by refine b1_ ?_; refine blk_put (cs := #[.int .i64 ((rd_T73 l0 x14_1).f0), .int .i64 0]) ?_ 1 _ rfl; refine b1_ ?_; refine blk_put (cs := #[.int .i64 0, .int .i64 0]) ?_ 0 _ rfl; refine b1_ ?_; exact BK233.out⟩, ⟨by repeat (first | (with_reducible first | exact HB.out | apply below_alloc | apply pw_below_drewN | apply below_drew1 | refine below_set ?_ GE233.out) | exact HB.out)⟩⟩}}
 case rest =>
  skip
  {
 clear HC9
 try clear c1
 try clear p2
 try clear q2
 try clear hx2
 try clear c6
 try clear c6b0
 try clear c7
 try clear c7b0
 try clear c8
 try clear c8b0
 try clear c12
 try clear hcz11_0
 try clear hcz11_1
 try clear hcz13_0
 try clear hcz13_1
 try clear hfz11_0
 try clear hfz11_1
 try clear hfz13_0
 try clear hfz13_1
 try clear hx232_0
 try clear hx232_1
 try clear p2
 try clear p232
 try clear q232
 obtain ⟨kq, x28_8, rfl, HA, HJ8, HO_7, BK233, HB⟩ := hcut
 cases kq with
 | zero => exact absurd HA.out (by simp [spec_l05Read.j1])
 | succ kj8 =>
  skip
  {
 have H := HA.out
 clear HA
 simp only [spec_l05Read.j1] at H
 by_cases c14 : x28_8 = true
 {
 subst c14
 have H1 : (if ((rd_T73 l0 x14_1).f0) = a1 then ((spec_l00Max.f ((rd_T73 l0 x14_1).f1) a2).bind fun t234 => (if x7_1.length < 8796093022208 then (spec_l05Read.l0 kj8 l0 a1 a2 (x7_1 ++ [(⟨((rd_T73 l0 x14_1).f0), t234⟩ : S73)]) true (l0.length : Int) (wrap64 (x14_1 + 1))) else (none))) else (if x7_1.length < 8796093022208 then ((some (x7_1 ++ [(⟨a1, a2⟩ : S73)] : List (S73))).bind fun y238 => (if y238.length < 8796093022208 then (spec_l05Read.l0 kj8 l0 a1 a2 (y238 ++ [(⟨((rd_T73 l0 x14_1).f0), ((rd_T73 l0 x14_1).f1)⟩ : S73)]) true (l0.length : Int) (wrap64 (x14_1 + 1))) else (none))) else (none))) = some r := by rw [if_pos rfl] at H; exact H
 clear H
 have H := H1
 clear H1
 by_cases c15 : ((rd_T73 l0 x14_1).f0) = a1
 {
 rw [if_pos c15] at H
 have c15b0 : (((rd_T73 l0 x14_1).f0) == a1) = true := beq_iff_eq.mpr c15
 have c15b1 : (((rd_T73 l0 x14_1).f0) != a1) = false := bne_eq_false_iff_eq.mpr c15
 clear c15
 replace H := Option.bind_eq_some_iff.mp H
 obtain ⟨t234, A160, H⟩ := H
 replace H : (if x7_1.length < 8796093022208 then (spec_l05Read.l0 kj8 l0 a1 a2 (x7_1 ++ [(⟨((rd_T73 l0 x14_1).f0), t234⟩ : S73)]) true (l0.length : Int) (wrap64 (x14_1 + 1))) else (none)) = some r := H
 have A16 := A_ A160
 clear A160
 by_cases c17 : x7_1.length < 8796093022208
 {
 rw [if_pos c17] at H
 have LMc17 := A_ c17
 clear c17
 obtain ⟨y235, hy235⟩ : ∃ y_ : List (S73), y_ = (x7_1 ++ [(⟨((rd_T73 l0 x14_1).f0), t234⟩ : S73)]) := ⟨_, rfl⟩
 replace H : (spec_l05Read.l0 kj8 l0 a1 a2 y235 true (l0.length : Int) (wrap64 (x14_1 + 1))) = some r := by first | (rw [hy235]; with_reducible exact H) | (have H2_ := (Option.bind_some _ _).symm.trans H; rw [hy235]; with_reducible exact H2_) | (have H2_ := (Option.bind_some _ _).symm.trans H; with_reducible exact H2_) | with_reducible exact H | (rw [hy235]; exact H) | exact H
 have Ny235 := A_ hy235
 clear hy235
 have H' := A_ H
 clear H
 have hcz18_0 := c1_ BK233 0 (.int .i64 ((rd_T73 l0 x14_1).f0))
 have hcz18_1 := c1_ BK233 1 (.int .i64 ((rd_T73 l0 x14_1).f1))
 have hfz18_0 := f1_ BK233 0
 have hfz18_1 := f1_ BK233 1
 go_wp2_with (first | ((with_reducible refine gate_callee (f := 108) rfl ?_); refine goesL_ (some 36) rfl rfl Try.func108 (by kernel_rfl) rfl #[.int .i64 ((rd_T73 l0 x14_1).f1), .int .i64 a2] rfl (by (try simp only [List.map_toArray, List.map_cons, List.map_nil]); first | done | rfl | (simp only [List.length_drop, List.length_take]; rfl)) ?_; (with_reducible refine (spec_l00Max.calls ((rd_T73 l0 x14_1).f1) a2 t234 _ A16.out).mono ?_); rintro e w' ⟨rfl, ⟨nd, rfl⟩⟩; refine ⟨_, rfl, ?_⟩; (try (rw [drewN_self wc]; generalize hq_ : World.drewN wc _ = wc; have n0_ : Aside0 (Kd.R k73 73 wc w.heap.size (fun k_ => k_ ≠ gb233) u7 x7_1) := ⟨by rw [← hq_]; exact (b2_ HO_7.out)⟩; have n1_ : Aside0 (wc.heap[gb233]? = some (.cells #[.int .i64 ((rd_T73 l0 x14_1).f0), .int .i64 ((rd_T73 l0 x14_1).f1)] 73 (0, 0))) := ⟨by rw [← hq_]; exact (b1_ BK233.out)⟩; have n2_ : Aside0 (Below w.heap.size w wc) := ⟨by rw [← hq_]; exact (y1_ HB.out)⟩; clear HO_7 BK233 HB hq_; have HO_7 := n0_; have BK233 := n1_; have HB := n2_; clear n0_ n1_ n2_)); have hcz19_0 := c1_ BK233 0 (.int .i64 ((rd_T73 l0 x14_1).f0)); have hcz19_1 := c1_ BK233 1 (.int .i64 ((rd_T73 l0 x14_1).f1)); have hfz19_0 := f1_ BK233 0; have hfz19_1 := f1_ BK233 1) | ((with_reducible refine gate_builtin (b := .append) (xs := #[.tmp 44, .tmp 46]) rfl ?_); at_builtin; refine Kd.R_append k73 (w0 := w) w.heap.size rfl (.tmp 44) (.tmp 46) 25 73 (.agg #[(.int .i64 0), (.int .i64 0)]) 16 rfl Try.underlying25 info73 rfl (by decide) (by omega) u7 x7_1 (⟨((rd_T73 l0 x14_1).f0), t234⟩ : S73) [.int .i64 ((rd_T73 l0 x14_1).f0), .int .i64 t234] (fun k_ => k_ ≠ gb233) (fun _ => False) rfl (by first | (go_simp; done) | (go_simp; rfl)) ?aP (fun _ hk => hk.elim) ?aF ?aO ?aB ?aS ?aL ?_; (case aP => exact k73_mkM _ _ _ (⟨((rd_T73 l0 x14_1).f0), t234⟩ : S73)); (case aB => exact (by repeat (first | (with_reducible first | exact HB.out | apply below_alloc | apply pw_below_drewN | apply below_drew1 | refine below_set ?_ GE233.out) | exact HB.out))); (case aF => exact (fun k_ hk => Kd.freshB (g := gb233) (o := .cells #[.int .i64 ((rd_T73 l0 x14_1).f0), .int .i64 t234] 73 (0, 0)) (by refine b1_ ?_; refine blk_put (cs := #[.int .i64 ((rd_T73 l0 x14_1).f0), .int .i64 ((rd_T73 l0 x14_1).f1)]) ?_ 1 _ rfl; refine b1_ ?_; exact BK233.out) k_ hk)); (case aO => exact (by refine b2_ ?_; exact Kd.R_mono (Kd.R_far (p := ⟨gb233, 1, none⟩) (Kd.R_mono HO_7.out (fun k_ hk => (⟨hk, hk⟩ : _ ∧ k_ ≠ gb233))) (fun _ hk => hk.2) (.int .i64 t234)) (fun _ hk => hk.1))); (case aS => exact (below_size (by repeat (first | (with_reducible first | exact HB.out | apply below_alloc | apply pw_below_drewN | apply below_drew1 | refine below_set ?_ GE233.out) | exact HB.out)))); (case aL => have := LMc17.out; omega); intro v236 w20 ho hb hg hat; rw [← Ny235.out] at ho; replace BK233 := A_ (blk_grown (g := gb233) (o := .cells #[.int .i64 ((rd_T73 l0 x14_1).f0), .int .i64 t234] 73 (0, 0)) (by refine b1_ ?_; refine blk_put (cs := #[.int .i64 ((rd_T73 l0 x14_1).f0), .int .i64 ((rd_T73 l0 x14_1).f1)]) ?_ 1 _ rfl; refine b1_ ?_; exact BK233.out) hg (Kd.R_away HO_7.out (fun _ hk => hk))); replace HB := A_ (hb); have HO237 := A_ (ho); clear HO_7; clear ho hb hg hat))
 go_roundg kj8
 case measure => have := HK1.out; have := HJ8.out; omega
 case rel => exact ⟨(y235), (true), (wrap64 (x14_1 + 1)), s1_, s1_, H', ⟨by have := HK1.out; have := HJ8.out; omega⟩, ⟨by refine b2_ ?_; exact Kd.R_mono HO237.out (fun _ hk => trivial)⟩, ⟨y1_ HB.out⟩⟩}
 {
 rw [if_neg c17] at H
 exact absurd H (by simp)}}
 {
 rw [if_neg c15] at H
 have c15b0 : (((rd_T73 l0 x14_1).f0) == a1) = false := beq_eq_false_iff_ne.mpr c15
 have c15b1 : (((rd_T73 l0 x14_1).f0) != a1) = true := bne_iff_ne.mpr c15
 by_cases c21 : x7_1.length < 8796093022208
 {
 rw [if_pos c21] at H
 have LMc21 := A_ c21
 clear c21
 obtain ⟨y238, hy238⟩ : ∃ y_ : List (S73), y_ = (x7_1 ++ [(⟨a1, a2⟩ : S73)]) := ⟨_, rfl⟩
 replace H : (if y238.length < 8796093022208 then (spec_l05Read.l0 kj8 l0 a1 a2 (y238 ++ [(⟨((rd_T73 l0 x14_1).f0), ((rd_T73 l0 x14_1).f1)⟩ : S73)]) true (l0.length : Int) (wrap64 (x14_1 + 1))) else (none)) = some r := by first | (rw [hy238]; with_reducible exact H) | (have H2_ := (Option.bind_some _ _).symm.trans H; rw [hy238]; with_reducible exact H2_) | (have H2_ := (Option.bind_some _ _).symm.trans H; with_reducible exact H2_) | with_reducible exact H | (rw [hy238]; exact H) | exact H
 have Ny238 := A_ hy238
 clear hy238
 by_cases c22 : y238.length < 8796093022208
 {
 rw [if_pos c22] at H
 have LMc22 := A_ c22
 clear c22
 obtain ⟨y241, hy241⟩ : ∃ y_ : List (S73), y_ = (y238 ++ [(⟨((rd_T73 l0 x14_1).f0), ((rd_T73 l0 x14_1).f1)⟩ : S73)]) := ⟨_, rfl⟩
 replace H : (spec_l05Read.l0 kj8 l0 a1 a2 y241 true (l0.length : Int) (wrap64 (x14_1 + 1))) = some r := by first | (rw [hy241]; with_reducible exact H) | (have H2_ := (Option.bind_some _ _).symm.trans H; rw [hy241]; with_reducible exact H2_) | (have H2_ := (Option.bind_some _ _).symm.trans H; with_reducible exact H2_) | with_reducible exact H | (rw [hy241]; exact H) | exact H
 have Ny241 := A_ hy241
 clear hy241
 have H' := A_ H
 clear H
 have hcz23_0 := c1_ BK233 0 (.int .i64 ((rd_T73 l0 x14_1).f0))
 have hcz23_1 := c1_ BK233 1 (.int .i64 ((rd_T73 l0 x14_1).f1))
 have hfz23_0 := f1_ BK233 0
 have hfz23_1 := f1_ BK233 1
 go_wp2_with (first | ((with_reducible refine gate_builtin (b := .append) (xs := #[.tmp 38, .tmp 42]) rfl ?_); at_builtin; refine Kd.R_append k73 (w0 := w) w.heap.size rfl (.tmp 38) (.tmp 42) 25 73 (.agg #[(.int .i64 0), (.int .i64 0)]) 16 rfl Try.underlying25 info73 rfl (by decide) (by omega) u7 x7_1 (⟨a1, a2⟩ : S73) [.int .i64 a1, .int .i64 a2] (fun k_ => k_ ≠ gb233) (fun _ => False) rfl rfl ?aP (fun _ hk => hk.elim) ?aF ?aO ?aB ?aS ?aL ?_; (case aP => exact k73_mkM _ _ _ (⟨a1, a2⟩ : S73)); (case aB => exact (y1_ HB.out)); (case aF => exact (fun k_ hk => Kd.freshB (g := gb233) (o := .cells #[.int .i64 ((rd_T73 l0 x14_1).f0), .int .i64 ((rd_T73 l0 x14_1).f1)] 73 (0, 0)) (b1_ BK233.out) k_ hk)); (case aO => exact (b2_ HO_7.out)); (case aS => exact (below_size (y1_ HB.out))); (case aL => have := LMc21.out; omega); intro v239 w24 ho hb hg hat; rw [← Ny238.out] at ho; replace BK233 := A_ (blk_grown (g := gb233) (o := .cells #[.int .i64 ((rd_T73 l0 x14_1).f0), .int .i64 ((rd_T73 l0 x14_1).f1)] 73 (0, 0)) (b1_ BK233.out) hg (Kd.R_away HO_7.out (fun _ hk => hk))); replace HB := A_ (hb); have HO240 := A_ (ho); clear HO_7; clear ho hb hg hat; have hcz25_0 := c1_ BK233 0 (.int .i64 ((rd_T73 l0 x14_1).f0)); have hcz25_1 := c1_ BK233 1 (.int .i64 ((rd_T73 l0 x14_1).f1)); have hfz25_0 := f1_ BK233 0; have hfz25_1 := f1_ BK233 1) | ((with_reducible refine gate_builtin (b := .append) (xs := #[.tmp 44, .tmp 46]) rfl ?_); at_builtin; refine Kd.R_append k73 (w0 := w) w.heap.size rfl (.tmp 44) (.tmp 46) 25 73 (.agg #[(.int .i64 0), (.int .i64 0)]) 16 rfl Try.underlying25 info73 rfl (by decide) (by omega) v239 y238 (⟨((rd_T73 l0 x14_1).f0), ((rd_T73 l0 x14_1).f1)⟩ : S73) [.int .i64 ((rd_T73 l0 x14_1).f0), .int .i64 ((rd_T73 l0 x14_1).f1)] (fun k_ => k_ ≠ gb233) (fun _ => False) rfl rfl ?aP (fun _ hk => hk.elim) ?aF ?aO ?aB ?aS ?aL ?_; (case aP => exact k73_mkM _ _ _ (⟨((rd_T73 l0 x14_1).f0), ((rd_T73 l0 x14_1).f1)⟩ : S73)); (case aB => exact (y1_ HB.out)); (case aF => exact (fun k_ hk => Kd.freshB (g := gb233) (o := .cells #[.int .i64 ((rd_T73 l0 x14_1).f0), .int .i64 ((rd_T73 l0 x14_1).f1)] 73 (0, 0)) (b1_ BK233.out) k_ hk)); (case aO => exact (b2_ HO240.out)); (case aS => exact (below_size (y1_ HB.out))); (case aL => have := LMc22.out; omega); intro v242 w26 ho hb hg hat; rw [← Ny241.out] at ho; replace BK233 := A_ (blk_grown (g := gb233) (o := .cells #[.int .i64 ((rd_T73 l0 x14_1).f0), .int .i64 ((rd_T73 l0 x14_1).f1)] 73 (0, 0)) (b1_ BK233.out) hg (Kd.R_away HO240.out (fun _ hk => hk))); replace HB := A_ (hb); have HO243 := A_ (ho); clear HO240; clear ho hb hg hat))
 go_roundg kj8
 case measure => have := HK1.out; have := HJ8.out; omega
 case rel => exact ⟨(y241), (true), (wrap64 (x14_1 + 1)), s1_, s1_, H', ⟨by have := HK1.out; have := HJ8.out; omega⟩, ⟨by refine b2_ ?_; exact Kd.R_mono HO243.out (fun _ hk => trivial)⟩, ⟨y1_ HB.out⟩⟩}
 {
 rw [if_neg c22] at H
 exact absurd H (by simp)}}
 {
 rw [if_neg c21] at H
 exact absurd H (by simp)}}}
 {
 replace c14 := Bool.eq_false_iff.mpr c14
 subst c14
 have H1 : (if x7_1.length < 8796093022208 then (spec_l05Read.l0 kj8 l0 a1 a2 (x7_1 ++ [(⟨((rd_T73 l0 x14_1).f0), ((rd_T73 l0 x14_1).f1)⟩ : S73)]) x8_1 (l0.length : Int) (wrap64 (x14_1 + 1))) else (none)) = some r := by rw [if_neg (show ¬ (false = true) by decide)] at H; exact H
 clear H
 have H := H1
 clear H1
 by_cases c27 : x7_1.length < 8796093022208
 {
 rw [if_pos c27] at H
 have LMc27 := A_ c27
 clear c27
 obtain ⟨y244, hy244⟩ : ∃ y_ : List (S73), y_ = (x7_1 ++ [(⟨((rd_T73 l0 x14_1).f0), ((rd_T73 l0 x14_1).f1)⟩ : S73)]) := ⟨_, rfl⟩
 replace H : (spec_l05Read.l0 kj8 l0 a1 a2 y244 x8_1 (l0.length : Int) (wrap64 (x14_1 + 1))) = some r := by first | (rw [hy244]; with_reducible exact H) | (have H2_ := (Option.bind_some _ _).symm.trans H; rw [hy244]; with_reducible exact H2_) | (have H2_ := (Option.bind_some _ _).symm.trans H; with_reducible exact H2_) | with_reducible exact H | (rw [hy244]; exact H) | exact H
 have Ny244 := A_ hy244
 clear hy244
 have H' := A_ H
 clear H
 have hcz28_0 := c1_ BK233 0 (.int .i64 ((rd_T73 l0 x14_1).f0))
 have hcz28_1 := c1_ BK233 1 (.int .i64 ((rd_T73 l0 x14_1).f1))
 have hfz28_0 := f1_ BK233 0
 have hfz28_1 := f1_ BK233 1
 go_wp2_with (first | ((with_reducible refine gate_builtin (b := .append) (xs := #[.tmp 44, .tmp 46]) rfl ?_); at_builtin; refine Kd.R_append k73 (w0 := w) w.heap.size rfl (.tmp 44) (.tmp 46) 25 73 (.agg #[(.int .i64 0), (.int .i64 0)]) 16 rfl Try.underlying25 info73 rfl (by decide) (by omega) u7 x7_1 (⟨((rd_T73 l0 x14_1).f0), ((rd_T73 l0 x14_1).f1)⟩ : S73) [.int .i64 ((rd_T73 l0 x14_1).f0), .int .i64 ((rd_T73 l0 x14_1).f1)] (fun k_ => k_ ≠ gb233) (fun _ => False) rfl rfl ?aP (fun _ hk => hk.elim) ?aF ?aO ?aB ?aS ?aL ?_; (case aP => exact k73_mkM _ _ _ (⟨((rd_T73 l0 x14_1).f0), ((rd_T73 l0 x14_1).f1)⟩ : S73)); (case aB => exact (y1_ HB.out)); (case aF => exact (fun k_ hk => Kd.freshB (g := gb233) (o := .cells #[.int .i64 ((rd_T73 l0 x14_1).f0), .int .i64 ((rd_T73 l0 x14_1).f1)] 73 (0, 0)) (b1_ BK233.out) k_ hk)); (case aO => exact (b2_ HO_7.out)); (case aS => exact (below_size (y1_ HB.out))); (case aL => have := LMc27.out; omega); intro v245 w29 ho hb hg hat; rw [← Ny244.out] at ho; replace BK233 := A_ (blk_grown (g := gb233) (o := .cells #[.int .i64 ((rd_T73 l0 x14_1).f0), .int .i64 ((rd_T73 l0 x14_1).f1)] 73 (0, 0)) (b1_ BK233.out) hg (Kd.R_away HO_7.out (fun _ hk => hk))); replace HB := A_ (hb); have HO246 := A_ (ho); clear HO_7; clear ho hb hg hat))
 go_roundg kj8
 case measure => have := HK1.out; have := HJ8.out; omega
 case rel => exact ⟨(y244), (x8_1), (wrap64 (x14_1 + 1)), s1_, s1_, H', ⟨by have := HK1.out; have := HJ8.out; omega⟩, ⟨by refine b2_ ?_; exact Kd.R_mono HO246.out (fun _ hk => trivial)⟩, ⟨y1_ HB.out⟩⟩}
 {
 rw [if_neg c27] at H
 exact absurd H (by simp)}}}}}
 {
 rw [if_neg c8] at H
 exact absurd H (by simp)}}
 {
 rw [if_neg c7] at H
 exact absurd H (by simp)}}
 {
 rw [if_neg c6] at H
 have c6b0 : decide (x14_1 < (l0.length : Int)) = false := decide_eq_false c6
 clear c6
 by_cases c30 : x8_1 = true
 {
 subst c30
 have H1 : (some x7_1) = some r := by rw [if_pos rfl] at H; exact H
 clear H
 have H := H1
 clear H1
 obtain rfl := Option.some.inj H
 go_wp2
 go_ret
 exact ⟨_, e1_, b2_ HO_7.out, y1_ HB.out⟩}
 {
 replace c30 := Bool.eq_false_iff.mpr c30
 subst c30
 have H1 : (if x7_1.length < 8796093022208 then (some (x7_1 ++ [(⟨a1, a2⟩ : S73)])) else (none)) = some r := by rw [if_neg (show ¬ (false = true) by decide)] at H; exact H
 clear H
 have H := H1
 clear H1
 by_cases c31 : x7_1.length < 8796093022208
 {
 rw [if_pos c31] at H
 have LMc31 := A_ c31
 clear c31
 obtain ⟨y229, hy229⟩ : ∃ y_ : List (S73), y_ = (x7_1 ++ [(⟨a1, a2⟩ : S73)]) := ⟨_, rfl⟩
 replace H : (some y229) = some r := by first | (rw [hy229]; with_reducible exact H) | (have H2_ := (Option.bind_some _ _).symm.trans H; rw [hy229]; with_reducible exact H2_) | (have H2_ := (Option.bind_some _ _).symm.trans H; with_reducible exact H2_) | with_reducible exact H | (rw [hy229]; exact H) | exact H
 have Ny229 := A_ hy229
 clear hy229
 obtain rfl := Option.some.inj H
 go_wp2_with (first | ((with_reducible refine gate_builtin (b := .append) (xs := #[.tmp 51, .tmp 55]) rfl ?_); at_builtin; refine Kd.R_append k73 (w0 := w) w.heap.size rfl (.tmp 51) (.tmp 55) 25 73 (.agg #[(.int .i64 0), (.int .i64 0)]) 16 rfl Try.underlying25 info73 rfl (by decide) (by omega) u7 x7_1 (⟨a1, a2⟩ : S73) [.int .i64 a1, .int .i64 a2] (fun _ => True) (fun _ => False) rfl rfl ?aP (fun _ hk => hk.elim) ?aF ?aO ?aB ?aS ?aL ?_; (case aP => exact k73_mkM _ _ _ (⟨a1, a2⟩ : S73)); (case aB => exact (y1_ HB.out)); (case aF => exact (fun _ _ => trivial)); (case aO => exact (b2_ HO_7.out)); (case aS => exact (below_size (y1_ HB.out))); (case aL => have := LMc31.out; omega); intro v230 w32 ho hb hg hat; rw [← Ny229.out] at ho; replace HB := A_ (hb); have HO231 := A_ (ho); clear HO_7; clear ho hb hg hat))
 go_ret
 exact ⟨_, e1_, b2_ HO231.out, y1_ HB.out⟩}
 {
 rw [if_neg c31] at H
 exact absurd H (by simp)}}}}}

/-! ### spec_l05Give: function 82 -/
abbrev spec_l05Give.T : Bool := true
abbrev spec_l05Give.F : Bool := false
def spec_l05Give.f (k : Nat) (l0_0 : List (S63)) (l0_1 : List (S63)) (l0_2 : List (S73)) : Option ((List (S63)) × (List (S63)) × (List (S73)) × Bool) := (spec_l05Is.f k l0_0 l0_1 l0_2).bind fun t249 => (if t249 = true then (some (l0_0, l0_1, l0_2, true)) else (some (([] : List (S63)), ([] : List (S63)), ([] : List (S73)), false)))
theorem spec_l05Give.mono : ∀ a0 a1 a2 k, LeO (spec_l05Give.f k a0 a1 a2) (spec_l05Give.f (k + 1) a0 a1 a2) := by
  intro a0 a1 a2 k
  unfold spec_l05Give.f
  repeat' first
      | (with_reducible exact spec_l05Is.mono _ _ _ _)
      | (with_reducible exact LeO.refl _)
      | (with_reducible exact LeO.none _)
      | (with_reducible refine LeO.ite ?_ ?_)
      | (with_reducible refine LeO.bind ?_ (fun _ => ?_))
      | exact spec_l05Is.mono _ _ _ _
      | exact LeO.none _
      | refine LeO.ite ?_ ?_
      | refine LeO.bind ?_ (fun _ => ?_)
set_option maxHeartbeats 8000000 in
set_option maxRecDepth 100000 in
theorem spec_l05Give.calls (k : Nat) (P0_0_ : Nat → Prop) (u9000_ : Value) (l0_0 : List (S63)) (P0_1_ : Nat → Prop) (u9001_ : Value) (l0_1 : List (S63)) (P0_2_ : Nat → Prop) (u9002_ : Value) (l0_2 : List (S73)) (r1 : List (S63)) (r2 : List (S63)) (r3 : List (S73)) (r4 : Bool) (w0 w : World) (hB : Below w0.heap.size w0 w) (ho0_0 : Kd.R k63 63 w w0.heap.size P0_0_ u9000_ l0_0) (hp0_0_0_1 : ∀ k_, P0_0_ k_ → ¬ P0_1_ k_) (ho0_1 : Kd.R k63 63 w w0.heap.size P0_1_ u9001_ l0_1) (hp0_1_0_0 : ∀ k_, P0_1_ k_ → ¬ P0_0_ k_) (ho0_2 : Kd.R k73 73 w w0.heap.size P0_2_ u9002_ l0_2) (h : spec_l05Give.f k l0_0 l0_1 l0_2 = some (r1, r2, r3, r4)) :
    Calls Try.prog 82 #[.agg #[u9000_, u9001_, u9002_]] w fun e w' => ∃ v0_ v1_ v2_ : Value, e = .returned (.tuple #[.agg #[v0_, v1_, v2_], .bool r4]) ∧ Kd.R k63 63 w' w0.heap.size (fun k_ => ((P0_0_ k_ ∨ P0_1_ k_ ∨ P0_2_ k_) ∨ w.heap.size ≤ k_) ∧ some k_ ≠ (v1_ : Value).ownBlock) v0_ r1 ∧ Kd.R k63 63 w' w0.heap.size (fun k_ => ((P0_0_ k_ ∨ P0_1_ k_ ∨ P0_2_ k_) ∨ w.heap.size ≤ k_) ∧ some k_ ≠ (v0_ : Value).ownBlock) v1_ r2 ∧ Kd.R k73 73 w' w0.heap.size (fun k_ => ((P0_0_ k_ ∨ P0_1_ k_ ∨ P0_2_ k_) ∨ w.heap.size ≤ k_)) v2_ r3 ∧ Below w0.heap.size w0 w' ∧ Kept w w' (fun k_ => P0_0_ k_ ∨ P0_1_ k_ ∨ P0_2_ k_) := by
 have hu27 := Try.underlying27
 have HO0_0 := A_ (show Kd.R k63 63 w w0.heap.size (fun k_ => ((P0_0_ k_ ∨ P0_1_ k_ ∨ P0_2_ k_) ∨ w.heap.size ≤ k_) ∧ some k_ ≠ (u9001_ : Value).ownBlock) u9000_ l0_0 from Kd.R_mono ho0_0 (fun k_ hk => ⟨(.inl (.inl hk)), fun e_ => hp0_0_0_1 k_ hk (ho0_1.1 k_ e_.symm)⟩))
 have HO0_1 := A_ (show Kd.R k63 63 w w0.heap.size (fun k_ => ((P0_0_ k_ ∨ P0_1_ k_ ∨ P0_2_ k_) ∨ w.heap.size ≤ k_) ∧ some k_ ≠ (u9000_ : Value).ownBlock) u9001_ l0_1 from Kd.R_mono ho0_1 (fun k_ hk => ⟨(.inl (.inr (.inl hk))), fun e_ => hp0_1_0_0 k_ hk (ho0_0.1 k_ e_.symm)⟩))
 have HO0_2 := A_ (show Kd.R k73 73 w w0.heap.size (fun k_ => ((P0_0_ k_ ∨ P0_1_ k_ ∨ P0_2_ k_) ∨ w.heap.size ≤ k_)) u9002_ l0_2 from Kd.R_mono ho0_2 (fun k_ hk => (.inl (.inr (.inr hk)))))
 have HK := A_ (Kept.refl w (fun k_ => P0_0_ k_ ∨ P0_1_ k_ ∨ P0_2_ k_))
 have HW0 := A_ hB.size
 have HB := A_ hB
 clear hB
 have H : ((spec_l05Is.f k l0_0 l0_1 l0_2).bind fun t249 => (if t249 = true then (some (l0_0, l0_1, l0_2, true)) else (some (([] : List (S63)), ([] : List (S63)), ([] : List (S73)), false)))) = some (r1, r2, r3, r4) := h
 clear h
 replace H := Option.bind_eq_some_iff.mp H
 obtain ⟨t249, A20, H⟩ := H
 replace H : (if t249 = true then (some (l0_0, l0_1, l0_2, true)) else (some (([] : List (S63)), ([] : List (S63)), ([] : List (S73)), false))) = some (r1, r2, r3, r4) := H
 have A2 := A_ A20
 clear A20
 by_cases c3 : t249 = true
 {
 subst c3
 have H1 : (some (l0_0, l0_1, l0_2, true)) = some (r1, r2, r3, r4) := by rw [if_pos rfl] at H; exact H
 clear H
 have H := H1
 clear H1
 simp only [Option.some.injEq, Prod.mk.injEq] at H
 obtain ⟨rfl, rfl, rfl, rfl⟩ := H
 obtain ⟨Ao4, co4, eo4⟩ := Kd.R_slice HO0_0.out
 subst eo4
 obtain ⟨Ao5, co5, eo5⟩ := Kd.R_slice HO0_1.out
 subst eo5
 obtain ⟨Ao6, co6, eo6⟩ := Kd.R_slice HO0_2.out
 subst eo6
 go_enter Try.func82, Try.ntmps82
 go_wp2_with (first | ((with_reducible refine gate_dst (N := 1) rfl ?_); refine bx_ 1 #[.slice Ao4 l0_0.length co4, .slice Ao5 l0_1.length co5, .slice Ao6 l0_2.length co6] 27 ?_; intro gb247 hg w7 hbox hb; have GW247 := A_ ((by rw [hg]; exact (by first | exact HK.out.1 | exact (show Kept w _ (fun k_ => P0_0_ k_ ∨ P0_1_ k_ ∨ P0_2_ k_) from by repeat (first | (with_reducible first | exact HK.out | apply Kept.alloc | apply Kept.drewN | apply Kept.drew) | exact HK.out)).1) : w.heap.size ≤ gb247)); have GE247 := A_ ((by rw [hg]; exact (below_size (y1_ HB.out)) : w0.heap.size ≤ gb247)); replace HO0_0 := r1_ HO0_0 hb; replace HO0_1 := r1_ HO0_1 hb; replace HO0_2 := r1_ HO0_2 hb; replace HK := A_ (Kept.below (S := (fun k_ => P0_0_ k_ ∨ P0_1_ k_ ∨ P0_2_ k_)) (by repeat (first | (with_reducible first | exact HK.out | apply Kept.alloc | apply Kept.drewN | apply Kept.drew) | exact HK.out)) hb); replace HB := A_ (below_step (y1_ HB.out) hb); have BK247 := A_ (hbox); clear hb hbox hg) | ((with_reducible refine gate_dst (N := 2) rfl ?_); refine bx_ 2 #[.slice none 0 0, .slice none 0 0, .slice none 0 0] 27 ?_; intro gb248 hg w8 hbox hb; have GW248 := A_ ((by rw [hg]; exact (by first | exact HK.out.1 | exact (show Kept w _ (fun k_ => P0_0_ k_ ∨ P0_1_ k_ ∨ P0_2_ k_) from by repeat (first | (with_reducible first | exact HK.out | apply Kept.alloc | apply Kept.drewN | apply Kept.drew) | exact HK.out)).1) : w.heap.size ≤ gb248)); have GE248 := A_ ((by rw [hg]; exact (below_size (y1_ HB.out)) : w0.heap.size ≤ gb248)); have NB247_248 := b4_ hg BK247; have NB248_247 := b5_ hg BK247; replace HO0_0 := r1_ HO0_0 hb; replace HO0_1 := r1_ HO0_1 hb; replace HO0_2 := r1_ HO0_2 hb; replace BK247 := b3_ BK247 hb; replace HK := A_ (Kept.below (S := (fun k_ => P0_0_ k_ ∨ P0_1_ k_ ∨ P0_2_ k_)) (by repeat (first | (with_reducible first | exact HK.out | apply Kept.alloc | apply Kept.drewN | apply Kept.drew) | exact HK.out)) hb); replace HB := A_ (below_step (y1_ HB.out) hb); have BK248 := A_ (hbox); clear hb hbox hg) | ((with_reducible refine gate_callee (f := 57) rfl ?_); refine goesL_ (some 4) rfl rfl Try.func57 s2_ rfl #[.pointer (some ⟨gb247, 0, none⟩)] rfl (by (try simp only [List.map_toArray, List.map_cons, List.map_nil]); first | done | rfl | (simp only [List.length_drop, List.length_take]; rfl)) ?_; (with_reducible refine (spec_l05Is.calls k gb247 Ao4 co4 l0_0 Ao5 co5 l0_1 Ao6 co6 l0_2 true _ ?side1 ?side2 ?side3 ?side4 ?side5 ?side6 ?side7 A2.out).mono ?_); (case side1 => exact (b1_ BK247.out)); (case side2 => exact y2_ (Kd.R_reads' HO0_0.out).2.2); (case side3 => exact (Kd.R_reads' HO0_0.out).2.1); (case side4 => exact y2_ (Kd.R_reads' HO0_1.out).2.2); (case side5 => exact (Kd.R_reads' HO0_1.out).2.1); (case side6 => exact y2_ (Kd.R_reads' HO0_2.out).2.2); (case side7 => exact (Kd.R_reads' HO0_2.out).2.1); rintro e w9 ⟨rfl, hb⟩; refine ⟨_, rfl, ?_⟩; replace HO0_0 := r1_ HO0_0 hb; replace HO0_1 := r1_ HO0_1 hb; replace HO0_2 := r1_ HO0_2 hb; replace BK247 := b3_ BK247 hb; replace BK248 := b3_ BK248 hb; replace HK := A_ (Kept.below (S := (fun k_ => P0_0_ k_ ∨ P0_1_ k_ ∨ P0_2_ k_)) (by repeat (first | (with_reducible first | exact HK.out | apply Kept.alloc | apply Kept.drewN | apply Kept.drew) | exact HK.out)) hb); replace HB := A_ (below_step (y1_ HB.out) hb); (try clear hb); (try clear hb2); (try clear hk); (try clear hi); have hnb10 := NB247_248.out; have hnc10 := NB248_247.out; have hcz11_0 := c1_ BK247 0 (.slice Ao4 l0_0.length co4); have hcz11_1 := c1_ BK247 1 (.slice Ao5 l0_1.length co5); have hcz11_2 := c1_ BK247 2 (.slice Ao6 l0_2.length co6); have hfz11_0 := f1_ BK247 0; have hfz11_1 := f1_ BK247 1; have hfz11_2 := f1_ BK247 2; have hcz12_0 := c1_ BK248 0 (.slice none 0 0); have hcz12_1 := c1_ BK248 1 (.slice none 0 0); have hcz12_2 := c1_ BK248 2 (.slice none 0 0); have hfz12_0 := f1_ BK248 0; have hfz12_1 := f1_ BK248 1; have hfz12_2 := f1_ BK248 2))
 refine bodyPost_ret (results_ct rfl _ _ gb248 27 #[.slice Ao4 l0_0.length co4, .slice Ao5 l0_1.length co5, .slice Ao6 l0_2.length co6] (0, 0) _ rfl (by refine b1_ ?_; refine blk_put3 (cs := #[.slice none 0 0, .slice none 0 0, .slice none 0 0]) ?_ rfl; refine b1_ ?_; exact BK248.out) Try.underlying27 rfl s2_) rfl ?_
 exact ⟨_, _, _, e1_, by refine b2_ ?_; exact Kd.R_mono (Kd.R_far3 (g := gb248) (Kd.R_types HO0_0.out BK248.out (by decide)) (fun _ hk => hk.2)) (fun _ hk => ⟨hk.1.1, hk.1.2⟩), by refine b2_ ?_; exact Kd.R_mono (Kd.R_far3 (g := gb248) (Kd.R_types HO0_1.out BK248.out (by decide)) (fun _ hk => hk.2)) (fun _ hk => ⟨hk.1.1, hk.1.2⟩), by refine b2_ ?_; exact Kd.R_mono (Kd.R_far3 (g := gb248) (Kd.R_types HO0_2.out BK248.out (by decide)) (fun _ hk => hk.2)) (fun _ hk => hk.1), by repeat (first | (with_reducible first | exact HB.out | apply below_alloc | apply pw_below_drewN | apply below_drew1 | refine below_set ?_ GE248.out) | exact HB.out), by repeat (first | (with_reducible first | exact HK.out | apply Kept.alloc | apply Kept.drewN | apply Kept.drew | refine Kept.setCell ?_ (.inr GW248.out) _) | exact HK.out)⟩}
 {
 replace c3 := Bool.eq_false_iff.mpr c3
 subst c3
 have H1 : (some (([] : List (S63)), ([] : List (S63)), ([] : List (S73)), false)) = some (r1, r2, r3, r4) := by rw [if_neg (show ¬ (false = true) by decide)] at H; exact H
 clear H
 have H := H1
 clear H1
 simp only [Option.some.injEq, Prod.mk.injEq] at H
 obtain ⟨rfl, rfl, rfl, rfl⟩ := H
 obtain ⟨Ao13, co13, eo13⟩ := Kd.R_slice HO0_0.out
 subst eo13
 obtain ⟨Ao14, co14, eo14⟩ := Kd.R_slice HO0_1.out
 subst eo14
 obtain ⟨Ao15, co15, eo15⟩ := Kd.R_slice HO0_2.out
 subst eo15
 go_enter Try.func82, Try.ntmps82
 go_wp2_with (first | ((with_reducible refine gate_dst (N := 1) rfl ?_); refine bx_ 1 #[.slice Ao13 l0_0.length co13, .slice Ao14 l0_1.length co14, .slice Ao15 l0_2.length co15] 27 ?_; intro gb247 hg w16 hbox hb; have GW247 := A_ ((by rw [hg]; exact (by first | exact HK.out.1 | exact (show Kept w _ (fun k_ => P0_0_ k_ ∨ P0_1_ k_ ∨ P0_2_ k_) from by repeat (first | (with_reducible first | exact HK.out | apply Kept.alloc | apply Kept.drewN | apply Kept.drew) | exact HK.out)).1) : w.heap.size ≤ gb247)); have GE247 := A_ ((by rw [hg]; exact (below_size (y1_ HB.out)) : w0.heap.size ≤ gb247)); replace HO0_0 := r1_ HO0_0 hb; replace HO0_1 := r1_ HO0_1 hb; replace HO0_2 := r1_ HO0_2 hb; replace HK := A_ (Kept.below (S := (fun k_ => P0_0_ k_ ∨ P0_1_ k_ ∨ P0_2_ k_)) (by repeat (first | (with_reducible first | exact HK.out | apply Kept.alloc | apply Kept.drewN | apply Kept.drew) | exact HK.out)) hb); replace HB := A_ (below_step (y1_ HB.out) hb); have BK247 := A_ (hbox); clear hb hbox hg) | ((with_reducible refine gate_dst (N := 2) rfl ?_); refine bx_ 2 #[.slice none 0 0, .slice none 0 0, .slice none 0 0] 27 ?_; intro gb248 hg w17 hbox hb; have GW248 := A_ ((by rw [hg]; exact (by first | exact HK.out.1 | exact (show Kept w _ (fun k_ => P0_0_ k_ ∨ P0_1_ k_ ∨ P0_2_ k_) from by repeat (first | (with_reducible first | exact HK.out | apply Kept.alloc | apply Kept.drewN | apply Kept.drew) | exact HK.out)).1) : w.heap.size ≤ gb248)); have GE248 := A_ ((by rw [hg]; exact (below_size (y1_ HB.out)) : w0.heap.size ≤ gb248)); have NB247_248 := b4_ hg BK247; have NB248_247 := b5_ hg BK247; replace HO0_0 := r1_ HO0_0 hb; replace HO0_1 := r1_ HO0_1 hb; replace HO0_2 := r1_ HO0_2 hb; replace BK247 := b3_ BK247 hb; replace HK := A_ (Kept.below (S := (fun k_ => P0_0_ k_ ∨ P0_1_ k_ ∨ P0_2_ k_)) (by repeat (first | (with_reducible first | exact HK.out | apply Kept.alloc | apply Kept.drewN | apply Kept.drew) | exact HK.out)) hb); replace HB := A_ (below_step (y1_ HB.out) hb); have BK248 := A_ (hbox); clear hb hbox hg) | ((with_reducible refine gate_callee (f := 57) rfl ?_); refine goesL_ (some 4) rfl rfl Try.func57 s2_ rfl #[.pointer (some ⟨gb247, 0, none⟩)] rfl (by (try simp only [List.map_toArray, List.map_cons, List.map_nil]); first | done | rfl | (simp only [List.length_drop, List.length_take]; rfl)) ?_; (with_reducible refine (spec_l05Is.calls k gb247 Ao13 co13 l0_0 Ao14 co14 l0_1 Ao15 co15 l0_2 false _ ?side1 ?side2 ?side3 ?side4 ?side5 ?side6 ?side7 A2.out).mono ?_); (case side1 => exact (b1_ BK247.out)); (case side2 => exact y2_ (Kd.R_reads' HO0_0.out).2.2); (case side3 => exact (Kd.R_reads' HO0_0.out).2.1); (case side4 => exact y2_ (Kd.R_reads' HO0_1.out).2.2); (case side5 => exact (Kd.R_reads' HO0_1.out).2.1); (case side6 => exact y2_ (Kd.R_reads' HO0_2.out).2.2); (case side7 => exact (Kd.R_reads' HO0_2.out).2.1); rintro e w18 ⟨rfl, hb⟩; refine ⟨_, rfl, ?_⟩; replace HO0_0 := r1_ HO0_0 hb; replace HO0_1 := r1_ HO0_1 hb; replace HO0_2 := r1_ HO0_2 hb; replace BK247 := b3_ BK247 hb; replace BK248 := b3_ BK248 hb; replace HK := A_ (Kept.below (S := (fun k_ => P0_0_ k_ ∨ P0_1_ k_ ∨ P0_2_ k_)) (by repeat (first | (with_reducible first | exact HK.out | apply Kept.alloc | apply Kept.drewN | apply Kept.drew) | exact HK.out)) hb); replace HB := A_ (below_step (y1_ HB.out) hb); (try clear hb); (try clear hb2); (try clear hk); (try clear hi); have hnb19 := NB248_247.out; have hnc19 := NB247_248.out; have hcz20_0 := c1_ BK248 0 (.slice none 0 0); have hcz20_1 := c1_ BK248 1 (.slice none 0 0); have hcz20_2 := c1_ BK248 2 (.slice none 0 0); have hfz20_0 := f1_ BK248 0; have hfz20_1 := f1_ BK248 1; have hfz20_2 := f1_ BK248 2))
 refine bodyPost_ret (results_ct rfl _ _ gb248 27 #[.slice none 0 0, .slice none 0 0, .slice none 0 0] (0, 0) _ rfl (by refine b1_ ?_; refine blk_put3 (cs := #[.slice none 0 0, .slice none 0 0, .slice none 0 0]) ?_ rfl; refine b1_ ?_; exact BK248.out) Try.underlying27 rfl s2_) rfl ?_
 exact ⟨_, _, _, e1_, by first | exact Kd.R_nil _ _ _ _ _ | exact Kd.N_nil _ _ _ _ _ | exact Kd.V_nil _ _ _ _ _ | exact Kd.Q_nil _ _ _ _ _ | exact Kd.S_nil _ _ _ _ _, by first | exact Kd.R_nil _ _ _ _ _ | exact Kd.N_nil _ _ _ _ _ | exact Kd.V_nil _ _ _ _ _ | exact Kd.Q_nil _ _ _ _ _ | exact Kd.S_nil _ _ _ _ _, by first | exact Kd.R_nil _ _ _ _ _ | exact Kd.N_nil _ _ _ _ _ | exact Kd.V_nil _ _ _ _ _ | exact Kd.Q_nil _ _ _ _ _ | exact Kd.S_nil _ _ _ _ _, by repeat (first | (with_reducible first | exact HB.out | apply below_alloc | apply pw_below_drewN | apply below_drew1 | refine below_set ?_ GE248.out) | exact HB.out), by repeat (first | (with_reducible first | exact HK.out | apply Kept.alloc | apply Kept.drewN | apply Kept.drew | refine Kept.setCell ?_ (.inr GW248.out) _) | exact HK.out)⟩}

end Go.Proofs.Ytgfilednbllkmaa.QFnExactJoinPresence
