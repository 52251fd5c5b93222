-- written by a program of this session, on the lines of the kit's print
import Derived.Test.YtgfilednbllkmaaQFnJoinedPresencex0
import Derived.Test.YtgfilednbllkmaaQFnJoinedPresencex3
import Derived.Test.YtgfilednbllkmaaQFnJoinedPresencex4
import Derived.Test.YtgfilednbllkmaaQFnJoinedPresencex5
import Derived.Test.YtgfilednbllkmaaQFnJoinedPresencex7
namespace Go.Proofs.Ytgfilednbllkmaa.QFnJoinedPresence
open Go.RowKit Go.Proofs.YtgfilednbllkmaaW.PrintWords Go.Proofs.YtgfilednbllkmaaW.PrintLast Go.Proofs.YtgfilednbllkmaaW.PrintMore
attribute [local go_sem] max2_int min2_int max_two min_two max_three min_three max_four min_four   -- for this text's walks alone
set_option linter.unusedVariables false
set_option linter.unusedSimpArgs false

/-! ### spec_l05Read: function 81 -/
abbrev spec_l05Read.T : Bool := true
abbrev spec_l05Read.F : Bool := false
mutual
def spec_l05Read.l0 : Nat → List (S73) → Int → Int → List (S73) → Bool → Int → Int → Option ((List (S73)))
  | 0, _, _, _, _, _, _, _ => none
  | k + 1, x0, x1, x2, x7, x8, x13, x14 => if x14 < x13 then (if 0 ≤ x14 then (if x14 < (x0.length : Int) then (if x8 = true then (spec_l05Read.j1 k x0 x1 x2 x7 x8 x13 x14 false ((rd_T73 x0 x14).f0) ((rd_T73 x0 x14).f1)) else (spec_l05Read.j1 k x0 x1 x2 x7 x8 x13 x14 (decide (((rd_T73 x0 x14).f0) ≥ x1)) ((rd_T73 x0 x14).f0) ((rd_T73 x0 x14).f1))) else (none)) else (none)) else (if x8 = true then (some x7) else (if x7.length < 8796093022208 then (some (x7 ++ [(⟨x1, x2⟩ : S73)])) else (none)))
def spec_l05Read.j1 : Nat → List (S73) → Int → Int → List (S73) → Bool → Int → Int → Bool → Int → Int → Option ((List (S73)))
  | 0, _, _, _, _, _, _, _, _, _, _ => none
  | k + 1, x0, x1, x2, x7, x8, x13, x14, x28, x195000, x195001 => if x28 = true then (if x195000 = x1 then ((spec_l00Max.f x195001 x2).bind fun t195 => (if x7.length < 8796093022208 then (spec_l05Read.l0 k x0 x1 x2 (x7 ++ [(⟨x195000, t195⟩ : S73)]) true x13 (wrap64 (x14 + 1))) else (none))) else (if x7.length < 8796093022208 then ((some (x7 ++ [(⟨x1, x2⟩ : S73)] : List (S73))).bind fun y199 => (if y199.length < 8796093022208 then (spec_l05Read.l0 k x0 x1 x2 (y199 ++ [(⟨x195000, x195001⟩ : S73)]) true x13 (wrap64 (x14 + 1))) else (none))) else (none))) else (if x7.length < 8796093022208 then (spec_l05Read.l0 k x0 x1 x2 (x7 ++ [(⟨x195000, x195001⟩ : S73)]) x8 x13 (wrap64 (x14 + 1))) else (none))
end
def spec_l05Read.f (k : Nat) (l0 : List (S73)) (a1 : Int) (a2 : Int) : Option ((List (S73))) := spec_l05Read.l0 k l0 a1 a2 (([] : List (S73))) false (l0.length : Int) 0
theorem spec_l05Read.mono_l : ∀ k, (∀ y0 y1 y2 y3 y4 y5 y6, LeO (spec_l05Read.l0 k y0 y1 y2 y3 y4 y5 y6) (spec_l05Read.l0 (k + 1) y0 y1 y2 y3 y4 y5 y6)) ∧ (∀ y0 y1 y2 y3 y4 y5 y6 y7 y8 y9, LeO (spec_l05Read.j1 k y0 y1 y2 y3 y4 y5 y6 y7 y8 y9) (spec_l05Read.j1 (k + 1) y0 y1 y2 y3 y4 y5 y6 y7 y8 y9))
  | 0 => ⟨fun _ _ _ _ _ _ _ r h => by simp [spec_l05Read.l0] at h, fun _ _ _ _ _ _ _ _ _ _ r h => by simp [spec_l05Read.j1] at h⟩
  | k + 1 => by
    obtain ⟨ih0, ih1⟩ := spec_l05Read.mono_l k
    refine ⟨?_, ?_⟩
    · intro y0 y1 y2 y3 y4 y5 y6
      unfold spec_l05Read.l0
      repeat' first
      | (with_reducible exact ih0 _ _ _ _ _ _ _)
      | (with_reducible exact ih1 _ _ _ _ _ _ _ _ _ _)
      | (with_reducible exact LeO.refl _)
      | (with_reducible exact LeO.none _)
      | (with_reducible refine LeO.ite ?_ ?_)
      | (with_reducible refine LeO.bind ?_ (fun _ => ?_))
      | exact ih0 _ _ _ _ _ _ _
      | exact ih1 _ _ _ _ _ _ _ _ _ _
      | exact LeO.none _
      | refine LeO.ite ?_ ?_
      | refine LeO.bind ?_ (fun _ => ?_)
    · intro y0 y1 y2 y3 y4 y5 y6 y7 y8 y9
      unfold spec_l05Read.j1
      repeat' first
      | (with_reducible exact ih0 _ _ _ _ _ _ _)
      | (with_reducible exact ih1 _ _ _ _ _ _ _ _ _ _)
      | (with_reducible exact LeO.refl _)
      | (with_reducible exact LeO.none _)
      | (with_reducible refine LeO.ite ?_ ?_)
      | (with_reducible refine LeO.bind ?_ (fun _ => ?_))
      | exact ih0 _ _ _ _ _ _ _
      | exact ih1 _ _ _ _ _ _ _ _ _ _
      | exact LeO.none _
      | refine LeO.ite ?_ ?_
      | refine LeO.bind ?_ (fun _ => ?_)
theorem spec_l05Read.mono : ∀ a0 a1 a2 k, LeO (spec_l05Read.f k a0 a1 a2) (spec_l05Read.f (k + 1) a0 a1 a2) := by
  intro a0 a1 a2 k
  obtain ⟨ih0, ih1⟩ := spec_l05Read.mono_l k
  unfold spec_l05Read.f
  repeat' first
      | (with_reducible exact ih0 _ _ _ _ _ _ _)
      | (with_reducible exact ih1 _ _ _ _ _ _ _ _ _ _)
      | (with_reducible exact LeO.refl _)
      | (with_reducible exact LeO.none _)
      | (with_reducible refine LeO.ite ?_ ?_)
      | (with_reducible refine LeO.bind ?_ (fun _ => ?_))
      | exact ih0 _ _ _ _ _ _ _
      | exact ih1 _ _ _ _ _ _ _ _ _ _
      | exact LeO.none _
      | refine LeO.ite ?_ ?_
      | refine LeO.bind ?_ (fun _ => ?_)
set_option maxHeartbeats 8000000 in
set_option maxRecDepth 100000 in
theorem spec_l05Read.calls (k : Nat) (A0 : Option Addr) (c0 : Nat) (l0 : List (S73)) (a1 : Int) (a2 : Int) (r : List (S73)) (w : World) (hr0 : Kd.C k73 w A0 l0.length l0) (hc0 : l0.length ≤ c0) (h : spec_l05Read.f k l0 a1 a2 = some r) :
    Calls Try.prog 81 #[.slice A0 l0.length c0, .int .i64 a1, .int .i64 a2] w fun e w' => ∃ v0_ : Value, e = .returned (v0_) ∧ Kd.R k73 73 w' w.heap.size (fun _ => True) v0_ r ∧ Below w.heap.size w w' := by
 have hu73 := Try.underlying73
 have HR0 := A_ hr0
 have HC0 := A_ hc0
 clear hr0 hc0
 have HB := A_ (Below.refl w.heap.size w)
 have H : (spec_l05Read.l0 k l0 a1 a2 (([] : List (S73))) false (l0.length : Int) 0) = some r := h
 clear h
 obtain ⟨y187, hy187⟩ : ∃ y_ : List (S73), y_ = (([] : List (S73))) := ⟨_, rfl⟩
 replace H : (spec_l05Read.l0 k l0 a1 a2 y187 false (l0.length : Int) 0) = some r := by first | (rw [hy187]; with_reducible exact H) | (have H2_ := (Option.bind_some _ _).symm.trans H; rw [hy187]; with_reducible exact H2_) | (have H2_ := (Option.bind_some _ _).symm.trans H; with_reducible exact H2_) | with_reducible exact H | (rw [hy187]; exact H) | exact H
 have Ny187 := A_ hy187
 clear hy187
 have H' := A_ H
 clear H
 go_enter Try.func81, Try.ntmps81
 go_wp2_with (first | ((with_reducible refine gate_dst (N := 11) rfl ?_); refine Kd.R_lit k73 _ 73 ?hg (N := 11) ?hd (xs := ([] : List (S73))) (inner := []) (ok := fun _ => True) (okp := fun _ => True) ?hr ?hp (fun _ hk => hk) trivial (Below.refl _ _) (Nat.le_refl _) (by simp) ?_; (case hd => rfl); (case hg => rfl); (case hr => first | (go_simp; done) | (go_simp; rfl)); (case hp => exact (Reps.none _ _)); intro v188 w4 ho5 hb hg_ hnew_; clear hg_ hnew_; (first | rw [← Ny187.out] at ho5 | (simp only [Int.reduceToNat] at ho5; rw [← Ny187.out] at ho5)); have HO189 := A_ (Kd.R_lower ho5 (below_size (y1_ HB.out))); replace HB := A_ (below_step (y1_ HB.out) hb); clear hb ho5))
 go_loopg [7, 8, 14] k (fun kq v7 v8 v14 w' => ∃ (x7_1 : List (S73)) (x8_1 : Bool) (x14_1 : Int), v8 = .bool x8_1 ∧ v14 = .int .i64 x14_1 ∧ Aside0 (spec_l05Read.l0 kq l0 a1 a2 x7_1 x8_1 (l0.length : Int) x14_1 = some r) ∧ Aside0 (kq ≤ k) ∧ Aside0 (Kd.R k73 73 w' w.heap.size (fun _ => True) v7 x7_1) ∧ Aside0 (Below w.heap.size w w'))
 case atStart => exact ⟨(y187), (false), (0), s1_, s1_, H', ⟨Nat.le_refl _⟩, ⟨b2_ HO189.out⟩, ⟨y1_ HB.out⟩⟩
 case round =>
  skip
  {
 clear H'
 try clear p2
 obtain ⟨x7_1, x8_1, x14_1, rfl, rfl, HA, HK1, HO_7, HB⟩ := hrel
 cases gk with
 | zero => exact absurd HA.out (by simp [spec_l05Read.l0])
 | succ k1 =>
  skip
  {
 have H := HA.out
 clear HA
 simp only [spec_l05Read.l0] at H
 by_cases c6 : x14_1 < (l0.length : Int)
 {
 rw [if_pos c6] at H
 have c6b0 : decide (x14_1 < (l0.length : Int)) = true := decide_eq_true c6
 clear c6
 by_cases c7 : 0 ≤ x14_1
 {
 rw [if_pos c7] at H
 have c7b0 : decide (0 ≤ x14_1) = true := decide_eq_true c7
 clear c7
 by_cases c8 : x14_1 < (l0.length : Int)
 {
 rw [if_pos c8] at H
 have c8b0 : decide (x14_1 < (l0.length : Int)) = true := decide_eq_true c8
 clear c8
 have HC9 := A_ H
 clear H
 have p193 : 0 ≤ (x14_1 : Int) := o1_
 have q193 : x14_1 < (l0.length : Int) := o1_
 have hbd193 := A_ (And.intro p193 q193)
 obtain ⟨ad193, e193, hx193_0, hx193_1⟩ := at_T73 HR0.out x14_1 p193 q193
 cases e193
 replace hx193_0 := (HB.out.cell (World.block_lt_of_cell? w _ hx193_0)).trans hx193_0
 replace hx193_1 := (HB.out.cell (World.block_lt_of_cell? w _ hx193_1)).trans hx193_1
 replace p193 := eq_true p193
 replace q193 := eq_true q193
 go_upto_region 7 with (first | ((with_reducible refine gate_dst (N := 10) rfl ?_); refine box_event ?hg (N := 10) ?hd (cs := #[.int .i64 0, .int .i64 0]) (t := 73) ?hr ?_; (case hd => rfl); (case hg => rfl); (case hr => first | (go_simp; done) | (go_simp; rfl)); intro gb194 hg w10 hbox hb; have GW194 := b6_ hg HB; have GE194 := b6_ hg HB; replace HO_7 := A_ (Kd.R_below (Kd.R_elderB (b2_ HO_7.out) gb194 (Nat.le_of_eq hg.symm)) hb); replace HB := A_ (below_step (y1_ HB.out) hb); have BK194 := A_ (hbox); clear hb hbox hg; have hcz11_0 := c1_ BK194 0 (.int .i64 0); have hcz11_1 := c1_ BK194 1 (.int .i64 0); have hfz11_0 := f1_ BK194 0; have hfz11_1 := f1_ BK194 1))
 (try simp only [Act.put, List.setIfInBounds_toArray, List.set_cons_zero, List.set_cons_succ])
 go_cut [28] (fun v28 wc => ∃ (kq : Nat) (x28_8 : Bool), v28 = .bool x28_8 ∧ Aside0 (spec_l05Read.j1 kq l0 a1 a2 x7_1 x8_1 (l0.length : Int) x14_1 x28_8 ((rd_T73 l0 x14_1).f0) ((rd_T73 l0 x14_1).f1) = some r) ∧ Aside0 (kq ≤ k1) ∧ Aside0 (Kd.R k73 73 wc w.heap.size (fun k_ => k_ ≠ gb194) u7 x7_1) ∧ Aside0 (wc.heap[gb194]? = some (.cells #[.int .i64 ((rd_T73 l0 x14_1).f0), .int .i64 ((rd_T73 l0 x14_1).f1)] 73 (0, 0))) ∧ Aside0 (Below w.heap.size w wc))
 case first =>
  skip
  {
 have H := HC9.out
 clear HC9
 by_cases c12 : x8_1 = true
 {
 subst c12
 have H1 : (spec_l05Read.j1 k1 l0 a1 a2 x7_1 true (l0.length : Int) x14_1 false ((rd_T73 l0 x14_1).f0) ((rd_T73 l0 x14_1).f1)) = some r := by rw [if_pos rfl] at H; exact H
 clear H
 have H := H1
 clear H1
 have H' := A_ H
 clear H
 go_wp2
 go_meet
 case rel => exact ⟨_, (false), s1_, H', ⟨by have := HK1.out; first | omega | exact Nat.le_refl _⟩, ⟨by refine b2_ ?_; exact Kd.R_mono (Kd.R_far (p := ⟨gb194, 1, none⟩) (Kd.R_far (p := ⟨gb194, 0, none⟩) (Kd.R_mono HO_7.out (fun k_ hk => (⟨hk, hk.2⟩ : _ ∧ k_ ≠ gb194))) (fun _ hk => hk.2) (.int .i64 ((rd_T73 l0 x14_1).f0))) (fun _ hk => hk.2) (.int .i64 ((rd_T73 l0 x14_1).f1))) (fun _ hk => hk.1.2)⟩, ⟨by refine b1_ ?_; refine blk_put (cs := #[.int .i64 ((rd_T73 l0 x14_1).f0), .int .i64 0]) ?_ 1 _ rfl; refine b1_ ?_; refine blk_put (cs := #[.int .i64 0, .int .i64 0]) ?_ 0 _ rfl; refine b1_ ?_; exact BK194.out⟩, ⟨by repeat (first | (with_reducible first | exact HB.out | apply below_alloc | apply pw_below_drewN | apply below_drew1 | refine below_set ?_ GE194.out) | exact HB.out)⟩⟩}
 {
 replace c12 := Bool.eq_false_iff.mpr c12
 subst c12
 have H1 : (spec_l05Read.j1 k1 l0 a1 a2 x7_1 false (l0.length : Int) x14_1 (decide (((rd_T73 l0 x14_1).f0) ≥ a1)) ((rd_T73 l0 x14_1).f0) ((rd_T73 l0 x14_1).f1)) = some r := by rw [if_neg (show ¬ (false = true) by decide)] at H; exact H
 clear H
 have H := H1
 clear H1
 have H' := A_ H
 clear H
 have hcz13_0 := c1_ BK194 0 (.int .i64 0)
 have hcz13_1 := c1_ BK194 1 (.int .i64 0)
 have hfz13_0 := f1_ BK194 0
 have hfz13_1 := f1_ BK194 1
 go_wp2
 go_meet
 case rel => exact ⟨_, (decide (((rd_T73 l0 x14_1).f0) ≥ a1)), s1_, H', ⟨by have := HK1.out; first | omega | exact Nat.le_refl _⟩, ⟨by refine b2_ ?_; exact Kd.R_mono (Kd.R_far (p := ⟨gb194, 1, none⟩) (Kd.R_far (p := ⟨gb194, 0, none⟩) (Kd.R_mono HO_7.out (fun k_ hk => (⟨hk, hk.2⟩ : _ ∧ k_ ≠ gb194))) (fun _ hk => hk.2) (.int .i64 ((rd_T73 l0 x14_1).f0))) (fun _ hk => hk.2) (.int .i64 ((rd_T73 l0 x14_1).f1))) (fun _ hk => hk.1.2)⟩, ⟨by refine b1_ ?_; refine blk_put (cs := #[.int .i64 ((rd_T73 l0 x14_1).f0), .int .i64 0]) ?_ 1 _ rfl; refine b1_ ?_; refine blk_put (cs := #[.int .i64 0, .int .i64 0]) ?_ 0 _ rfl; refine b1_ ?_; exact BK194.out⟩, ⟨by repeat (first | (with_reducible first | exact HB.out | apply below_alloc | apply pw_below_drewN | apply below_drew1 | refine below_set ?_ GE194.out) | exact HB.out)⟩⟩}}
 case rest =>
  skip
  {
 clear HC9
 try clear c1
 try clear p1
 try clear q1
 try clear hx1
 try clear p2
 try clear c6
 try clear c6b0
 try clear c7
 try clear c7b0
 try clear c8
 try clear c8b0
 try clear c12
 try clear hcz11_0
 try clear hcz11_1
 try clear hcz13_0
 try clear hcz13_1
 try clear hfz11_0
 try clear hfz11_1
 try clear hfz13_0
 try clear hfz13_1
 try clear hx193_0
 try clear hx193_1
 try clear p193
 try clear p2
 try clear q193
 obtain ⟨kq, x28_8, rfl, HA, HJ8, HO_7, BK194, HB⟩ := hcut
 cases kq with
 | zero => exact absurd HA.out (by simp [spec_l05Read.j1])
 | succ kj8 =>
  skip
  {
 have H := HA.out
 clear HA
 simp only [spec_l05Read.j1] at H
 by_cases c14 : x28_8 = true
 {
 subst c14
 have H1 : (if ((rd_T73 l0 x14_1).f0) = a1 then ((spec_l00Max.f ((rd_T73 l0 x14_1).f1) a2).bind fun t195 => (if x7_1.length < 8796093022208 then (spec_l05Read.l0 kj8 l0 a1 a2 (x7_1 ++ [(⟨((rd_T73 l0 x14_1).f0), t195⟩ : S73)]) true (l0.length : Int) (wrap64 (x14_1 + 1))) else (none))) else (if x7_1.length < 8796093022208 then ((some (x7_1 ++ [(⟨a1, a2⟩ : S73)] : List (S73))).bind fun y199 => (if y199.length < 8796093022208 then (spec_l05Read.l0 kj8 l0 a1 a2 (y199 ++ [(⟨((rd_T73 l0 x14_1).f0), ((rd_T73 l0 x14_1).f1)⟩ : S73)]) true (l0.length : Int) (wrap64 (x14_1 + 1))) else (none))) else (none))) = some r := by rw [if_pos rfl] at H; exact H
 clear H
 have H := H1
 clear H1
 by_cases c15 : ((rd_T73 l0 x14_1).f0) = a1
 {
 rw [if_pos c15] at H
 have c15b0 : (((rd_T73 l0 x14_1).f0) == a1) = true := beq_iff_eq.mpr c15
 have c15b1 : (((rd_T73 l0 x14_1).f0) != a1) = false := bne_eq_false_iff_eq.mpr c15
 clear c15
 replace H := Option.bind_eq_some_iff.mp H
 obtain ⟨t195, A160, H⟩ := H
 replace H : (if x7_1.length < 8796093022208 then (spec_l05Read.l0 kj8 l0 a1 a2 (x7_1 ++ [(⟨((rd_T73 l0 x14_1).f0), t195⟩ : S73)]) true (l0.length : Int) (wrap64 (x14_1 + 1))) else (none)) = some r := H
 have A16 := A_ A160
 clear A160
 by_cases c17 : x7_1.length < 8796093022208
 {
 rw [if_pos c17] at H
 have LMc17 := A_ c17
 clear c17
 obtain ⟨y196, hy196⟩ : ∃ y_ : List (S73), y_ = (x7_1 ++ [(⟨((rd_T73 l0 x14_1).f0), t195⟩ : S73)]) := ⟨_, rfl⟩
 replace H : (spec_l05Read.l0 kj8 l0 a1 a2 y196 true (l0.length : Int) (wrap64 (x14_1 + 1))) = some r := by first | (rw [hy196]; with_reducible exact H) | (have H2_ := (Option.bind_some _ _).symm.trans H; rw [hy196]; with_reducible exact H2_) | (have H2_ := (Option.bind_some _ _).symm.trans H; with_reducible exact H2_) | with_reducible exact H | (rw [hy196]; exact H) | exact H
 have Ny196 := A_ hy196
 clear hy196
 have H' := A_ H
 clear H
 have hcz18_0 := c1_ BK194 0 (.int .i64 ((rd_T73 l0 x14_1).f0))
 have hcz18_1 := c1_ BK194 1 (.int .i64 ((rd_T73 l0 x14_1).f1))
 have hfz18_0 := f1_ BK194 0
 have hfz18_1 := f1_ BK194 1
 go_wp2_with (first | ((with_reducible refine gate_callee (f := 108) rfl ?_); refine goesL_ (some 36) rfl rfl Try.func108 (by kernel_rfl) rfl #[.int .i64 ((rd_T73 l0 x14_1).f1), .int .i64 a2] rfl (by (try simp only [List.map_toArray, List.map_cons, List.map_nil]); first | done | rfl | (simp only [List.length_drop, List.length_take]; rfl)) ?_; (with_reducible refine (spec_l00Max.calls ((rd_T73 l0 x14_1).f1) a2 t195 _ A16.out).mono ?_); rintro e w' ⟨rfl, ⟨nd, rfl⟩⟩; refine ⟨_, rfl, ?_⟩; (try (rw [drewN_self wc]; generalize hq_ : World.drewN wc _ = wc; have n0_ : Aside0 (Kd.R k73 73 wc w.heap.size (fun k_ => k_ ≠ gb194) u7 x7_1) := ⟨by rw [← hq_]; exact (b2_ HO_7.out)⟩; have n1_ : Aside0 (wc.heap[gb194]? = some (.cells #[.int .i64 ((rd_T73 l0 x14_1).f0), .int .i64 ((rd_T73 l0 x14_1).f1)] 73 (0, 0))) := ⟨by rw [← hq_]; exact (b1_ BK194.out)⟩; have n2_ : Aside0 (Below w.heap.size w wc) := ⟨by rw [← hq_]; exact (y1_ HB.out)⟩; clear HO_7 BK194 HB hq_; have HO_7 := n0_; have BK194 := n1_; have HB := n2_; clear n0_ n1_ n2_)); have hcz19_0 := c1_ BK194 0 (.int .i64 ((rd_T73 l0 x14_1).f0)); have hcz19_1 := c1_ BK194 1 (.int .i64 ((rd_T73 l0 x14_1).f1)); have hfz19_0 := f1_ BK194 0; have hfz19_1 := f1_ BK194 1) | ((with_reducible refine gate_builtin (b := .append) (xs := #[.tmp 44, .tmp 46]) rfl ?_); at_builtin; refine Kd.R_append k73 (w0 := w) w.heap.size rfl (.tmp 44) (.tmp 46) 25 73 (.agg #[(.int .i64 0), (.int .i64 0)]) 16 rfl Try.underlying25 info73 rfl (by decide) (by omega) u7 x7_1 (⟨((rd_T73 l0 x14_1).f0), t195⟩ : S73) [.int .i64 ((rd_T73 l0 x14_1).f0), .int .i64 t195] (fun k_ => k_ ≠ gb194) (fun _ => False) rfl (by first | (go_simp; done) | (go_simp; rfl)) ?aP (fun _ hk => hk.elim) ?aF ?aO ?aB ?aS ?aL ?_; (case aP => exact k73_mkM _ _ _ (⟨((rd_T73 l0 x14_1).f0), t195⟩ : S73)); (case aB => exact (by repeat (first | (with_reducible first | exact HB.out | apply below_alloc | apply pw_below_drewN | apply below_drew1 | refine below_set ?_ GE194.out) | exact HB.out))); (case aF => exact (fun k_ hk => Kd.freshB (g := gb194) (o := .cells #[.int .i64 ((rd_T73 l0 x14_1).f0), .int .i64 t195] 73 (0, 0)) (by refine b1_ ?_; refine blk_put (cs := #[.int .i64 ((rd_T73 l0 x14_1).f0), .int .i64 ((rd_T73 l0 x14_1).f1)]) ?_ 1 _ rfl; refine b1_ ?_; exact BK194.out) k_ hk)); (case aO => exact (by refine b2_ ?_; exact Kd.R_mono (Kd.R_far (p := ⟨gb194, 1, none⟩) (Kd.R_mono HO_7.out (fun k_ hk => (⟨hk, hk⟩ : _ ∧ k_ ≠ gb194))) (fun _ hk => hk.2) (.int .i64 t195)) (fun _ hk => hk.1))); (case aS => exact (below_size (by repeat (first | (with_reducible first | exact HB.out | apply below_alloc | apply pw_below_drewN | apply below_drew1 | refine below_set ?_ GE194.out) | exact HB.out)))); (case aL => have := LMc17.out; omega); intro v197 w20 ho hb hg hat; rw [← Ny196.out] at ho; replace BK194 := A_ (blk_grown (g := gb194) (o := .cells #[.int .i64 ((rd_T73 l0 x14_1).f0), .int .i64 t195] 73 (0, 0)) (by refine b1_ ?_; refine blk_put (cs := #[.int .i64 ((rd_T73 l0 x14_1).f0), .int .i64 ((rd_T73 l0 x14_1).f1)]) ?_ 1 _ rfl; refine b1_ ?_; exact BK194.out) hg (Kd.R_away HO_7.out (fun _ hk => hk))); replace HB := A_ (hb); have HO198 := A_ (ho); clear HO_7; clear ho hb hg hat))
 go_roundg kj8
 case measure => have := HK1.out; have := HJ8.out; omega
 case rel => exact ⟨(y196), (true), (wrap64 (x14_1 + 1)), s1_, s1_, H', ⟨by have := HK1.out; have := HJ8.out; omega⟩, ⟨by refine b2_ ?_; exact Kd.R_mono HO198.out (fun _ hk => trivial)⟩, ⟨y1_ HB.out⟩⟩}
 {
 rw [if_neg c17] at H
 exact absurd H (by simp)}}
 {
 rw [if_neg c15] at H
 have c15b0 : (((rd_T73 l0 x14_1).f0) == a1) = false := beq_eq_false_iff_ne.mpr c15
 have c15b1 : (((rd_T73 l0 x14_1).f0) != a1) = true := bne_iff_ne.mpr c15
 by_cases c21 : x7_1.length < 8796093022208
 {
 rw [if_pos c21] at H
 have LMc21 := A_ c21
 clear c21
 obtain ⟨y199, hy199⟩ : ∃ y_ : List (S73), y_ = (x7_1 ++ [(⟨a1, a2⟩ : S73)]) := ⟨_, rfl⟩
 replace H : (if y199.length < 8796093022208 then (spec_l05Read.l0 kj8 l0 a1 a2 (y199 ++ [(⟨((rd_T73 l0 x14_1).f0), ((rd_T73 l0 x14_1).f1)⟩ : S73)]) true (l0.length : Int) (wrap64 (x14_1 + 1))) else (none)) = some r := by first | (rw [hy199]; with_reducible exact H) | (have H2_ := (Option.bind_some _ _).symm.trans H; rw [hy199]; with_reducible exact H2_) | (have H2_ := (Option.bind_some _ _).symm.trans H; with_reducible exact H2_) | with_reducible exact H | (rw [hy199]; exact H) | exact H
 have Ny199 := A_ hy199
 clear hy199
 by_cases c22 : y199.length < 8796093022208
 {
 rw [if_pos c22] at H
 have LMc22 := A_ c22
 clear c22
 obtain ⟨y202, hy202⟩ : ∃ y_ : List (S73), y_ = (y199 ++ [(⟨((rd_T73 l0 x14_1).f0), ((rd_T73 l0 x14_1).f1)⟩ : S73)]) := ⟨_, rfl⟩
 replace H : (spec_l05Read.l0 kj8 l0 a1 a2 y202 true (l0.length : Int) (wrap64 (x14_1 + 1))) = some r := by first | (rw [hy202]; with_reducible exact H) | (have H2_ := (Option.bind_some _ _).symm.trans H; rw [hy202]; with_reducible exact H2_) | (have H2_ := (Option.bind_some _ _).symm.trans H; with_reducible exact H2_) | with_reducible exact H | (rw [hy202]; exact H) | exact H
 have Ny202 := A_ hy202
 clear hy202
 have H' := A_ H
 clear H
 have hcz23_0 := c1_ BK194 0 (.int .i64 ((rd_T73 l0 x14_1).f0))
 have hcz23_1 := c1_ BK194 1 (.int .i64 ((rd_T73 l0 x14_1).f1))
 have hfz23_0 := f1_ BK194 0
 have hfz23_1 := f1_ BK194 1
 go_wp2_with (first | ((with_reducible refine gate_builtin (b := .append) (xs := #[.tmp 38, .tmp 42]) rfl ?_); at_builtin; refine Kd.R_append k73 (w0 := w) w.heap.size rfl (.tmp 38) (.tmp 42) 25 73 (.agg #[(.int .i64 0), (.int .i64 0)]) 16 rfl Try.underlying25 info73 rfl (by decide) (by omega) u7 x7_1 (⟨a1, a2⟩ : S73) [.int .i64 a1, .int .i64 a2] (fun k_ => k_ ≠ gb194) (fun _ => False) rfl rfl ?aP (fun _ hk => hk.elim) ?aF ?aO ?aB ?aS ?aL ?_; (case aP => exact k73_mkM _ _ _ (⟨a1, a2⟩ : S73)); (case aB => exact (y1_ HB.out)); (case aF => exact (fun k_ hk => Kd.freshB (g := gb194) (o := .cells #[.int .i64 ((rd_T73 l0 x14_1).f0), .int .i64 ((rd_T73 l0 x14_1).f1)] 73 (0, 0)) (b1_ BK194.out) k_ hk)); (case aO => exact (b2_ HO_7.out)); (case aS => exact (below_size (y1_ HB.out))); (case aL => have := LMc21.out; omega); intro v200 w24 ho hb hg hat; rw [← Ny199.out] at ho; replace BK194 := A_ (blk_grown (g := gb194) (o := .cells #[.int .i64 ((rd_T73 l0 x14_1).f0), .int .i64 ((rd_T73 l0 x14_1).f1)] 73 (0, 0)) (b1_ BK194.out) hg (Kd.R_away HO_7.out (fun _ hk => hk))); replace HB := A_ (hb); have HO201 := A_ (ho); clear HO_7; clear ho hb hg hat; have hcz25_0 := c1_ BK194 0 (.int .i64 ((rd_T73 l0 x14_1).f0)); have hcz25_1 := c1_ BK194 1 (.int .i64 ((rd_T73 l0 x14_1).f1)); have hfz25_0 := f1_ BK194 0; have hfz25_1 := f1_ BK194 1) | ((with_reducible refine gate_builtin (b := .append) (xs := #[.tmp 44, .tmp 46]) rfl ?_); at_builtin; refine Kd.R_append k73 (w0 := w) w.heap.size rfl (.tmp 44) (.tmp 46) 25 73 (.agg #[(.int .i64 0), (.int .i64 0)]) 16 rfl Try.underlying25 info73 rfl (by decide) (by omega) v200 y199 (⟨((rd_T73 l0 x14_1).f0), ((rd_T73 l0 x14_1).f1)⟩ : S73) [.int .i64 ((rd_T73 l0 x14_1).f0), .int .i64 ((rd_T73 l0 x14_1).f1)] (fun k_ => k_ ≠ gb194) (fun _ => False) rfl rfl ?aP (fun _ hk => hk.elim) ?aF ?aO ?aB ?aS ?aL ?_; (case aP => exact k73_mkM _ _ _ (⟨((rd_T73 l0 x14_1).f0), ((rd_T73 l0 x14_1).f1)⟩ : S73)); (case aB => exact (y1_ HB.out)); (case aF => exact (fun k_ hk => Kd.freshB (g := gb194) (o := .cells #[.int .i64 ((rd_T73 l0 x14_1).f0), .int .i64 ((rd_T73 l0 x14_1).f1)] 73 (0, 0)) (b1_ BK194.out) k_ hk)); (case aO => exact (b2_ HO201.out)); (case aS => exact (below_size (y1_ HB.out))); (case aL => have := LMc22.out; omega); intro v203 w26 ho hb hg hat; rw [← Ny202.out] at ho; replace BK194 := A_ (blk_grown (g := gb194) (o := .cells #[.int .i64 ((rd_T73 l0 x14_1).f0), .int .i64 ((rd_T73 l0 x14_1).f1)] 73 (0, 0)) (b1_ BK194.out) hg (Kd.R_away HO201.out (fun _ hk => hk))); replace HB := A_ (hb); have HO204 := A_ (ho); clear HO201; clear ho hb hg hat))
 go_roundg kj8
 case measure => have := HK1.out; have := HJ8.out; omega
 case rel => exact ⟨(y202), (true), (wrap64 (x14_1 + 1)), s1_, s1_, H', ⟨by have := HK1.out; have := HJ8.out; omega⟩, ⟨by refine b2_ ?_; exact Kd.R_mono HO204.out (fun _ hk => trivial)⟩, ⟨y1_ HB.out⟩⟩}
 {
 rw [if_neg c22] at H
 exact absurd H (by simp)}}
 {
 rw [if_neg c21] at H
 exact absurd H (by simp)}}}
 {
 replace c14 := Bool.eq_false_iff.mpr c14
 subst c14
 have H1 : (if x7_1.length < 8796093022208 then (spec_l05Read.l0 kj8 l0 a1 a2 (x7_1 ++ [(⟨((rd_T73 l0 x14_1).f0), ((rd_T73 l0 x14_1).f1)⟩ : S73)]) x8_1 (l0.length : Int) (wrap64 (x14_1 + 1))) else (none)) = some r := by rw [if_neg (show ¬ (false = true) by decide)] at H; exact H
 clear H
 have H := H1
 clear H1
 by_cases c27 : x7_1.length < 8796093022208
 {
 rw [if_pos c27] at H
 have LMc27 := A_ c27
 clear c27
 obtain ⟨y205, hy205⟩ : ∃ y_ : List (S73), y_ = (x7_1 ++ [(⟨((rd_T73 l0 x14_1).f0), ((rd_T73 l0 x14_1).f1)⟩ : S73)]) := ⟨_, rfl⟩
 replace H : (spec_l05Read.l0 kj8 l0 a1 a2 y205 x8_1 (l0.length : Int) (wrap64 (x14_1 + 1))) = some r := by first | (rw [hy205]; with_reducible exact H) | (have H2_ := (Option.bind_some _ _).symm.trans H; rw [hy205]; with_reducible exact H2_) | (have H2_ := (Option.bind_some _ _).symm.trans H; with_reducible exact H2_) | with_reducible exact H | (rw [hy205]; exact H) | exact H
 have Ny205 := A_ hy205
 clear hy205
 have H' := A_ H
 clear H
 have hcz28_0 := c1_ BK194 0 (.int .i64 ((rd_T73 l0 x14_1).f0))
 have hcz28_1 := c1_ BK194 1 (.int .i64 ((rd_T73 l0 x14_1).f1))
 have hfz28_0 := f1_ BK194 0
 have hfz28_1 := f1_ BK194 1
 go_wp2_with (first | ((with_reducible refine gate_builtin (b := .append) (xs := #[.tmp 44, .tmp 46]) rfl ?_); at_builtin; refine Kd.R_append k73 (w0 := w) w.heap.size rfl (.tmp 44) (.tmp 46) 25 73 (.agg #[(.int .i64 0), (.int .i64 0)]) 16 rfl Try.underlying25 info73 rfl (by decide) (by omega) u7 x7_1 (⟨((rd_T73 l0 x14_1).f0), ((rd_T73 l0 x14_1).f1)⟩ : S73) [.int .i64 ((rd_T73 l0 x14_1).f0), .int .i64 ((rd_T73 l0 x14_1).f1)] (fun k_ => k_ ≠ gb194) (fun _ => False) rfl rfl ?aP (fun _ hk => hk.elim) ?aF ?aO ?aB ?aS ?aL ?_; (case aP => exact k73_mkM _ _ _ (⟨((rd_T73 l0 x14_1).f0), ((rd_T73 l0 x14_1).f1)⟩ : S73)); (case aB => exact (y1_ HB.out)); (case aF => exact (fun k_ hk => Kd.freshB (g := gb194) (o := .cells #[.int .i64 ((rd_T73 l0 x14_1).f0), .int .i64 ((rd_T73 l0 x14_1).f1)] 73 (0, 0)) (b1_ BK194.out) k_ hk)); (case aO => exact (b2_ HO_7.out)); (case aS => exact (below_size (y1_ HB.out))); (case aL => have := LMc27.out; omega); intro v206 w29 ho hb hg hat; rw [← Ny205.out] at ho; replace BK194 := A_ (blk_grown (g := gb194) (o := .cells #[.int .i64 ((rd_T73 l0 x14_1).f0), .int .i64 ((rd_T73 l0 x14_1).f1)] 73 (0, 0)) (b1_ BK194.out) hg (Kd.R_away HO_7.out (fun _ hk => hk))); replace HB := A_ (hb); have HO207 := A_ (ho); clear HO_7; clear ho hb hg hat))
 go_roundg kj8
 case measure => have := HK1.out; have := HJ8.out; omega
 case rel => exact ⟨(y205), (x8_1), (wrap64 (x14_1 + 1)), s1_, s1_, H', ⟨by have := HK1.out; have := HJ8.out; omega⟩, ⟨by refine b2_ ?_; exact Kd.R_mono HO207.out (fun _ hk => trivial)⟩, ⟨y1_ HB.out⟩⟩}
 {
 rw [if_neg c27] at H
 exact absurd H (by simp)}}}}}
 {
 rw [if_neg c8] at H
 exact absurd H (by simp)}}
 {
 rw [if_neg c7] at H
 exact absurd H (by simp)}}
 {
 rw [if_neg c6] at H
 have c6b0 : decide (x14_1 < (l0.length : Int)) = false := decide_eq_false c6
 clear c6
 by_cases c30 : x8_1 = true
 {
 subst c30
 have H1 : (some x7_1) = some r := by rw [if_pos rfl] at H; exact H
 clear H
 have H := H1
 clear H1
 obtain rfl := Option.some.inj H
 go_wp2
 go_ret
 exact ⟨_, e1_, b2_ HO_7.out, y1_ HB.out⟩}
 {
 replace c30 := Bool.eq_false_iff.mpr c30
 subst c30
 have H1 : (if x7_1.length < 8796093022208 then (some (x7_1 ++ [(⟨a1, a2⟩ : S73)])) else (none)) = some r := by rw [if_neg (show ¬ (false = true) by decide)] at H; exact H
 clear H
 have H := H1
 clear H1
 by_cases c31 : x7_1.length < 8796093022208
 {
 rw [if_pos c31] at H
 have LMc31 := A_ c31
 clear c31
 obtain ⟨y190, hy190⟩ : ∃ y_ : List (S73), y_ = (x7_1 ++ [(⟨a1, a2⟩ : S73)]) := ⟨_, rfl⟩
 replace H : (some y190) = some r := by first | (rw [hy190]; with_reducible exact H) | (have H2_ := (Option.bind_some _ _).symm.trans H; rw [hy190]; with_reducible exact H2_) | (have H2_ := (Option.bind_some _ _).symm.trans H; with_reducible exact H2_) | with_reducible exact H | (rw [hy190]; exact H) | exact H
 have Ny190 := A_ hy190
 clear hy190
 obtain rfl := Option.some.inj H
 go_wp2_with (first | ((with_reducible refine gate_builtin (b := .append) (xs := #[.tmp 51, .tmp 55]) rfl ?_); at_builtin; refine Kd.R_append k73 (w0 := w) w.heap.size rfl (.tmp 51) (.tmp 55) 25 73 (.agg #[(.int .i64 0), (.int .i64 0)]) 16 rfl Try.underlying25 info73 rfl (by decide) (by omega) u7 x7_1 (⟨a1, a2⟩ : S73) [.int .i64 a1, .int .i64 a2] (fun _ => True) (fun _ => False) rfl rfl ?aP (fun _ hk => hk.elim) ?aF ?aO ?aB ?aS ?aL ?_; (case aP => exact k73_mkM _ _ _ (⟨a1, a2⟩ : S73)); (case aB => exact (y1_ HB.out)); (case aF => exact (fun _ _ => trivial)); (case aO => exact (b2_ HO_7.out)); (case aS => exact (below_size (y1_ HB.out))); (case aL => have := LMc31.out; omega); intro v191 w32 ho hb hg hat; rw [← Ny190.out] at ho; replace HB := A_ (hb); have HO192 := A_ (ho); clear HO_7; clear ho hb hg hat))
 go_ret
 exact ⟨_, e1_, b2_ HO192.out, y1_ HB.out⟩}
 {
 rw [if_neg c31] at H
 exact absurd H (by simp)}}}}}

/-! ### spec_l05ReadUp: function 76 -/
abbrev spec_l05ReadUp.T : Bool := true
abbrev spec_l05ReadUp.F : Bool := false
def spec_l05ReadUp.j0 : Nat → Int → Int → Bool → List (S63) → List (S63) → List (S73) → Option ((List (S63)) × (List (S63)) × (List (S73)) × Bool)
  | 0, _, _, _, _, _, _ => none
  | k + 1, x1, x2, x16, x1000, x1001, x1002 => if x16 = true then (some (([] : List (S63)), ([] : List (S63)), ([] : List (S73)), false)) else ((spec_l05Own.f x1000 x1001 x1002).bind fun bt211 => ((spec_l05Read.f k x1002 x1 x2).bind fun t221 => ((spec_l05Give.f k bt211.1 bt211.2.1 t221).bind fun bt224 => (some (bt224.1, bt224.2.1, bt224.2.2.1, bt224.2.2.2)))))
def spec_l05ReadUp.f (k : Nat) (l0_0 : List (S63)) (l0_1 : List (S63)) (l0_2 : List (S73)) (a1 : Int) (a2 : Int) : Option ((List (S63)) × (List (S63)) × (List (S73)) × Bool) := (spec_l01Member.f a1).bind fun t209 => (if t209 = true then ((spec_l00In.f a2 0 1000000000).bind fun t210 => (spec_l05ReadUp.j0 k a1 a2 (!t210) l0_0 l0_1 l0_2)) else (spec_l05ReadUp.j0 k a1 a2 true l0_0 l0_1 l0_2))
theorem spec_l05ReadUp.mono_l : ∀ k, (∀ y0 y1 y2 y3 y4 y5, LeO (spec_l05ReadUp.j0 k y0 y1 y2 y3 y4 y5) (spec_l05ReadUp.j0 (k + 1) y0 y1 y2 y3 y4 y5))
  | 0 => fun _ _ _ _ _ _ r h => by simp [spec_l05ReadUp.j0] at h
  | k + 1 => by
    have ih0 := spec_l05ReadUp.mono_l k
    · intro y0 y1 y2 y3 y4 y5
      unfold spec_l05ReadUp.j0
      repeat' first
      | (with_reducible exact ih0 _ _ _ _ _ _)
      | (with_reducible exact spec_l05Give.mono _ _ _ _)
      | (with_reducible exact spec_l05Read.mono _ _ _ _)
      | (with_reducible exact LeO.refl _)
      | (with_reducible exact LeO.none _)
      | (with_reducible refine LeO.ite ?_ ?_)
      | (with_reducible refine LeO.bind ?_ (fun _ => ?_))
      | exact ih0 _ _ _ _ _ _
      | exact spec_l05Give.mono _ _ _ _
      | exact spec_l05Read.mono _ _ _ _
      | exact LeO.none _
      | refine LeO.ite ?_ ?_
      | refine LeO.bind ?_ (fun _ => ?_)
theorem spec_l05ReadUp.mono : ∀ a0 a1 a2 a3 a4 k, LeO (spec_l05ReadUp.f k a0 a1 a2 a3 a4) (spec_l05ReadUp.f (k + 1) a0 a1 a2 a3 a4) := by
  intro a0 a1 a2 a3 a4 k
  have ih0 := spec_l05ReadUp.mono_l k
  unfold spec_l05ReadUp.f
  repeat' first
      | (with_reducible exact ih0 _ _ _ _ _ _)
      | (with_reducible exact spec_l05Give.mono _ _ _ _)
      | (with_reducible exact spec_l05Read.mono _ _ _ _)
      | (with_reducible exact LeO.refl _)
      | (with_reducible exact LeO.none _)
      | (with_reducible refine LeO.ite ?_ ?_)
      | (with_reducible refine LeO.bind ?_ (fun _ => ?_))
      | exact ih0 _ _ _ _ _ _
      | exact spec_l05Give.mono _ _ _ _
      | exact spec_l05Read.mono _ _ _ _
      | exact LeO.none _
      | refine LeO.ite ?_ ?_
      | refine LeO.bind ?_ (fun _ => ?_)
set_option maxHeartbeats 8000000 in
set_option maxRecDepth 100000 in
theorem spec_l05ReadUp.calls (k : Nat) (g0_ : Nat) (A0_0 : Option Addr) (c0_0 : Nat) (l0_0 : List (S63)) (A0_1 : Option Addr) (c0_1 : Nat) (l0_1 : List (S63)) (A0_2 : Option Addr) (c0_2 : Nat) (l0_2 : List (S73)) (a1 : Int) (a2 : Int) (r1 : List (S63)) (r2 : List (S63)) (r3 : List (S73)) (r4 : Bool) (w : World) (hbk0 : w.heap[g0_]? = some (.cells #[.slice A0_0 l0_0.length c0_0, .slice A0_1 l0_1.length c0_1, .slice A0_2 l0_2.length c0_2] 27 (0, 0))) (hr0_0 : Kd.C k63 w A0_0 l0_0.length l0_0) (hc0_0 : l0_0.length ≤ c0_0) (hr0_1 : Kd.C k63 w A0_1 l0_1.length l0_1) (hc0_1 : l0_1.length ≤ c0_1) (hr0_2 : Kd.C k73 w A0_2 l0_2.length l0_2) (hc0_2 : l0_2.length ≤ c0_2) (h : spec_l05ReadUp.f k l0_0 l0_1 l0_2 a1 a2 = some (r1, r2, r3, r4)) :
    Calls Try.prog 76 #[.pointer (some ⟨g0_, 0, none⟩), .int .i64 a1, .int .i64 a2] w fun e w' => ∃ v0_ v1_ v2_ : Value, e = .returned (.tuple #[.agg #[v0_, v1_, v2_], .bool r4]) ∧ Kd.R k63 63 w' w.heap.size (fun k_ => some k_ ≠ (v1_ : Value).ownBlock) v0_ r1 ∧ Kd.R k63 63 w' w.heap.size (fun k_ => some k_ ≠ (v0_ : Value).ownBlock) v1_ r2 ∧ Kd.R k73 73 w' w.heap.size (fun _ => True) v2_ r3 ∧ Below w.heap.size w w' := by
 have hu27 := Try.underlying27
 have HR0_0 := A_ hr0_0
 have HC0_0 := A_ hc0_0
 clear hr0_0 hc0_0
 have HR0_1 := A_ hr0_1
 have HC0_1 := A_ hc0_1
 clear hr0_1 hc0_1
 have HR0_2 := A_ hr0_2
 have HC0_2 := A_ hc0_2
 clear hr0_2 hc0_2
 have BK0 := A_ hbk0
 clear hbk0
 have HB := A_ (Below.refl w.heap.size w)
 have H : ((spec_l01Member.f a1).bind fun t209 => (if t209 = true then ((spec_l00In.f a2 0 1000000000).bind fun t210 => (spec_l05ReadUp.j0 k a1 a2 (!t210) l0_0 l0_1 l0_2)) else (spec_l05ReadUp.j0 k a1 a2 true l0_0 l0_1 l0_2))) = some (r1, r2, r3, r4) := h
 clear h
 have HC4 := A_ H
 clear H
 go_enter Try.func76, Try.ntmps76
 go_upto_region 1 with (first | ((with_reducible refine gate_dst (N := 6) rfl ?_); refine box_event ?hg (N := 6) ?hd (cs := #[.slice none 0 0, .slice none 0 0, .slice none 0 0]) (t := 27) ?hr ?_; (case hd => rfl); (case hg => rfl); (case hr => first | (go_simp; done) | (go_simp; rfl)); intro gb208 hg w5 hbox hb; have GW208 := b6_ hg HB; have GE208 := b6_ hg HB; have NB0_208 := b4_ hg BK0; have NB208_0 := b5_ hg BK0; replace BK0 := b3_ BK0 hb; replace HB := A_ (below_step (y1_ HB.out) hb); have BK208 := A_ (hbox); clear hb hbox hg))
 (try simp only [Act.put, List.setIfInBounds_toArray, List.set_cons_zero, List.set_cons_succ])
 go_cut [16] (fun v16 wc => ∃ (kq : Nat) (x16_3 : Bool), v16 = .bool x16_3 ∧ Aside0 (spec_l05ReadUp.j0 kq a1 a2 x16_3 l0_0 l0_1 l0_2 = some (r1, r2, r3, r4)) ∧ Aside0 (kq ≤ k) ∧ Aside0 (wc.heap[g0_]? = some (.cells #[(.slice A0_0 l0_0.length c0_0), (.slice A0_1 l0_1.length c0_1), (.slice A0_2 l0_2.length c0_2)] 27 (0, 0))) ∧ Aside0 (wc.heap[gb208]? = some (.cells #[(.slice none 0 0), (.slice none 0 0), (.slice none 0 0)] 27 (0, 0))) ∧ Aside0 (Below w.heap.size w wc))
 case first =>
  skip
  {
 have H := HC4.out
 clear HC4
 replace H := Option.bind_eq_some_iff.mp H
 obtain ⟨t209, A60, H⟩ := H
 replace H : (if t209 = true then ((spec_l00In.f a2 0 1000000000).bind fun t210 => (spec_l05ReadUp.j0 k a1 a2 (!t210) l0_0 l0_1 l0_2)) else (spec_l05ReadUp.j0 k a1 a2 true l0_0 l0_1 l0_2)) = some (r1, r2, r3, r4) := H
 have A6 := A_ A60
 clear A60
 by_cases c7 : t209 = true
 {
 subst c7
 have H1 : ((spec_l00In.f a2 0 1000000000).bind fun t210 => (spec_l05ReadUp.j0 k a1 a2 (!t210) l0_0 l0_1 l0_2)) = some (r1, r2, r3, r4) := by rw [if_pos rfl] at H; exact H
 clear H
 have H := H1
 clear H1
 replace H := Option.bind_eq_some_iff.mp H
 obtain ⟨t210, A80, H⟩ := H
 replace H : (spec_l05ReadUp.j0 k a1 a2 (!t210) l0_0 l0_1 l0_2) = some (r1, r2, r3, r4) := H
 have A8 := A_ A80
 clear A80
 have H' := A_ H
 clear H
 go_wp2_with (first | ((with_reducible refine gate_callee (f := 98) rfl ?_); refine goesL_ (some 10) rfl rfl Try.func98 s2_ rfl #[.int .i64 a1] rfl s3_ ?_; (with_reducible refine (spec_l01Member.calls a1 true _ A6.out).mono ?_); rintro e w' ⟨rfl, ⟨nd, rfl⟩⟩; refine ⟨_, rfl, ?_⟩) | (go_at_call 99; (with_reducible refine (spec_l00In.calls a2 0 1000000000 t210 _ A8.out).mono ?_); rintro e w' ⟨rfl, ⟨nd, rfl⟩⟩))
 go_meet
 case rel => exact ⟨_, (!t210), (by first | rfl | (simp; done) | (simp [*]; done)), H', ⟨by first | omega | exact Nat.le_refl _⟩, ⟨b1_ BK0.out⟩, ⟨b1_ BK208.out⟩, ⟨y1_ HB.out⟩⟩}
 {
 replace c7 := Bool.eq_false_iff.mpr c7
 subst c7
 have H1 : (spec_l05ReadUp.j0 k a1 a2 true l0_0 l0_1 l0_2) = some (r1, r2, r3, r4) := by rw [if_neg (show ¬ (false = true) by decide)] at H; exact H
 clear H
 have H := H1
 clear H1
 have H' := A_ H
 clear H
 go_wp2_with (first | ((with_reducible refine gate_callee (f := 98) rfl ?_); refine goesL_ (some 10) rfl rfl Try.func98 s2_ rfl #[.int .i64 a1] rfl s3_ ?_; (with_reducible refine (spec_l01Member.calls a1 false _ A6.out).mono ?_); rintro e w' ⟨rfl, ⟨nd, rfl⟩⟩; refine ⟨_, rfl, ?_⟩))
 go_meet
 case rel => exact ⟨_, (true), (by first | rfl | (simp; done) | (simp [*]; done)), H', ⟨by first | omega | exact Nat.le_refl _⟩, ⟨b1_ BK0.out⟩, ⟨b1_ BK208.out⟩, ⟨y1_ HB.out⟩⟩}}
 case rest =>
  skip
  {
 clear HC4
 try clear p2
 try clear c7
 obtain ⟨kq, x16_3, rfl, HA, HJ3, BK0, BK208, HB⟩ := hcut
 cases kq with
 | zero => exact absurd HA.out (by simp [spec_l05ReadUp.j0])
 | succ kj3 =>
  skip
  {
 have H := HA.out
 clear HA
 simp only [spec_l05ReadUp.j0] at H
 by_cases c9 : x16_3 = true
 {
 subst c9
 have H1 : (some (([] : List (S63)), ([] : List (S63)), ([] : List (S73)), false)) = some (r1, r2, r3, r4) := by rw [if_pos rfl] at H; exact H
 clear H
 have H := H1
 clear H1
 simp only [Option.some.injEq, Prod.mk.injEq] at H
 obtain ⟨rfl, rfl, rfl, rfl⟩ := H
 have hnb10 := NB208_0.out
 have hnc10 := NB0_208.out
 have hcz11_0 := c1_ BK208 0 (.slice none 0 0)
 have hcz11_1 := c1_ BK208 1 (.slice none 0 0)
 have hcz11_2 := c1_ BK208 2 (.slice none 0 0)
 have hfz11_0 := f1_ BK208 0
 have hfz11_1 := f1_ BK208 1
 have hfz11_2 := f1_ BK208 2
 go_wp2
 refine bodyPost_ret (results_ct rfl _ _ gb208 27 #[.slice none 0 0, .slice none 0 0, .slice none 0 0] (0, 0) _ rfl (by refine b1_ ?_; refine blk_put3 (cs := #[.slice none 0 0, .slice none 0 0, .slice none 0 0]) ?_ rfl; refine b1_ ?_; exact BK208.out) Try.underlying27 rfl s2_) rfl ?_
 exact ⟨_, _, _, e1_, by first | exact Kd.R_nil _ _ _ _ _ | exact Kd.N_nil _ _ _ _ _ | exact Kd.V_nil _ _ _ _ _ | exact Kd.Q_nil _ _ _ _ _ | exact Kd.S_nil _ _ _ _ _, by first | exact Kd.R_nil _ _ _ _ _ | exact Kd.N_nil _ _ _ _ _ | exact Kd.V_nil _ _ _ _ _ | exact Kd.Q_nil _ _ _ _ _ | exact Kd.S_nil _ _ _ _ _, by first | exact Kd.R_nil _ _ _ _ _ | exact Kd.N_nil _ _ _ _ _ | exact Kd.V_nil _ _ _ _ _ | exact Kd.Q_nil _ _ _ _ _ | exact Kd.S_nil _ _ _ _ _, by repeat (first | (with_reducible first | exact HB.out | apply below_alloc | apply pw_below_drewN | apply below_drew1 | refine below_set ?_ GE208.out) | exact HB.out)⟩}
 {
 replace c9 := Bool.eq_false_iff.mpr c9
 subst c9
 have H1 : ((spec_l05Own.f l0_0 l0_1 l0_2).bind fun bt211 => ((spec_l05Read.f kj3 l0_2 a1 a2).bind fun t221 => ((spec_l05Give.f kj3 bt211.1 bt211.2.1 t221).bind fun bt224 => (some (bt224.1, bt224.2.1, bt224.2.2.1, bt224.2.2.2))))) = some (r1, r2, r3, r4) := by rw [if_neg (show ¬ (false = true) by decide)] at H; exact H
 clear H
 have H := H1
 clear H1
 replace H := Option.bind_eq_some_iff.mp H
 obtain ⟨⟨t211, t214, t217⟩, A120, H⟩ := H
 replace H : ((spec_l05Read.f kj3 l0_2 a1 a2).bind fun t221 => ((spec_l05Give.f kj3 t211 t214 t221).bind fun bt224 => (some (bt224.1, bt224.2.1, bt224.2.2.1, bt224.2.2.2)))) = some (r1, r2, r3, r4) := H
 have A12 := A_ A120
 clear A120
 replace H := Option.bind_eq_some_iff.mp H
 obtain ⟨t221, A130, H⟩ := H
 replace H : ((spec_l05Give.f kj3 t211 t214 t221).bind fun bt224 => (some (bt224.1, bt224.2.1, bt224.2.2.1, bt224.2.2.2))) = some (r1, r2, r3, r4) := H
 have A13 := A_ A130
 clear A130
 replace H := Option.bind_eq_some_iff.mp H
 obtain ⟨⟨t224, t227, t230, t233⟩, A140, H⟩ := H
 replace H : (some (t224, t227, t230, t233)) = some (r1, r2, r3, r4) := H
 have A14 := A_ A140
 clear A140
 simp only [Option.some.injEq, Prod.mk.injEq] at H
 obtain ⟨rfl, rfl, rfl, rfl⟩ := H
 go_wp2_with (first | ((with_reducible refine gate_callee (f := 62) rfl ?_); refine goesL_ (some 19) rfl rfl Try.func62 s2_ rfl #[.pointer (some ⟨g0_, 0, none⟩)] rfl s3_ ?_; (with_reducible refine (spec_l05Own.calls g0_ A0_0 c0_0 l0_0 A0_1 c0_1 l0_1 A0_2 c0_2 l0_2 t211 t214 t217 _ ?side1 ?side2 ?side3 ?side4 ?side5 ?side6 ?side7 A12.out).mono ?_); (case side1 => exact (b1_ BK0.out)); (case side2 => exact y2_ (Kd.C_below HR0_0.out HB.out)); (case side3 => exact HC0_0.out); (case side4 => exact y2_ (Kd.C_below HR0_1.out HB.out)); (case side5 => exact HC0_1.out); (case side6 => exact y2_ (Kd.C_below HR0_2.out HB.out)); (case side7 => exact HC0_2.out); rintro e w15 ⟨v212, v215, v218, rfl, ho0, ho1, ho2, hb⟩; refine ⟨_, rfl, ?_⟩; have HO213 := A_ (Kd.R_lower ho0 (below_size (y1_ HB.out))); have HO216 := A_ (Kd.R_lower ho1 (below_size (y1_ HB.out))); have HO219 := A_ (Kd.R_lower ho2 (below_size (y1_ HB.out))); replace BK0 := b3_ BK0 hb; replace BK208 := b3_ BK208 hb; replace HB := A_ (below_step (y1_ HB.out) hb); (try clear hb); (try clear hb2); (try clear hk); (try clear hi); (try clear ho0); (try clear ho1); (try clear ho2)) | ((with_reducible refine gate_dst (N := 8) rfl ?_); refine box_event ?hg (N := 8) ?hd (cs := #[.slice none 0 0, .slice none 0 0, .slice none 0 0]) (t := 27) ?hr ?_; (case hd => rfl); (case hg => rfl); (case hr => first | (go_simp; done) | (go_simp; rfl)); intro gb220 hg w16 hbox hb; have GW220 := b6_ hg HB; have GE220 := b6_ hg HB; have NB0_220 := b4_ hg BK0; have NB220_0 := b5_ hg BK0; have NB208_220 := b4_ hg BK208; have NB220_208 := b5_ hg BK208; replace HO213 := r1_ HO213 hb; replace HO216 := r1_ HO216 hb; replace HO219 := r1_ HO219 hb; replace BK0 := b3_ BK0 hb; replace BK208 := b3_ BK208 hb; replace HB := A_ (below_step (y1_ HB.out) hb); have BK220 := A_ (hbox); clear hb hbox hg; obtain ⟨Ao17, co17, eo17⟩ := Kd.R_slice HO213.out; subst eo17; have hnb18 := NB220_0.out; have hnc18 := NB0_220.out; have hnb19 := NB220_208.out; have hnc19 := NB208_220.out; have hcz20_0 := c1_ BK220 0 (.slice none 0 0); have hcz20_1 := c1_ BK220 1 (.slice none 0 0); have hcz20_2 := c1_ BK220 2 (.slice none 0 0); have hfz20_0 := f1_ BK220 0; have hfz20_1 := f1_ BK220 1; have hfz20_2 := f1_ BK220 2; obtain ⟨Ao21, co21, eo21⟩ := Kd.R_slice HO216.out; subst eo21; obtain ⟨Ao22, co22, eo22⟩ := Kd.R_slice HO219.out; subst eo22; have hnb23 := NB0_208.out; have hnc23 := NB208_0.out; have hcz24_0 := c1_ BK0 0 (.slice A0_0 l0_0.length c0_0); have hcz24_1 := c1_ BK0 1 (.slice A0_1 l0_1.length c0_1); have hcz24_2 := c1_ BK0 2 (.slice A0_2 l0_2.length c0_2); have hfz24_0 := f1_ BK0 0; have hfz24_1 := f1_ BK0 1; have hfz24_2 := f1_ BK0 2) | ((with_reducible refine gate_callee (f := 81) rfl ?_); refine goesL_ (some 26) rfl rfl Try.func81 s2_ rfl #[.slice A0_2 l0_2.length c0_2, .int .i64 a1, .int .i64 a2] rfl s3_ ?_; (with_reducible refine (spec_l05Read.calls kj3 _ _ l0_2 a1 a2 t221 _ ?side1 ?side2 A13.out).mono ?_); (case side1 => exact Kd.C_below HR0_2.out (by repeat (first | (with_reducible first | exact HB.out | apply below_alloc | apply pw_below_drewN | apply below_drew1 | refine below_set ?_ GE220.out) | exact HB.out))); (case side2 => exact HC0_2.out); rintro e w25 ⟨v222, rfl, ho0, hb⟩; refine ⟨_, rfl, ?_⟩; have n0_ := A_ (Kd.R_below (by refine b2_ ?_; exact (Kd.R_mono (Kd.R_far3 (g := gb220) (Kd.R_types HO213.out BK220.out (by decide)) (fun _ hk => hk.2)) (fun _ h_ => h_.1))) hb); have n1_ := A_ (Kd.R_below (by refine b2_ ?_; exact (Kd.R_mono (Kd.R_far3 (g := gb220) (Kd.R_types HO216.out BK220.out (by decide)) (fun _ hk => hk.2)) (fun _ h_ => h_.1))) hb); have n2_ := A_ (Kd.R_elder' (by refine b2_ ?_; exact (Kd.R_mono (Kd.R_far3 (g := gb220) (Kd.R_types HO219.out BK220.out (by decide)) (fun _ hk => hk.2)) (fun _ h_ => h_.1))) (Kd.R_base ho0) hb); have n3_ := A_ (Kd.R_lower (Kd.R_new' ho0 (Kd.R_lt (by refine b2_ ?_; exact (Kd.R_mono (Kd.R_far3 (g := gb220) (Kd.R_types HO219.out BK220.out (by decide)) (fun _ hk => hk.2)) (fun _ h_ => h_.1))))) (below_size (by repeat (first | (with_reducible first | exact HB.out | apply below_alloc | apply pw_below_drewN | apply below_drew1 | refine below_set ?_ GE220.out) | exact HB.out)))); have n4_ := A_ (blk_below (g := g0_) (o := .cells #[.slice A0_0 l0_0.length c0_0, .slice A0_1 l0_1.length c0_1, .slice A0_2 l0_2.length c0_2] 27 (0, 0)) (by refine b1_ ?_; refine blk_far3 ?_ NB0_220.out; refine b1_ ?_; exact BK0.out) hb); have n5_ := A_ (blk_below (g := gb208) (o := .cells #[.slice none 0 0, .slice none 0 0, .slice none 0 0] 27 (0, 0)) (by refine b1_ ?_; refine blk_far3 ?_ NB208_220.out; refine b1_ ?_; exact BK208.out) hb); have n6_ := A_ (blk_below (g := gb220) (o := .cells #[.slice Ao17 t211.length co17, .slice Ao21 t214.length co21, .slice Ao22 t217.length co22] 27 (0, 0)) (by refine b1_ ?_; refine blk_put3 (cs := #[.slice none 0 0, .slice none 0 0, .slice none 0 0]) ?_ rfl; refine b1_ ?_; exact BK220.out) hb); have n7_ := A_ (below_step (by repeat (first | (with_reducible first | exact HB.out | apply below_alloc | apply pw_below_drewN | apply below_drew1 | refine below_set ?_ GE220.out) | exact HB.out)) hb); clear HO213; clear HO216; clear HO219; clear BK0; clear BK208; clear BK220; clear HB; have HO213 := n0_; have HO216 := n1_; have HO219 := n2_; have HO223 := n3_; have BK0 := n4_; have BK208 := n5_; have BK220 := n6_; have HB := n7_; clear n0_ n1_ n2_ n3_ n4_ n5_ n6_ n7_; (try clear hb); (try clear hb2); (try clear hk); (try clear hi); (try clear ho0); obtain ⟨Ao26, co26, eo26⟩ := Kd.R_slice HO223.out; subst eo26; have hcz27_0 := c1_ BK220 0 (.slice Ao17 t211.length co17); have hcz27_1 := c1_ BK220 1 (.slice Ao21 t214.length co21); have hcz27_2 := c1_ BK220 2 (.slice Ao22 t217.length co22); have hfz27_0 := f1_ BK220 0; have hfz27_1 := f1_ BK220 1; have hfz27_2 := f1_ BK220 2) | ((with_reducible refine gate_store (t := 25) (p := 27) rfl ?_); refine store_event (t := 25) (p := 27) (v := ?vo_w28) (w1 := (w25.setCell ⟨gb220, 2, none⟩ (.slice Ao26 t221.length co26))) ?hg ?ho ?hn ?hr ?_; (case ho => rfl); (case hg => rfl); (case hn => rfl); (case hr => first | (go_simp; done) | (go_simp; rfl)); intro w28 hw; have n0_ : Aside0 (Kd.R k63 63 w28 w.heap.size (fun k_ => some k_ ≠ (.slice Ao21 t214.length co21 : Value).ownBlock) (.slice Ao17 t211.length co17) t211) := ⟨(by rw [hw]; exact (by refine b2_ ?_; exact Kd.R_mono (Kd.R_far (p := ⟨gb220, 2, none⟩) (Kd.R_types HO213.out BK220.out (by decide)) (fun _ hk => hk.2) (.slice Ao26 t221.length co26)) (fun _ hk => hk.1)))⟩; have n1_ : Aside0 (Kd.R k63 63 w28 w.heap.size (fun k_ => some k_ ≠ (.slice Ao17 t211.length co17 : Value).ownBlock) (.slice Ao21 t214.length co21) t214) := ⟨(by rw [hw]; exact (by refine b2_ ?_; exact Kd.R_mono (Kd.R_far (p := ⟨gb220, 2, none⟩) (Kd.R_types HO216.out BK220.out (by decide)) (fun _ hk => hk.2) (.slice Ao26 t221.length co26)) (fun _ hk => hk.1)))⟩; have n2_ : Aside0 (Kd.R k73 73 w28 w.heap.size (fun k_ => some k_ ≠ (.slice Ao26 t221.length co26 : Value).ownBlock) (.slice Ao22 t217.length co22) t217) := ⟨(by rw [hw]; exact (by refine b2_ ?_; exact Kd.R_mono (Kd.R_far (p := ⟨gb220, 2, none⟩) (Kd.R_types HO219.out BK220.out (by decide)) (fun _ hk => hk.2) (.slice Ao26 t221.length co26)) (fun _ hk => hk.1.2)))⟩; have n3_ : Aside0 (Kd.R k73 73 w28 w.heap.size (fun k_ => some k_ ≠ (.slice Ao22 t217.length co22 : Value).ownBlock) (.slice Ao26 t221.length co26) t221) := ⟨(by rw [hw]; exact (by refine b2_ ?_; exact Kd.R_mono (Kd.R_far (p := ⟨gb220, 2, none⟩) (Kd.R_types HO223.out BK220.out (by decide)) (fun _ hk => hk.2) (.slice Ao26 t221.length co26)) (fun _ hk => hk.1.2)))⟩; have n4_ : Aside0 (w28.heap[g0_]? = some (.cells #[.slice A0_0 l0_0.length c0_0, .slice A0_1 l0_1.length c0_1, .slice A0_2 l0_2.length c0_2] 27 (0, 0))) := ⟨(by rw [hw]; exact (by refine b1_ ?_; refine blk_far ?_ NB0_220.out _; refine b1_ ?_; exact BK0.out))⟩; have n5_ : Aside0 (w28.heap[gb208]? = some (.cells #[.slice none 0 0, .slice none 0 0, .slice none 0 0] 27 (0, 0))) := ⟨(by rw [hw]; exact (by refine b1_ ?_; refine blk_far ?_ NB208_220.out _; refine b1_ ?_; exact BK208.out))⟩; have n6_ : Aside0 (w28.heap[gb220]? = some (.cells #[.slice Ao17 t211.length co17, .slice Ao21 t214.length co21, .slice Ao26 t221.length co26] 27 (0, 0))) := ⟨(by rw [hw]; exact (by refine b1_ ?_; refine blk_put (cs := #[.slice Ao17 t211.length co17, .slice Ao21 t214.length co21, .slice Ao22 t217.length co22]) ?_ 2 _ rfl; refine b1_ ?_; exact BK220.out))⟩; have n7_ : Aside0 (Below w.heap.size w w28) := ⟨(by rw [hw]; exact (by repeat (first | (with_reducible first | exact HB.out | apply below_alloc | apply pw_below_drewN | apply below_drew1 | refine below_set ?_ GE220.out) | exact HB.out)))⟩; clear hw; clear HO213; clear HO216; clear HO219; clear HO223; clear BK0; clear BK208; clear BK220; clear HB; have HO213 := n0_; have HO216 := n1_; have HO219 := n2_; have HO223 := n3_; have BK0 := n4_; have BK208 := n5_; have BK220 := n6_; have HB := n7_; clear n0_ n1_ n2_ n3_ n4_ n5_ n6_ n7_; have hcz29_0 := c1_ BK220 0 (.slice Ao17 t211.length co17); have hcz29_1 := c1_ BK220 1 (.slice Ao21 t214.length co21); have hcz29_2 := c1_ BK220 2 (.slice Ao26 t221.length co26); have hfz29_0 := f1_ BK220 0; have hfz29_1 := f1_ BK220 1; have hfz29_2 := f1_ BK220 2) | ((with_reducible refine gate_callee (f := 82) rfl ?_); refine goesL_ (some 29) rfl rfl Try.func82 s2_ rfl #[.agg #[.slice Ao17 t211.length co17, .slice Ao21 t214.length co21, .slice Ao26 t221.length co26]] rfl s3_ ?_; (with_reducible refine (spec_l05Give.calls kj3 (fun k_ => some k_ = (.slice Ao17 t211.length co17 : Value).ownBlock) (.slice Ao17 t211.length co17) t211 (fun k_ => some k_ = (.slice Ao21 t214.length co21 : Value).ownBlock) (.slice Ao21 t214.length co21) t214 (fun k_ => some k_ = (.slice Ao26 t221.length co26 : Value).ownBlock) (.slice Ao26 t221.length co26) t221 t224 t227 t230 t233 w _ ?side1 ?side2 ?side3 ?side4 ?side5 ?side6 A14.out).mono ?_); (case side1 => exact y1_ HB.out); (case side2 => exact Kd.R_tight rfl HO213.out); (case side3 => exact fun k_ e_ => (HO213.out.1 k_ e_.symm)); (case side4 => exact Kd.R_tight rfl HO216.out); (case side5 => exact fun k_ e_ => (HO216.out.1 k_ e_.symm)); (case side6 => exact Kd.R_tight rfl HO223.out); rintro e w30 ⟨v225, v228, v231, rfl, ho0, ho1, ho2, hb, hkp⟩; refine ⟨_, rfl, ?_⟩; have n0_ := A_ (blk_kept (b1_ BK0.out) hkp (fun hs_ => Or.elim hs_ (fun e_ => (fun e_ => (Kd.R_ne HO213.out BK0.out (by decide)) e_) e_) (fun e_ => Or.elim e_ (fun e_ => (fun e_ => (Kd.R_ne HO216.out BK0.out (by decide)) e_) e_) (fun e_ => (fun e_ => (Kd.R_ne HO223.out BK0.out (by decide)) e_) e_)))); have n1_ := A_ (blk_kept (b1_ BK208.out) hkp (fun hs_ => Or.elim hs_ (fun e_ => (fun e_ => (Kd.R_ne HO213.out BK208.out (by decide)) e_) e_) (fun e_ => Or.elim e_ (fun e_ => (fun e_ => (Kd.R_ne HO216.out BK208.out (by decide)) e_) e_) (fun e_ => (fun e_ => (Kd.R_ne HO223.out BK208.out (by decide)) e_) e_)))); have n2_ := A_ (Kd.R_mono (ok' := fun k_ => some k_ ≠ (v231 : Value).ownBlock) (Kd.R_keptB ((Kd.R_apart' (Kd.R_apart' HO219.out (Kd.R_typed HO213.out) (by decide)) (Kd.R_typed HO216.out) (by decide))) hkp (fun k_ hk_ hs_ => Or.elim hs_ (fun e_ => (hk_.1.2) e_) (fun e_ => Or.elim e_ (fun e_ => (hk_.2) e_) (fun e_ => (hk_.1.1) e_)))) (fun k_ hk_ => fun e_ => Or.elim (ho2.1 k_ e_.symm) (fun hs_ => hk_.2.1 hs_) (fun hn_ => Nat.not_le.2 hk_.2.2 hn_))); have n3_ := A_ (blk_kept (b1_ BK220.out) hkp (fun hs_ => Or.elim hs_ (fun e_ => (fun e_ => (Kd.R_ne HO213.out BK220.out (by decide)) e_) e_) (fun e_ => Or.elim e_ (fun e_ => (fun e_ => (Kd.R_ne HO216.out BK220.out (by decide)) e_) e_) (fun e_ => (fun e_ => (Kd.R_ne HO223.out BK220.out (by decide)) e_) e_)))); have n4_ := A_ (Kd.R_mono (ok' := fun k_ => some k_ ≠ (v228 : Value).ownBlock) ho0 (fun k_ hk_ => hk_.2)); have n5_ := A_ (Kd.R_mono (ok' := fun k_ => some k_ ≠ (v225 : Value).ownBlock) ho1 (fun k_ hk_ => hk_.2)); have n6_ := A_ (Kd.R_mono (ok' := fun k_ => some k_ ≠ (.slice Ao22 t217.length co22 : Value).ownBlock) ho2 (fun k_ hk_ => Or.elim hk_ (fun hs_ => Or.elim hs_ (fun hs_ => fun e_ => ((((Kd.R_apart' (Kd.R_apart' HO219.out (Kd.R_typed HO213.out) (by decide)) (Kd.R_typed HO216.out) (by decide))).1 k_ e_.symm).1.2) hs_) (fun hs_ => Or.elim hs_ (fun hs_ => fun e_ => ((((Kd.R_apart' (Kd.R_apart' HO219.out (Kd.R_typed HO213.out) (by decide)) (Kd.R_typed HO216.out) (by decide))).1 k_ e_.symm).2) hs_) (fun hs_ => fun e_ => ((((Kd.R_apart' (Kd.R_apart' HO219.out (Kd.R_typed HO213.out) (by decide)) (Kd.R_typed HO216.out) (by decide))).1 k_ e_.symm).1.1) hs_))) (fun hn_ => (Kd.fresh' (Kd.R_lt (b2_ HO219.out)) k_ hn_)))); have n7_ := A_ (hb); clear BK0; clear BK208; clear HO219; clear BK220; clear HB; clear HO213; clear HO216; clear HO223; have BK0 := n0_; have BK208 := n1_; have HO219 := n2_; have BK220 := n3_; have HO226 := n4_; have HO229 := n5_; have HO232 := n6_; have HB := n7_; clear n0_ n1_ n2_ n3_ n4_ n5_ n6_ n7_; (try clear hb); (try clear hkp); (try clear ho0); (try clear ho1); (try clear ho2); obtain ⟨Ao31, co31, eo31⟩ := Kd.R_slice HO226.out; subst eo31; have hcz32_0 := c1_ BK208 0 (.slice none 0 0); have hcz32_1 := c1_ BK208 1 (.slice none 0 0); have hcz32_2 := c1_ BK208 2 (.slice none 0 0); have hfz32_0 := f1_ BK208 0; have hfz32_1 := f1_ BK208 1; have hfz32_2 := f1_ BK208 2; obtain ⟨Ao33, co33, eo33⟩ := Kd.R_slice HO229.out; subst eo33; obtain ⟨Ao34, co34, eo34⟩ := Kd.R_slice HO232.out; subst eo34))
 refine bodyPost_ret (results_ct rfl _ _ gb208 27 #[.slice Ao31 t224.length co31, .slice Ao33 t227.length co33, .slice Ao34 t230.length co34] (0, 0) _ rfl (by refine b1_ ?_; refine blk_put3 (cs := #[.slice none 0 0, .slice none 0 0, .slice none 0 0]) ?_ rfl; refine b1_ ?_; exact BK208.out) Try.underlying27 rfl s2_) rfl ?_
 exact ⟨_, _, _, e1_, by refine b2_ ?_; exact Kd.R_mono (Kd.R_far3 (g := gb208) (Kd.R_types HO226.out BK208.out (by decide)) (fun _ hk => hk.2)) (fun _ hk => hk.1), by refine b2_ ?_; exact Kd.R_mono (Kd.R_far3 (g := gb208) (Kd.R_types HO229.out BK208.out (by decide)) (fun _ hk => hk.2)) (fun _ hk => hk.1), by refine b2_ ?_; exact Kd.R_mono (Kd.R_far3 (g := gb208) (Kd.R_types HO232.out BK208.out (by decide)) (fun _ hk => hk.2)) (fun _ hk => trivial), by repeat (first | (with_reducible first | exact HB.out | apply below_alloc | apply pw_below_drewN | apply below_drew1 | refine below_set ?_ GE208.out) | exact HB.out)⟩}}}

/-! ### spec_l05Until: function 59 -/
def spec_l05Until.l0 : Nat → List (S63) → Int → Int → Int → Option (Int)
  | 0, _, _, _, _ => none
  | k + 1, x0, x1, x7, x8 => if x8 < x7 then (if 0 ≤ x8 then (if x8 < (x0.length : Int) then (if ((rd_T63 x0 x8).f0) = x1 then (some ((rd_T63 x0 x8).f1)) else (spec_l05Until.l0 k x0 x1 x7 (wrap64 (x8 + 1)))) else (none)) else (none)) else (some (-1))
def spec_l05Until.f (k : Nat) (l0 : List (S63)) (a1 : Int) : Option (Int) := spec_l05Until.l0 k l0 a1 (l0.length : Int) 0
theorem spec_l05Until.mono_l : ∀ k, (∀ y0 y1 y2 y3, LeO (spec_l05Until.l0 k y0 y1 y2 y3) (spec_l05Until.l0 (k + 1) y0 y1 y2 y3))
  | 0 => fun _ _ _ _ r h => by simp [spec_l05Until.l0] at h
  | k + 1 => by
    have ih0 := spec_l05Until.mono_l k
    · intro y0 y1 y2 y3
      unfold spec_l05Until.l0
      repeat' first
      | (with_reducible exact ih0 _ _ _ _)
      | (with_reducible exact LeO.refl _)
      | (with_reducible exact LeO.none _)
      | (with_reducible refine LeO.ite ?_ ?_)
      | (with_reducible refine LeO.bind ?_ (fun _ => ?_))
      | exact ih0 _ _ _ _
      | exact LeO.none _
      | refine LeO.ite ?_ ?_
      | refine LeO.bind ?_ (fun _ => ?_)
theorem spec_l05Until.mono : ∀ a0 a1 k, LeO (spec_l05Until.f k a0 a1) (spec_l05Until.f (k + 1) a0 a1) := by
  intro a0 a1 k
  have ih0 := spec_l05Until.mono_l k
  unfold spec_l05Until.f
  repeat' first
      | (with_reducible exact ih0 _ _ _ _)
      | (with_reducible exact LeO.refl _)
      | (with_reducible exact LeO.none _)
      | (with_reducible refine LeO.ite ?_ ?_)
      | (with_reducible refine LeO.bind ?_ (fun _ => ?_))
      | exact ih0 _ _ _ _
      | exact LeO.none _
      | refine LeO.ite ?_ ?_
      | refine LeO.bind ?_ (fun _ => ?_)
set_option maxHeartbeats 8000000 in
set_option maxRecDepth 100000 in
theorem spec_l05Until.calls (k : Nat) (A0 : Option Addr) (c0 : Nat) (l0 : List (S63)) (a1 : Int) (r : Int) (w : World) (hr0 : Kd.C k63 w A0 l0.length l0) (hc0 : l0.length ≤ c0) (h : spec_l05Until.f k l0 a1 = some r) :
    Calls Try.prog 59 #[.slice A0 l0.length c0, .int .i64 a1] w fun e w' => e = .returned (.int .i64 r) ∧ Drawn0 w w' := by
  have HR0 := A_ hr0
  have HC0 := A_ hc0
  clear hr0 hc0
  have H : (spec_l05Until.l0 k l0 a1 (l0.length : Int) 0) = some r := h
  clear h
  have H' := A_ H
  clear H
  go_enter Try.func59, Try.ntmps59
  go_wp2
  go_loopg [8] k (fun kq v8 w' => ∃ (x8_1 : Int), v8 = .int .i64 x8_1 ∧ Aside0 (spec_l05Until.l0 kq l0 a1 (l0.length : Int) x8_1 = some r) ∧ Aside0 (kq ≤ k) ∧ Drawn0 w w')
  case atStart => exact ⟨(0), (by first | rfl | (simp; done) | (simp [*]; done)), H', ⟨Nat.le_refl _⟩, by repeat (first | exact Drawn0.refl _ | apply Drawn0.step)⟩
  case round =>
    clear H'
    try clear p2
    obtain ⟨x8_1, rfl, HA, HK1, ⟨m1, rfl⟩⟩ := hrel
    cases gk with
    | zero => exact absurd HA.out (by simp [spec_l05Until.l0])
    | succ k1 =>
      have H := HA.out
      clear HA
      simp only [spec_l05Until.l0] at H
      by_cases c3 : x8_1 < (l0.length : Int)
      · rw [if_pos c3] at H
        have c3b0 : decide (x8_1 < (l0.length : Int)) = true := decide_eq_true c3
        clear c3
        by_cases c4 : 0 ≤ x8_1
        · rw [if_pos c4] at H
          have c4b0 : decide (0 ≤ x8_1) = true := decide_eq_true c4
          clear c4
          by_cases c5 : x8_1 < (l0.length : Int)
          · rw [if_pos c5] at H
            have c5b0 : decide (x8_1 < (l0.length : Int)) = true := decide_eq_true c5
            clear c5
            by_cases c6 : ((rd_T63 l0 x8_1).f0) = a1
            · rw [if_pos c6] at H
              have c6b0 : (((rd_T63 l0 x8_1).f0) == a1) = true := beq_iff_eq.mpr c6
              have c6b1 : (((rd_T63 l0 x8_1).f0) != a1) = false := bne_eq_false_iff_eq.mpr c6
              clear c6
              obtain rfl := Option.some.inj H
              have p234 : 0 ≤ (x8_1 : Int) := o1_
              have q234 : x8_1 < (l0.length : Int) := o1_
              obtain ⟨ad234, e234, hx234_0, hx234_1⟩ := at_T63 HR0.out x8_1 p234 q234
              cases e234
              replace p234 := eq_true p234
              replace q234 := eq_true q234
              have p235 : 0 ≤ (x8_1 : Int) := o1_
              have q235 : x8_1 < (l0.length : Int) := o1_
              obtain ⟨ad235, e235, hx235_0, hx235_1⟩ := at_T63 HR0.out x8_1 p235 q235
              obtain rfl : ad234 = ad235 := (by injection e235)
              replace p235 := eq_true p235
              replace q235 := eq_true q235
              go_wp2
              go_ret
              exact ⟨by first | rfl | (simp; done) | (simp [*]; done), by repeat (first | exact Drawn0.refl _ | apply Drawn0.step)⟩
            · rw [if_neg c6] at H
              have c6b0 : (((rd_T63 l0 x8_1).f0) == a1) = false := beq_eq_false_iff_ne.mpr c6
              have c6b1 : (((rd_T63 l0 x8_1).f0) != a1) = true := bne_iff_ne.mpr c6
              have H' := A_ H
              clear H
              have p234 : 0 ≤ (x8_1 : Int) := o1_
              have q234 : x8_1 < (l0.length : Int) := o1_
              obtain ⟨ad234, e234, hx234_0, hx234_1⟩ := at_T63 HR0.out x8_1 p234 q234
              cases e234
              replace p234 := eq_true p234
              replace q234 := eq_true q234
              go_wp2
              go_roundg k1
              case measure => have := HK1.out; omega
              case rel => exact ⟨(wrap64 (x8_1 + 1)), (by first | rfl | (simp; done) | (simp [*]; done)), H', ⟨by have := HK1.out; omega⟩, by repeat (first | exact Drawn0.refl _ | apply Drawn0.step)⟩
          · rw [if_neg c5] at H
            exact absurd H (by simp)
        · rw [if_neg c4] at H
          exact absurd H (by simp)
      · rw [if_neg c3] at H
        have c3b0 : decide (x8_1 < (l0.length : Int)) = false := decide_eq_false c3
        clear c3
        obtain rfl := Option.some.inj H
        go_wp2
        go_ret
        exact ⟨by first | rfl | (simp; done) | (simp [*]; done), by repeat (first | exact Drawn0.refl _ | apply Drawn0.step)⟩

/-! ### spec_l05Type: function 79 -/
abbrev spec_l05Type.T : Bool := true
abbrev spec_l05Type.F : Bool := false
def spec_l05Type.j0 : Nat → Int → Int → Bool → List (S63) → List (S63) → List (S73) → Option ((List (S63)) × (List (S63)) × (List (S73)) × Bool)
  | 0, _, _, _, _, _, _ => none
  | k + 1, x1, x2, x26, x1000, x1001, x1002 => if x26 = true then (some (([] : List (S63)), ([] : List (S63)), ([] : List (S73)), false)) else ((spec_l05Own.f x1000 x1001 x1002).bind fun bt240 => ((spec_l05Put.f k x1001 x1 (wrap64 (x2 + 6))).bind fun t250 => ((spec_l05Give.f k bt240.1 t250 bt240.2.2).bind fun bt253 => (some (bt253.1, bt253.2.1, bt253.2.2.1, bt253.2.2.2)))))
def spec_l05Type.f (k : Nat) (l0_0 : List (S63)) (l0_1 : List (S63)) (l0_2 : List (S73)) (a1 : Int) (a2 : Int) : Option ((List (S63)) × (List (S63)) × (List (S73)) × Bool) := (spec_l01Member.f a1).bind fun t237 => (if t237 = true then ((spec_l01Tick.f a2).bind fun t238 => (if t238 = true then ((spec_l05Until.f k l0_0 a1).bind fun t239 => (spec_l05Type.j0 k a1 a2 (decide (t239 ≤ a2)) l0_0 l0_1 l0_2)) else (spec_l05Type.j0 k a1 a2 true l0_0 l0_1 l0_2))) else (spec_l05Type.j0 k a1 a2 true l0_0 l0_1 l0_2))
theorem spec_l05Type.mono_l : ∀ k, (∀ y0 y1 y2 y3 y4 y5, LeO (spec_l05Type.j0 k y0 y1 y2 y3 y4 y5) (spec_l05Type.j0 (k + 1) y0 y1 y2 y3 y4 y5))
  | 0 => fun _ _ _ _ _ _ r h => by simp [spec_l05Type.j0] at h
  | k + 1 => by
    have ih0 := spec_l05Type.mono_l k
    · intro y0 y1 y2 y3 y4 y5
      unfold spec_l05Type.j0
      repeat' first
      | (with_reducible exact ih0 _ _ _ _ _ _)
      | (with_reducible exact spec_l05Give.mono _ _ _ _)
      | (with_reducible exact spec_l05Put.mono _ _ _ _)
      | (with_reducible exact spec_l05Until.mono _ _ _)
      | (with_reducible exact LeO.refl _)
      | (with_reducible exact LeO.none _)
      | (with_reducible refine LeO.ite ?_ ?_)
      | (with_reducible refine LeO.bind ?_ (fun _ => ?_))
      | exact ih0 _ _ _ _ _ _
      | exact spec_l05Give.mono _ _ _ _
      | exact spec_l05Put.mono _ _ _ _
      | exact spec_l05Until.mono _ _ _
      | exact LeO.none _
      | refine LeO.ite ?_ ?_
      | refine LeO.bind ?_ (fun _ => ?_)
theorem spec_l05Type.mono : ∀ a0 a1 a2 a3 a4 k, LeO (spec_l05Type.f k a0 a1 a2 a3 a4) (spec_l05Type.f (k + 1) a0 a1 a2 a3 a4) := by
  intro a0 a1 a2 a3 a4 k
  have ih0 := spec_l05Type.mono_l k
  unfold spec_l05Type.f
  repeat' first
      | (with_reducible exact ih0 _ _ _ _ _ _)
      | (with_reducible exact spec_l05Give.mono _ _ _ _)
      | (with_reducible exact spec_l05Put.mono _ _ _ _)
      | (with_reducible exact spec_l05Until.mono _ _ _)
      | (with_reducible exact LeO.refl _)
      | (with_reducible exact LeO.none _)
      | (with_reducible refine LeO.ite ?_ ?_)
      | (with_reducible refine LeO.bind ?_ (fun _ => ?_))
      | exact ih0 _ _ _ _ _ _
      | exact spec_l05Give.mono _ _ _ _
      | exact spec_l05Put.mono _ _ _ _
      | exact spec_l05Until.mono _ _ _
      | exact LeO.none _
      | refine LeO.ite ?_ ?_
      | refine LeO.bind ?_ (fun _ => ?_)
set_option maxHeartbeats 8000000 in
set_option maxRecDepth 100000 in
theorem spec_l05Type.calls (k : Nat) (g0_ : Nat) (A0_0 : Option Addr) (c0_0 : Nat) (l0_0 : List (S63)) (A0_1 : Option Addr) (c0_1 : Nat) (l0_1 : List (S63)) (A0_2 : Option Addr) (c0_2 : Nat) (l0_2 : List (S73)) (a1 : Int) (a2 : Int) (r1 : List (S63)) (r2 : List (S63)) (r3 : List (S73)) (r4 : Bool) (w : World) (hbk0 : w.heap[g0_]? = some (.cells #[.slice A0_0 l0_0.length c0_0, .slice A0_1 l0_1.length c0_1, .slice A0_2 l0_2.length c0_2] 27 (0, 0))) (hr0_0 : Kd.C k63 w A0_0 l0_0.length l0_0) (hc0_0 : l0_0.length ≤ c0_0) (hr0_1 : Kd.C k63 w A0_1 l0_1.length l0_1) (hc0_1 : l0_1.length ≤ c0_1) (hr0_2 : Kd.C k73 w A0_2 l0_2.length l0_2) (hc0_2 : l0_2.length ≤ c0_2) (h : spec_l05Type.f k l0_0 l0_1 l0_2 a1 a2 = some (r1, r2, r3, r4)) :
    Calls Try.prog 79 #[.pointer (some ⟨g0_, 0, none⟩), .int .i64 a1, .int .i64 a2] w fun e w' => ∃ v0_ v1_ v2_ : Value, e = .returned (.tuple #[.agg #[v0_, v1_, v2_], .bool r4]) ∧ Kd.R k63 63 w' w.heap.size (fun k_ => some k_ ≠ (v1_ : Value).ownBlock) v0_ r1 ∧ Kd.R k63 63 w' w.heap.size (fun k_ => some k_ ≠ (v0_ : Value).ownBlock) v1_ r2 ∧ Kd.R k73 73 w' w.heap.size (fun _ => True) v2_ r3 ∧ Below w.heap.size w w' := by
 have hu27 := Try.underlying27
 have HR0_0 := A_ hr0_0
 have HC0_0 := A_ hc0_0
 clear hr0_0 hc0_0
 have HR0_1 := A_ hr0_1
 have HC0_1 := A_ hc0_1
 clear hr0_1 hc0_1
 have HR0_2 := A_ hr0_2
 have HC0_2 := A_ hc0_2
 clear hr0_2 hc0_2
 have BK0 := A_ hbk0
 clear hbk0
 have HB := A_ (Below.refl w.heap.size w)
 have H : ((spec_l01Member.f a1).bind fun t237 => (if t237 = true then ((spec_l01Tick.f a2).bind fun t238 => (if t238 = true then ((spec_l05Until.f k l0_0 a1).bind fun t239 => (spec_l05Type.j0 k a1 a2 (decide (t239 ≤ a2)) l0_0 l0_1 l0_2)) else (spec_l05Type.j0 k a1 a2 true l0_0 l0_1 l0_2))) else (spec_l05Type.j0 k a1 a2 true l0_0 l0_1 l0_2))) = some (r1, r2, r3, r4) := h
 clear h
 have HC4 := A_ H
 clear H
 go_enter Try.func79, Try.ntmps79
 go_upto_region 1 with (first | ((with_reducible refine gate_dst (N := 6) rfl ?_); refine box_event ?hg (N := 6) ?hd (cs := #[.slice none 0 0, .slice none 0 0, .slice none 0 0]) (t := 27) ?hr ?_; (case hd => rfl); (case hg => rfl); (case hr => first | (go_simp; done) | (go_simp; rfl)); intro gb236 hg w5 hbox hb; have GW236 := b6_ hg HB; have GE236 := b6_ hg HB; have NB0_236 := b4_ hg BK0; have NB236_0 := b5_ hg BK0; replace BK0 := b3_ BK0 hb; replace HB := A_ (below_step (y1_ HB.out) hb); have BK236 := A_ (hbox); clear hb hbox hg))
 (try simp only [Act.put, List.setIfInBounds_toArray, List.set_cons_zero, List.set_cons_succ])
 go_cut [26] (fun v26 wc => ∃ (kq : Nat) (x26_3 : Bool), v26 = .bool x26_3 ∧ Aside0 (spec_l05Type.j0 kq a1 a2 x26_3 l0_0 l0_1 l0_2 = some (r1, r2, r3, r4)) ∧ Aside0 (kq ≤ k) ∧ Aside0 (wc.heap[g0_]? = some (.cells #[(.slice A0_0 l0_0.length c0_0), (.slice A0_1 l0_1.length c0_1), (.slice A0_2 l0_2.length c0_2)] 27 (0, 0))) ∧ Aside0 (wc.heap[gb236]? = some (.cells #[(.slice none 0 0), (.slice none 0 0), (.slice none 0 0)] 27 (0, 0))) ∧ Aside0 (Below w.heap.size w wc))
 case first =>
  skip
  {
 have H := HC4.out
 clear HC4
 replace H := Option.bind_eq_some_iff.mp H
 obtain ⟨t237, A60, H⟩ := H
 replace H : (if t237 = true then ((spec_l01Tick.f a2).bind fun t238 => (if t238 = true then ((spec_l05Until.f k l0_0 a1).bind fun t239 => (spec_l05Type.j0 k a1 a2 (decide (t239 ≤ a2)) l0_0 l0_1 l0_2)) else (spec_l05Type.j0 k a1 a2 true l0_0 l0_1 l0_2))) else (spec_l05Type.j0 k a1 a2 true l0_0 l0_1 l0_2)) = some (r1, r2, r3, r4) := H
 have A6 := A_ A60
 clear A60
 by_cases c7 : t237 = true
 {
 subst c7
 have H1 : ((spec_l01Tick.f a2).bind fun t238 => (if t238 = true then ((spec_l05Until.f k l0_0 a1).bind fun t239 => (spec_l05Type.j0 k a1 a2 (decide (t239 ≤ a2)) l0_0 l0_1 l0_2)) else (spec_l05Type.j0 k a1 a2 true l0_0 l0_1 l0_2))) = some (r1, r2, r3, r4) := by rw [if_pos rfl] at H; exact H
 clear H
 have H := H1
 clear H1
 replace H := Option.bind_eq_some_iff.mp H
 obtain ⟨t238, A80, H⟩ := H
 replace H : (if t238 = true then ((spec_l05Until.f k l0_0 a1).bind fun t239 => (spec_l05Type.j0 k a1 a2 (decide (t239 ≤ a2)) l0_0 l0_1 l0_2)) else (spec_l05Type.j0 k a1 a2 true l0_0 l0_1 l0_2)) = some (r1, r2, r3, r4) := H
 have A8 := A_ A80
 clear A80
 by_cases c9 : t238 = true
 {
 subst c9
 have H1 : ((spec_l05Until.f k l0_0 a1).bind fun t239 => (spec_l05Type.j0 k a1 a2 (decide (t239 ≤ a2)) l0_0 l0_1 l0_2)) = some (r1, r2, r3, r4) := by rw [if_pos rfl] at H; exact H
 clear H
 have H := H1
 clear H1
 replace H := Option.bind_eq_some_iff.mp H
 obtain ⟨t239, A100, H⟩ := H
 replace H : (spec_l05Type.j0 k a1 a2 (decide (t239 ≤ a2)) l0_0 l0_1 l0_2) = some (r1, r2, r3, r4) := H
 have A10 := A_ A100
 clear A100
 have H' := A_ H
 clear H
 go_wp2_with (first | ((with_reducible refine gate_callee (f := 98) rfl ?_); refine goesL_ (some 10) rfl rfl Try.func98 s2_ rfl #[.int .i64 a1] rfl s3_ ?_; (with_reducible refine (spec_l01Member.calls a1 true _ A6.out).mono ?_); rintro e w' ⟨rfl, ⟨nd, rfl⟩⟩; refine ⟨_, rfl, ?_⟩) | (go_at_call 58; (with_reducible refine (spec_l01Tick.calls a2 true _ A8.out).mono ?_); rintro e w' ⟨rfl, ⟨nd, rfl⟩⟩; have hnb11 := NB0_236.out; have hnc11 := NB236_0.out; have hcz12_0 := c1_ BK0 0 (.slice A0_0 l0_0.length c0_0); have hcz12_1 := c1_ BK0 1 (.slice A0_1 l0_1.length c0_1); have hcz12_2 := c1_ BK0 2 (.slice A0_2 l0_2.length c0_2); have hfz12_0 := f1_ BK0 0; have hfz12_1 := f1_ BK0 1; have hfz12_2 := f1_ BK0 2) | (go_at_call 59; (with_reducible refine (spec_l05Until.calls k _ _ l0_0 a1 t239 _ ?side1 ?side2 A10.out).mono ?_); (case side1 => exact y2_ (Kd.C_below HR0_0.out (y1_ HB.out))); (case side2 => exact HC0_0.out); rintro e w' ⟨rfl, ⟨nd, rfl⟩⟩))
 go_meet
 case rel => exact ⟨_, (decide (t239 ≤ a2)), s1_, H', ⟨by first | omega | exact Nat.le_refl _⟩, ⟨b1_ BK0.out⟩, ⟨b1_ BK236.out⟩, ⟨y1_ HB.out⟩⟩}
 {
 replace c9 := Bool.eq_false_iff.mpr c9
 subst c9
 have H1 : (spec_l05Type.j0 k a1 a2 true l0_0 l0_1 l0_2) = some (r1, r2, r3, r4) := by rw [if_neg (show ¬ (false = true) by decide)] at H; exact H
 clear H
 have H := H1
 clear H1
 have H' := A_ H
 clear H
 go_wp2_with (first | ((with_reducible refine gate_callee (f := 98) rfl ?_); refine goesL_ (some 10) rfl rfl Try.func98 s2_ rfl #[.int .i64 a1] rfl s3_ ?_; (with_reducible refine (spec_l01Member.calls a1 true _ A6.out).mono ?_); rintro e w' ⟨rfl, ⟨nd, rfl⟩⟩; refine ⟨_, rfl, ?_⟩) | (go_at_call 58; (with_reducible refine (spec_l01Tick.calls a2 false _ A8.out).mono ?_); rintro e w' ⟨rfl, ⟨nd, rfl⟩⟩))
 go_meet
 case rel => exact ⟨_, (true), s1_, H', ⟨by first | omega | exact Nat.le_refl _⟩, ⟨b1_ BK0.out⟩, ⟨b1_ BK236.out⟩, ⟨y1_ HB.out⟩⟩}}
 {
 replace c7 := Bool.eq_false_iff.mpr c7
 subst c7
 have H1 : (spec_l05Type.j0 k a1 a2 true l0_0 l0_1 l0_2) = some (r1, r2, r3, r4) := by rw [if_neg (show ¬ (false = true) by decide)] at H; exact H
 clear H
 have H := H1
 clear H1
 have H' := A_ H
 clear H
 go_wp2_with (first | ((with_reducible refine gate_callee (f := 98) rfl ?_); refine goesL_ (some 10) rfl rfl Try.func98 s2_ rfl #[.int .i64 a1] rfl s3_ ?_; (with_reducible refine (spec_l01Member.calls a1 false _ A6.out).mono ?_); rintro e w' ⟨rfl, ⟨nd, rfl⟩⟩; refine ⟨_, rfl, ?_⟩))
 go_meet
 case rel => exact ⟨_, (true), s1_, H', ⟨by first | omega | exact Nat.le_refl _⟩, ⟨b1_ BK0.out⟩, ⟨b1_ BK236.out⟩, ⟨y1_ HB.out⟩⟩}}
 case rest =>
  skip
  {
 clear HC4
 try clear c1
 try clear p2
 try clear c7
 try clear c9
 try clear c11
 try clear hcz12_0
 try clear hcz12_1
 try clear hcz12_2
 try clear hfz12_0
 try clear hfz12_1
 try clear hfz12_2
 obtain ⟨kq, x26_3, rfl, HA, HJ3, BK0, BK236, HB⟩ := hcut
 cases kq with
 | zero => exact absurd HA.out (by simp [spec_l05Type.j0])
 | succ kj3 =>
  skip
  {
 have H := HA.out
 clear HA
 simp only [spec_l05Type.j0] at H
 by_cases c13 : x26_3 = true
 {
 subst c13
 have H1 : (some (([] : List (S63)), ([] : List (S63)), ([] : List (S73)), false)) = some (r1, r2, r3, r4) := by rw [if_pos rfl] at H; exact H
 clear H
 have H := H1
 clear H1
 simp only [Option.some.injEq, Prod.mk.injEq] at H
 obtain ⟨rfl, rfl, rfl, rfl⟩ := H
 have hnb14 := NB236_0.out
 have hnc14 := NB0_236.out
 have hcz15_0 := c1_ BK236 0 (.slice none 0 0)
 have hcz15_1 := c1_ BK236 1 (.slice none 0 0)
 have hcz15_2 := c1_ BK236 2 (.slice none 0 0)
 have hfz15_0 := f1_ BK236 0
 have hfz15_1 := f1_ BK236 1
 have hfz15_2 := f1_ BK236 2
 go_wp2
 refine bodyPost_ret (results_ct rfl _ _ gb236 27 #[.slice none 0 0, .slice none 0 0, .slice none 0 0] (0, 0) _ rfl (by refine b1_ ?_; refine blk_put3 (cs := #[.slice none 0 0, .slice none 0 0, .slice none 0 0]) ?_ rfl; refine b1_ ?_; exact BK236.out) Try.underlying27 rfl s2_) rfl ?_
 exact ⟨_, _, _, e1_, by first | exact Kd.R_nil _ _ _ _ _ | exact Kd.N_nil _ _ _ _ _ | exact Kd.V_nil _ _ _ _ _ | exact Kd.Q_nil _ _ _ _ _ | exact Kd.S_nil _ _ _ _ _, by first | exact Kd.R_nil _ _ _ _ _ | exact Kd.N_nil _ _ _ _ _ | exact Kd.V_nil _ _ _ _ _ | exact Kd.Q_nil _ _ _ _ _ | exact Kd.S_nil _ _ _ _ _, by first | exact Kd.R_nil _ _ _ _ _ | exact Kd.N_nil _ _ _ _ _ | exact Kd.V_nil _ _ _ _ _ | exact Kd.Q_nil _ _ _ _ _ | exact Kd.S_nil _ _ _ _ _, by repeat (first | (with_reducible first | exact HB.out | apply below_alloc | apply pw_below_drewN | apply below_drew1 | refine below_set ?_ GE236.out) | exact HB.out)⟩}
 {
 replace c13 := Bool.eq_false_iff.mpr c13
 subst c13
 have H1 : ((spec_l05Own.f l0_0 l0_1 l0_2).bind fun bt240 => ((spec_l05Put.f kj3 l0_1 a1 (wrap64 (a2 + 6))).bind fun t250 => ((spec_l05Give.f kj3 bt240.1 t250 bt240.2.2).bind fun bt253 => (some (bt253.1, bt253.2.1, bt253.2.2.1, bt253.2.2.2))))) = some (r1, r2, r3, r4) := by rw [if_neg (show ¬ (false = true) by decide)] at H; exact H
 clear H
 have H := H1
 clear H1
 replace H := Option.bind_eq_some_iff.mp H
 obtain ⟨⟨t240, t243, t246⟩, A160, H⟩ := H
 replace H : ((spec_l05Put.f kj3 l0_1 a1 (wrap64 (a2 + 6))).bind fun t250 => ((spec_l05Give.f kj3 t240 t250 t246).bind fun bt253 => (some (bt253.1, bt253.2.1, bt253.2.2.1, bt253.2.2.2)))) = some (r1, r2, r3, r4) := H
 have A16 := A_ A160
 clear A160
 replace H := Option.bind_eq_some_iff.mp H
 obtain ⟨t250, A170, H⟩ := H
 replace H : ((spec_l05Give.f kj3 t240 t250 t246).bind fun bt253 => (some (bt253.1, bt253.2.1, bt253.2.2.1, bt253.2.2.2))) = some (r1, r2, r3, r4) := H
 have A17 := A_ A170
 clear A170
 replace H := Option.bind_eq_some_iff.mp H
 obtain ⟨⟨t253, t256, t259, t262⟩, A180, H⟩ := H
 replace H : (some (t253, t256, t259, t262)) = some (r1, r2, r3, r4) := H
 have A18 := A_ A180
 clear A180
 simp only [Option.some.injEq, Prod.mk.injEq] at H
 obtain ⟨rfl, rfl, rfl, rfl⟩ := H
 go_wp2_with (first | ((with_reducible refine gate_callee (f := 62) rfl ?_); refine goesL_ (some 29) rfl rfl Try.func62 s2_ rfl #[.pointer (some ⟨g0_, 0, none⟩)] rfl s3_ ?_; (with_reducible refine (spec_l05Own.calls g0_ A0_0 c0_0 l0_0 A0_1 c0_1 l0_1 A0_2 c0_2 l0_2 t240 t243 t246 _ ?side1 ?side2 ?side3 ?side4 ?side5 ?side6 ?side7 A16.out).mono ?_); (case side1 => exact (b1_ BK0.out)); (case side2 => exact y2_ (Kd.C_below HR0_0.out HB.out)); (case side3 => exact HC0_0.out); (case side4 => exact y2_ (Kd.C_below HR0_1.out HB.out)); (case side5 => exact HC0_1.out); (case side6 => exact y2_ (Kd.C_below HR0_2.out HB.out)); (case side7 => exact HC0_2.out); rintro e w19 ⟨v241, v244, v247, rfl, ho0, ho1, ho2, hb⟩; refine ⟨_, rfl, ?_⟩; have HO242 := A_ (Kd.R_lower ho0 (below_size (y1_ HB.out))); have HO245 := A_ (Kd.R_lower ho1 (below_size (y1_ HB.out))); have HO248 := A_ (Kd.R_lower ho2 (below_size (y1_ HB.out))); replace BK0 := b3_ BK0 hb; replace BK236 := b3_ BK236 hb; replace HB := A_ (below_step (y1_ HB.out) hb); (try clear hb); (try clear hb2); (try clear hk); (try clear hi); (try clear ho0); (try clear ho1); (try clear ho2)) | ((with_reducible refine gate_dst (N := 8) rfl ?_); refine box_event ?hg (N := 8) ?hd (cs := #[.slice none 0 0, .slice none 0 0, .slice none 0 0]) (t := 27) ?hr ?_; (case hd => rfl); (case hg => rfl); (case hr => first | (go_simp; done) | (go_simp; rfl)); intro gb249 hg w20 hbox hb; have GW249 := b6_ hg HB; have GE249 := b6_ hg HB; have NB0_249 := b4_ hg BK0; have NB249_0 := b5_ hg BK0; have NB236_249 := b4_ hg BK236; have NB249_236 := b5_ hg BK236; replace HO242 := r1_ HO242 hb; replace HO245 := r1_ HO245 hb; replace HO248 := r1_ HO248 hb; replace BK0 := b3_ BK0 hb; replace BK236 := b3_ BK236 hb; replace HB := A_ (below_step (y1_ HB.out) hb); have BK249 := A_ (hbox); clear hb hbox hg; obtain ⟨Ao21, co21, eo21⟩ := Kd.R_slice HO242.out; subst eo21; have hnb22 := NB249_0.out; have hnc22 := NB0_249.out; have hnb23 := NB249_236.out; have hnc23 := NB236_249.out; have hcz24_0 := c1_ BK249 0 (.slice none 0 0); have hcz24_1 := c1_ BK249 1 (.slice none 0 0); have hcz24_2 := c1_ BK249 2 (.slice none 0 0); have hfz24_0 := f1_ BK249 0; have hfz24_1 := f1_ BK249 1; have hfz24_2 := f1_ BK249 2; obtain ⟨Ao25, co25, eo25⟩ := Kd.R_slice HO245.out; subst eo25; obtain ⟨Ao26, co26, eo26⟩ := Kd.R_slice HO248.out; subst eo26; have hnb27 := NB0_236.out; have hnc27 := NB236_0.out; have hcz28_0 := c1_ BK0 0 (.slice A0_0 l0_0.length c0_0); have hcz28_1 := c1_ BK0 1 (.slice A0_1 l0_1.length c0_1); have hcz28_2 := c1_ BK0 2 (.slice A0_2 l0_2.length c0_2); have hfz28_0 := f1_ BK0 0; have hfz28_1 := f1_ BK0 1; have hfz28_2 := f1_ BK0 2) | ((with_reducible refine gate_callee (f := 80) rfl ?_); refine goesL_ (some 37) rfl rfl Try.func80 s2_ rfl #[.slice A0_1 l0_1.length c0_1, .int .i64 a1, .int .i64 (wrap64 (a2 + 6))] rfl s3_ ?_; (with_reducible refine (spec_l05Put.calls kj3 _ _ l0_1 a1 (wrap64 (a2 + 6)) t250 _ ?side1 ?side2 A17.out).mono ?_); (case side1 => exact Kd.C_below HR0_1.out (by repeat (first | (with_reducible first | exact HB.out | apply below_alloc | apply pw_below_drewN | apply below_drew1 | refine below_set ?_ GE249.out) | exact HB.out))); (case side2 => exact HC0_1.out); rintro e w29 ⟨v251, rfl, ho0, hb⟩; refine ⟨_, rfl, ?_⟩; have n0_ := A_ (Kd.R_elder' (by refine b2_ ?_; exact (Kd.R_mono (Kd.R_far3 (g := gb249) (Kd.R_types HO242.out BK249.out (by decide)) (fun _ hk => hk.2)) (fun _ h_ => h_.1))) (Kd.R_base ho0) hb); have n1_ := A_ (Kd.R_elder' (by refine b2_ ?_; exact (Kd.R_mono (Kd.R_far3 (g := gb249) (Kd.R_types HO245.out BK249.out (by decide)) (fun _ hk => hk.2)) (fun _ h_ => h_.1))) (Kd.R_base ho0) hb); have n2_ := A_ (Kd.R_below (by refine b2_ ?_; exact (Kd.R_mono (Kd.R_far3 (g := gb249) (Kd.R_types HO248.out BK249.out (by decide)) (fun _ hk => hk.2)) (fun _ h_ => h_.1))) hb); have n3_ := A_ (Kd.R_lower (Kd.R_new' (Kd.R_new' ho0 (Kd.R_lt (by refine b2_ ?_; exact (Kd.R_mono (Kd.R_far3 (g := gb249) (Kd.R_types HO242.out BK249.out (by decide)) (fun _ hk => hk.2)) (fun _ h_ => h_.1))))) (Kd.R_lt (by refine b2_ ?_; exact (Kd.R_mono (Kd.R_far3 (g := gb249) (Kd.R_types HO245.out BK249.out (by decide)) (fun _ hk => hk.2)) (fun _ h_ => h_.1))))) (below_size (by repeat (first | (with_reducible first | exact HB.out | apply below_alloc | apply pw_below_drewN | apply below_drew1 | refine below_set ?_ GE249.out) | exact HB.out)))); have n4_ := A_ (blk_below (g := g0_) (o := .cells #[.slice A0_0 l0_0.length c0_0, .slice A0_1 l0_1.length c0_1, .slice A0_2 l0_2.length c0_2] 27 (0, 0)) (by refine b1_ ?_; refine blk_far3 ?_ NB0_249.out; refine b1_ ?_; exact BK0.out) hb); have n5_ := A_ (blk_below (g := gb236) (o := .cells #[.slice none 0 0, .slice none 0 0, .slice none 0 0] 27 (0, 0)) (by refine b1_ ?_; refine blk_far3 ?_ NB236_249.out; refine b1_ ?_; exact BK236.out) hb); have n6_ := A_ (blk_below (g := gb249) (o := .cells #[.slice Ao21 t240.length co21, .slice Ao25 t243.length co25, .slice Ao26 t246.length co26] 27 (0, 0)) (by refine b1_ ?_; refine blk_put3 (cs := #[.slice none 0 0, .slice none 0 0, .slice none 0 0]) ?_ rfl; refine b1_ ?_; exact BK249.out) hb); have n7_ := A_ (below_step (by repeat (first | (with_reducible first | exact HB.out | apply below_alloc | apply pw_below_drewN | apply below_drew1 | refine below_set ?_ GE249.out) | exact HB.out)) hb); clear HO242; clear HO245; clear HO248; clear BK0; clear BK236; clear BK249; clear HB; have HO242 := n0_; have HO245 := n1_; have HO248 := n2_; have HO252 := n3_; have BK0 := n4_; have BK236 := n5_; have BK249 := n6_; have HB := n7_; clear n0_ n1_ n2_ n3_ n4_ n5_ n6_ n7_; (try clear hb); (try clear hb2); (try clear hk); (try clear hi); (try clear ho0); obtain ⟨Ao30, co30, eo30⟩ := Kd.R_slice HO252.out; subst eo30; have hcz31_0 := c1_ BK249 0 (.slice Ao21 t240.length co21); have hcz31_1 := c1_ BK249 1 (.slice Ao25 t243.length co25); have hcz31_2 := c1_ BK249 2 (.slice Ao26 t246.length co26); have hfz31_0 := f1_ BK249 0; have hfz31_1 := f1_ BK249 1; have hfz31_2 := f1_ BK249 2) | ((with_reducible refine gate_store (t := 24) (p := 38) rfl ?_); refine store_event (t := 24) (p := 38) (v := ?vo_w32) (w1 := (w29.setCell ⟨gb249, 1, none⟩ (.slice Ao30 t250.length co30))) ?hg ?ho ?hn ?hr ?_; (case ho => rfl); (case hg => rfl); (case hn => rfl); (case hr => first | (go_simp; done) | (go_simp; rfl)); intro w32 hw; have n0_ : Aside0 (Kd.R k63 63 w32 w.heap.size (fun k_ => some k_ ≠ (.slice Ao25 t243.length co25 : Value).ownBlock ∧ some k_ ≠ (.slice Ao30 t250.length co30 : Value).ownBlock) (.slice Ao21 t240.length co21) t240) := ⟨(by rw [hw]; exact (by refine b2_ ?_; exact Kd.R_mono (Kd.R_far (p := ⟨gb249, 1, none⟩) (Kd.R_types HO242.out BK249.out (by decide)) (fun _ hk => hk.2) (.slice Ao30 t250.length co30)) (fun _ hk => ⟨hk.1.1, hk.1.2⟩)))⟩; have n1_ : Aside0 (Kd.R k63 63 w32 w.heap.size (fun k_ => some k_ ≠ (.slice Ao21 t240.length co21 : Value).ownBlock ∧ some k_ ≠ (.slice Ao30 t250.length co30 : Value).ownBlock) (.slice Ao25 t243.length co25) t243) := ⟨(by rw [hw]; exact (by refine b2_ ?_; exact Kd.R_mono (Kd.R_far (p := ⟨gb249, 1, none⟩) (Kd.R_types HO245.out BK249.out (by decide)) (fun _ hk => hk.2) (.slice Ao30 t250.length co30)) (fun _ hk => ⟨hk.1.1, hk.1.2⟩)))⟩; have n2_ : Aside0 (Kd.R k73 73 w32 w.heap.size (fun _ => True) (.slice Ao26 t246.length co26) t246) := ⟨(by rw [hw]; exact (by refine b2_ ?_; exact Kd.R_mono (Kd.R_far (p := ⟨gb249, 1, none⟩) (Kd.R_types HO248.out BK249.out (by decide)) (fun _ hk => hk.2) (.slice Ao30 t250.length co30)) (fun _ hk => trivial)))⟩; have n3_ : Aside0 (Kd.R k63 63 w32 w.heap.size (fun k_ => some k_ ≠ (.slice Ao21 t240.length co21 : Value).ownBlock ∧ some k_ ≠ (.slice Ao25 t243.length co25 : Value).ownBlock) (.slice Ao30 t250.length co30) t250) := ⟨(by rw [hw]; exact (by refine b2_ ?_; exact Kd.R_mono (Kd.R_far (p := ⟨gb249, 1, none⟩) (Kd.R_types HO252.out BK249.out (by decide)) (fun _ hk => hk.2) (.slice Ao30 t250.length co30)) (fun _ hk => ⟨hk.1.1.2, hk.1.2⟩)))⟩; have n4_ : Aside0 (w32.heap[g0_]? = some (.cells #[.slice A0_0 l0_0.length c0_0, .slice A0_1 l0_1.length c0_1, .slice A0_2 l0_2.length c0_2] 27 (0, 0))) := ⟨(by rw [hw]; exact (by refine b1_ ?_; refine blk_far ?_ NB0_249.out _; refine b1_ ?_; exact BK0.out))⟩; have n5_ : Aside0 (w32.heap[gb236]? = some (.cells #[.slice none 0 0, .slice none 0 0, .slice none 0 0] 27 (0, 0))) := ⟨(by rw [hw]; exact (by refine b1_ ?_; refine blk_far ?_ NB236_249.out _; refine b1_ ?_; exact BK236.out))⟩; have n6_ : Aside0 (w32.heap[gb249]? = some (.cells #[.slice Ao21 t240.length co21, .slice Ao30 t250.length co30, .slice Ao26 t246.length co26] 27 (0, 0))) := ⟨(by rw [hw]; exact (by refine b1_ ?_; refine blk_put (cs := #[.slice Ao21 t240.length co21, .slice Ao25 t243.length co25, .slice Ao26 t246.length co26]) ?_ 1 _ rfl; refine b1_ ?_; exact BK249.out))⟩; have n7_ : Aside0 (Below w.heap.size w w32) := ⟨(by rw [hw]; exact (by repeat (first | (with_reducible first | exact HB.out | apply below_alloc | apply pw_below_drewN | apply below_drew1 | refine below_set ?_ GE249.out) | exact HB.out)))⟩; clear hw; clear HO242; clear HO245; clear HO248; clear HO252; clear BK0; clear BK236; clear BK249; clear HB; have HO242 := n0_; have HO245 := n1_; have HO248 := n2_; have HO252 := n3_; have BK0 := n4_; have BK236 := n5_; have BK249 := n6_; have HB := n7_; clear n0_ n1_ n2_ n3_ n4_ n5_ n6_ n7_; have hcz33_0 := c1_ BK249 0 (.slice Ao21 t240.length co21); have hcz33_1 := c1_ BK249 1 (.slice Ao30 t250.length co30); have hcz33_2 := c1_ BK249 2 (.slice Ao26 t246.length co26); have hfz33_0 := f1_ BK249 0; have hfz33_1 := f1_ BK249 1; have hfz33_2 := f1_ BK249 2) | ((with_reducible refine gate_callee (f := 82) rfl ?_); refine goesL_ (some 40) rfl rfl Try.func82 s2_ rfl #[.agg #[.slice Ao21 t240.length co21, .slice Ao30 t250.length co30, .slice Ao26 t246.length co26]] rfl s3_ ?_; (with_reducible refine (spec_l05Give.calls kj3 (fun k_ => some k_ = (.slice Ao21 t240.length co21 : Value).ownBlock) (.slice Ao21 t240.length co21) t240 (fun k_ => some k_ = (.slice Ao30 t250.length co30 : Value).ownBlock) (.slice Ao30 t250.length co30) t250 (fun k_ => some k_ = (.slice Ao26 t246.length co26 : Value).ownBlock) (.slice Ao26 t246.length co26) t246 t253 t256 t259 t262 w _ ?side1 ?side2 ?side3 ?side4 ?side5 ?side6 A18.out).mono ?_); (case side1 => exact y1_ HB.out); (case side2 => exact Kd.R_tight rfl HO242.out); (case side3 => exact fun k_ e_ => (HO242.out.1 k_ e_.symm).2); (case side4 => exact Kd.R_tight rfl HO252.out); (case side5 => exact fun k_ e_ => (HO252.out.1 k_ e_.symm).1); (case side6 => exact Kd.R_tight rfl HO248.out); rintro e w34 ⟨v254, v257, v260, rfl, ho0, ho1, ho2, hb, hkp⟩; refine ⟨_, rfl, ?_⟩; have n0_ := A_ (blk_kept (b1_ BK0.out) hkp (fun hs_ => Or.elim hs_ (fun e_ => (fun e_ => (Kd.R_ne HO242.out BK0.out (by decide)) e_) e_) (fun e_ => Or.elim e_ (fun e_ => (fun e_ => (Kd.R_ne HO252.out BK0.out (by decide)) e_) e_) (fun e_ => (fun e_ => (Kd.R_ne HO248.out BK0.out (by decide)) e_) e_)))); have n1_ := A_ (blk_kept (b1_ BK236.out) hkp (fun hs_ => Or.elim hs_ (fun e_ => (fun e_ => (Kd.R_ne HO242.out BK236.out (by decide)) e_) e_) (fun e_ => Or.elim e_ (fun e_ => (fun e_ => (Kd.R_ne HO252.out BK236.out (by decide)) e_) e_) (fun e_ => (fun e_ => (Kd.R_ne HO248.out BK236.out (by decide)) e_) e_)))); have n2_ := A_ (Kd.R_mono (ok' := fun k_ => some k_ ≠ (v254 : Value).ownBlock ∧ some k_ ≠ (v257 : Value).ownBlock) (Kd.R_keptB ((Kd.R_apart' HO245.out (Kd.R_typed HO248.out) (by decide))) hkp (fun k_ hk_ hs_ => Or.elim hs_ (fun e_ => (hk_.1.1) e_) (fun e_ => Or.elim e_ (fun e_ => (hk_.1.2) e_) (fun e_ => (hk_.2) e_)))) (fun k_ hk_ => ⟨fun e_ => Or.elim (ho0.1 k_ e_.symm).1 (fun hs_ => hk_.2.1 hs_) (fun hn_ => Nat.not_le.2 hk_.2.2 hn_), fun e_ => Or.elim (ho1.1 k_ e_.symm).1 (fun hs_ => hk_.2.1 hs_) (fun hn_ => Nat.not_le.2 hk_.2.2 hn_)⟩)); have n3_ := A_ (blk_kept (b1_ BK249.out) hkp (fun hs_ => Or.elim hs_ (fun e_ => (fun e_ => (Kd.R_ne HO242.out BK249.out (by decide)) e_) e_) (fun e_ => Or.elim e_ (fun e_ => (fun e_ => (Kd.R_ne HO252.out BK249.out (by decide)) e_) e_) (fun e_ => (fun e_ => (Kd.R_ne HO248.out BK249.out (by decide)) e_) e_)))); have n4_ := A_ (Kd.R_mono (ok' := fun k_ => some k_ ≠ (v257 : Value).ownBlock ∧ some k_ ≠ (.slice Ao25 t243.length co25 : Value).ownBlock) ho0 (fun k_ hk_ => ⟨hk_.2, Or.elim hk_.1 (fun hs_ => Or.elim hs_ (fun hs_ => fun e_ => ((((Kd.R_apart' HO245.out (Kd.R_typed HO248.out) (by decide))).1 k_ e_.symm).1.1) hs_) (fun hs_ => Or.elim hs_ (fun hs_ => fun e_ => ((((Kd.R_apart' HO245.out (Kd.R_typed HO248.out) (by decide))).1 k_ e_.symm).1.2) hs_) (fun hs_ => fun e_ => ((((Kd.R_apart' HO245.out (Kd.R_typed HO248.out) (by decide))).1 k_ e_.symm).2) hs_))) (fun hn_ => (Kd.fresh' (Kd.R_lt (b2_ HO245.out)) k_ hn_))⟩)); have n5_ := A_ (Kd.R_mono (ok' := fun k_ => some k_ ≠ (v254 : Value).ownBlock ∧ some k_ ≠ (.slice Ao25 t243.length co25 : Value).ownBlock) ho1 (fun k_ hk_ => ⟨hk_.2, Or.elim hk_.1 (fun hs_ => Or.elim hs_ (fun hs_ => fun e_ => ((((Kd.R_apart' HO245.out (Kd.R_typed HO248.out) (by decide))).1 k_ e_.symm).1.1) hs_) (fun hs_ => Or.elim hs_ (fun hs_ => fun e_ => ((((Kd.R_apart' HO245.out (Kd.R_typed HO248.out) (by decide))).1 k_ e_.symm).1.2) hs_) (fun hs_ => fun e_ => ((((Kd.R_apart' HO245.out (Kd.R_typed HO248.out) (by decide))).1 k_ e_.symm).2) hs_))) (fun hn_ => (Kd.fresh' (Kd.R_lt (b2_ HO245.out)) k_ hn_))⟩)); have n6_ := A_ (Kd.R_mono (ok' := fun k_ => True) ho2 (fun k_ hk_ => trivial)); have n7_ := A_ (hb); clear BK0; clear BK236; clear HO245; clear BK249; clear HB; clear HO242; clear HO248; clear HO252; have BK0 := n0_; have BK236 := n1_; have HO245 := n2_; have BK249 := n3_; have HO255 := n4_; have HO258 := n5_; have HO261 := n6_; have HB := n7_; clear n0_ n1_ n2_ n3_ n4_ n5_ n6_ n7_; (try clear hb); (try clear hkp); (try clear ho0); (try clear ho1); (try clear ho2); obtain ⟨Ao35, co35, eo35⟩ := Kd.R_slice HO255.out; subst eo35; have hcz36_0 := c1_ BK236 0 (.slice none 0 0); have hcz36_1 := c1_ BK236 1 (.slice none 0 0); have hcz36_2 := c1_ BK236 2 (.slice none 0 0); have hfz36_0 := f1_ BK236 0; have hfz36_1 := f1_ BK236 1; have hfz36_2 := f1_ BK236 2; obtain ⟨Ao37, co37, eo37⟩ := Kd.R_slice HO258.out; subst eo37; obtain ⟨Ao38, co38, eo38⟩ := Kd.R_slice HO261.out; subst eo38))
 refine bodyPost_ret (results_ct rfl _ _ gb236 27 #[.slice Ao35 t253.length co35, .slice Ao37 t256.length co37, .slice Ao38 t259.length co38] (0, 0) _ rfl (by refine b1_ ?_; refine blk_put3 (cs := #[.slice none 0 0, .slice none 0 0, .slice none 0 0]) ?_ rfl; refine b1_ ?_; exact BK236.out) Try.underlying27 rfl s2_) rfl ?_
 exact ⟨_, _, _, e1_, by refine b2_ ?_; exact Kd.R_mono (Kd.R_far3 (g := gb236) (Kd.R_types HO255.out BK236.out (by decide)) (fun _ hk => hk.2)) (fun _ hk => hk.1.1), by refine b2_ ?_; exact Kd.R_mono (Kd.R_far3 (g := gb236) (Kd.R_types HO258.out BK236.out (by decide)) (fun _ hk => hk.2)) (fun _ hk => hk.1.1), by refine b2_ ?_; exact Kd.R_mono (Kd.R_far3 (g := gb236) (Kd.R_types HO261.out BK236.out (by decide)) (fun _ hk => hk.2)) (fun _ hk => trivial), by repeat (first | (with_reducible first | exact HB.out | apply below_alloc | apply pw_below_drewN | apply below_drew1 | refine below_set ?_ GE236.out) | exact HB.out)⟩}}}

end Go.Proofs.Ytgfilednbllkmaa.QFnJoinedPresence
