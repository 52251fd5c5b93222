-- written by a program of this session, on the lines of the kit's print
import Derived.Test.YtgfilednbllkmaaQFnExactHeartbeatx0
import Derived.Test.YtgfilednbllkmaaQFnExactHeartbeatx7
import Derived.Test.YtgfilednbllkmaaQFnExactHeartbeatx9
import Derived.Test.YtgfilednbllkmaaQFnExactHeartbeatx10
namespace Go.Proofs.Ytgfilednbllkmaa.QFnExactHeartbeat
open Go.RowKit Go.Proofs.YtgfilednbllkmaaW.PrintWords Go.Proofs.YtgfilednbllkmaaW.PrintLast Go.Proofs.YtgfilednbllkmaaW.PrintMore
attribute [local go_sem] max2_int min2_int max_two min_two max_three min_three max_four min_four   -- for this text's walks alone
set_option linter.unusedVariables false
set_option linter.unusedSimpArgs false

/-! ### spec_l00Max: function 108 -/
def spec_l00Max.f (a0 : Int) (a1 : Int) : Option (Int) := if a0 > a1 then (some a0) else (some a1)
set_option maxHeartbeats 8000000 in
set_option maxRecDepth 100000 in
theorem spec_l00Max.calls (a0 : Int) (a1 : Int) (r : Int) (w : World) (h : spec_l00Max.f a0 a1 = some r) :
    Calls Try.prog 108 #[.int .i64 a0, .int .i64 a1] w fun e w' => e = .returned (.int .i64 r) ∧ Drawn0 w w' := by
  have H : (if a0 > a1 then (some a0) else (some a1)) = some r := h
  clear h
  by_cases c3 : a0 > a1
  · rw [if_pos c3] at H
    have c3b0 : decide (a1 < a0) = true := decide_eq_true c3
    clear c3
    obtain rfl := Option.some.inj H
    go_enter Try.func108, Try.ntmps108
    go_wp2
    go_ret
    exact ⟨by first | rfl | (simp; done) | (simp [*]; done), by repeat (first | exact Drawn0.refl _ | apply Drawn0.step)⟩
  · rw [if_neg c3] at H
    have c3b0 : decide (a1 < a0) = false := decide_eq_false c3
    clear c3
    obtain rfl := Option.some.inj H
    go_enter Try.func108, Try.ntmps108
    go_wp2
    go_ret
    exact ⟨by first | rfl | (simp; done) | (simp [*]; done), by repeat (first | exact Drawn0.refl _ | apply Drawn0.step)⟩

/-! ### spec_l05Put: function 80 -/
abbrev spec_l05Put.T : Bool := true
abbrev spec_l05Put.F : Bool := false
theorem spec_l05Put.s1_ {P : Prop} (h : P := by first | rfl | (simp; done) | (simp [*]; done)) : P := h
theorem spec_l05Put.b1_ {P Q : Prop} (q : Q) (h : Q → P := by intro q_; (with_reducible repeat (first | refine blk_drewN ?_ _ | refine blk_drew ?_ | refine blk_alloc ?_ _)); exact q_) : P := h q
theorem spec_l05Put.b2_ {P Q : Prop} (q : Q) (h : Q → P := by intro q_; (with_reducible repeat (first | apply Kd.R_alloc | apply Kd.R_drewN | apply Kd.R_drew)); exact q_) : P := h q
theorem spec_l05Put.y1_ {P Q : Prop} (q : Q) (h : Q → P := by intro q_; repeat (first | (with_reducible first | exact q_ | apply below_alloc | apply pw_below_drewN | apply below_drew1) | exact q_)) : P := h q
theorem spec_l05Put.b6_ {w w' W : World} {k : Nat} (hg : k = W.heap.size) (q : Aside0 (Below w.heap.size w w')) (h : Below w.heap.size w w' → Below w.heap.size w W := by intro q_; repeat (first | (with_reducible first | exact q_ | apply below_alloc | apply pw_below_drewN | apply below_drew1) | exact q_)) : Aside0 (w.heap.size ≤ k) := ⟨by rw [hg]; exact below_size (h q.out)⟩
theorem spec_l05Put.c1_ {w : World} {g : Nat} {t : TypeId} {cs : Array Value} (q : Aside0 (w.heap[g]? = some (.cells cs t (0, 0)))) (i : Nat) (v : Value) (h : cs[i]? = some v := by rfl) : w.cell? ⟨g, i, none⟩ = some v := (blk_cell q.out i).trans h
theorem spec_l05Put.f1_ {w : World} {g : Nat} {t : TypeId} {cs : Array Value} (q : Aside0 (w.heap[g]? = some (.cells cs t (0, 0)))) (i : Nat) : w.frozen? ⟨g, i, none⟩ = false := blk_frozen q.out i
mutual
def spec_l05Put.l0 : Nat → List (S63) → Int → Int → List (S63) → Bool → Int → Int → Option ((List (S63)))
  | 0, _, _, _, _, _, _, _ => none
  | k + 1, x0, x1, x2, x7, x8, x13, x14 => if x14 < x13 then (if 0 ≤ x14 then (if x14 < (x0.length : Int) then (if x8 = true then (spec_l05Put.j1 k x0 x1 x2 x7 x8 x13 x14 false ((rd_T63 x0 x14).f0) ((rd_T63 x0 x14).f1)) else (spec_l05Put.j1 k x0 x1 x2 x7 x8 x13 x14 (decide (((rd_T63 x0 x14).f0) ≥ x1)) ((rd_T63 x0 x14).f0) ((rd_T63 x0 x14).f1))) else (none)) else (none)) else (if x8 = true then (some x7) else (if x7.length < 8796093022208 then (some (x7 ++ [(⟨x1, x2⟩ : S63)])) else (none)))
def spec_l05Put.j1 : Nat → List (S63) → Int → Int → List (S63) → Bool → Int → Int → Bool → Int → Int → Option ((List (S63)))
  | 0, _, _, _, _, _, _, _, _, _, _ => none
  | k + 1, x0, x1, x2, x7, x8, x13, x14, x28, x272000, x272001 => if x28 = true then (if x272000 = x1 then ((spec_l00Max.f x272001 x2).bind fun t272 => (if x7.length < 8796093022208 then (spec_l05Put.l0 k x0 x1 x2 (x7 ++ [(⟨x272000, t272⟩ : S63)]) true x13 (wrap64 (x14 + 1))) else (none))) else (if x7.length < 8796093022208 then ((some (x7 ++ [(⟨x1, x2⟩ : S63)] : List (S63))).bind fun y276 => (if y276.length < 8796093022208 then (spec_l05Put.l0 k x0 x1 x2 (y276 ++ [(⟨x272000, x272001⟩ : S63)]) true x13 (wrap64 (x14 + 1))) else (none))) else (none))) else (if x7.length < 8796093022208 then (spec_l05Put.l0 k x0 x1 x2 (x7 ++ [(⟨x272000, x272001⟩ : S63)]) x8 x13 (wrap64 (x14 + 1))) else (none))
end
def spec_l05Put.f (k : Nat) (l0 : List (S63)) (a1 : Int) (a2 : Int) : Option ((List (S63))) := spec_l05Put.l0 k l0 a1 a2 (([] : List (S63))) false (l0.length : Int) 0
theorem spec_l05Put.mono_l : ∀ k, (∀ y0 y1 y2 y3 y4 y5 y6, LeO (spec_l05Put.l0 k y0 y1 y2 y3 y4 y5 y6) (spec_l05Put.l0 (k + 1) y0 y1 y2 y3 y4 y5 y6)) ∧ (∀ y0 y1 y2 y3 y4 y5 y6 y7 y8 y9, LeO (spec_l05Put.j1 k y0 y1 y2 y3 y4 y5 y6 y7 y8 y9) (spec_l05Put.j1 (k + 1) y0 y1 y2 y3 y4 y5 y6 y7 y8 y9))
  | 0 => ⟨fun _ _ _ _ _ _ _ r h => by simp [spec_l05Put.l0] at h, fun _ _ _ _ _ _ _ _ _ _ r h => by simp [spec_l05Put.j1] at h⟩
  | k + 1 => by
    obtain ⟨ih0, ih1⟩ := spec_l05Put.mono_l k
    refine ⟨?_, ?_⟩
    · intro y0 y1 y2 y3 y4 y5 y6
      unfold spec_l05Put.l0
      repeat' first
      | (with_reducible exact ih0 _ _ _ _ _ _ _)
      | (with_reducible exact ih1 _ _ _ _ _ _ _ _ _ _)
      | (with_reducible exact LeO.refl _)
      | (with_reducible exact LeO.none _)
      | (with_reducible refine LeO.ite ?_ ?_)
      | (with_reducible refine LeO.bind ?_ (fun _ => ?_))
      | exact ih0 _ _ _ _ _ _ _
      | exact ih1 _ _ _ _ _ _ _ _ _ _
      | exact LeO.none _
      | refine LeO.ite ?_ ?_
      | refine LeO.bind ?_ (fun _ => ?_)
    · intro y0 y1 y2 y3 y4 y5 y6 y7 y8 y9
      unfold spec_l05Put.j1
      repeat' first
      | (with_reducible exact ih0 _ _ _ _ _ _ _)
      | (with_reducible exact ih1 _ _ _ _ _ _ _ _ _ _)
      | (with_reducible exact LeO.refl _)
      | (with_reducible exact LeO.none _)
      | (with_reducible refine LeO.ite ?_ ?_)
      | (with_reducible refine LeO.bind ?_ (fun _ => ?_))
      | exact ih0 _ _ _ _ _ _ _
      | exact ih1 _ _ _ _ _ _ _ _ _ _
      | exact LeO.none _
      | refine LeO.ite ?_ ?_
      | refine LeO.bind ?_ (fun _ => ?_)
theorem spec_l05Put.mono : ∀ a0 a1 a2 k, LeO (spec_l05Put.f k a0 a1 a2) (spec_l05Put.f (k + 1) a0 a1 a2) := by
  intro a0 a1 a2 k
  obtain ⟨ih0, ih1⟩ := spec_l05Put.mono_l k
  unfold spec_l05Put.f
  repeat' first
      | (with_reducible exact ih0 _ _ _ _ _ _ _)
      | (with_reducible exact ih1 _ _ _ _ _ _ _ _ _ _)
      | (with_reducible exact LeO.refl _)
      | (with_reducible exact LeO.none _)
      | (with_reducible refine LeO.ite ?_ ?_)
      | (with_reducible refine LeO.bind ?_ (fun _ => ?_))
      | exact ih0 _ _ _ _ _ _ _
      | exact ih1 _ _ _ _ _ _ _ _ _ _
      | exact LeO.none _
      | refine LeO.ite ?_ ?_
      | refine LeO.bind ?_ (fun _ => ?_)
set_option maxHeartbeats 8000000 in
set_option maxRecDepth 100000 in
theorem spec_l05Put.calls (k : Nat) (A0 : Option Addr) (c0 : Nat) (l0 : List (S63)) (a1 : Int) (a2 : Int) (r : List (S63)) (w : World) (hr0 : Kd.C k63 w A0 l0.length l0) (hc0 : l0.length ≤ c0) (h : spec_l05Put.f k l0 a1 a2 = some r) :
    Calls Try.prog 80 #[.slice A0 l0.length c0, .int .i64 a1, .int .i64 a2] w fun e w' => ∃ v0_ : Value, e = .returned (v0_) ∧ Kd.R k63 63 w' w.heap.size (fun _ => True) v0_ r ∧ Below w.heap.size w w' := by
 have hu63 := Try.underlying63
 have HR0 := Aside0.mk hr0
 have HC0 := Aside0.mk hc0
 clear hr0 hc0
 have HB := Aside0.mk (Below.refl w.heap.size w)
 have H : (spec_l05Put.l0 k l0 a1 a2 (([] : List (S63))) false (l0.length : Int) 0) = some r := h
 clear h
 obtain ⟨y267, hy267⟩ : ∃ y_ : List (S63), y_ = (([] : List (S63))) := ⟨_, rfl⟩
 replace H : (spec_l05Put.l0 k l0 a1 a2 y267 false (l0.length : Int) 0) = some r := by first | (rw [hy267]; with_reducible exact H) | (have H2_ := (Option.bind_some _ _).symm.trans H; rw [hy267]; with_reducible exact H2_) | (have H2_ := (Option.bind_some _ _).symm.trans H; with_reducible exact H2_) | with_reducible exact H | (rw [hy267]; exact H) | exact H
 have Ny267 := Aside0.mk hy267
 clear hy267
 have H' := Aside0.mk H
 clear H
 go_enter Try.func80, Try.ntmps80
 go_wp2_with (first | ((with_reducible refine gate_dst (N := 11) rfl ?_); refine Kd.R_lit k63 _ 63 ?hg (N := 11) ?hd (xs := ([] : List (S63))) (inner := []) (ok := fun _ => True) (okp := fun _ => True) ?hr ?hp (fun _ hk => hk) trivial (Below.refl _ _) (Nat.le_refl _) (by simp) ?_; (case hd => rfl); (case hg => rfl); (case hr => first | (go_simp; done) | (go_simp; rfl)); (case hp => exact (Reps.none _ _)); intro v268 w4 ho5 hb hg_ hnew_; clear hg_ hnew_; (first | rw [← Ny267.out] at ho5 | (simp only [Int.reduceToNat] at ho5; rw [← Ny267.out] at ho5)); have HO269 := Aside0.mk (Kd.R_lower ho5 (below_size (y1_ HB.out))); replace HB := Aside0.mk (below_step (y1_ HB.out) hb); clear hb ho5))
 go_loopg [7, 8, 14] k (fun kq v7 v8 v14 w' => ∃ (x7_1 : List (S63)) (x8_1 : Bool) (x14_1 : Int), v8 = .bool x8_1 ∧ v14 = .int .i64 x14_1 ∧ Aside0 (spec_l05Put.l0 kq l0 a1 a2 x7_1 x8_1 (l0.length : Int) x14_1 = some r) ∧ Aside0 (kq ≤ k) ∧ Aside0 (Kd.R k63 63 w' w.heap.size (fun _ => True) v7 x7_1) ∧ Aside0 (Below w.heap.size w w'))
 case atStart => exact ⟨(y267), (false), (0), s1_, s1_, H', ⟨Nat.le_refl _⟩, ⟨b2_ HO269.out⟩, ⟨by repeat (first | (with_reducible first | exact HB.out | apply below_alloc | apply pw_below_drewN | apply below_drew1) | exact HB.out)⟩⟩
 case round =>
  skip
  {
 clear H'
 try clear p2
 obtain ⟨x7_1, x8_1, x14_1, rfl, rfl, HA, HK1, HO_7, HB⟩ := hrel
 cases gk with
 | zero => exact absurd HA.out (by simp [spec_l05Put.l0])
 | succ k1 =>
  skip
  {
 have H := HA.out
 clear HA
 simp only [spec_l05Put.l0] at H
 by_cases c6 : x14_1 < (l0.length : Int)
 {
 rw [if_pos c6] at H
 have c6b0 : decide (x14_1 < (l0.length : Int)) = true := decide_eq_true c6
 clear c6
 by_cases c7 : 0 ≤ x14_1
 {
 rw [if_pos c7] at H
 have c7b0 : decide (0 ≤ x14_1) = true := decide_eq_true c7
 clear c7
 by_cases c8 : x14_1 < (l0.length : Int)
 {
 rw [if_pos c8] at H
 have c8b0 : decide (x14_1 < (l0.length : Int)) = true := decide_eq_true c8
 clear c8
 have HC9 := Aside0.mk H
 clear H
 have p270 : 0 ≤ (x14_1 : Int) := of_decide_eq_true (by first | (with_reducible assumption) | assumption)
 have q270 : x14_1 < (l0.length : Int) := of_decide_eq_true (by first | (with_reducible assumption) | assumption)
 have hbd270 := Aside0.mk (And.intro p270 q270)
 obtain ⟨ad270, e270, hx270_0, hx270_1⟩ := at_T63 HR0.out x14_1 p270 q270
 cases e270
 replace hx270_0 := (HB.out.cell (World.block_lt_of_cell? w _ hx270_0)).trans hx270_0
 replace hx270_1 := (HB.out.cell (World.block_lt_of_cell? w _ hx270_1)).trans hx270_1
 replace p270 := eq_true p270
 replace q270 := eq_true q270
 go_upto_region 7 with (first | ((with_reducible refine gate_dst (N := 10) rfl ?_); refine box_event ?hg (N := 10) ?hd (cs := #[.int .i64 0, .int .i64 0]) (t := 63) ?hr ?_; (case hd => rfl); (case hg => rfl); (case hr => first | (go_simp; done) | (go_simp; rfl)); intro gb271 hg w10 hbox hb; have GW271 := b6_ hg HB; have GE271 := b6_ hg HB; replace HO_7 := Aside0.mk (Kd.R_below (Kd.R_elderB (b2_ HO_7.out) gb271 (Nat.le_of_eq hg.symm)) hb); replace HB := Aside0.mk (below_step (y1_ HB.out) hb); have BK271 := Aside0.mk (hbox); clear hb hbox hg; have hcz11_0 := c1_ BK271 0 (.int .i64 0); have hcz11_1 := c1_ BK271 1 (.int .i64 0); have hfz11_0 := f1_ BK271 0; have hfz11_1 := f1_ BK271 1))
 (try simp only [Act.put, List.setIfInBounds_toArray, List.set_cons_zero, List.set_cons_succ])
 go_cut [28] (fun v28 wc => ∃ (kq : Nat) (x28_8 : Bool), v28 = .bool x28_8 ∧ Aside0 (spec_l05Put.j1 kq l0 a1 a2 x7_1 x8_1 (l0.length : Int) x14_1 x28_8 ((rd_T63 l0 x14_1).f0) ((rd_T63 l0 x14_1).f1) = some r) ∧ Aside0 (kq ≤ k1) ∧ Aside0 (Kd.R k63 63 wc w.heap.size (fun k_ => k_ ≠ gb271) u7 x7_1) ∧ Aside0 (wc.heap[gb271]? = some (.cells #[.int .i64 ((rd_T63 l0 x14_1).f0), .int .i64 ((rd_T63 l0 x14_1).f1)] 63 (0, 0))) ∧ Aside0 (Below w.heap.size w wc))
 case first =>
  skip
  {
 have H := HC9.out
 clear HC9
 by_cases c12 : x8_1 = true
 {
 subst c12
 have H1 : (spec_l05Put.j1 k1 l0 a1 a2 x7_1 true (l0.length : Int) x14_1 false ((rd_T63 l0 x14_1).f0) ((rd_T63 l0 x14_1).f1)) = some r := by rw [if_pos rfl] at H; exact H
 clear H
 have H := H1
 clear H1
 have H' := Aside0.mk H
 clear H
 go_wp2
 go_meet
 case rel => exact ⟨_, (false), s1_, H', ⟨by have := HK1.out; first | omega | exact Nat.le_refl _⟩, ⟨by (with_reducible repeat (first | apply Kd.R_alloc | apply Kd.R_drewN | apply Kd.R_drew)); exact Kd.R_mono (Kd.R_far (p := ⟨gb271, 1, none⟩) (Kd.R_far (p := ⟨gb271, 0, none⟩) (Kd.R_mono HO_7.out (fun k_ hk => (⟨hk, hk.2⟩ : _ ∧ k_ ≠ gb271))) (fun _ hk => hk.2) (.int .i64 ((rd_T63 l0 x14_1).f0))) (fun _ hk => hk.2) (.int .i64 ((rd_T63 l0 x14_1).f1))) (fun _ hk => hk.1.2)⟩, ⟨by (with_reducible repeat (first | refine blk_drewN ?_ _ | refine blk_drew ?_ | refine blk_alloc ?_ _)); refine blk_put (cs := #[.int .i64 ((rd_T63 l0 x14_1).f0), .int .i64 0]) ?_ 1 _ rfl; (with_reducible repeat (first | refine blk_drewN ?_ _ | refine blk_drew ?_ | refine blk_alloc ?_ _)); refine blk_put (cs := #[.int .i64 0, .int .i64 0]) ?_ 0 _ rfl; (with_reducible repeat (first | refine blk_drewN ?_ _ | refine blk_drew ?_ | refine blk_alloc ?_ _)); exact BK271.out⟩, ⟨by repeat (first | (with_reducible first | exact HB.out | apply below_alloc | apply pw_below_drewN | apply below_drew1 | refine below_set ?_ GE271.out) | exact HB.out)⟩⟩}
 {
 replace c12 := Bool.eq_false_iff.mpr c12
 subst c12
 have H1 : (spec_l05Put.j1 k1 l0 a1 a2 x7_1 false (l0.length : Int) x14_1 (decide (((rd_T63 l0 x14_1).f0) ≥ a1)) ((rd_T63 l0 x14_1).f0) ((rd_T63 l0 x14_1).f1)) = some r := by rw [if_neg (show ¬ (false = true) by decide)] at H; exact H
 clear H
 have H := H1
 clear H1
 have H' := Aside0.mk H
 clear H
 have hcz13_0 := c1_ BK271 0 (.int .i64 0)
 have hcz13_1 := c1_ BK271 1 (.int .i64 0)
 have hfz13_0 := f1_ BK271 0
 have hfz13_1 := f1_ BK271 1
 go_wp2
 go_meet
 case rel => exact ⟨_, (decide (((rd_T63 l0 x14_1).f0) ≥ a1)), s1_, H', ⟨by have := HK1.out; first | omega | exact Nat.le_refl _⟩, ⟨by (with_reducible repeat (first | apply Kd.R_alloc | apply Kd.R_drewN | apply Kd.R_drew)); exact Kd.R_mono (Kd.R_far (p := ⟨gb271, 1, none⟩) (Kd.R_far (p := ⟨gb271, 0, none⟩) (Kd.R_mono HO_7.out (fun k_ hk => (⟨hk, hk.2⟩ : _ ∧ k_ ≠ gb271))) (fun _ hk => hk.2) (.int .i64 ((rd_T63 l0 x14_1).f0))) (fun _ hk => hk.2) (.int .i64 ((rd_T63 l0 x14_1).f1))) (fun _ hk => hk.1.2)⟩, ⟨by (with_reducible repeat (first | refine blk_drewN ?_ _ | refine blk_drew ?_ | refine blk_alloc ?_ _)); refine blk_put (cs := #[.int .i64 ((rd_T63 l0 x14_1).f0), .int .i64 0]) ?_ 1 _ rfl; (with_reducible repeat (first | refine blk_drewN ?_ _ | refine blk_drew ?_ | refine blk_alloc ?_ _)); refine blk_put (cs := #[.int .i64 0, .int .i64 0]) ?_ 0 _ rfl; (with_reducible repeat (first | refine blk_drewN ?_ _ | refine blk_drew ?_ | refine blk_alloc ?_ _)); exact BK271.out⟩, ⟨by repeat (first | (with_reducible first | exact HB.out | apply below_alloc | apply pw_below_drewN | apply below_drew1 | refine below_set ?_ GE271.out) | exact HB.out)⟩⟩}}
 case rest =>
  skip
  {
 clear HC9
 try clear c1
 try clear p2
 try clear q2
 try clear hx2
 try clear c6
 try clear c6b0
 try clear c7
 try clear c7b0
 try clear c8
 try clear c8b0
 try clear c12
 try clear hcz11_0
 try clear hcz11_1
 try clear hcz13_0
 try clear hcz13_1
 try clear hfz11_0
 try clear hfz11_1
 try clear hfz13_0
 try clear hfz13_1
 try clear hx270_0
 try clear hx270_1
 try clear p2
 try clear p270
 try clear q270
 obtain ⟨kq, x28_8, rfl, HA, HJ8, HO_7, BK271, HB⟩ := hcut
 cases kq with
 | zero => exact absurd HA.out (by simp [spec_l05Put.j1])
 | succ kj8 =>
  skip
  {
 have H := HA.out
 clear HA
 simp only [spec_l05Put.j1] at H
 by_cases c14 : x28_8 = true
 {
 subst c14
 have H1 : (if ((rd_T63 l0 x14_1).f0) = a1 then ((spec_l00Max.f ((rd_T63 l0 x14_1).f1) a2).bind fun t272 => (if x7_1.length < 8796093022208 then (spec_l05Put.l0 kj8 l0 a1 a2 (x7_1 ++ [(⟨((rd_T63 l0 x14_1).f0), t272⟩ : S63)]) true (l0.length : Int) (wrap64 (x14_1 + 1))) else (none))) else (if x7_1.length < 8796093022208 then ((some (x7_1 ++ [(⟨a1, a2⟩ : S63)] : List (S63))).bind fun y276 => (if y276.length < 8796093022208 then (spec_l05Put.l0 kj8 l0 a1 a2 (y276 ++ [(⟨((rd_T63 l0 x14_1).f0), ((rd_T63 l0 x14_1).f1)⟩ : S63)]) true (l0.length : Int) (wrap64 (x14_1 + 1))) else (none))) else (none))) = some r := by rw [if_pos rfl] at H; exact H
 clear H
 have H := H1
 clear H1
 by_cases c15 : ((rd_T63 l0 x14_1).f0) = a1
 {
 rw [if_pos c15] at H
 have c15b0 : (((rd_T63 l0 x14_1).f0) == a1) = true := beq_iff_eq.mpr c15
 have c15b1 : (((rd_T63 l0 x14_1).f0) != a1) = false := bne_eq_false_iff_eq.mpr c15
 clear c15
 replace H := Option.bind_eq_some_iff.mp H
 obtain ⟨t272, A160, H⟩ := H
 replace H : (if x7_1.length < 8796093022208 then (spec_l05Put.l0 kj8 l0 a1 a2 (x7_1 ++ [(⟨((rd_T63 l0 x14_1).f0), t272⟩ : S63)]) true (l0.length : Int) (wrap64 (x14_1 + 1))) else (none)) = some r := H
 have A16 := Aside0.mk A160
 clear A160
 by_cases c17 : x7_1.length < 8796093022208
 {
 rw [if_pos c17] at H
 have LMc17 := Aside0.mk c17
 clear c17
 obtain ⟨y273, hy273⟩ : ∃ y_ : List (S63), y_ = (x7_1 ++ [(⟨((rd_T63 l0 x14_1).f0), t272⟩ : S63)]) := ⟨_, rfl⟩
 replace H : (spec_l05Put.l0 kj8 l0 a1 a2 y273 true (l0.length : Int) (wrap64 (x14_1 + 1))) = some r := by first | (rw [hy273]; with_reducible exact H) | (have H2_ := (Option.bind_some _ _).symm.trans H; rw [hy273]; with_reducible exact H2_) | (have H2_ := (Option.bind_some _ _).symm.trans H; with_reducible exact H2_) | with_reducible exact H | (rw [hy273]; exact H) | exact H
 have Ny273 := Aside0.mk hy273
 clear hy273
 have H' := Aside0.mk H
 clear H
 have hcz18_0 := c1_ BK271 0 (.int .i64 ((rd_T63 l0 x14_1).f0))
 have hcz18_1 := c1_ BK271 1 (.int .i64 ((rd_T63 l0 x14_1).f1))
 have hfz18_0 := f1_ BK271 0
 have hfz18_1 := f1_ BK271 1
 go_wp2_with (first | ((with_reducible refine gate_callee (f := 108) rfl ?_); refine goesL_ (some 36) rfl rfl Try.func108 (by kernel_rfl) rfl #[.int .i64 ((rd_T63 l0 x14_1).f1), .int .i64 a2] rfl (by (try simp only [List.map_toArray, List.map_cons, List.map_nil]); first | done | rfl | (simp only [List.length_drop, List.length_take]; rfl)) ?_; (with_reducible refine (spec_l00Max.calls ((rd_T63 l0 x14_1).f1) a2 t272 _ A16.out).mono ?_); rintro e w' ⟨rfl, ⟨nd, rfl⟩⟩; refine ⟨_, rfl, ?_⟩; (try (rw [drewN_self wc]; generalize hq_ : World.drewN wc _ = wc; have n0_ : Aside0 (Kd.R k63 63 wc w.heap.size (fun k_ => k_ ≠ gb271) u7 x7_1) := ⟨by rw [← hq_]; exact (b2_ HO_7.out)⟩; have n1_ : Aside0 (wc.heap[gb271]? = some (.cells #[.int .i64 ((rd_T63 l0 x14_1).f0), .int .i64 ((rd_T63 l0 x14_1).f1)] 63 (0, 0))) := ⟨by rw [← hq_]; exact (b1_ BK271.out)⟩; have n2_ : Aside0 (Below w.heap.size w wc) := ⟨by rw [← hq_]; exact (y1_ HB.out)⟩; clear HO_7 BK271 HB hq_; have HO_7 := n0_; have BK271 := n1_; have HB := n2_; clear n0_ n1_ n2_)); have hcz19_0 := c1_ BK271 0 (.int .i64 ((rd_T63 l0 x14_1).f0)); have hcz19_1 := c1_ BK271 1 (.int .i64 ((rd_T63 l0 x14_1).f1)); have hfz19_0 := f1_ BK271 0; have hfz19_1 := f1_ BK271 1) | ((with_reducible refine gate_builtin (b := .append) (xs := #[.tmp 44, .tmp 46]) rfl ?_); at_builtin; refine Kd.R_append k63 (w0 := w) w.heap.size rfl (.tmp 44) (.tmp 46) 24 63 (.agg #[(.int .i64 0), (.int .i64 0)]) 16 rfl Try.underlying24 info63 rfl (by decide) (by omega) u7 x7_1 (⟨((rd_T63 l0 x14_1).f0), t272⟩ : S63) [.int .i64 ((rd_T63 l0 x14_1).f0), .int .i64 t272] (fun k_ => k_ ≠ gb271) (fun _ => False) rfl (by first | (go_simp; done) | (go_simp; rfl)) ?aP (fun _ hk => hk.elim) ?aF ?aO ?aB ?aS ?aL ?_; (case aP => exact k63_mkM _ _ _ (⟨((rd_T63 l0 x14_1).f0), t272⟩ : S63)); (case aB => exact (by repeat (first | (with_reducible first | exact HB.out | apply below_alloc | apply pw_below_drewN | apply below_drew1 | refine below_set ?_ GE271.out) | exact HB.out))); (case aF => exact (fun k_ hk => Kd.freshB (g := gb271) (o := .cells #[.int .i64 ((rd_T63 l0 x14_1).f0), .int .i64 t272] 63 (0, 0)) (by (with_reducible repeat (first | refine blk_drewN ?_ _ | refine blk_drew ?_ | refine blk_alloc ?_ _)); refine blk_put (cs := #[.int .i64 ((rd_T63 l0 x14_1).f0), .int .i64 ((rd_T63 l0 x14_1).f1)]) ?_ 1 _ rfl; (with_reducible repeat (first | refine blk_drewN ?_ _ | refine blk_drew ?_ | refine blk_alloc ?_ _)); exact BK271.out) k_ hk)); (case aO => exact (by (with_reducible repeat (first | apply Kd.R_alloc | apply Kd.R_drewN | apply Kd.R_drew)); exact Kd.R_mono (Kd.R_far (p := ⟨gb271, 1, none⟩) (Kd.R_mono HO_7.out (fun k_ hk => (⟨hk, hk⟩ : _ ∧ k_ ≠ gb271))) (fun _ hk => hk.2) (.int .i64 t272)) (fun _ hk => hk.1))); (case aS => exact (below_size (by repeat (first | (with_reducible first | exact HB.out | apply below_alloc | apply pw_below_drewN | apply below_drew1 | refine below_set ?_ GE271.out) | exact HB.out)))); (case aL => have := LMc17.out; omega); intro v274 w20 ho hb hg hat; rw [← Ny273.out] at ho; replace BK271 := Aside0.mk (blk_grown (g := gb271) (o := .cells #[.int .i64 ((rd_T63 l0 x14_1).f0), .int .i64 t272] 63 (0, 0)) (by (with_reducible repeat (first | refine blk_drewN ?_ _ | refine blk_drew ?_ | refine blk_alloc ?_ _)); refine blk_put (cs := #[.int .i64 ((rd_T63 l0 x14_1).f0), .int .i64 ((rd_T63 l0 x14_1).f1)]) ?_ 1 _ rfl; (with_reducible repeat (first | refine blk_drewN ?_ _ | refine blk_drew ?_ | refine blk_alloc ?_ _)); exact BK271.out) hg (Kd.R_away HO_7.out (fun _ hk => hk))); replace HB := Aside0.mk (hb); have HO275 := Aside0.mk (ho); clear HO_7; clear ho hb hg hat))
 go_roundg kj8
 case measure => have := HK1.out; have := HJ8.out; omega
 case rel => exact ⟨(y273), (true), (wrap64 (x14_1 + 1)), s1_, s1_, H', ⟨by have := HK1.out; have := HJ8.out; omega⟩, ⟨by (with_reducible repeat (first | apply Kd.R_alloc | apply Kd.R_drewN | apply Kd.R_drew)); exact Kd.R_mono HO275.out (fun _ hk => trivial)⟩, ⟨by repeat (first | (with_reducible first | exact HB.out | apply below_alloc | apply pw_below_drewN | apply below_drew1) | exact HB.out)⟩⟩}
 {
 rw [if_neg c17] at H
 exact absurd H (by simp)}}
 {
 rw [if_neg c15] at H
 have c15b0 : (((rd_T63 l0 x14_1).f0) == a1) = false := beq_eq_false_iff_ne.mpr c15
 have c15b1 : (((rd_T63 l0 x14_1).f0) != a1) = true := bne_iff_ne.mpr c15
 by_cases c21 : x7_1.length < 8796093022208
 {
 rw [if_pos c21] at H
 have LMc21 := Aside0.mk c21
 clear c21
 obtain ⟨y276, hy276⟩ : ∃ y_ : List (S63), y_ = (x7_1 ++ [(⟨a1, a2⟩ : S63)]) := ⟨_, rfl⟩
 replace H : (if y276.length < 8796093022208 then (spec_l05Put.l0 kj8 l0 a1 a2 (y276 ++ [(⟨((rd_T63 l0 x14_1).f0), ((rd_T63 l0 x14_1).f1)⟩ : S63)]) true (l0.length : Int) (wrap64 (x14_1 + 1))) else (none)) = some r := by first | (rw [hy276]; with_reducible exact H) | (have H2_ := (Option.bind_some _ _).symm.trans H; rw [hy276]; with_reducible exact H2_) | (have H2_ := (Option.bind_some _ _).symm.trans H; with_reducible exact H2_) | with_reducible exact H | (rw [hy276]; exact H) | exact H
 have Ny276 := Aside0.mk hy276
 clear hy276
 by_cases c22 : y276.length < 8796093022208
 {
 rw [if_pos c22] at H
 have LMc22 := Aside0.mk c22
 clear c22
 obtain ⟨y279, hy279⟩ : ∃ y_ : List (S63), y_ = (y276 ++ [(⟨((rd_T63 l0 x14_1).f0), ((rd_T63 l0 x14_1).f1)⟩ : S63)]) := ⟨_, rfl⟩
 replace H : (spec_l05Put.l0 kj8 l0 a1 a2 y279 true (l0.length : Int) (wrap64 (x14_1 + 1))) = some r := by first | (rw [hy279]; with_reducible exact H) | (have H2_ := (Option.bind_some _ _).symm.trans H; rw [hy279]; with_reducible exact H2_) | (have H2_ := (Option.bind_some _ _).symm.trans H; with_reducible exact H2_) | with_reducible exact H | (rw [hy279]; exact H) | exact H
 have Ny279 := Aside0.mk hy279
 clear hy279
 have H' := Aside0.mk H
 clear H
 have hcz23_0 := c1_ BK271 0 (.int .i64 ((rd_T63 l0 x14_1).f0))
 have hcz23_1 := c1_ BK271 1 (.int .i64 ((rd_T63 l0 x14_1).f1))
 have hfz23_0 := f1_ BK271 0
 have hfz23_1 := f1_ BK271 1
 go_wp2_with (first | ((with_reducible refine gate_builtin (b := .append) (xs := #[.tmp 38, .tmp 42]) rfl ?_); at_builtin; refine Kd.R_append k63 (w0 := w) w.heap.size rfl (.tmp 38) (.tmp 42) 24 63 (.agg #[(.int .i64 0), (.int .i64 0)]) 16 rfl Try.underlying24 info63 rfl (by decide) (by omega) u7 x7_1 (⟨a1, a2⟩ : S63) [.int .i64 a1, .int .i64 a2] (fun k_ => k_ ≠ gb271) (fun _ => False) rfl rfl ?aP (fun _ hk => hk.elim) ?aF ?aO ?aB ?aS ?aL ?_; (case aP => exact k63_mkM _ _ _ (⟨a1, a2⟩ : S63)); (case aB => exact (y1_ HB.out)); (case aF => exact (fun k_ hk => Kd.freshB (g := gb271) (o := .cells #[.int .i64 ((rd_T63 l0 x14_1).f0), .int .i64 ((rd_T63 l0 x14_1).f1)] 63 (0, 0)) (b1_ BK271.out) k_ hk)); (case aO => exact (b2_ HO_7.out)); (case aS => exact (below_size (y1_ HB.out))); (case aL => have := LMc21.out; omega); intro v277 w24 ho hb hg hat; rw [← Ny276.out] at ho; replace BK271 := Aside0.mk (blk_grown (g := gb271) (o := .cells #[.int .i64 ((rd_T63 l0 x14_1).f0), .int .i64 ((rd_T63 l0 x14_1).f1)] 63 (0, 0)) (b1_ BK271.out) hg (Kd.R_away HO_7.out (fun _ hk => hk))); replace HB := Aside0.mk (hb); have HO278 := Aside0.mk (ho); clear HO_7; clear ho hb hg hat; have hcz25_0 := c1_ BK271 0 (.int .i64 ((rd_T63 l0 x14_1).f0)); have hcz25_1 := c1_ BK271 1 (.int .i64 ((rd_T63 l0 x14_1).f1)); have hfz25_0 := f1_ BK271 0; have hfz25_1 := f1_ BK271 1) | ((with_reducible refine gate_builtin (b := .append) (xs := #[.tmp 44, .tmp 46]) rfl ?_); at_builtin; refine Kd.R_append k63 (w0 := w) w.heap.size rfl (.tmp 44) (.tmp 46) 24 63 (.agg #[(.int .i64 0), (.int .i64 0)]) 16 rfl Try.underlying24 info63 rfl (by decide) (by omega) v277 y276 (⟨((rd_T63 l0 x14_1).f0), ((rd_T63 l0 x14_1).f1)⟩ : S63) [.int .i64 ((rd_T63 l0 x14_1).f0), .int .i64 ((rd_T63 l0 x14_1).f1)] (fun k_ => k_ ≠ gb271) (fun _ => False) rfl rfl ?aP (fun _ hk => hk.elim) ?aF ?aO ?aB ?aS ?aL ?_; (case aP => exact k63_mkM _ _ _ (⟨((rd_T63 l0 x14_1).f0), ((rd_T63 l0 x14_1).f1)⟩ : S63)); (case aB => exact (y1_ HB.out)); (case aF => exact (fun k_ hk => Kd.freshB (g := gb271) (o := .cells #[.int .i64 ((rd_T63 l0 x14_1).f0), .int .i64 ((rd_T63 l0 x14_1).f1)] 63 (0, 0)) (b1_ BK271.out) k_ hk)); (case aO => exact (b2_ HO278.out)); (case aS => exact (below_size (y1_ HB.out))); (case aL => have := LMc22.out; omega); intro v280 w26 ho hb hg hat; rw [← Ny279.out] at ho; replace BK271 := Aside0.mk (blk_grown (g := gb271) (o := .cells #[.int .i64 ((rd_T63 l0 x14_1).f0), .int .i64 ((rd_T63 l0 x14_1).f1)] 63 (0, 0)) (b1_ BK271.out) hg (Kd.R_away HO278.out (fun _ hk => hk))); replace HB := Aside0.mk (hb); have HO281 := Aside0.mk (ho); clear HO278; clear ho hb hg hat))
 go_roundg kj8
 case measure => have := HK1.out; have := HJ8.out; omega
 case rel => exact ⟨(y279), (true), (wrap64 (x14_1 + 1)), s1_, s1_, H', ⟨by have := HK1.out; have := HJ8.out; omega⟩, ⟨by (with_reducible repeat (first | apply Kd.R_alloc | apply Kd.R_drewN | apply Kd.R_drew)); exact Kd.R_mono HO281.out (fun _ hk => trivial)⟩, ⟨by repeat (first | (with_reducible first | exact HB.out | apply below_alloc | apply pw_below_drewN | apply below_drew1) | exact HB.out)⟩⟩}
 {
 rw [if_neg c22] at H
 exact absurd H (by simp)}}
 {
 rw [if_neg c21] at H
 exact absurd H (by simp)}}}
 {
 replace c14 := Bool.eq_false_iff.mpr c14
 subst c14
 have H1 : (if x7_1.length < 8796093022208 then (spec_l05Put.l0 kj8 l0 a1 a2 (x7_1 ++ [(⟨((rd_T63 l0 x14_1).f0), ((rd_T63 l0 x14_1).f1)⟩ : S63)]) x8_1 (l0.length : Int) (wrap64 (x14_1 + 1))) else (none)) = some r := by rw [if_neg (show ¬ (false = true) by decide)] at H; exact H
 clear H
 have H := H1
 clear H1
 by_cases c27 : x7_1.length < 8796093022208
 {
 rw [if_pos c27] at H
 have LMc27 := Aside0.mk c27
 clear c27
 obtain ⟨y282, hy282⟩ : ∃ y_ : List (S63), y_ = (x7_1 ++ [(⟨((rd_T63 l0 x14_1).f0), ((rd_T63 l0 x14_1).f1)⟩ : S63)]) := ⟨_, rfl⟩
 replace H : (spec_l05Put.l0 kj8 l0 a1 a2 y282 x8_1 (l0.length : Int) (wrap64 (x14_1 + 1))) = some r := by first | (rw [hy282]; with_reducible exact H) | (have H2_ := (Option.bind_some _ _).symm.trans H; rw [hy282]; with_reducible exact H2_) | (have H2_ := (Option.bind_some _ _).symm.trans H; with_reducible exact H2_) | with_reducible exact H | (rw [hy282]; exact H) | exact H
 have Ny282 := Aside0.mk hy282
 clear hy282
 have H' := Aside0.mk H
 clear H
 have hcz28_0 := c1_ BK271 0 (.int .i64 ((rd_T63 l0 x14_1).f0))
 have hcz28_1 := c1_ BK271 1 (.int .i64 ((rd_T63 l0 x14_1).f1))
 have hfz28_0 := f1_ BK271 0
 have hfz28_1 := f1_ BK271 1
 go_wp2_with (first | ((with_reducible refine gate_builtin (b := .append) (xs := #[.tmp 44, .tmp 46]) rfl ?_); at_builtin; refine Kd.R_append k63 (w0 := w) w.heap.size rfl (.tmp 44) (.tmp 46) 24 63 (.agg #[(.int .i64 0), (.int .i64 0)]) 16 rfl Try.underlying24 info63 rfl (by decide) (by omega) u7 x7_1 (⟨((rd_T63 l0 x14_1).f0), ((rd_T63 l0 x14_1).f1)⟩ : S63) [.int .i64 ((rd_T63 l0 x14_1).f0), .int .i64 ((rd_T63 l0 x14_1).f1)] (fun k_ => k_ ≠ gb271) (fun _ => False) rfl rfl ?aP (fun _ hk => hk.elim) ?aF ?aO ?aB ?aS ?aL ?_; (case aP => exact k63_mkM _ _ _ (⟨((rd_T63 l0 x14_1).f0), ((rd_T63 l0 x14_1).f1)⟩ : S63)); (case aB => exact (y1_ HB.out)); (case aF => exact (fun k_ hk => Kd.freshB (g := gb271) (o := .cells #[.int .i64 ((rd_T63 l0 x14_1).f0), .int .i64 ((rd_T63 l0 x14_1).f1)] 63 (0, 0)) (b1_ BK271.out) k_ hk)); (case aO => exact (b2_ HO_7.out)); (case aS => exact (below_size (y1_ HB.out))); (case aL => have := LMc27.out; omega); intro v283 w29 ho hb hg hat; rw [← Ny282.out] at ho; replace BK271 := Aside0.mk (blk_grown (g := gb271) (o := .cells #[.int .i64 ((rd_T63 l0 x14_1).f0), .int .i64 ((rd_T63 l0 x14_1).f1)] 63 (0, 0)) (b1_ BK271.out) hg (Kd.R_away HO_7.out (fun _ hk => hk))); replace HB := Aside0.mk (hb); have HO284 := Aside0.mk (ho); clear HO_7; clear ho hb hg hat))
 go_roundg kj8
 case measure => have := HK1.out; have := HJ8.out; omega
 case rel => exact ⟨(y282), (x8_1), (wrap64 (x14_1 + 1)), s1_, s1_, H', ⟨by have := HK1.out; have := HJ8.out; omega⟩, ⟨by (with_reducible repeat (first | apply Kd.R_alloc | apply Kd.R_drewN | apply Kd.R_drew)); exact Kd.R_mono HO284.out (fun _ hk => trivial)⟩, ⟨by repeat (first | (with_reducible first | exact HB.out | apply below_alloc | apply pw_below_drewN | apply below_drew1) | exact HB.out)⟩⟩}
 {
 rw [if_neg c27] at H
 exact absurd H (by simp)}}}}}
 {
 rw [if_neg c8] at H
 exact absurd H (by simp)}}
 {
 rw [if_neg c7] at H
 exact absurd H (by simp)}}
 {
 rw [if_neg c6] at H
 have c6b0 : decide (x14_1 < (l0.length : Int)) = false := decide_eq_false c6
 clear c6
 by_cases c30 : x8_1 = true
 {
 subst c30
 have H1 : (some x7_1) = some r := by rw [if_pos rfl] at H; exact H
 clear H
 have H := H1
 clear H1
 obtain rfl := Option.some.inj H
 go_wp2
 go_ret
 exact ⟨_, by first | rfl | (simp [errW_none, errW_some] <;> rfl) | (simp [*, errW_none, errW_some] <;> rfl), by (with_reducible repeat (first | apply Kd.R_alloc | apply Kd.R_drewN | apply Kd.R_drew)); exact HO_7.out, by repeat (first | (with_reducible first | exact HB.out | apply below_alloc | apply pw_below_drewN | apply below_drew1) | exact HB.out)⟩}
 {
 replace c30 := Bool.eq_false_iff.mpr c30
 subst c30
 have H1 : (if x7_1.length < 8796093022208 then (some (x7_1 ++ [(⟨a1, a2⟩ : S63)])) else (none)) = some r := by rw [if_neg (show ¬ (false = true) by decide)] at H; exact H
 clear H
 have H := H1
 clear H1
 by_cases c31 : x7_1.length < 8796093022208
 {
 rw [if_pos c31] at H
 have LMc31 := Aside0.mk c31
 clear c31
 obtain ⟨y285, hy285⟩ : ∃ y_ : List (S63), y_ = (x7_1 ++ [(⟨a1, a2⟩ : S63)]) := ⟨_, rfl⟩
 replace H : (some y285) = some r := by first | (rw [hy285]; with_reducible exact H) | (have H2_ := (Option.bind_some _ _).symm.trans H; rw [hy285]; with_reducible exact H2_) | (have H2_ := (Option.bind_some _ _).symm.trans H; with_reducible exact H2_) | with_reducible exact H | (rw [hy285]; exact H) | exact H
 have Ny285 := Aside0.mk hy285
 clear hy285
 obtain rfl := Option.some.inj H
 go_wp2_with (first | ((with_reducible refine gate_builtin (b := .append) (xs := #[.tmp 51, .tmp 55]) rfl ?_); at_builtin; refine Kd.R_append k63 (w0 := w) w.heap.size rfl (.tmp 51) (.tmp 55) 24 63 (.agg #[(.int .i64 0), (.int .i64 0)]) 16 rfl Try.underlying24 info63 rfl (by decide) (by omega) u7 x7_1 (⟨a1, a2⟩ : S63) [.int .i64 a1, .int .i64 a2] (fun _ => True) (fun _ => False) rfl rfl ?aP (fun _ hk => hk.elim) ?aF ?aO ?aB ?aS ?aL ?_; (case aP => exact k63_mkM _ _ _ (⟨a1, a2⟩ : S63)); (case aB => exact (y1_ HB.out)); (case aF => exact (fun _ _ => trivial)); (case aO => exact (b2_ HO_7.out)); (case aS => exact (below_size (y1_ HB.out))); (case aL => have := LMc31.out; omega); intro v286 w32 ho hb hg hat; rw [← Ny285.out] at ho; replace HB := Aside0.mk (hb); have HO287 := Aside0.mk (ho); clear HO_7; clear ho hb hg hat))
 go_ret
 exact ⟨_, by first | rfl | (simp [errW_none, errW_some] <;> rfl) | (simp [*, errW_none, errW_some] <;> rfl), by (with_reducible repeat (first | apply Kd.R_alloc | apply Kd.R_drewN | apply Kd.R_drew)); exact HO287.out, by repeat (first | (with_reducible first | exact HB.out | apply below_alloc | apply pw_below_drewN | apply below_drew1) | exact HB.out)⟩}
 {
 rw [if_neg c31] at H
 exact absurd H (by simp)}}}}}

/-! ### spec_l05Give: function 82 -/
abbrev spec_l05Give.T : Bool := true
abbrev spec_l05Give.F : Bool := false
theorem spec_l05Give.s2_ {P : Prop} (h : P := by kernel_rfl) : P := h
theorem spec_l05Give.b1_ {P Q : Prop} (q : Q) (h : Q → P := by intro q_; (with_reducible repeat (first | refine blk_drewN ?_ _ | refine blk_drew ?_ | refine blk_alloc ?_ _)); exact q_) : P := h q
theorem spec_l05Give.b2_ {P Q : Prop} (q : Q) (h : Q → P := by intro q_; (with_reducible repeat (first | apply Kd.R_alloc | apply Kd.R_drewN | apply Kd.R_drew)); exact q_) : P := h q
theorem spec_l05Give.y1_ {P Q : Prop} (q : Q) (h : Q → P := by intro q_; repeat (first | (with_reducible first | exact q_ | apply below_alloc | apply pw_below_drewN | apply below_drew1) | exact q_)) : P := h q
theorem spec_l05Give.y2_ {P Q : Prop} (q : Q) (h : Q → P := by intro q_; repeat (first | exact q_ | (with_reducible refine Kd.C_alloc ?_ _) | (with_reducible refine Kd.C_drewN ?_ _) | (with_reducible refine Kd.C_drew ?_))) : P := h q
theorem spec_l05Give.b3_ {w w1 W : World} {g : Nat} {o : Obj} (q : Aside0 (w.heap[g]? = some o)) (hb : Below W.heap.size W w1) (h : w.heap[g]? = some o → W.heap[g]? = some o := by intro q_; (with_reducible repeat (first | refine blk_drewN ?_ _ | refine blk_drew ?_ | refine blk_alloc ?_ _)); exact q_) : Aside0 (w1.heap[g]? = some o) := ⟨blk_below (h q.out) hb⟩
theorem spec_l05Give.b4_ {w W : World} {g k : Nat} {o : Obj} (hg : k = W.heap.size) (q : Aside0 (w.heap[g]? = some o)) (h : w.heap[g]? = some o → W.heap[g]? = some o := by intro q_; (with_reducible repeat (first | refine blk_drewN ?_ _ | refine blk_drew ?_ | refine blk_alloc ?_ _)); exact q_) : Aside0 (g ≠ k) := ⟨by rw [hg]; exact Nat.ne_of_lt (blk_lt (h q.out))⟩
theorem spec_l05Give.b5_ {w W : World} {g k : Nat} {o : Obj} (hg : k = W.heap.size) (q : Aside0 (w.heap[g]? = some o)) (h : w.heap[g]? = some o → W.heap[g]? = some o := by intro q_; (with_reducible repeat (first | refine blk_drewN ?_ _ | refine blk_drew ?_ | refine blk_alloc ?_ _)); exact q_) : Aside0 (k ≠ g) := ⟨by rw [hg]; exact Nat.ne_of_gt (blk_lt (h q.out))⟩
theorem spec_l05Give.bx_ {P : Program} {ops : Array Oper} {rest : List Oper} {o : Oper} {a : Act} {Q : Exit → Act → World → Prop} {W : World} (N : Tmp) (cs : Array Value) (t : TypeId) (h : ∀ g, g = W.heap.size → ∀ w1, w1.heap[g]? = some (.cells cs t (0, 0)) → Below W.heap.size W w1 → wpList P ops Q rest (a.put o.dst (.pointer (some ⟨g, 0, none⟩))) w1) (hgd : o.guard = none := by rfl) (hd : o.dst = some N := by rfl) (hrun : (execOp a.eval o).run P W = .ok (.value (.pointer (some ⟨W.heap.size, 0, none⟩))) (W.alloc (.cells cs t (0, 0))) := by first | (go_simp; done) | (go_simp; rfl)) : wpList P ops Q (o :: rest) a W := box_event hgd hd hrun h
theorem spec_l05Give.c1_ {w : World} {g : Nat} {t : TypeId} {cs : Array Value} (q : Aside0 (w.heap[g]? = some (.cells cs t (0, 0)))) (i : Nat) (v : Value) (h : cs[i]? = some v := by rfl) : w.cell? ⟨g, i, none⟩ = some v := (blk_cell q.out i).trans h
theorem spec_l05Give.f1_ {w : World} {g : Nat} {t : TypeId} {cs : Array Value} (q : Aside0 (w.heap[g]? = some (.cells cs t (0, 0)))) (i : Nat) : w.frozen? ⟨g, i, none⟩ = false := blk_frozen q.out i
theorem spec_l05Give.r1_ {α : Type} {d : Kd α} {e base : Nat} {ok : Nat → Prop} {v : Value} {xs : List α} {w W w1 : World} (q : Aside0 (d.R e w base ok v xs)) (hb : Below W.heap.size W w1) (h : d.R e w base ok v xs → d.R e W base ok v xs := by intro q_; (with_reducible repeat (first | apply Kd.R_alloc | apply Kd.R_drewN | apply Kd.R_drew)); exact q_) : Aside0 (d.R e w1 base ok v xs) := ⟨Kd.R_below (h q.out) hb⟩
def spec_l05Give.f (k : Nat) (l0_0 : List (S63)) (l0_1 : List (S63)) (l0_2 : List (S73)) : Option ((List (S63)) × (List (S63)) × (List (S73)) × Bool) := (spec_l05Is.f k l0_0 l0_1 l0_2).bind fun t290 => (if t290 = true then (some (l0_0, l0_1, l0_2, true)) else (some (([] : List (S63)), ([] : List (S63)), ([] : List (S73)), false)))
theorem spec_l05Give.mono : ∀ a0 a1 a2 k, LeO (spec_l05Give.f k a0 a1 a2) (spec_l05Give.f (k + 1) a0 a1 a2) := by
  intro a0 a1 a2 k
  unfold spec_l05Give.f
  repeat' first
      | (with_reducible exact spec_l05Is.mono _ _ _ _)
      | (with_reducible exact LeO.refl _)
      | (with_reducible exact LeO.none _)
      | (with_reducible refine LeO.ite ?_ ?_)
      | (with_reducible refine LeO.bind ?_ (fun _ => ?_))
      | exact spec_l05Is.mono _ _ _ _
      | exact LeO.none _
      | refine LeO.ite ?_ ?_
      | refine LeO.bind ?_ (fun _ => ?_)
set_option maxHeartbeats 8000000 in
set_option maxRecDepth 100000 in
theorem spec_l05Give.calls (k : Nat) (P0_0_ : Nat → Prop) (u9000_ : Value) (l0_0 : List (S63)) (P0_1_ : Nat → Prop) (u9001_ : Value) (l0_1 : List (S63)) (P0_2_ : Nat → Prop) (u9002_ : Value) (l0_2 : List (S73)) (r1 : List (S63)) (r2 : List (S63)) (r3 : List (S73)) (r4 : Bool) (w0 w : World) (hB : Below w0.heap.size w0 w) (ho0_0 : Kd.R k63 63 w w0.heap.size P0_0_ u9000_ l0_0) (hp0_0_0_1 : ∀ k_, P0_0_ k_ → ¬ P0_1_ k_) (ho0_1 : Kd.R k63 63 w w0.heap.size P0_1_ u9001_ l0_1) (hp0_1_0_0 : ∀ k_, P0_1_ k_ → ¬ P0_0_ k_) (ho0_2 : Kd.R k73 73 w w0.heap.size P0_2_ u9002_ l0_2) (h : spec_l05Give.f k l0_0 l0_1 l0_2 = some (r1, r2, r3, r4)) :
    Calls Try.prog 82 #[.agg #[u9000_, u9001_, u9002_]] w fun e w' => ∃ v0_ v1_ v2_ : Value, e = .returned (.tuple #[.agg #[v0_, v1_, v2_], .bool r4]) ∧ Kd.R k63 63 w' w0.heap.size (fun k_ => ((P0_0_ k_ ∨ P0_1_ k_ ∨ P0_2_ k_) ∨ w.heap.size ≤ k_) ∧ some k_ ≠ (v1_ : Value).ownBlock) v0_ r1 ∧ Kd.R k63 63 w' w0.heap.size (fun k_ => ((P0_0_ k_ ∨ P0_1_ k_ ∨ P0_2_ k_) ∨ w.heap.size ≤ k_) ∧ some k_ ≠ (v0_ : Value).ownBlock) v1_ r2 ∧ Kd.R k73 73 w' w0.heap.size (fun k_ => ((P0_0_ k_ ∨ P0_1_ k_ ∨ P0_2_ k_) ∨ w.heap.size ≤ k_)) v2_ r3 ∧ Below w0.heap.size w0 w' ∧ Kept w w' (fun k_ => P0_0_ k_ ∨ P0_1_ k_ ∨ P0_2_ k_) := by
 have hu27 := Try.underlying27
 have HO0_0 := Aside0.mk (show Kd.R k63 63 w w0.heap.size (fun k_ => ((P0_0_ k_ ∨ P0_1_ k_ ∨ P0_2_ k_) ∨ w.heap.size ≤ k_) ∧ some k_ ≠ (u9001_ : Value).ownBlock) u9000_ l0_0 from Kd.R_mono ho0_0 (fun k_ hk => ⟨(.inl (.inl hk)), fun e_ => hp0_0_0_1 k_ hk (ho0_1.1 k_ e_.symm)⟩))
 have HO0_1 := Aside0.mk (show Kd.R k63 63 w w0.heap.size (fun k_ => ((P0_0_ k_ ∨ P0_1_ k_ ∨ P0_2_ k_) ∨ w.heap.size ≤ k_) ∧ some k_ ≠ (u9000_ : Value).ownBlock) u9001_ l0_1 from Kd.R_mono ho0_1 (fun k_ hk => ⟨(.inl (.inr (.inl hk))), fun e_ => hp0_1_0_0 k_ hk (ho0_0.1 k_ e_.symm)⟩))
 have HO0_2 := Aside0.mk (show Kd.R k73 73 w w0.heap.size (fun k_ => ((P0_0_ k_ ∨ P0_1_ k_ ∨ P0_2_ k_) ∨ w.heap.size ≤ k_)) u9002_ l0_2 from Kd.R_mono ho0_2 (fun k_ hk => (.inl (.inr (.inr hk)))))
 have HK := Aside0.mk (Kept.refl w (fun k_ => P0_0_ k_ ∨ P0_1_ k_ ∨ P0_2_ k_))
 have HW0 := Aside0.mk hB.size
 have HB := Aside0.mk hB
 clear hB
 have H : ((spec_l05Is.f k l0_0 l0_1 l0_2).bind fun t290 => (if t290 = true then (some (l0_0, l0_1, l0_2, true)) else (some (([] : List (S63)), ([] : List (S63)), ([] : List (S73)), false)))) = some (r1, r2, r3, r4) := h
 clear h
 replace H := Option.bind_eq_some_iff.mp H
 obtain ⟨t290, A20, H⟩ := H
 replace H : (if t290 = true then (some (l0_0, l0_1, l0_2, true)) else (some (([] : List (S63)), ([] : List (S63)), ([] : List (S73)), false))) = some (r1, r2, r3, r4) := H
 have A2 := Aside0.mk A20
 clear A20
 by_cases c3 : t290 = true
 {
 subst c3
 have H1 : (some (l0_0, l0_1, l0_2, true)) = some (r1, r2, r3, r4) := by rw [if_pos rfl] at H; exact H
 clear H
 have H := H1
 clear H1
 simp only [Option.some.injEq, Prod.mk.injEq] at H
 obtain ⟨rfl, rfl, rfl, rfl⟩ := H
 obtain ⟨Ao4, co4, eo4⟩ := Kd.R_slice HO0_0.out
 subst eo4
 obtain ⟨Ao5, co5, eo5⟩ := Kd.R_slice HO0_1.out
 subst eo5
 obtain ⟨Ao6, co6, eo6⟩ := Kd.R_slice HO0_2.out
 subst eo6
 go_enter Try.func82, Try.ntmps82
 go_wp2_with (first | ((with_reducible refine gate_dst (N := 1) rfl ?_); refine bx_ 1 #[.slice Ao4 l0_0.length co4, .slice Ao5 l0_1.length co5, .slice Ao6 l0_2.length co6] 27 ?_; intro gb288 hg w7 hbox hb; have GW288 := Aside0.mk ((by rw [hg]; exact (by first | exact HK.out.1 | exact (show Kept w _ (fun k_ => P0_0_ k_ ∨ P0_1_ k_ ∨ P0_2_ k_) from by repeat (first | (with_reducible first | exact HK.out | apply Kept.alloc | apply Kept.drewN | apply Kept.drew) | exact HK.out)).1) : w.heap.size ≤ gb288)); have GE288 := Aside0.mk ((by rw [hg]; exact (below_size (y1_ HB.out)) : w0.heap.size ≤ gb288)); replace HO0_0 := r1_ HO0_0 hb; replace HO0_1 := r1_ HO0_1 hb; replace HO0_2 := r1_ HO0_2 hb; replace HK := Aside0.mk (Kept.below (S := (fun k_ => P0_0_ k_ ∨ P0_1_ k_ ∨ P0_2_ k_)) (by repeat (first | (with_reducible first | exact HK.out | apply Kept.alloc | apply Kept.drewN | apply Kept.drew) | exact HK.out)) hb); replace HB := Aside0.mk (below_step (y1_ HB.out) hb); have BK288 := Aside0.mk (hbox); clear hb hbox hg) | ((with_reducible refine gate_dst (N := 2) rfl ?_); refine bx_ 2 #[.slice none 0 0, .slice none 0 0, .slice none 0 0] 27 ?_; intro gb289 hg w8 hbox hb; have GW289 := Aside0.mk ((by rw [hg]; exact (by first | exact HK.out.1 | exact (show Kept w _ (fun k_ => P0_0_ k_ ∨ P0_1_ k_ ∨ P0_2_ k_) from by repeat (first | (with_reducible first | exact HK.out | apply Kept.alloc | apply Kept.drewN | apply Kept.drew) | exact HK.out)).1) : w.heap.size ≤ gb289)); have GE289 := Aside0.mk ((by rw [hg]; exact (below_size (y1_ HB.out)) : w0.heap.size ≤ gb289)); have NB288_289 := b4_ hg BK288; have NB289_288 := b5_ hg BK288; replace HO0_0 := r1_ HO0_0 hb; replace HO0_1 := r1_ HO0_1 hb; replace HO0_2 := r1_ HO0_2 hb; replace BK288 := b3_ BK288 hb; replace HK := Aside0.mk (Kept.below (S := (fun k_ => P0_0_ k_ ∨ P0_1_ k_ ∨ P0_2_ k_)) (by repeat (first | (with_reducible first | exact HK.out | apply Kept.alloc | apply Kept.drewN | apply Kept.drew) | exact HK.out)) hb); replace HB := Aside0.mk (below_step (y1_ HB.out) hb); have BK289 := Aside0.mk (hbox); clear hb hbox hg) | ((with_reducible refine gate_callee (f := 57) rfl ?_); refine goesL_ (some 4) rfl rfl Try.func57 s2_ rfl #[.pointer (some ⟨gb288, 0, none⟩)] rfl (by (try simp only [List.map_toArray, List.map_cons, List.map_nil]); first | done | rfl | (simp only [List.length_drop, List.length_take]; rfl)) ?_; (with_reducible refine (spec_l05Is.calls k gb288 Ao4 co4 l0_0 Ao5 co5 l0_1 Ao6 co6 l0_2 true _ ?side1 ?side2 ?side3 ?side4 ?side5 ?side6 ?side7 A2.out).mono ?_); (case side1 => exact (b1_ BK288.out)); (case side2 => exact y2_ (Kd.R_reads' HO0_0.out).2.2); (case side3 => exact (Kd.R_reads' HO0_0.out).2.1); (case side4 => exact y2_ (Kd.R_reads' HO0_1.out).2.2); (case side5 => exact (Kd.R_reads' HO0_1.out).2.1); (case side6 => exact y2_ (Kd.R_reads' HO0_2.out).2.2); (case side7 => exact (Kd.R_reads' HO0_2.out).2.1); rintro e w9 ⟨rfl, hb⟩; refine ⟨_, rfl, ?_⟩; replace HO0_0 := r1_ HO0_0 hb; replace HO0_1 := r1_ HO0_1 hb; replace HO0_2 := r1_ HO0_2 hb; replace BK288 := b3_ BK288 hb; replace BK289 := b3_ BK289 hb; replace HK := Aside0.mk (Kept.below (S := (fun k_ => P0_0_ k_ ∨ P0_1_ k_ ∨ P0_2_ k_)) (by repeat (first | (with_reducible first | exact HK.out | apply Kept.alloc | apply Kept.drewN | apply Kept.drew) | exact HK.out)) hb); replace HB := Aside0.mk (below_step (y1_ HB.out) hb); (try clear hb); (try clear hb2); (try clear hk); (try clear hi); have hnb10 := NB288_289.out; have hnc10 := NB289_288.out; have hcz11_0 := c1_ BK288 0 (.slice Ao4 l0_0.length co4); have hcz11_1 := c1_ BK288 1 (.slice Ao5 l0_1.length co5); have hcz11_2 := c1_ BK288 2 (.slice Ao6 l0_2.length co6); have hfz11_0 := f1_ BK288 0; have hfz11_1 := f1_ BK288 1; have hfz11_2 := f1_ BK288 2; have hcz12_0 := c1_ BK289 0 (.slice none 0 0); have hcz12_1 := c1_ BK289 1 (.slice none 0 0); have hcz12_2 := c1_ BK289 2 (.slice none 0 0); have hfz12_0 := f1_ BK289 0; have hfz12_1 := f1_ BK289 1; have hfz12_2 := f1_ BK289 2))
 refine bodyPost_ret (results_ct rfl _ _ gb289 27 #[.slice Ao4 l0_0.length co4, .slice Ao5 l0_1.length co5, .slice Ao6 l0_2.length co6] (0, 0) _ rfl (by (with_reducible repeat (first | refine blk_drewN ?_ _ | refine blk_drew ?_ | refine blk_alloc ?_ _)); refine blk_put3 (cs := #[.slice none 0 0, .slice none 0 0, .slice none 0 0]) ?_ rfl; (with_reducible repeat (first | refine blk_drewN ?_ _ | refine blk_drew ?_ | refine blk_alloc ?_ _)); exact BK289.out) Try.underlying27 rfl s2_) rfl ?_
 exact ⟨_, _, _, by first | rfl | (simp [errW_none, errW_some] <;> rfl) | (simp [*, errW_none, errW_some] <;> rfl), by (with_reducible repeat (first | apply Kd.R_alloc | apply Kd.R_drewN | apply Kd.R_drew)); exact Kd.R_mono (Kd.R_far3 (g := gb289) (Kd.R_types HO0_0.out BK289.out (by decide)) (fun _ hk => hk.2)) (fun _ hk => ⟨hk.1.1, hk.1.2⟩), by (with_reducible repeat (first | apply Kd.R_alloc | apply Kd.R_drewN | apply Kd.R_drew)); exact Kd.R_mono (Kd.R_far3 (g := gb289) (Kd.R_types HO0_1.out BK289.out (by decide)) (fun _ hk => hk.2)) (fun _ hk => ⟨hk.1.1, hk.1.2⟩), by (with_reducible repeat (first | apply Kd.R_alloc | apply Kd.R_drewN | apply Kd.R_drew)); exact Kd.R_mono (Kd.R_far3 (g := gb289) (Kd.R_types HO0_2.out BK289.out (by decide)) (fun _ hk => hk.2)) (fun _ hk => hk.1), by repeat (first | (with_reducible first | exact HB.out | apply below_alloc | apply pw_below_drewN | apply below_drew1 | refine below_set ?_ GE289.out) | exact HB.out), by repeat (first | (with_reducible first | exact HK.out | apply Kept.alloc | apply Kept.drewN | apply Kept.drew | refine Kept.setCell ?_ (.inr GW289.out) _) | exact HK.out)⟩}
 {
 replace c3 := Bool.eq_false_iff.mpr c3
 subst c3
 have H1 : (some (([] : List (S63)), ([] : List (S63)), ([] : List (S73)), false)) = some (r1, r2, r3, r4) := by rw [if_neg (show ¬ (false = true) by decide)] at H; exact H
 clear H
 have H := H1
 clear H1
 simp only [Option.some.injEq, Prod.mk.injEq] at H
 obtain ⟨rfl, rfl, rfl, rfl⟩ := H
 obtain ⟨Ao13, co13, eo13⟩ := Kd.R_slice HO0_0.out
 subst eo13
 obtain ⟨Ao14, co14, eo14⟩ := Kd.R_slice HO0_1.out
 subst eo14
 obtain ⟨Ao15, co15, eo15⟩ := Kd.R_slice HO0_2.out
 subst eo15
 go_enter Try.func82, Try.ntmps82
 go_wp2_with (first | ((with_reducible refine gate_dst (N := 1) rfl ?_); refine bx_ 1 #[.slice Ao13 l0_0.length co13, .slice Ao14 l0_1.length co14, .slice Ao15 l0_2.length co15] 27 ?_; intro gb288 hg w16 hbox hb; have GW288 := Aside0.mk ((by rw [hg]; exact (by first | exact HK.out.1 | exact (show Kept w _ (fun k_ => P0_0_ k_ ∨ P0_1_ k_ ∨ P0_2_ k_) from by repeat (first | (with_reducible first | exact HK.out | apply Kept.alloc | apply Kept.drewN | apply Kept.drew) | exact HK.out)).1) : w.heap.size ≤ gb288)); have GE288 := Aside0.mk ((by rw [hg]; exact (below_size (y1_ HB.out)) : w0.heap.size ≤ gb288)); replace HO0_0 := r1_ HO0_0 hb; replace HO0_1 := r1_ HO0_1 hb; replace HO0_2 := r1_ HO0_2 hb; replace HK := Aside0.mk (Kept.below (S := (fun k_ => P0_0_ k_ ∨ P0_1_ k_ ∨ P0_2_ k_)) (by repeat (first | (with_reducible first | exact HK.out | apply Kept.alloc | apply Kept.drewN | apply Kept.drew) | exact HK.out)) hb); replace HB := Aside0.mk (below_step (y1_ HB.out) hb); have BK288 := Aside0.mk (hbox); clear hb hbox hg) | ((with_reducible refine gate_dst (N := 2) rfl ?_); refine bx_ 2 #[.slice none 0 0, .slice none 0 0, .slice none 0 0] 27 ?_; intro gb289 hg w17 hbox hb; have GW289 := Aside0.mk ((by rw [hg]; exact (by first | exact HK.out.1 | exact (show Kept w _ (fun k_ => P0_0_ k_ ∨ P0_1_ k_ ∨ P0_2_ k_) from by repeat (first | (with_reducible first | exact HK.out | apply Kept.alloc | apply Kept.drewN | apply Kept.drew) | exact HK.out)).1) : w.heap.size ≤ gb289)); have GE289 := Aside0.mk ((by rw [hg]; exact (below_size (y1_ HB.out)) : w0.heap.size ≤ gb289)); have NB288_289 := b4_ hg BK288; have NB289_288 := b5_ hg BK288; replace HO0_0 := r1_ HO0_0 hb; replace HO0_1 := r1_ HO0_1 hb; replace HO0_2 := r1_ HO0_2 hb; replace BK288 := b3_ BK288 hb; replace HK := Aside0.mk (Kept.below (S := (fun k_ => P0_0_ k_ ∨ P0_1_ k_ ∨ P0_2_ k_)) (by repeat (first | (with_reducible first | exact HK.out | apply Kept.alloc | apply Kept.drewN | apply Kept.drew) | exact HK.out)) hb); replace HB := Aside0.mk (below_step (y1_ HB.out) hb); have BK289 := Aside0.mk (hbox); clear hb hbox hg) | ((with_reducible refine gate_callee (f := 57) rfl ?_); refine goesL_ (some 4) rfl rfl Try.func57 s2_ rfl #[.pointer (some ⟨gb288, 0, none⟩)] rfl (by (try simp only [List.map_toArray, List.map_cons, List.map_nil]); first | done | rfl | (simp only [List.length_drop, List.length_take]; rfl)) ?_; (with_reducible refine (spec_l05Is.calls k gb288 Ao13 co13 l0_0 Ao14 co14 l0_1 Ao15 co15 l0_2 false _ ?side1 ?side2 ?side3 ?side4 ?side5 ?side6 ?side7 A2.out).mono ?_); (case side1 => exact (b1_ BK288.out)); (case side2 => exact y2_ (Kd.R_reads' HO0_0.out).2.2); (case side3 => exact (Kd.R_reads' HO0_0.out).2.1); (case side4 => exact y2_ (Kd.R_reads' HO0_1.out).2.2); (case side5 => exact (Kd.R_reads' HO0_1.out).2.1); (case side6 => exact y2_ (Kd.R_reads' HO0_2.out).2.2); (case side7 => exact (Kd.R_reads' HO0_2.out).2.1); rintro e w18 ⟨rfl, hb⟩; refine ⟨_, rfl, ?_⟩; replace HO0_0 := r1_ HO0_0 hb; replace HO0_1 := r1_ HO0_1 hb; replace HO0_2 := r1_ HO0_2 hb; replace BK288 := b3_ BK288 hb; replace BK289 := b3_ BK289 hb; replace HK := Aside0.mk (Kept.below (S := (fun k_ => P0_0_ k_ ∨ P0_1_ k_ ∨ P0_2_ k_)) (by repeat (first | (with_reducible first | exact HK.out | apply Kept.alloc | apply Kept.drewN | apply Kept.drew) | exact HK.out)) hb); replace HB := Aside0.mk (below_step (y1_ HB.out) hb); (try clear hb); (try clear hb2); (try clear hk); (try clear hi); have hnb19 := NB289_288.out; have hnc19 := NB288_289.out; have hcz20_0 := c1_ BK289 0 (.slice none 0 0); have hcz20_1 := c1_ BK289 1 (.slice none 0 0); have hcz20_2 := c1_ BK289 2 (.slice none 0 0); have hfz20_0 := f1_ BK289 0; have hfz20_1 := f1_ BK289 1; have hfz20_2 := f1_ BK289 2))
 refine bodyPost_ret (results_ct rfl _ _ gb289 27 #[.slice none 0 0, .slice none 0 0, .slice none 0 0] (0, 0) _ rfl (by (with_reducible repeat (first | refine blk_drewN ?_ _ | refine blk_drew ?_ | refine blk_alloc ?_ _)); refine blk_put3 (cs := #[.slice none 0 0, .slice none 0 0, .slice none 0 0]) ?_ rfl; (with_reducible repeat (first | refine blk_drewN ?_ _ | refine blk_drew ?_ | refine blk_alloc ?_ _)); exact BK289.out) Try.underlying27 rfl s2_) rfl ?_
 exact ⟨_, _, _, by first | rfl | (simp [errW_none, errW_some] <;> rfl) | (simp [*, errW_none, errW_some] <;> rfl), by first | exact Kd.R_nil _ _ _ _ _ | exact Kd.N_nil _ _ _ _ _ | exact Kd.V_nil _ _ _ _ _ | exact Kd.Q_nil _ _ _ _ _ | exact Kd.S_nil _ _ _ _ _, by first | exact Kd.R_nil _ _ _ _ _ | exact Kd.N_nil _ _ _ _ _ | exact Kd.V_nil _ _ _ _ _ | exact Kd.Q_nil _ _ _ _ _ | exact Kd.S_nil _ _ _ _ _, by first | exact Kd.R_nil _ _ _ _ _ | exact Kd.N_nil _ _ _ _ _ | exact Kd.V_nil _ _ _ _ _ | exact Kd.Q_nil _ _ _ _ _ | exact Kd.S_nil _ _ _ _ _, by repeat (first | (with_reducible first | exact HB.out | apply below_alloc | apply pw_below_drewN | apply below_drew1 | refine below_set ?_ GE289.out) | exact HB.out), by repeat (first | (with_reducible first | exact HK.out | apply Kept.alloc | apply Kept.drewN | apply Kept.drew | refine Kept.setCell ?_ (.inr GW289.out) _) | exact HK.out)⟩}

/-! ### spec_l05Beat: function 75 -/
abbrev spec_l05Beat.T : Bool := true
abbrev spec_l05Beat.F : Bool := false
theorem spec_l05Beat.s1_ {P : Prop} (h : P := by first | rfl | (simp; done) | (simp [*]; done)) : P := h
theorem spec_l05Beat.s2_ {P : Prop} (h : P := by kernel_rfl) : P := h
theorem spec_l05Beat.s3_ {P : Prop} (h : P := by (try simp only [List.map_toArray, List.map_cons, List.map_nil]); first | done | rfl | (simp only [List.length_drop, List.length_take]; rfl)) : P := h
theorem spec_l05Beat.b1_ {P Q : Prop} (q : Q) (h : Q → P := by intro q_; (with_reducible repeat (first | refine blk_drewN ?_ _ | refine blk_drew ?_ | refine blk_alloc ?_ _)); exact q_) : P := h q
theorem spec_l05Beat.b2_ {P Q : Prop} (q : Q) (h : Q → P := by intro q_; (with_reducible repeat (first | apply Kd.R_alloc | apply Kd.R_drewN | apply Kd.R_drew)); exact q_) : P := h q
theorem spec_l05Beat.y1_ {P Q : Prop} (q : Q) (h : Q → P := by intro q_; repeat (first | (with_reducible first | exact q_ | apply below_alloc | apply pw_below_drewN | apply below_drew1) | exact q_)) : P := h q
theorem spec_l05Beat.y2_ {P Q : Prop} (q : Q) (h : Q → P := by intro q_; repeat (first | exact q_ | (with_reducible refine Kd.C_alloc ?_ _) | (with_reducible refine Kd.C_drewN ?_ _) | (with_reducible refine Kd.C_drew ?_))) : P := h q
theorem spec_l05Beat.b3_ {w w1 W : World} {g : Nat} {o : Obj} (q : Aside0 (w.heap[g]? = some o)) (hb : Below W.heap.size W w1) (h : w.heap[g]? = some o → W.heap[g]? = some o := by intro q_; (with_reducible repeat (first | refine blk_drewN ?_ _ | refine blk_drew ?_ | refine blk_alloc ?_ _)); exact q_) : Aside0 (w1.heap[g]? = some o) := ⟨blk_below (h q.out) hb⟩
theorem spec_l05Beat.b4_ {w W : World} {g k : Nat} {o : Obj} (hg : k = W.heap.size) (q : Aside0 (w.heap[g]? = some o)) (h : w.heap[g]? = some o → W.heap[g]? = some o := by intro q_; (with_reducible repeat (first | refine blk_drewN ?_ _ | refine blk_drew ?_ | refine blk_alloc ?_ _)); exact q_) : Aside0 (g ≠ k) := ⟨by rw [hg]; exact Nat.ne_of_lt (blk_lt (h q.out))⟩
theorem spec_l05Beat.b5_ {w W : World} {g k : Nat} {o : Obj} (hg : k = W.heap.size) (q : Aside0 (w.heap[g]? = some o)) (h : w.heap[g]? = some o → W.heap[g]? = some o := by intro q_; (with_reducible repeat (first | refine blk_drewN ?_ _ | refine blk_drew ?_ | refine blk_alloc ?_ _)); exact q_) : Aside0 (k ≠ g) := ⟨by rw [hg]; exact Nat.ne_of_gt (blk_lt (h q.out))⟩
theorem spec_l05Beat.b6_ {w w' W : World} {k : Nat} (hg : k = W.heap.size) (q : Aside0 (Below w.heap.size w w')) (h : Below w.heap.size w w' → Below w.heap.size w W := by intro q_; repeat (first | (with_reducible first | exact q_ | apply below_alloc | apply pw_below_drewN | apply below_drew1) | exact q_)) : Aside0 (w.heap.size ≤ k) := ⟨by rw [hg]; exact below_size (h q.out)⟩
theorem spec_l05Beat.c1_ {w : World} {g : Nat} {t : TypeId} {cs : Array Value} (q : Aside0 (w.heap[g]? = some (.cells cs t (0, 0)))) (i : Nat) (v : Value) (h : cs[i]? = some v := by rfl) : w.cell? ⟨g, i, none⟩ = some v := (blk_cell q.out i).trans h
theorem spec_l05Beat.f1_ {w : World} {g : Nat} {t : TypeId} {cs : Array Value} (q : Aside0 (w.heap[g]? = some (.cells cs t (0, 0)))) (i : Nat) : w.frozen? ⟨g, i, none⟩ = false := blk_frozen q.out i
theorem spec_l05Beat.r1_ {α : Type} {d : Kd α} {e base : Nat} {ok : Nat → Prop} {v : Value} {xs : List α} {w W w1 : World} (q : Aside0 (d.R e w base ok v xs)) (hb : Below W.heap.size W w1) (h : d.R e w base ok v xs → d.R e W base ok v xs := by intro q_; (with_reducible repeat (first | apply Kd.R_alloc | apply Kd.R_drewN | apply Kd.R_drew)); exact q_) : Aside0 (d.R e w1 base ok v xs) := ⟨Kd.R_below (h q.out) hb⟩
def spec_l05Beat.j0 : Nat → Int → Int → Int → Bool → List (S63) → List (S63) → List (S73) → Option ((List (S63)) × (List (S63)) × (List (S73)) × Bool)
  | 0, _, _, _, _, _, _, _ => none
  | k + 1, x1, x2, x3, x23, x1000, x1001, x1002 => if x23 = true then (some (([] : List (S63)), ([] : List (S63)), ([] : List (S73)), false)) else ((spec_l05Own.f x1000 x1001 x1002).bind fun bt295 => ((spec_l05Put.f k x1000 x1 (wrap64 (x2 + x3))).bind fun t305 => ((spec_l05Give.f k t305 bt295.2.1 bt295.2.2).bind fun bt308 => (some (bt308.1, bt308.2.1, bt308.2.2.1, bt308.2.2.2)))))
def spec_l05Beat.f (k : Nat) (l0_0 : List (S63)) (l0_1 : List (S63)) (l0_2 : List (S73)) (a1 : Int) (a2 : Int) (a3 : Int) : Option ((List (S63)) × (List (S63)) × (List (S73)) × Bool) := (spec_l01Member.f a1).bind fun t292 => (if t292 = true then ((spec_l01Tick.f a2).bind fun t293 => (if t293 = true then ((spec_l00In.f a3 1 1000).bind fun t294 => (spec_l05Beat.j0 k a1 a2 a3 (!t294) l0_0 l0_1 l0_2)) else (spec_l05Beat.j0 k a1 a2 a3 true l0_0 l0_1 l0_2))) else (spec_l05Beat.j0 k a1 a2 a3 true l0_0 l0_1 l0_2))
theorem spec_l05Beat.mono_l : ∀ k, (∀ y0 y1 y2 y3 y4 y5 y6, LeO (spec_l05Beat.j0 k y0 y1 y2 y3 y4 y5 y6) (spec_l05Beat.j0 (k + 1) y0 y1 y2 y3 y4 y5 y6))
  | 0 => fun _ _ _ _ _ _ _ r h => by simp [spec_l05Beat.j0] at h
  | k + 1 => by
    have ih0 := spec_l05Beat.mono_l k
    · intro y0 y1 y2 y3 y4 y5 y6
      unfold spec_l05Beat.j0
      repeat' first
      | (with_reducible exact ih0 _ _ _ _ _ _ _)
      | (with_reducible exact spec_l05Give.mono _ _ _ _)
      | (with_reducible exact spec_l05Put.mono _ _ _ _)
      | (with_reducible exact LeO.refl _)
      | (with_reducible exact LeO.none _)
      | (with_reducible refine LeO.ite ?_ ?_)
      | (with_reducible refine LeO.bind ?_ (fun _ => ?_))
      | exact ih0 _ _ _ _ _ _ _
      | exact spec_l05Give.mono _ _ _ _
      | exact spec_l05Put.mono _ _ _ _
      | exact LeO.none _
      | refine LeO.ite ?_ ?_
      | refine LeO.bind ?_ (fun _ => ?_)
theorem spec_l05Beat.mono : ∀ a0 a1 a2 a3 a4 a5 k, LeO (spec_l05Beat.f k a0 a1 a2 a3 a4 a5) (spec_l05Beat.f (k + 1) a0 a1 a2 a3 a4 a5) := by
  intro a0 a1 a2 a3 a4 a5 k
  have ih0 := spec_l05Beat.mono_l k
  unfold spec_l05Beat.f
  repeat' first
      | (with_reducible exact ih0 _ _ _ _ _ _ _)
      | (with_reducible exact spec_l05Give.mono _ _ _ _)
      | (with_reducible exact spec_l05Put.mono _ _ _ _)
      | (with_reducible exact LeO.refl _)
      | (with_reducible exact LeO.none _)
      | (with_reducible refine LeO.ite ?_ ?_)
      | (with_reducible refine LeO.bind ?_ (fun _ => ?_))
      | exact ih0 _ _ _ _ _ _ _
      | exact spec_l05Give.mono _ _ _ _
      | exact spec_l05Put.mono _ _ _ _
      | exact LeO.none _
      | refine LeO.ite ?_ ?_
      | refine LeO.bind ?_ (fun _ => ?_)
set_option maxHeartbeats 8000000 in
set_option maxRecDepth 100000 in
theorem spec_l05Beat.calls (k : Nat) (g0_ : Nat) (A0_0 : Option Addr) (c0_0 : Nat) (l0_0 : List (S63)) (A0_1 : Option Addr) (c0_1 : Nat) (l0_1 : List (S63)) (A0_2 : Option Addr) (c0_2 : Nat) (l0_2 : List (S73)) (a1 : Int) (a2 : Int) (a3 : Int) (r1 : List (S63)) (r2 : List (S63)) (r3 : List (S73)) (r4 : Bool) (w : World) (hbk0 : w.heap[g0_]? = some (.cells #[.slice A0_0 l0_0.length c0_0, .slice A0_1 l0_1.length c0_1, .slice A0_2 l0_2.length c0_2] 27 (0, 0))) (hr0_0 : Kd.C k63 w A0_0 l0_0.length l0_0) (hc0_0 : l0_0.length ≤ c0_0) (hr0_1 : Kd.C k63 w A0_1 l0_1.length l0_1) (hc0_1 : l0_1.length ≤ c0_1) (hr0_2 : Kd.C k73 w A0_2 l0_2.length l0_2) (hc0_2 : l0_2.length ≤ c0_2) (h : spec_l05Beat.f k l0_0 l0_1 l0_2 a1 a2 a3 = some (r1, r2, r3, r4)) :
    Calls Try.prog 75 #[.pointer (some ⟨g0_, 0, none⟩), .int .i64 a1, .int .i64 a2, .int .i64 a3] w fun e w' => ∃ v0_ v1_ v2_ : Value, e = .returned (.tuple #[.agg #[v0_, v1_, v2_], .bool r4]) ∧ Kd.R k63 63 w' w.heap.size (fun k_ => some k_ ≠ (v1_ : Value).ownBlock) v0_ r1 ∧ Kd.R k63 63 w' w.heap.size (fun k_ => some k_ ≠ (v0_ : Value).ownBlock) v1_ r2 ∧ Kd.R k73 73 w' w.heap.size (fun _ => True) v2_ r3 ∧ Below w.heap.size w w' := by
 have hu27 := Try.underlying27
 have HR0_0 := Aside0.mk hr0_0
 have HC0_0 := Aside0.mk hc0_0
 clear hr0_0 hc0_0
 have HR0_1 := Aside0.mk hr0_1
 have HC0_1 := Aside0.mk hc0_1
 clear hr0_1 hc0_1
 have HR0_2 := Aside0.mk hr0_2
 have HC0_2 := Aside0.mk hc0_2
 clear hr0_2 hc0_2
 have BK0 := Aside0.mk hbk0
 clear hbk0
 have HB := Aside0.mk (Below.refl w.heap.size w)
 have H : ((spec_l01Member.f a1).bind fun t292 => (if t292 = true then ((spec_l01Tick.f a2).bind fun t293 => (if t293 = true then ((spec_l00In.f a3 1 1000).bind fun t294 => (spec_l05Beat.j0 k a1 a2 a3 (!t294) l0_0 l0_1 l0_2)) else (spec_l05Beat.j0 k a1 a2 a3 true l0_0 l0_1 l0_2))) else (spec_l05Beat.j0 k a1 a2 a3 true l0_0 l0_1 l0_2))) = some (r1, r2, r3, r4) := h
 clear h
 have HC5 := Aside0.mk H
 clear H
 go_enter Try.func75, Try.ntmps75
 go_upto_region 1 with (first | ((with_reducible refine gate_dst (N := 8) rfl ?_); refine box_event ?hg (N := 8) ?hd (cs := #[.slice none 0 0, .slice none 0 0, .slice none 0 0]) (t := 27) ?hr ?_; (case hd => rfl); (case hg => rfl); (case hr => first | (go_simp; done) | (go_simp; rfl)); intro gb291 hg w6 hbox hb; have GW291 := b6_ hg HB; have GE291 := b6_ hg HB; have NB0_291 := b4_ hg BK0; have NB291_0 := b5_ hg BK0; replace BK0 := b3_ BK0 hb; replace HB := Aside0.mk (below_step (y1_ HB.out) hb); have BK291 := Aside0.mk (hbox); clear hb hbox hg))
 (try simp only [Act.put, List.setIfInBounds_toArray, List.set_cons_zero, List.set_cons_succ])
 go_cut [23] (fun v23 wc => ∃ (kq : Nat) (x23_4 : Bool), v23 = .bool x23_4 ∧ Aside0 (spec_l05Beat.j0 kq a1 a2 a3 x23_4 l0_0 l0_1 l0_2 = some (r1, r2, r3, r4)) ∧ Aside0 (kq ≤ k) ∧ Aside0 (wc.heap[g0_]? = some (.cells #[(.slice A0_0 l0_0.length c0_0), (.slice A0_1 l0_1.length c0_1), (.slice A0_2 l0_2.length c0_2)] 27 (0, 0))) ∧ Aside0 (wc.heap[gb291]? = some (.cells #[(.slice none 0 0), (.slice none 0 0), (.slice none 0 0)] 27 (0, 0))) ∧ Aside0 (Below w.heap.size w wc))
 case first =>
  skip
  {
 have H := HC5.out
 clear HC5
 replace H := Option.bind_eq_some_iff.mp H
 obtain ⟨t292, A70, H⟩ := H
 replace H : (if t292 = true then ((spec_l01Tick.f a2).bind fun t293 => (if t293 = true then ((spec_l00In.f a3 1 1000).bind fun t294 => (spec_l05Beat.j0 k a1 a2 a3 (!t294) l0_0 l0_1 l0_2)) else (spec_l05Beat.j0 k a1 a2 a3 true l0_0 l0_1 l0_2))) else (spec_l05Beat.j0 k a1 a2 a3 true l0_0 l0_1 l0_2)) = some (r1, r2, r3, r4) := H
 have A7 := Aside0.mk A70
 clear A70
 by_cases c8 : t292 = true
 {
 subst c8
 have H1 : ((spec_l01Tick.f a2).bind fun t293 => (if t293 = true then ((spec_l00In.f a3 1 1000).bind fun t294 => (spec_l05Beat.j0 k a1 a2 a3 (!t294) l0_0 l0_1 l0_2)) else (spec_l05Beat.j0 k a1 a2 a3 true l0_0 l0_1 l0_2))) = some (r1, r2, r3, r4) := by rw [if_pos rfl] at H; exact H
 clear H
 have H := H1
 clear H1
 replace H := Option.bind_eq_some_iff.mp H
 obtain ⟨t293, A90, H⟩ := H
 replace H : (if t293 = true then ((spec_l00In.f a3 1 1000).bind fun t294 => (spec_l05Beat.j0 k a1 a2 a3 (!t294) l0_0 l0_1 l0_2)) else (spec_l05Beat.j0 k a1 a2 a3 true l0_0 l0_1 l0_2)) = some (r1, r2, r3, r4) := H
 have A9 := Aside0.mk A90
 clear A90
 by_cases c10 : t293 = true
 {
 subst c10
 have H1 : ((spec_l00In.f a3 1 1000).bind fun t294 => (spec_l05Beat.j0 k a1 a2 a3 (!t294) l0_0 l0_1 l0_2)) = some (r1, r2, r3, r4) := by rw [if_pos rfl] at H; exact H
 clear H
 have H := H1
 clear H1
 replace H := Option.bind_eq_some_iff.mp H
 obtain ⟨t294, A110, H⟩ := H
 replace H : (spec_l05Beat.j0 k a1 a2 a3 (!t294) l0_0 l0_1 l0_2) = some (r1, r2, r3, r4) := H
 have A11 := Aside0.mk A110
 clear A110
 have H' := Aside0.mk H
 clear H
 go_wp2_with (first | ((with_reducible refine gate_callee (f := 98) rfl ?_); refine goesL_ (some 12) rfl rfl Try.func98 s2_ rfl #[.int .i64 a1] rfl s3_ ?_; (with_reducible refine (spec_l01Member.calls a1 true _ A7.out).mono ?_); rintro e w' ⟨rfl, ⟨nd, rfl⟩⟩; refine ⟨_, rfl, ?_⟩) | (go_at_call 58; (with_reducible refine (spec_l01Tick.calls a2 true _ A9.out).mono ?_); rintro e w' ⟨rfl, ⟨nd, rfl⟩⟩) | (go_at_call 99; (with_reducible refine (spec_l00In.calls a3 1 1000 t294 _ A11.out).mono ?_); rintro e w' ⟨rfl, ⟨nd, rfl⟩⟩))
 go_meet
 case rel => exact ⟨_, (!t294), s1_, H', ⟨by first | omega | exact Nat.le_refl _⟩, ⟨b1_ BK0.out⟩, ⟨b1_ BK291.out⟩, ⟨by repeat (first | (with_reducible first | exact HB.out | apply below_alloc | apply pw_below_drewN | apply below_drew1) | exact HB.out)⟩⟩}
 {
 replace c10 := Bool.eq_false_iff.mpr c10
 subst c10
 have H1 : (spec_l05Beat.j0 k a1 a2 a3 true l0_0 l0_1 l0_2) = some (r1, r2, r3, r4) := by rw [if_neg (show ¬ (false = true) by decide)] at H; exact H
 clear H
 have H := H1
 clear H1
 have H' := Aside0.mk H
 clear H
 go_wp2_with (first | ((with_reducible refine gate_callee (f := 98) rfl ?_); refine goesL_ (some 12) rfl rfl Try.func98 s2_ rfl #[.int .i64 a1] rfl s3_ ?_; (with_reducible refine (spec_l01Member.calls a1 true _ A7.out).mono ?_); rintro e w' ⟨rfl, ⟨nd, rfl⟩⟩; refine ⟨_, rfl, ?_⟩) | (go_at_call 58; (with_reducible refine (spec_l01Tick.calls a2 false _ A9.out).mono ?_); rintro e w' ⟨rfl, ⟨nd, rfl⟩⟩))
 go_meet
 case rel => exact ⟨_, (true), s1_, H', ⟨by first | omega | exact Nat.le_refl _⟩, ⟨b1_ BK0.out⟩, ⟨b1_ BK291.out⟩, ⟨by repeat (first | (with_reducible first | exact HB.out | apply below_alloc | apply pw_below_drewN | apply below_drew1) | exact HB.out)⟩⟩}}
 {
 replace c8 := Bool.eq_false_iff.mpr c8
 subst c8
 have H1 : (spec_l05Beat.j0 k a1 a2 a3 true l0_0 l0_1 l0_2) = some (r1, r2, r3, r4) := by rw [if_neg (show ¬ (false = true) by decide)] at H; exact H
 clear H
 have H := H1
 clear H1
 have H' := Aside0.mk H
 clear H
 go_wp2_with (first | ((with_reducible refine gate_callee (f := 98) rfl ?_); refine goesL_ (some 12) rfl rfl Try.func98 s2_ rfl #[.int .i64 a1] rfl s3_ ?_; (with_reducible refine (spec_l01Member.calls a1 false _ A7.out).mono ?_); rintro e w' ⟨rfl, ⟨nd, rfl⟩⟩; refine ⟨_, rfl, ?_⟩))
 go_meet
 case rel => exact ⟨_, (true), s1_, H', ⟨by first | omega | exact Nat.le_refl _⟩, ⟨b1_ BK0.out⟩, ⟨b1_ BK291.out⟩, ⟨by repeat (first | (with_reducible first | exact HB.out | apply below_alloc | apply pw_below_drewN | apply below_drew1) | exact HB.out)⟩⟩}}
 case rest =>
  skip
  {
 clear HC5
 try clear c1
 try clear p2
 try clear c7
 try clear c8
 try clear c9
 try clear c10
 obtain ⟨kq, x23_4, rfl, HA, HJ4, BK0, BK291, HB⟩ := hcut
 cases kq with
 | zero => exact absurd HA.out (by simp [spec_l05Beat.j0])
 | succ kj4 =>
  skip
  {
 have H := HA.out
 clear HA
 simp only [spec_l05Beat.j0] at H
 by_cases c12 : x23_4 = true
 {
 subst c12
 have H1 : (some (([] : List (S63)), ([] : List (S63)), ([] : List (S73)), false)) = some (r1, r2, r3, r4) := by rw [if_pos rfl] at H; exact H
 clear H
 have H := H1
 clear H1
 simp only [Option.some.injEq, Prod.mk.injEq] at H
 obtain ⟨rfl, rfl, rfl, rfl⟩ := H
 have hnb13 := NB291_0.out
 have hnc13 := NB0_291.out
 have hcz14_0 := c1_ BK291 0 (.slice none 0 0)
 have hcz14_1 := c1_ BK291 1 (.slice none 0 0)
 have hcz14_2 := c1_ BK291 2 (.slice none 0 0)
 have hfz14_0 := f1_ BK291 0
 have hfz14_1 := f1_ BK291 1
 have hfz14_2 := f1_ BK291 2
 go_wp2
 refine bodyPost_ret (results_ct rfl _ _ gb291 27 #[.slice none 0 0, .slice none 0 0, .slice none 0 0] (0, 0) _ rfl (by (with_reducible repeat (first | refine blk_drewN ?_ _ | refine blk_drew ?_ | refine blk_alloc ?_ _)); refine blk_put3 (cs := #[.slice none 0 0, .slice none 0 0, .slice none 0 0]) ?_ rfl; (with_reducible repeat (first | refine blk_drewN ?_ _ | refine blk_drew ?_ | refine blk_alloc ?_ _)); exact BK291.out) Try.underlying27 rfl s2_) rfl ?_
 exact ⟨_, _, _, by first | rfl | (simp [errW_none, errW_some] <;> rfl) | (simp [*, errW_none, errW_some] <;> rfl), by first | exact Kd.R_nil _ _ _ _ _ | exact Kd.N_nil _ _ _ _ _ | exact Kd.V_nil _ _ _ _ _ | exact Kd.Q_nil _ _ _ _ _ | exact Kd.S_nil _ _ _ _ _, by first | exact Kd.R_nil _ _ _ _ _ | exact Kd.N_nil _ _ _ _ _ | exact Kd.V_nil _ _ _ _ _ | exact Kd.Q_nil _ _ _ _ _ | exact Kd.S_nil _ _ _ _ _, by first | exact Kd.R_nil _ _ _ _ _ | exact Kd.N_nil _ _ _ _ _ | exact Kd.V_nil _ _ _ _ _ | exact Kd.Q_nil _ _ _ _ _ | exact Kd.S_nil _ _ _ _ _, by repeat (first | (with_reducible first | exact HB.out | apply below_alloc | apply pw_below_drewN | apply below_drew1 | refine below_set ?_ GE291.out) | exact HB.out)⟩}
 {
 replace c12 := Bool.eq_false_iff.mpr c12
 subst c12
 have H1 : ((spec_l05Own.f l0_0 l0_1 l0_2).bind fun bt295 => ((spec_l05Put.f kj4 l0_0 a1 (wrap64 (a2 + a3))).bind fun t305 => ((spec_l05Give.f kj4 t305 bt295.2.1 bt295.2.2).bind fun bt308 => (some (bt308.1, bt308.2.1, bt308.2.2.1, bt308.2.2.2))))) = some (r1, r2, r3, r4) := by rw [if_neg (show ¬ (false = true) by decide)] at H; exact H
 clear H
 have H := H1
 clear H1
 replace H := Option.bind_eq_some_iff.mp H
 obtain ⟨⟨t295, t298, t301⟩, A150, H⟩ := H
 replace H : ((spec_l05Put.f kj4 l0_0 a1 (wrap64 (a2 + a3))).bind fun t305 => ((spec_l05Give.f kj4 t305 t298 t301).bind fun bt308 => (some (bt308.1, bt308.2.1, bt308.2.2.1, bt308.2.2.2)))) = some (r1, r2, r3, r4) := H
 have A15 := Aside0.mk A150
 clear A150
 replace H := Option.bind_eq_some_iff.mp H
 obtain ⟨t305, A160, H⟩ := H
 replace H : ((spec_l05Give.f kj4 t305 t298 t301).bind fun bt308 => (some (bt308.1, bt308.2.1, bt308.2.2.1, bt308.2.2.2))) = some (r1, r2, r3, r4) := H
 have A16 := Aside0.mk A160
 clear A160
 replace H := Option.bind_eq_some_iff.mp H
 obtain ⟨⟨t308, t311, t314, t317⟩, A170, H⟩ := H
 replace H : (some (t308, t311, t314, t317)) = some (r1, r2, r3, r4) := H
 have A17 := Aside0.mk A170
 clear A170
 simp only [Option.some.injEq, Prod.mk.injEq] at H
 obtain ⟨rfl, rfl, rfl, rfl⟩ := H
 go_wp2_with (first | ((with_reducible refine gate_callee (f := 62) rfl ?_); refine goesL_ (some 26) rfl rfl Try.func62 s2_ rfl #[.pointer (some ⟨g0_, 0, none⟩)] rfl s3_ ?_; (with_reducible refine (spec_l05Own.calls g0_ A0_0 c0_0 l0_0 A0_1 c0_1 l0_1 A0_2 c0_2 l0_2 t295 t298 t301 _ ?side1 ?side2 ?side3 ?side4 ?side5 ?side6 ?side7 A15.out).mono ?_); (case side1 => exact (b1_ BK0.out)); (case side2 => exact y2_ (Kd.C_below HR0_0.out HB.out)); (case side3 => exact HC0_0.out); (case side4 => exact y2_ (Kd.C_below HR0_1.out HB.out)); (case side5 => exact HC0_1.out); (case side6 => exact y2_ (Kd.C_below HR0_2.out HB.out)); (case side7 => exact HC0_2.out); rintro e w18 ⟨v296, v299, v302, rfl, ho0, ho1, ho2, hb⟩; refine ⟨_, rfl, ?_⟩; have HO297 := Aside0.mk (Kd.R_lower ho0 (below_size (y1_ HB.out))); have HO300 := Aside0.mk (Kd.R_lower ho1 (below_size (y1_ HB.out))); have HO303 := Aside0.mk (Kd.R_lower ho2 (below_size (y1_ HB.out))); replace BK0 := b3_ BK0 hb; replace BK291 := b3_ BK291 hb; replace HB := Aside0.mk (below_step (y1_ HB.out) hb); (try clear hb); (try clear hb2); (try clear hk); (try clear hi); (try clear ho0); (try clear ho1); (try clear ho2)) | ((with_reducible refine gate_dst (N := 10) rfl ?_); refine box_event ?hg (N := 10) ?hd (cs := #[.slice none 0 0, .slice none 0 0, .slice none 0 0]) (t := 27) ?hr ?_; (case hd => rfl); (case hg => rfl); (case hr => first | (go_simp; done) | (go_simp; rfl)); intro gb304 hg w19 hbox hb; have GW304 := b6_ hg HB; have GE304 := b6_ hg HB; have NB0_304 := b4_ hg BK0; have NB304_0 := b5_ hg BK0; have NB291_304 := b4_ hg BK291; have NB304_291 := b5_ hg BK291; replace HO297 := r1_ HO297 hb; replace HO300 := r1_ HO300 hb; replace HO303 := r1_ HO303 hb; replace BK0 := b3_ BK0 hb; replace BK291 := b3_ BK291 hb; replace HB := Aside0.mk (below_step (y1_ HB.out) hb); have BK304 := Aside0.mk (hbox); clear hb hbox hg; obtain ⟨Ao20, co20, eo20⟩ := Kd.R_slice HO297.out; subst eo20; have hnb21 := NB304_0.out; have hnc21 := NB0_304.out; have hnb22 := NB304_291.out; have hnc22 := NB291_304.out; have hcz23_0 := c1_ BK304 0 (.slice none 0 0); have hcz23_1 := c1_ BK304 1 (.slice none 0 0); have hcz23_2 := c1_ BK304 2 (.slice none 0 0); have hfz23_0 := f1_ BK304 0; have hfz23_1 := f1_ BK304 1; have hfz23_2 := f1_ BK304 2; obtain ⟨Ao24, co24, eo24⟩ := Kd.R_slice HO300.out; subst eo24; obtain ⟨Ao25, co25, eo25⟩ := Kd.R_slice HO303.out; subst eo25; have hnb26 := NB0_291.out; have hnc26 := NB291_0.out; have hcz27_0 := c1_ BK0 0 (.slice A0_0 l0_0.length c0_0); have hcz27_1 := c1_ BK0 1 (.slice A0_1 l0_1.length c0_1); have hcz27_2 := c1_ BK0 2 (.slice A0_2 l0_2.length c0_2); have hfz27_0 := f1_ BK0 0; have hfz27_1 := f1_ BK0 1; have hfz27_2 := f1_ BK0 2) | ((with_reducible refine gate_callee (f := 80) rfl ?_); refine goesL_ (some 35) rfl rfl Try.func80 s2_ rfl #[.slice A0_0 l0_0.length c0_0, .int .i64 a1, .int .i64 (wrap64 (a2 + a3))] rfl s3_ ?_; (with_reducible refine (spec_l05Put.calls kj4 _ _ l0_0 a1 (wrap64 (a2 + a3)) t305 _ ?side1 ?side2 A16.out).mono ?_); (case side1 => exact Kd.C_below HR0_0.out (by repeat (first | (with_reducible first | exact HB.out | apply below_alloc | apply pw_below_drewN | apply below_drew1 | refine below_set ?_ GE304.out) | exact HB.out))); (case side2 => exact HC0_0.out); rintro e w28 ⟨v306, rfl, ho0, hb⟩; refine ⟨_, rfl, ?_⟩; have n0_ := Aside0.mk (Kd.R_elder' (by (with_reducible repeat (first | apply Kd.R_alloc | apply Kd.R_drewN | apply Kd.R_drew)); exact (Kd.R_mono (Kd.R_far3 (g := gb304) (Kd.R_types HO297.out BK304.out (by decide)) (fun _ hk => hk.2)) (fun _ h_ => h_.1))) (Kd.R_base ho0) hb); have n1_ := Aside0.mk (Kd.R_elder' (by (with_reducible repeat (first | apply Kd.R_alloc | apply Kd.R_drewN | apply Kd.R_drew)); exact (Kd.R_mono (Kd.R_far3 (g := gb304) (Kd.R_types HO300.out BK304.out (by decide)) (fun _ hk => hk.2)) (fun _ h_ => h_.1))) (Kd.R_base ho0) hb); have n2_ := Aside0.mk (Kd.R_below (by (with_reducible repeat (first | apply Kd.R_alloc | apply Kd.R_drewN | apply Kd.R_drew)); exact (Kd.R_mono (Kd.R_far3 (g := gb304) (Kd.R_types HO303.out BK304.out (by decide)) (fun _ hk => hk.2)) (fun _ h_ => h_.1))) hb); have n3_ := Aside0.mk (Kd.R_lower (Kd.R_new' (Kd.R_new' ho0 (Kd.R_lt (by (with_reducible repeat (first | apply Kd.R_alloc | apply Kd.R_drewN | apply Kd.R_drew)); exact (Kd.R_mono (Kd.R_far3 (g := gb304) (Kd.R_types HO297.out BK304.out (by decide)) (fun _ hk => hk.2)) (fun _ h_ => h_.1))))) (Kd.R_lt (by (with_reducible repeat (first | apply Kd.R_alloc | apply Kd.R_drewN | apply Kd.R_drew)); exact (Kd.R_mono (Kd.R_far3 (g := gb304) (Kd.R_types HO300.out BK304.out (by decide)) (fun _ hk => hk.2)) (fun _ h_ => h_.1))))) (below_size (by repeat (first | (with_reducible first | exact HB.out | apply below_alloc | apply pw_below_drewN | apply below_drew1 | refine below_set ?_ GE304.out) | exact HB.out)))); have n4_ := Aside0.mk (blk_below (g := g0_) (o := .cells #[.slice A0_0 l0_0.length c0_0, .slice A0_1 l0_1.length c0_1, .slice A0_2 l0_2.length c0_2] 27 (0, 0)) (by (with_reducible repeat (first | refine blk_drewN ?_ _ | refine blk_drew ?_ | refine blk_alloc ?_ _)); refine blk_far3 ?_ NB0_304.out; (with_reducible repeat (first | refine blk_drewN ?_ _ | refine blk_drew ?_ | refine blk_alloc ?_ _)); exact BK0.out) hb); have n5_ := Aside0.mk (blk_below (g := gb291) (o := .cells #[.slice none 0 0, .slice none 0 0, .slice none 0 0] 27 (0, 0)) (by (with_reducible repeat (first | refine blk_drewN ?_ _ | refine blk_drew ?_ | refine blk_alloc ?_ _)); refine blk_far3 ?_ NB291_304.out; (with_reducible repeat (first | refine blk_drewN ?_ _ | refine blk_drew ?_ | refine blk_alloc ?_ _)); exact BK291.out) hb); have n6_ := Aside0.mk (blk_below (g := gb304) (o := .cells #[.slice Ao20 t295.length co20, .slice Ao24 t298.length co24, .slice Ao25 t301.length co25] 27 (0, 0)) (by (with_reducible repeat (first | refine blk_drewN ?_ _ | refine blk_drew ?_ | refine blk_alloc ?_ _)); refine blk_put3 (cs := #[.slice none 0 0, .slice none 0 0, .slice none 0 0]) ?_ rfl; (with_reducible repeat (first | refine blk_drewN ?_ _ | refine blk_drew ?_ | refine blk_alloc ?_ _)); exact BK304.out) hb); have n7_ := Aside0.mk (below_step (by repeat (first | (with_reducible first | exact HB.out | apply below_alloc | apply pw_below_drewN | apply below_drew1 | refine below_set ?_ GE304.out) | exact HB.out)) hb); clear HO297; clear HO300; clear HO303; clear BK0; clear BK291; clear BK304; clear HB; have HO297 := n0_; have HO300 := n1_; have HO303 := n2_; have HO307 := n3_; have BK0 := n4_; have BK291 := n5_; have BK304 := n6_; have HB := n7_; clear n0_ n1_ n2_ n3_ n4_ n5_ n6_ n7_; (try clear hb); (try clear hb2); (try clear hk); (try clear hi); (try clear ho0); obtain ⟨Ao29, co29, eo29⟩ := Kd.R_slice HO307.out; subst eo29; have hcz30_0 := c1_ BK304 0 (.slice Ao20 t295.length co20); have hcz30_1 := c1_ BK304 1 (.slice Ao24 t298.length co24); have hcz30_2 := c1_ BK304 2 (.slice Ao25 t301.length co25); have hfz30_0 := f1_ BK304 0; have hfz30_1 := f1_ BK304 1; have hfz30_2 := f1_ BK304 2) | ((with_reducible refine gate_store (t := 24) (p := 36) rfl ?_); refine store_event (t := 24) (p := 36) (v := ?vo_w31) (w1 := (w28.setCell ⟨gb304, 0, none⟩ (.slice Ao29 t305.length co29))) ?hg ?ho ?hn ?hr ?_; (case ho => rfl); (case hg => rfl); (case hn => rfl); (case hr => first | (go_simp; done) | (go_simp; rfl)); intro w31 hw; have n0_ : Aside0 (Kd.R k63 63 w31 w.heap.size (fun k_ => some k_ ≠ (.slice Ao24 t298.length co24 : Value).ownBlock ∧ some k_ ≠ (.slice Ao29 t305.length co29 : Value).ownBlock) (.slice Ao20 t295.length co20) t295) := ⟨(by rw [hw]; exact (by (with_reducible repeat (first | apply Kd.R_alloc | apply Kd.R_drewN | apply Kd.R_drew)); exact Kd.R_mono (Kd.R_far (p := ⟨gb304, 0, none⟩) (Kd.R_types HO297.out BK304.out (by decide)) (fun _ hk => hk.2) (.slice Ao29 t305.length co29)) (fun _ hk => ⟨hk.1.1, hk.1.2⟩)))⟩; have n1_ : Aside0 (Kd.R k63 63 w31 w.heap.size (fun k_ => some k_ ≠ (.slice Ao20 t295.length co20 : Value).ownBlock ∧ some k_ ≠ (.slice Ao29 t305.length co29 : Value).ownBlock) (.slice Ao24 t298.length co24) t298) := ⟨(by rw [hw]; exact (by (with_reducible repeat (first | apply Kd.R_alloc | apply Kd.R_drewN | apply Kd.R_drew)); exact Kd.R_mono (Kd.R_far (p := ⟨gb304, 0, none⟩) (Kd.R_types HO300.out BK304.out (by decide)) (fun _ hk => hk.2) (.slice Ao29 t305.length co29)) (fun _ hk => ⟨hk.1.1, hk.1.2⟩)))⟩; have n2_ : Aside0 (Kd.R k73 73 w31 w.heap.size (fun _ => True) (.slice Ao25 t301.length co25) t301) := ⟨(by rw [hw]; exact (by (with_reducible repeat (first | apply Kd.R_alloc | apply Kd.R_drewN | apply Kd.R_drew)); exact Kd.R_mono (Kd.R_far (p := ⟨gb304, 0, none⟩) (Kd.R_types HO303.out BK304.out (by decide)) (fun _ hk => hk.2) (.slice Ao29 t305.length co29)) (fun _ hk => trivial)))⟩; have n3_ : Aside0 (Kd.R k63 63 w31 w.heap.size (fun k_ => some k_ ≠ (.slice Ao20 t295.length co20 : Value).ownBlock ∧ some k_ ≠ (.slice Ao24 t298.length co24 : Value).ownBlock) (.slice Ao29 t305.length co29) t305) := ⟨(by rw [hw]; exact (by (with_reducible repeat (first | apply Kd.R_alloc | apply Kd.R_drewN | apply Kd.R_drew)); exact Kd.R_mono (Kd.R_far (p := ⟨gb304, 0, none⟩) (Kd.R_types HO307.out BK304.out (by decide)) (fun _ hk => hk.2) (.slice Ao29 t305.length co29)) (fun _ hk => ⟨hk.1.1.2, hk.1.2⟩)))⟩; have n4_ : Aside0 (w31.heap[g0_]? = some (.cells #[.slice A0_0 l0_0.length c0_0, .slice A0_1 l0_1.length c0_1, .slice A0_2 l0_2.length c0_2] 27 (0, 0))) := ⟨(by rw [hw]; exact (by (with_reducible repeat (first | refine blk_drewN ?_ _ | refine blk_drew ?_ | refine blk_alloc ?_ _)); refine blk_far ?_ NB0_304.out _; (with_reducible repeat (first | refine blk_drewN ?_ _ | refine blk_drew ?_ | refine blk_alloc ?_ _)); exact BK0.out))⟩; have n5_ : Aside0 (w31.heap[gb291]? = some (.cells #[.slice none 0 0, .slice none 0 0, .slice none 0 0] 27 (0, 0))) := ⟨(by rw [hw]; exact (by (with_reducible repeat (first | refine blk_drewN ?_ _ | refine blk_drew ?_ | refine blk_alloc ?_ _)); refine blk_far ?_ NB291_304.out _; (with_reducible repeat (first | refine blk_drewN ?_ _ | refine blk_drew ?_ | refine blk_alloc ?_ _)); exact BK291.out))⟩; have n6_ : Aside0 (w31.heap[gb304]? = some (.cells #[.slice Ao29 t305.length co29, .slice Ao24 t298.length co24, .slice Ao25 t301.length co25] 27 (0, 0))) := ⟨(by rw [hw]; exact (by (with_reducible repeat (first | refine blk_drewN ?_ _ | refine blk_drew ?_ | refine blk_alloc ?_ _)); refine blk_put (cs := #[.slice Ao20 t295.length co20, .slice Ao24 t298.length co24, .slice Ao25 t301.length co25]) ?_ 0 _ rfl; (with_reducible repeat (first | refine blk_drewN ?_ _ | refine blk_drew ?_ | refine blk_alloc ?_ _)); exact BK304.out))⟩; have n7_ : Aside0 (Below w.heap.size w w31) := ⟨(by rw [hw]; exact (by repeat (first | (with_reducible first | exact HB.out | apply below_alloc | apply pw_below_drewN | apply below_drew1 | refine below_set ?_ GE304.out) | exact HB.out)))⟩; clear hw; clear HO297; clear HO300; clear HO303; clear HO307; clear BK0; clear BK291; clear BK304; clear HB; have HO297 := n0_; have HO300 := n1_; have HO303 := n2_; have HO307 := n3_; have BK0 := n4_; have BK291 := n5_; have BK304 := n6_; have HB := n7_; clear n0_ n1_ n2_ n3_ n4_ n5_ n6_ n7_; have hcz32_0 := c1_ BK304 0 (.slice Ao29 t305.length co29); have hcz32_1 := c1_ BK304 1 (.slice Ao24 t298.length co24); have hcz32_2 := c1_ BK304 2 (.slice Ao25 t301.length co25); have hfz32_0 := f1_ BK304 0; have hfz32_1 := f1_ BK304 1; have hfz32_2 := f1_ BK304 2) | ((with_reducible refine gate_callee (f := 82) rfl ?_); refine goesL_ (some 38) rfl rfl Try.func82 s2_ rfl #[.agg #[.slice Ao29 t305.length co29, .slice Ao24 t298.length co24, .slice Ao25 t301.length co25]] rfl s3_ ?_; (with_reducible refine (spec_l05Give.calls kj4 (fun k_ => some k_ = (.slice Ao29 t305.length co29 : Value).ownBlock) (.slice Ao29 t305.length co29) t305 (fun k_ => some k_ = (.slice Ao24 t298.length co24 : Value).ownBlock) (.slice Ao24 t298.length co24) t298 (fun k_ => some k_ = (.slice Ao25 t301.length co25 : Value).ownBlock) (.slice Ao25 t301.length co25) t301 t308 t311 t314 t317 w _ ?side1 ?side2 ?side3 ?side4 ?side5 ?side6 A17.out).mono ?_); (case side1 => repeat (first | (with_reducible first | exact HB.out | apply below_alloc | apply pw_below_drewN | apply below_drew1) | exact HB.out)); (case side2 => exact Kd.R_tight rfl HO307.out); (case side3 => exact fun k_ e_ => (HO307.out.1 k_ e_.symm).2); (case side4 => exact Kd.R_tight rfl HO300.out); (case side5 => exact fun k_ e_ => (HO300.out.1 k_ e_.symm).2); (case side6 => exact Kd.R_tight rfl HO303.out); rintro e w33 ⟨v309, v312, v315, rfl, ho0, ho1, ho2, hb, hkp⟩; refine ⟨_, rfl, ?_⟩; have n0_ := Aside0.mk (blk_kept (b1_ BK0.out) hkp (fun hs_ => Or.elim hs_ (fun e_ => (fun e_ => (Kd.R_ne HO307.out BK0.out (by decide)) e_) e_) (fun e_ => Or.elim e_ (fun e_ => (fun e_ => (Kd.R_ne HO300.out BK0.out (by decide)) e_) e_) (fun e_ => (fun e_ => (Kd.R_ne HO303.out BK0.out (by decide)) e_) e_)))); have n1_ := Aside0.mk (blk_kept (b1_ BK291.out) hkp (fun hs_ => Or.elim hs_ (fun e_ => (fun e_ => (Kd.R_ne HO307.out BK291.out (by decide)) e_) e_) (fun e_ => Or.elim e_ (fun e_ => (fun e_ => (Kd.R_ne HO300.out BK291.out (by decide)) e_) e_) (fun e_ => (fun e_ => (Kd.R_ne HO303.out BK291.out (by decide)) e_) e_)))); have n2_ := Aside0.mk (Kd.R_mono (ok' := fun k_ => some k_ ≠ (v309 : Value).ownBlock ∧ some k_ ≠ (v312 : Value).ownBlock) (Kd.R_keptB ((Kd.R_apart' HO297.out (Kd.R_typed HO303.out) (by decide))) hkp (fun k_ hk_ hs_ => Or.elim hs_ (fun e_ => (hk_.1.2) e_) (fun e_ => Or.elim e_ (fun e_ => (hk_.1.1) e_) (fun e_ => (hk_.2) e_)))) (fun k_ hk_ => ⟨fun e_ => Or.elim (ho0.1 k_ e_.symm).1 (fun hs_ => hk_.2.1 hs_) (fun hn_ => Nat.not_le.2 hk_.2.2 hn_), fun e_ => Or.elim (ho1.1 k_ e_.symm).1 (fun hs_ => hk_.2.1 hs_) (fun hn_ => Nat.not_le.2 hk_.2.2 hn_)⟩)); have n3_ := Aside0.mk (blk_kept (b1_ BK304.out) hkp (fun hs_ => Or.elim hs_ (fun e_ => (fun e_ => (Kd.R_ne HO307.out BK304.out (by decide)) e_) e_) (fun e_ => Or.elim e_ (fun e_ => (fun e_ => (Kd.R_ne HO300.out BK304.out (by decide)) e_) e_) (fun e_ => (fun e_ => (Kd.R_ne HO303.out BK304.out (by decide)) e_) e_)))); have n4_ := Aside0.mk (Kd.R_mono (ok' := fun k_ => some k_ ≠ (v312 : Value).ownBlock ∧ some k_ ≠ (.slice Ao20 t295.length co20 : Value).ownBlock) ho0 (fun k_ hk_ => ⟨hk_.2, Or.elim hk_.1 (fun hs_ => Or.elim hs_ (fun hs_ => fun e_ => ((((Kd.R_apart' HO297.out (Kd.R_typed HO303.out) (by decide))).1 k_ e_.symm).1.2) hs_) (fun hs_ => Or.elim hs_ (fun hs_ => fun e_ => ((((Kd.R_apart' HO297.out (Kd.R_typed HO303.out) (by decide))).1 k_ e_.symm).1.1) hs_) (fun hs_ => fun e_ => ((((Kd.R_apart' HO297.out (Kd.R_typed HO303.out) (by decide))).1 k_ e_.symm).2) hs_))) (fun hn_ => (Kd.fresh' (Kd.R_lt (b2_ HO297.out)) k_ hn_))⟩)); have n5_ := Aside0.mk (Kd.R_mono (ok' := fun k_ => some k_ ≠ (v309 : Value).ownBlock ∧ some k_ ≠ (.slice Ao20 t295.length co20 : Value).ownBlock) ho1 (fun k_ hk_ => ⟨hk_.2, Or.elim hk_.1 (fun hs_ => Or.elim hs_ (fun hs_ => fun e_ => ((((Kd.R_apart' HO297.out (Kd.R_typed HO303.out) (by decide))).1 k_ e_.symm).1.2) hs_) (fun hs_ => Or.elim hs_ (fun hs_ => fun e_ => ((((Kd.R_apart' HO297.out (Kd.R_typed HO303.out) (by decide))).1 k_ e_.symm).1.1) hs_) (fun hs_ => fun e_ => ((((Kd.R_apart' HO297.out (Kd.R_typed HO303.out) (by decide))).1 k_ e_.symm).2) hs_))) (fun hn_ => (Kd.fresh' (Kd.R_lt (b2_ HO297.out)) k_ hn_))⟩)); have n6_ := Aside0.mk (Kd.R_mono (ok' := fun k_ => True) ho2 (fun k_ hk_ => trivial)); have n7_ := Aside0.mk (hb); clear BK0; clear BK291; clear HO297; clear BK304; clear HB; clear HO300; clear HO303; clear HO307; have BK0 := n0_; have BK291 := n1_; have HO297 := n2_; have BK304 := n3_; have HO310 := n4_; have HO313 := n5_; have HO316 := n6_; have HB := n7_; clear n0_ n1_ n2_ n3_ n4_ n5_ n6_ n7_; (try clear hb); (try clear hkp); (try clear ho0); (try clear ho1); (try clear ho2); obtain ⟨Ao34, co34, eo34⟩ := Kd.R_slice HO310.out; subst eo34; have hcz35_0 := c1_ BK291 0 (.slice none 0 0); have hcz35_1 := c1_ BK291 1 (.slice none 0 0); have hcz35_2 := c1_ BK291 2 (.slice none 0 0); have hfz35_0 := f1_ BK291 0; have hfz35_1 := f1_ BK291 1; have hfz35_2 := f1_ BK291 2; obtain ⟨Ao36, co36, eo36⟩ := Kd.R_slice HO313.out; subst eo36; obtain ⟨Ao37, co37, eo37⟩ := Kd.R_slice HO316.out; subst eo37))
 refine bodyPost_ret (results_ct rfl _ _ gb291 27 #[.slice Ao34 t308.length co34, .slice Ao36 t311.length co36, .slice Ao37 t314.length co37] (0, 0) _ rfl (by (with_reducible repeat (first | refine blk_drewN ?_ _ | refine blk_drew ?_ | refine blk_alloc ?_ _)); refine blk_put3 (cs := #[.slice none 0 0, .slice none 0 0, .slice none 0 0]) ?_ rfl; (with_reducible repeat (first | refine blk_drewN ?_ _ | refine blk_drew ?_ | refine blk_alloc ?_ _)); exact BK291.out) Try.underlying27 rfl s2_) rfl ?_
 exact ⟨_, _, _, by first | rfl | (simp [errW_none, errW_some] <;> rfl) | (simp [*, errW_none, errW_some] <;> rfl), by (with_reducible repeat (first | apply Kd.R_alloc | apply Kd.R_drewN | apply Kd.R_drew)); exact Kd.R_mono (Kd.R_far3 (g := gb291) (Kd.R_types HO310.out BK291.out (by decide)) (fun _ hk => hk.2)) (fun _ hk => hk.1.1), by (with_reducible repeat (first | apply Kd.R_alloc | apply Kd.R_drewN | apply Kd.R_drew)); exact Kd.R_mono (Kd.R_far3 (g := gb291) (Kd.R_types HO313.out BK291.out (by decide)) (fun _ hk => hk.2)) (fun _ hk => hk.1.1), by (with_reducible repeat (first | apply Kd.R_alloc | apply Kd.R_drewN | apply Kd.R_drew)); exact Kd.R_mono (Kd.R_far3 (g := gb291) (Kd.R_types HO316.out BK291.out (by decide)) (fun _ hk => hk.2)) (fun _ hk => trivial), by repeat (first | (with_reducible first | exact HB.out | apply below_alloc | apply pw_below_drewN | apply below_drew1 | refine below_set ?_ GE291.out) | exact HB.out)⟩}}}

/-! ### spec_Heartbeat: function 32 -/
abbrev spec_Heartbeat.T : Bool := true
abbrev spec_Heartbeat.F : Bool := false
theorem spec_Heartbeat.s2_ {P : Prop} (h : P := by kernel_rfl) : P := h
theorem spec_Heartbeat.s3_ {P : Prop} (h : P := by (try simp only [List.map_toArray, List.map_cons, List.map_nil]); first | done | rfl | (simp only [List.length_drop, List.length_take]; rfl)) : P := h
theorem spec_Heartbeat.b1_ {P Q : Prop} (q : Q) (h : Q → P := by intro q_; (with_reducible repeat (first | refine blk_drewN ?_ _ | refine blk_drew ?_ | refine blk_alloc ?_ _)); exact q_) : P := h q
theorem spec_Heartbeat.y1_ {P Q : Prop} (q : Q) (h : Q → P := by intro q_; repeat (first | (with_reducible first | exact q_ | apply below_alloc | apply pw_below_drewN | apply below_drew1) | exact q_)) : P := h q
theorem spec_Heartbeat.y2_ {P Q : Prop} (q : Q) (h : Q → P := by intro q_; repeat (first | exact q_ | (with_reducible refine Kd.C_alloc ?_ _) | (with_reducible refine Kd.C_drewN ?_ _) | (with_reducible refine Kd.C_drew ?_))) : P := h q
theorem spec_Heartbeat.b3_ {w w1 W : World} {g : Nat} {o : Obj} (q : Aside0 (w.heap[g]? = some o)) (hb : Below W.heap.size W w1) (h : w.heap[g]? = some o → W.heap[g]? = some o := by intro q_; (with_reducible repeat (first | refine blk_drewN ?_ _ | refine blk_drew ?_ | refine blk_alloc ?_ _)); exact q_) : Aside0 (w1.heap[g]? = some o) := ⟨blk_below (h q.out) hb⟩
theorem spec_Heartbeat.b4_ {w W : World} {g k : Nat} {o : Obj} (hg : k = W.heap.size) (q : Aside0 (w.heap[g]? = some o)) (h : w.heap[g]? = some o → W.heap[g]? = some o := by intro q_; (with_reducible repeat (first | refine blk_drewN ?_ _ | refine blk_drew ?_ | refine blk_alloc ?_ _)); exact q_) : Aside0 (g ≠ k) := ⟨by rw [hg]; exact Nat.ne_of_lt (blk_lt (h q.out))⟩
theorem spec_Heartbeat.b5_ {w W : World} {g k : Nat} {o : Obj} (hg : k = W.heap.size) (q : Aside0 (w.heap[g]? = some o)) (h : w.heap[g]? = some o → W.heap[g]? = some o := by intro q_; (with_reducible repeat (first | refine blk_drewN ?_ _ | refine blk_drew ?_ | refine blk_alloc ?_ _)); exact q_) : Aside0 (k ≠ g) := ⟨by rw [hg]; exact Nat.ne_of_gt (blk_lt (h q.out))⟩
theorem spec_Heartbeat.b6_ {w w' W : World} {k : Nat} (hg : k = W.heap.size) (q : Aside0 (Below w.heap.size w w')) (h : Below w.heap.size w w' → Below w.heap.size w W := by intro q_; repeat (first | (with_reducible first | exact q_ | apply below_alloc | apply pw_below_drewN | apply below_drew1) | exact q_)) : Aside0 (w.heap.size ≤ k) := ⟨by rw [hg]; exact below_size (h q.out)⟩
theorem spec_Heartbeat.bx_ {P : Program} {ops : Array Oper} {rest : List Oper} {o : Oper} {a : Act} {Q : Exit → Act → World → Prop} {W : World} (N : Tmp) (cs : Array Value) (t : TypeId) (h : ∀ g, g = W.heap.size → ∀ w1, w1.heap[g]? = some (.cells cs t (0, 0)) → Below W.heap.size W w1 → wpList P ops Q rest (a.put o.dst (.pointer (some ⟨g, 0, none⟩))) w1) (hgd : o.guard = none := by rfl) (hd : o.dst = some N := by rfl) (hrun : (execOp a.eval o).run P W = .ok (.value (.pointer (some ⟨W.heap.size, 0, none⟩))) (W.alloc (.cells cs t (0, 0))) := by first | (go_simp; done) | (go_simp; rfl)) : wpList P ops Q (o :: rest) a W := box_event hgd hd hrun h
theorem spec_Heartbeat.c1_ {w : World} {g : Nat} {t : TypeId} {cs : Array Value} (q : Aside0 (w.heap[g]? = some (.cells cs t (0, 0)))) (i : Nat) (v : Value) (h : cs[i]? = some v := by rfl) : w.cell? ⟨g, i, none⟩ = some v := (blk_cell q.out i).trans h
theorem spec_Heartbeat.f1_ {w : World} {g : Nat} {t : TypeId} {cs : Array Value} (q : Aside0 (w.heap[g]? = some (.cells cs t (0, 0)))) (i : Nat) : w.frozen? ⟨g, i, none⟩ = false := blk_frozen q.out i
def spec_Heartbeat.f (k : Nat) (l0_0 : List (S63)) (l0_1 : List (S63)) (l0_2 : List (S73)) (a1 : Int) (a2 : Int) (a3 : Int) : Option ((List (S63)) × (List (S63)) × (List (S73)) × Bool) := (spec_l05Is.f k l0_0 l0_1 l0_2).bind fun t320 => (if t320 = true then ((spec_l05Beat.f k l0_0 l0_1 l0_2 a1 a2 a3).bind fun bt321 => (some (bt321.1, bt321.2.1, bt321.2.2.1, bt321.2.2.2))) else (some (([] : List (S63)), ([] : List (S63)), ([] : List (S73)), false)))
theorem spec_Heartbeat.mono : ∀ a0 a1 a2 a3 a4 a5 k, LeO (spec_Heartbeat.f k a0 a1 a2 a3 a4 a5) (spec_Heartbeat.f (k + 1) a0 a1 a2 a3 a4 a5) := by
  intro a0 a1 a2 a3 a4 a5 k
  unfold spec_Heartbeat.f
  repeat' first
      | (with_reducible exact spec_l05Beat.mono _ _ _ _ _ _ _)
      | (with_reducible exact spec_l05Is.mono _ _ _ _)
      | (with_reducible exact LeO.refl _)
      | (with_reducible exact LeO.none _)
      | (with_reducible refine LeO.ite ?_ ?_)
      | (with_reducible refine LeO.bind ?_ (fun _ => ?_))
      | exact spec_l05Beat.mono _ _ _ _ _ _ _
      | exact spec_l05Is.mono _ _ _ _
      | exact LeO.none _
      | refine LeO.ite ?_ ?_
      | refine LeO.bind ?_ (fun _ => ?_)
set_option maxHeartbeats 8000000 in
set_option maxRecDepth 100000 in
theorem spec_Heartbeat.calls (k : Nat) (A0_0 : Option Addr) (c0_0 : Nat) (l0_0 : List (S63)) (A0_1 : Option Addr) (c0_1 : Nat) (l0_1 : List (S63)) (A0_2 : Option Addr) (c0_2 : Nat) (l0_2 : List (S73)) (a1 : Int) (a2 : Int) (a3 : Int) (r1 : List (S63)) (r2 : List (S63)) (r3 : List (S73)) (r4 : Bool) (w : World) (hr0_0 : Kd.C k63 w A0_0 l0_0.length l0_0) (hc0_0 : l0_0.length ≤ c0_0) (hr0_1 : Kd.C k63 w A0_1 l0_1.length l0_1) (hc0_1 : l0_1.length ≤ c0_1) (hr0_2 : Kd.C k73 w A0_2 l0_2.length l0_2) (hc0_2 : l0_2.length ≤ c0_2) (h : spec_Heartbeat.f k l0_0 l0_1 l0_2 a1 a2 a3 = some (r1, r2, r3, r4)) :
    Calls Try.prog 32 #[.agg #[.slice A0_0 l0_0.length c0_0, .slice A0_1 l0_1.length c0_1, .slice A0_2 l0_2.length c0_2], .int .i64 a1, .int .i64 a2, .int .i64 a3] w fun e w' => ∃ v0_ v1_ v2_ : Value, e = .returned (.tuple #[.agg #[v0_, v1_, v2_], .bool r4]) ∧ Kd.R k63 63 w' w.heap.size (fun k_ => some k_ ≠ (v1_ : Value).ownBlock) v0_ r1 ∧ Kd.R k63 63 w' w.heap.size (fun k_ => some k_ ≠ (v0_ : Value).ownBlock) v1_ r2 ∧ Kd.R k73 73 w' w.heap.size (fun _ => True) v2_ r3 ∧ Below w.heap.size w w' := by
 have hu27 := Try.underlying27
 have HR0_0 := Aside0.mk hr0_0
 have HC0_0 := Aside0.mk hc0_0
 clear hr0_0 hc0_0
 have HR0_1 := Aside0.mk hr0_1
 have HC0_1 := Aside0.mk hc0_1
 clear hr0_1 hc0_1
 have HR0_2 := Aside0.mk hr0_2
 have HC0_2 := Aside0.mk hc0_2
 clear hr0_2 hc0_2
 have HB := Aside0.mk (Below.refl w.heap.size w)
 have H : ((spec_l05Is.f k l0_0 l0_1 l0_2).bind fun t320 => (if t320 = true then ((spec_l05Beat.f k l0_0 l0_1 l0_2 a1 a2 a3).bind fun bt321 => (some (bt321.1, bt321.2.1, bt321.2.2.1, bt321.2.2.2))) else (some (([] : List (S63)), ([] : List (S63)), ([] : List (S73)), false)))) = some (r1, r2, r3, r4) := h
 clear h
 replace H := Option.bind_eq_some_iff.mp H
 obtain ⟨t320, A50, H⟩ := H
 replace H : (if t320 = true then ((spec_l05Beat.f k l0_0 l0_1 l0_2 a1 a2 a3).bind fun bt321 => (some (bt321.1, bt321.2.1, bt321.2.2.1, bt321.2.2.2))) else (some (([] : List (S63)), ([] : List (S63)), ([] : List (S73)), false))) = some (r1, r2, r3, r4) := H
 have A5 := Aside0.mk A50
 clear A50
 by_cases c6 : t320 = true
 {
 subst c6
 have H1 : ((spec_l05Beat.f k l0_0 l0_1 l0_2 a1 a2 a3).bind fun bt321 => (some (bt321.1, bt321.2.1, bt321.2.2.1, bt321.2.2.2))) = some (r1, r2, r3, r4) := by rw [if_pos rfl] at H; exact H
 clear H
 have H := H1
 clear H1
 replace H := Option.bind_eq_some_iff.mp H
 obtain ⟨⟨t321, t324, t327, t330⟩, A70, H⟩ := H
 replace H : (some (t321, t324, t327, t330)) = some (r1, r2, r3, r4) := H
 have A7 := Aside0.mk A70
 clear A70
 simp only [Option.some.injEq, Prod.mk.injEq] at H
 obtain ⟨rfl, rfl, rfl, rfl⟩ := H
 go_enter Try.func32, Try.ntmps32
 go_wp2_with (first | ((with_reducible refine gate_dst (N := 4) rfl ?_); refine bx_ 4 #[.slice A0_0 l0_0.length c0_0, .slice A0_1 l0_1.length c0_1, .slice A0_2 l0_2.length c0_2] 27 ?_; intro gb318 hg w8 hbox hb; have GW318 := b6_ hg HB; have GE318 := b6_ hg HB; replace HB := Aside0.mk (below_step (y1_ HB.out) hb); have BK318 := Aside0.mk (hbox); clear hb hbox hg) | ((with_reducible refine gate_dst (N := 8) rfl ?_); refine bx_ 8 #[.slice none 0 0, .slice none 0 0, .slice none 0 0] 27 ?_; intro gb319 hg w9 hbox hb; have GW319 := b6_ hg HB; have GE319 := b6_ hg HB; have NB318_319 := b4_ hg BK318; have NB319_318 := b5_ hg BK318; replace BK318 := b3_ BK318 hb; replace HB := Aside0.mk (below_step (y1_ HB.out) hb); have BK319 := Aside0.mk (hbox); clear hb hbox hg) | ((with_reducible refine gate_callee (f := 57) rfl ?_); refine goesL_ (some 10) rfl rfl Try.func57 s2_ rfl #[.pointer (some ⟨gb318, 0, none⟩)] rfl s3_ ?_; (with_reducible refine (spec_l05Is.calls k gb318 A0_0 c0_0 l0_0 A0_1 c0_1 l0_1 A0_2 c0_2 l0_2 true _ ?side1 ?side2 ?side3 ?side4 ?side5 ?side6 ?side7 A5.out).mono ?_); (case side1 => exact (b1_ BK318.out)); (case side2 => exact y2_ (Kd.C_below HR0_0.out HB.out)); (case side3 => exact HC0_0.out); (case side4 => exact y2_ (Kd.C_below HR0_1.out HB.out)); (case side5 => exact HC0_1.out); (case side6 => exact y2_ (Kd.C_below HR0_2.out HB.out)); (case side7 => exact HC0_2.out); rintro e w10 ⟨rfl, hb⟩; refine ⟨_, rfl, ?_⟩; replace BK318 := b3_ BK318 hb; replace BK319 := b3_ BK319 hb; replace HB := Aside0.mk (below_step (y1_ HB.out) hb); (try clear hb); (try clear hb2); (try clear hk); (try clear hi)) | ((with_reducible refine gate_callee (f := 75) rfl ?_); refine goesL_ (some 16) rfl rfl Try.func75 s2_ rfl #[.pointer (some ⟨gb318, 0, none⟩), .int .i64 a1, .int .i64 a2, .int .i64 a3] rfl s3_ ?_; (with_reducible refine (spec_l05Beat.calls k gb318 A0_0 c0_0 l0_0 A0_1 c0_1 l0_1 A0_2 c0_2 l0_2 a1 a2 a3 t321 t324 t327 t330 _ ?side1 ?side2 ?side3 ?side4 ?side5 ?side6 ?side7 A7.out).mono ?_); (case side1 => exact (b1_ BK318.out)); (case side2 => exact y2_ (Kd.C_below HR0_0.out HB.out)); (case side3 => exact HC0_0.out); (case side4 => exact y2_ (Kd.C_below HR0_1.out HB.out)); (case side5 => exact HC0_1.out); (case side6 => exact y2_ (Kd.C_below HR0_2.out HB.out)); (case side7 => exact HC0_2.out); rintro e w11 ⟨v322, v325, v328, rfl, ho0, ho1, ho2, hb⟩; refine ⟨_, rfl, ?_⟩; have HO323 := Aside0.mk (Kd.R_lower ho0 (below_size (y1_ HB.out))); have HO326 := Aside0.mk (Kd.R_lower ho1 (below_size (y1_ HB.out))); have HO329 := Aside0.mk (Kd.R_lower ho2 (below_size (y1_ HB.out))); replace BK318 := b3_ BK318 hb; replace BK319 := b3_ BK319 hb; replace HB := Aside0.mk (below_step (y1_ HB.out) hb); (try clear hb); (try clear hb2); (try clear hk); (try clear hi); (try clear ho0); (try clear ho1); (try clear ho2); obtain ⟨Ao12, co12, eo12⟩ := Kd.R_slice HO323.out; subst eo12; have hnb13 := NB319_318.out; have hnc13 := NB318_319.out; have hcz14_0 := c1_ BK319 0 (.slice none 0 0); have hcz14_1 := c1_ BK319 1 (.slice none 0 0); have hcz14_2 := c1_ BK319 2 (.slice none 0 0); have hfz14_0 := f1_ BK319 0; have hfz14_1 := f1_ BK319 1; have hfz14_2 := f1_ BK319 2; obtain ⟨Ao15, co15, eo15⟩ := Kd.R_slice HO326.out; subst eo15; obtain ⟨Ao16, co16, eo16⟩ := Kd.R_slice HO329.out; subst eo16))
 refine bodyPost_ret (results_ct rfl _ _ gb319 27 #[.slice Ao12 t321.length co12, .slice Ao15 t324.length co15, .slice Ao16 t327.length co16] (0, 0) _ rfl (by (with_reducible repeat (first | refine blk_drewN ?_ _ | refine blk_drew ?_ | refine blk_alloc ?_ _)); refine blk_put3 (cs := #[.slice none 0 0, .slice none 0 0, .slice none 0 0]) ?_ rfl; (with_reducible repeat (first | refine blk_drewN ?_ _ | refine blk_drew ?_ | refine blk_alloc ?_ _)); exact BK319.out) Try.underlying27 rfl s2_) rfl ?_
 exact ⟨_, _, _, by first | rfl | (simp [errW_none, errW_some] <;> rfl) | (simp [*, errW_none, errW_some] <;> rfl), by (with_reducible repeat (first | apply Kd.R_alloc | apply Kd.R_drewN | apply Kd.R_drew)); exact Kd.R_mono (Kd.R_far3 (g := gb319) (Kd.R_types HO323.out BK319.out (by decide)) (fun _ hk => hk.2)) (fun _ hk => hk.1), by (with_reducible repeat (first | apply Kd.R_alloc | apply Kd.R_drewN | apply Kd.R_drew)); exact Kd.R_mono (Kd.R_far3 (g := gb319) (Kd.R_types HO326.out BK319.out (by decide)) (fun _ hk => hk.2)) (fun _ hk => hk.1), by (with_reducible repeat (first | apply Kd.R_alloc | apply Kd.R_drewN | apply Kd.R_drew)); exact Kd.R_mono (Kd.R_far3 (g := gb319) (Kd.R_types HO329.out BK319.out (by decide)) (fun _ hk => hk.2)) (fun _ hk => trivial), by repeat (first | (with_reducible first | exact HB.out | apply below_alloc | apply pw_below_drewN | apply below_drew1 | refine below_set ?_ GE319.out) | exact HB.out)⟩}
 {
 replace c6 := Bool.eq_false_iff.mpr c6
 subst c6
 have H1 : (some (([] : List (S63)), ([] : List (S63)), ([] : List (S73)), false)) = some (r1, r2, r3, r4) := by rw [if_neg (show ¬ (false = true) by decide)] at H; exact H
 clear H
 have H := H1
 clear H1
 simp only [Option.some.injEq, Prod.mk.injEq] at H
 obtain ⟨rfl, rfl, rfl, rfl⟩ := H
 go_enter Try.func32, Try.ntmps32
 go_wp2_with (first | ((with_reducible refine gate_dst (N := 4) rfl ?_); refine bx_ 4 #[.slice A0_0 l0_0.length c0_0, .slice A0_1 l0_1.length c0_1, .slice A0_2 l0_2.length c0_2] 27 ?_; intro gb318 hg w17 hbox hb; have GW318 := b6_ hg HB; have GE318 := b6_ hg HB; replace HB := Aside0.mk (below_step (y1_ HB.out) hb); have BK318 := Aside0.mk (hbox); clear hb hbox hg) | ((with_reducible refine gate_dst (N := 8) rfl ?_); refine bx_ 8 #[.slice none 0 0, .slice none 0 0, .slice none 0 0] 27 ?_; intro gb319 hg w18 hbox hb; have GW319 := b6_ hg HB; have GE319 := b6_ hg HB; have NB318_319 := b4_ hg BK318; have NB319_318 := b5_ hg BK318; replace BK318 := b3_ BK318 hb; replace HB := Aside0.mk (below_step (y1_ HB.out) hb); have BK319 := Aside0.mk (hbox); clear hb hbox hg) | ((with_reducible refine gate_callee (f := 57) rfl ?_); refine goesL_ (some 10) rfl rfl Try.func57 s2_ rfl #[.pointer (some ⟨gb318, 0, none⟩)] rfl s3_ ?_; (with_reducible refine (spec_l05Is.calls k gb318 A0_0 c0_0 l0_0 A0_1 c0_1 l0_1 A0_2 c0_2 l0_2 false _ ?side1 ?side2 ?side3 ?side4 ?side5 ?side6 ?side7 A5.out).mono ?_); (case side1 => exact (b1_ BK318.out)); (case side2 => exact y2_ (Kd.C_below HR0_0.out HB.out)); (case side3 => exact HC0_0.out); (case side4 => exact y2_ (Kd.C_below HR0_1.out HB.out)); (case side5 => exact HC0_1.out); (case side6 => exact y2_ (Kd.C_below HR0_2.out HB.out)); (case side7 => exact HC0_2.out); rintro e w19 ⟨rfl, hb⟩; refine ⟨_, rfl, ?_⟩; replace BK318 := b3_ BK318 hb; replace BK319 := b3_ BK319 hb; replace HB := Aside0.mk (below_step (y1_ HB.out) hb); (try clear hb); (try clear hb2); (try clear hk); (try clear hi); have hnb20 := NB319_318.out; have hnc20 := NB318_319.out; have hcz21_0 := c1_ BK319 0 (.slice none 0 0); have hcz21_1 := c1_ BK319 1 (.slice none 0 0); have hcz21_2 := c1_ BK319 2 (.slice none 0 0); have hfz21_0 := f1_ BK319 0; have hfz21_1 := f1_ BK319 1; have hfz21_2 := f1_ BK319 2))
 refine bodyPost_ret (results_ct rfl _ _ gb319 27 #[.slice none 0 0, .slice none 0 0, .slice none 0 0] (0, 0) _ rfl (by (with_reducible repeat (first | refine blk_drewN ?_ _ | refine blk_drew ?_ | refine blk_alloc ?_ _)); refine blk_put3 (cs := #[.slice none 0 0, .slice none 0 0, .slice none 0 0]) ?_ rfl; (with_reducible repeat (first | refine blk_drewN ?_ _ | refine blk_drew ?_ | refine blk_alloc ?_ _)); exact BK319.out) Try.underlying27 rfl s2_) rfl ?_
 exact ⟨_, _, _, by first | rfl | (simp [errW_none, errW_some] <;> rfl) | (simp [*, errW_none, errW_some] <;> rfl), by first | exact Kd.R_nil _ _ _ _ _ | exact Kd.N_nil _ _ _ _ _ | exact Kd.V_nil _ _ _ _ _ | exact Kd.Q_nil _ _ _ _ _ | exact Kd.S_nil _ _ _ _ _, by first | exact Kd.R_nil _ _ _ _ _ | exact Kd.N_nil _ _ _ _ _ | exact Kd.V_nil _ _ _ _ _ | exact Kd.Q_nil _ _ _ _ _ | exact Kd.S_nil _ _ _ _ _, by first | exact Kd.R_nil _ _ _ _ _ | exact Kd.N_nil _ _ _ _ _ | exact Kd.V_nil _ _ _ _ _ | exact Kd.Q_nil _ _ _ _ _ | exact Kd.S_nil _ _ _ _ _, by repeat (first | (with_reducible first | exact HB.out | apply below_alloc | apply pw_below_drewN | apply below_drew1 | refine below_set ?_ GE319.out) | exact HB.out)⟩}

end Go.Proofs.Ytgfilednbllkmaa.QFnExactHeartbeat
