-- written by a program of this session, on the lines of the kit's print
import Derived.Test.YtcnhepjdibbkgaaQFnExactWordsFromx0
import Derived.Test.YtcnhepjdibbkgaaQFnExactWordsFromx3
namespace Go.Proofs.Ytcnhepjdibbkgaa.QFnExactWordsFrom
open Go.RowKit Go.Proofs.YtcnhepjdibbkgaaW.PrintWords Go.Proofs.YtcnhepjdibbkgaaW.PrintLast Go.Proofs.YtcnhepjdibbkgaaW.PrintMore
attribute [local go_sem] max2_int min2_int max_two min_two max_three min_three max_four min_four   -- for this text's walks alone
set_option linter.unusedVariables false
set_option linter.unusedSimpArgs false

/-! ### spec_l08Is: function 50 -/
abbrev spec_l08Is.T : Bool := true
abbrev spec_l08Is.F : Bool := false
theorem spec_l08Is.s1_ {P : Prop} (h : P := by first | rfl | (simp; done) | (simp [*]; done)) : P := h
theorem spec_l08Is.b1_ {P Q : Prop} (q : Q) (h : Q → P := by intro q_; (with_reducible repeat (first | refine blk_drewN ?_ _ | refine blk_drew ?_ | refine blk_alloc ?_ _)); exact q_) : P := h q
theorem spec_l08Is.y2_ {P Q : Prop} (q : Q) (h : Q → P := by intro q_; repeat (first | exact q_ | (with_reducible refine Kd.C_alloc ?_ _) | (with_reducible refine Kd.C_drewN ?_ _) | (with_reducible refine Kd.C_drew ?_))) : P := h q
theorem spec_l08Is.c1_ {w : World} {g : Nat} {t : TypeId} {cs : Array Value} (q : Aside0 (w.heap[g]? = some (.cells cs t (0, 0)))) (i : Nat) (v : Value) (h : cs[i]? = some v := by rfl) : w.cell? ⟨g, i, none⟩ = some v := (blk_cell q.out i).trans h
mutual
def spec_l08Is.l0 : Nat → Int → List (S63) → Option (Bool)
  | 0, _, _ => none
  | k + 1, x3, x1000 => if x3 < (x1000.length : Int) then (if 0 ≤ x3 then ((spec_l08Word.f k ((rd_T63 x1000 x3).f0)).bind fun t152 => (if t152 = true then (if x3 > 0 then (if 0 ≤ (wrap64 (x3 - 1)) then (if (wrap64 (x3 - 1)) < (x1000.length : Int) then (spec_l08Is.j1 k x3 x1000 (!(Op.bytesLess (((rd_T63 x1000 (wrap64 (x3 - 1))).f0).toList) (((rd_T63 x1000 x3).f0).toList))) x1000) else (none)) else (none)) else (spec_l08Is.j1 k x3 x1000 false x1000)) else (spec_l08Is.j1 k x3 x1000 true x1000))) else (none)) else (some true)
def spec_l08Is.j1 : Nat → Int → List (S63) → Bool → List (S63) → Option (Bool)
  | 0, _, _, _, _ => none
  | k + 1, x3, x9, x45, x1000 => if x45 = true then (some false) else (if (((rd_T63 x9 x3).f1).length : Int) < 1 then (some false) else (if (((rd_T63 x9 x3).f1).length : Int) > 40 then (some false) else ((spec_l00Rises.f k ((rd_T63 x9 x3).f1) 1 1000000000).bind fun t155 => (if t155 = true then (spec_l08Is.l0 k (wrap64 (x3 + 1)) x1000) else (some false)))))
end
def spec_l08Is.f (k : Nat) (l0_0 : List (S63)) : Option (Bool) := spec_l08Is.l0 k 0 l0_0
theorem spec_l08Is.mono_l : ∀ k, (∀ y0 y1, LeO (spec_l08Is.l0 k y0 y1) (spec_l08Is.l0 (k + 1) y0 y1)) ∧ (∀ y0 y1 y2 y3, LeO (spec_l08Is.j1 k y0 y1 y2 y3) (spec_l08Is.j1 (k + 1) y0 y1 y2 y3))
  | 0 => ⟨fun _ _ r h => by simp [spec_l08Is.l0] at h, fun _ _ _ _ r h => by simp [spec_l08Is.j1] at h⟩
  | k + 1 => by
    obtain ⟨ih0, ih1⟩ := spec_l08Is.mono_l k
    refine ⟨?_, ?_⟩
    · intro y0 y1
      unfold spec_l08Is.l0
      repeat' first
      | (with_reducible exact ih0 _ _)
      | (with_reducible exact ih1 _ _ _ _)
      | (with_reducible exact spec_l00Rises.mono _ _ _ _)
      | (with_reducible exact spec_l08Word.mono _ _)
      | (with_reducible exact LeO.refl _)
      | (with_reducible exact LeO.none _)
      | (with_reducible refine LeO.ite ?_ ?_)
      | (with_reducible refine LeO.bind ?_ (fun _ => ?_))
      | exact ih0 _ _
      | exact ih1 _ _ _ _
      | exact spec_l00Rises.mono _ _ _ _
      | exact spec_l08Word.mono _ _
      | exact LeO.none _
      | refine LeO.ite ?_ ?_
      | refine LeO.bind ?_ (fun _ => ?_)
    · intro y0 y1 y2 y3
      unfold spec_l08Is.j1
      repeat' first
      | (with_reducible exact ih0 _ _)
      | (with_reducible exact ih1 _ _ _ _)
      | (with_reducible exact spec_l00Rises.mono _ _ _ _)
      | (with_reducible exact spec_l08Word.mono _ _)
      | (with_reducible exact LeO.refl _)
      | (with_reducible exact LeO.none _)
      | (with_reducible refine LeO.ite ?_ ?_)
      | (with_reducible refine LeO.bind ?_ (fun _ => ?_))
      | exact ih0 _ _
      | exact ih1 _ _ _ _
      | exact spec_l00Rises.mono _ _ _ _
      | exact spec_l08Word.mono _ _
      | exact LeO.none _
      | refine LeO.ite ?_ ?_
      | refine LeO.bind ?_ (fun _ => ?_)
theorem spec_l08Is.mono : ∀ a0 k, LeO (spec_l08Is.f k a0) (spec_l08Is.f (k + 1) a0) := by
  intro a0 k
  obtain ⟨ih0, ih1⟩ := spec_l08Is.mono_l k
  unfold spec_l08Is.f
  repeat' first
      | (with_reducible exact ih0 _ _)
      | (with_reducible exact ih1 _ _ _ _)
      | (with_reducible exact spec_l00Rises.mono _ _ _ _)
      | (with_reducible exact spec_l08Word.mono _ _)
      | (with_reducible exact LeO.refl _)
      | (with_reducible exact LeO.none _)
      | (with_reducible refine LeO.ite ?_ ?_)
      | (with_reducible refine LeO.bind ?_ (fun _ => ?_))
      | exact ih0 _ _
      | exact ih1 _ _ _ _
      | exact spec_l00Rises.mono _ _ _ _
      | exact spec_l08Word.mono _ _
      | exact LeO.none _
      | refine LeO.ite ?_ ?_
      | refine LeO.bind ?_ (fun _ => ?_)
set_option maxHeartbeats 8000000 in
set_option maxRecDepth 100000 in
theorem spec_l08Is.calls (k : Nat) (g0_ : Nat) (A0_0 : Option Addr) (c0_0 : Nat) (l0_0 : List (S63)) (r : Bool) (w : World) (hbk0 : w.heap[g0_]? = some (.cells #[.slice A0_0 l0_0.length c0_0] 29 (0, 0))) (hr0_0 : Kd.C k63 w A0_0 l0_0.length l0_0) (hc0_0 : l0_0.length ≤ c0_0) (h : spec_l08Is.f k l0_0 = some r) :
    Calls Try.prog 50 #[.pointer (some ⟨g0_, 0, none⟩)] w fun e w' => e = .returned (.bool r) ∧ Below w.heap.size w w' := by
 have HR0_0 := Aside0.mk hr0_0
 have HC0_0 := Aside0.mk hc0_0
 clear hr0_0 hc0_0
 have BK0 := Aside0.mk hbk0
 clear hbk0
 have HB := Aside0.mk (Below.refl w.heap.size w)
 have H : (spec_l08Is.l0 k 0 l0_0) = some r := h
 clear h
 have H' := Aside0.mk H
 clear H
 go_enter Try.func50, Try.ntmps50
 go_wp2
 repeat (go_quiet (fail); try go_wp2)
 go_loopg [3] k (fun kq v3 w' => ∃ (x3_1 : Int), v3 = .int .i64 x3_1 ∧ Aside0 (spec_l08Is.l0 kq x3_1 l0_0 = some r) ∧ Aside0 (kq ≤ k) ∧ Aside0 (w'.heap[g0_]? = some (.cells #[(.slice A0_0 l0_0.length c0_0)] 29 (0, 0))) ∧ Aside0 (Below w.heap.size w w'))
 case atStart => exact ⟨(0), s1_, H', ⟨Nat.le_refl _⟩, ⟨b1_ BK0.out⟩, ⟨by repeat (first | (with_reducible first | exact HB.out | apply below_alloc | apply pw_below_drewN | apply below_drew1) | exact HB.out)⟩⟩
 case round =>
  skip
  {
 clear H'
 obtain ⟨x3_1, rfl, HA, HK1, BK0, HB⟩ := hrel
 cases gk with
 | zero => exact absurd HA.out (by simp [spec_l08Is.l0])
 | succ k1 =>
  skip
  {
 have H := HA.out
 clear HA
 simp only [spec_l08Is.l0] at H
 by_cases c2 : x3_1 < (l0_0.length : Int)
 {
 rw [if_pos c2] at H
 have c2b0 : decide (x3_1 < (l0_0.length : Int)) = true := decide_eq_true c2
 clear c2
 by_cases c3 : 0 ≤ x3_1
 {
 rw [if_pos c3] at H
 have c3b0 : decide (0 ≤ x3_1) = true := decide_eq_true c3
 clear c3
 have HC4 := Aside0.mk H
 clear H
 have hcz5_0 := c1_ BK0 0 (.slice A0_0 l0_0.length c0_0)
 have hfz5_0 := blk_frozen BK0.out 0
 have p151 : 0 ≤ (x3_1 : Int) := of_decide_eq_true (by first | (with_reducible assumption) | assumption)
 have q151 : x3_1 < (l0_0.length : Int) := of_decide_eq_true (by first | (with_reducible assumption) | assumption)
 have hbd151 := Aside0.mk (And.intro p151 q151)
 obtain ⟨ad151, A151_1, c151_1, e151, hx151_0, hx151_1, hl151_1, hi151_1⟩ := at_T63 HR0_0.out x3_1 p151 q151
 cases e151
 replace hx151_0 := (HB.out.cell (World.block_lt_of_cell? w _ hx151_0)).trans hx151_0
 replace hx151_1 := (HB.out.cell (World.block_lt_of_cell? w _ hx151_1)).trans hx151_1
 have HR151_1 := Aside0.mk hi151_1
 have HC151_1 := Aside0.mk hl151_1
 clear hi151_1 hl151_1
 replace p151 := eq_true p151
 replace q151 := eq_true q151
 go_upto_region 5 with (fail)
 repeat (go_quiet (fail); go_upto_region 5 with (fail))
 go_cut [45] (fun v45 wc => ∃ (kq : Nat) (x45_3 : Bool), v45 = .bool x45_3 ∧ Aside0 (spec_l08Is.j1 kq x3_1 l0_0 x45_3 l0_0 = some r) ∧ Aside0 (kq ≤ k1) ∧ Aside0 (wc.heap[g0_]? = some (.cells #[(.slice (some ad151) l0_0.length c0_0)] 29 (0, 0))) ∧ Aside0 (Below w.heap.size w wc))
 case first =>
  skip
  {
 have H := HC4.out
 clear HC4
 replace H := Option.bind_eq_some_iff.mp H
 obtain ⟨t152, A60, H⟩ := H
 replace H : (if t152 = true then (if x3_1 > 0 then (if 0 ≤ (wrap64 (x3_1 - 1)) then (if (wrap64 (x3_1 - 1)) < (l0_0.length : Int) then (spec_l08Is.j1 k1 x3_1 l0_0 (!(Op.bytesLess (((rd_T63 l0_0 (wrap64 (x3_1 - 1))).f0).toList) (((rd_T63 l0_0 x3_1).f0).toList))) l0_0) else (none)) else (none)) else (spec_l08Is.j1 k1 x3_1 l0_0 false l0_0)) else (spec_l08Is.j1 k1 x3_1 l0_0 true l0_0)) = some r := H
 have A6 := Aside0.mk A60
 clear A60
 by_cases c7 : t152 = true
 {
 subst c7
 have H1 : (if x3_1 > 0 then (if 0 ≤ (wrap64 (x3_1 - 1)) then (if (wrap64 (x3_1 - 1)) < (l0_0.length : Int) then (spec_l08Is.j1 k1 x3_1 l0_0 (!(Op.bytesLess (((rd_T63 l0_0 (wrap64 (x3_1 - 1))).f0).toList) (((rd_T63 l0_0 x3_1).f0).toList))) l0_0) else (none)) else (none)) else (spec_l08Is.j1 k1 x3_1 l0_0 false l0_0)) = some r := by rw [if_pos rfl] at H; exact H
 clear H
 have H := H1
 clear H1
 by_cases c8 : x3_1 > 0
 {
 rw [if_pos c8] at H
 have c8b0 : decide (0 < x3_1) = true := decide_eq_true c8
 clear c8
 (first | rw [c8b0] | (simp only [i64_w, i32_w]; rw [c8b0]) | skip)
 obtain ⟨ji9, hji9⟩ : ∃ j_ : Int, (wrap64 (x3_1 - 1)) = j_ := ⟨_, rfl⟩
 replace H : (if 0 ≤ (ji9) then (if (ji9) < (l0_0.length : Int) then (spec_l08Is.j1 k1 x3_1 l0_0 (!(Op.bytesLess (((rd_T63 l0_0 (ji9)).f0).toList) (((rd_T63 l0_0 x3_1).f0).toList))) l0_0) else (none)) else (none)) = some r := by first | (rw [hji9] at H; exact H) | (simp only [hji9] at H ⊢; exact H)
 (try rw [hji9] at A6)
 have hji9w : (IntKind.i64.wrap (x3_1 - 1)) = ji9 := (i64_w _).trans hji9
 by_cases c10 : 0 ≤ (ji9)
 {
 rw [if_pos c10] at H
 have c10b0 : decide (0 ≤ (ji9)) = true := decide_eq_true c10
 clear c10
 by_cases c11 : (ji9) < (l0_0.length : Int)
 {
 rw [if_pos c11] at H
 have c11b0 : decide ((ji9) < (l0_0.length : Int)) = true := decide_eq_true c11
 clear c11
 have H' := Aside0.mk H
 clear H
 have hcz12_0 := c1_ BK0 0 (.slice (some ad151) l0_0.length c0_0)
 have hfz12_0 := blk_frozen BK0.out 0
 have p153 : 0 ≤ ((ji9) : Int) := of_decide_eq_true (by first | (with_reducible assumption) | assumption)
 have q153 : (ji9) < (l0_0.length : Int) := of_decide_eq_true (by first | (with_reducible assumption) | assumption)
 obtain ⟨ad153, A153_1, c153_1, e153, hx153_0, hx153_1, hl153_1, hi153_1⟩ := at_T63 HR0_0.out (ji9) p153 q153
 obtain rfl : ad151 = ad153 := (by injection e153)
 replace hx153_0 := (HB.out.cell (World.block_lt_of_cell? w _ hx153_0)).trans hx153_0
 replace hx153_1 := (HB.out.cell (World.block_lt_of_cell? w _ hx153_1)).trans hx153_1
 have HR153_1 := Aside0.mk hi153_1
 have HC153_1 := Aside0.mk hl153_1
 clear hi153_1 hl153_1
 replace p153 := eq_true p153
 replace q153 := eq_true q153
 go_wp2_with (first | (go_at_call 74; (with_reducible refine (spec_l08Word.calls k1 ((rd_T63 l0_0 x3_1).f0) true _ A6.out).mono ?_); rintro e w' ⟨rfl, ⟨nd, rfl⟩⟩; (try first | exact ⟨rfl, _, World.drewN_drewN _ _ _⟩ | exact ⟨rfl, _, Eq.trans (World.drewN_drewN _ _ _) (congrArg (World.drewN _) (Nat.add_assoc _ _ _))⟩)))
 repeat (go_quiet (first | (go_at_call 74; (with_reducible refine (spec_l08Word.calls k1 ((rd_T63 l0_0 x3_1).f0) true _ A6.out).mono ?_); rintro e w' ⟨rfl, ⟨nd, rfl⟩⟩; (try first | exact ⟨rfl, _, World.drewN_drewN _ _ _⟩ | exact ⟨rfl, _, Eq.trans (World.drewN_drewN _ _ _) (congrArg (World.drewN _) (Nat.add_assoc _ _ _))⟩))); try go_wp2_with (first | (go_at_call 74; (with_reducible refine (spec_l08Word.calls k1 ((rd_T63 l0_0 x3_1).f0) true _ A6.out).mono ?_); rintro e w' ⟨rfl, ⟨nd, rfl⟩⟩; (try first | exact ⟨rfl, _, World.drewN_drewN _ _ _⟩ | exact ⟨rfl, _, Eq.trans (World.drewN_drewN _ _ _) (congrArg (World.drewN _) (Nat.add_assoc _ _ _))⟩))))
 go_meet
 case rel => exact ⟨_, (!(Op.bytesLess (((rd_T63 l0_0 (ji9)).f0).toList) (((rd_T63 l0_0 x3_1).f0).toList))), (by first | rfl | (simp; done) | (simp only [← hji9] <;> (first | rfl | simp)) | (simp [*]; done)), H', ⟨by have := HK1.out; first | omega | exact Nat.le_refl _⟩, ⟨b1_ BK0.out⟩, ⟨by repeat (first | (with_reducible first | exact HB.out | apply below_alloc | apply pw_below_drewN | apply below_drew1) | exact HB.out)⟩⟩}
 {
 rw [if_neg c11] at H
 exact absurd H (by simp)}}
 {
 rw [if_neg c10] at H
 exact absurd H (by simp)}}
 {
 rw [if_neg c8] at H
 have c8b0 : decide (0 < x3_1) = false := decide_eq_false c8
 clear c8
 (first | rw [c8b0] | (simp only [i64_w, i32_w]; rw [c8b0]) | skip)
 have H' := Aside0.mk H
 clear H
 go_wp2_with (first | (go_at_call 74; (with_reducible refine (spec_l08Word.calls k1 ((rd_T63 l0_0 x3_1).f0) true _ A6.out).mono ?_); rintro e w' ⟨rfl, ⟨nd, rfl⟩⟩; (try first | exact ⟨rfl, _, World.drewN_drewN _ _ _⟩ | exact ⟨rfl, _, Eq.trans (World.drewN_drewN _ _ _) (congrArg (World.drewN _) (Nat.add_assoc _ _ _))⟩)))
 repeat (go_quiet (first | (go_at_call 74; (with_reducible refine (spec_l08Word.calls k1 ((rd_T63 l0_0 x3_1).f0) true _ A6.out).mono ?_); rintro e w' ⟨rfl, ⟨nd, rfl⟩⟩; (try first | exact ⟨rfl, _, World.drewN_drewN _ _ _⟩ | exact ⟨rfl, _, Eq.trans (World.drewN_drewN _ _ _) (congrArg (World.drewN _) (Nat.add_assoc _ _ _))⟩))); try go_wp2_with (first | (go_at_call 74; (with_reducible refine (spec_l08Word.calls k1 ((rd_T63 l0_0 x3_1).f0) true _ A6.out).mono ?_); rintro e w' ⟨rfl, ⟨nd, rfl⟩⟩; (try first | exact ⟨rfl, _, World.drewN_drewN _ _ _⟩ | exact ⟨rfl, _, Eq.trans (World.drewN_drewN _ _ _) (congrArg (World.drewN _) (Nat.add_assoc _ _ _))⟩))))
 go_meet
 case rel => exact ⟨_, (false), s1_, H', ⟨by have := HK1.out; first | omega | exact Nat.le_refl _⟩, ⟨b1_ BK0.out⟩, ⟨by repeat (first | (with_reducible first | exact HB.out | apply below_alloc | apply pw_below_drewN | apply below_drew1) | exact HB.out)⟩⟩}}
 {
 replace c7 := Bool.eq_false_iff.mpr c7
 subst c7
 have H1 : (spec_l08Is.j1 k1 x3_1 l0_0 true l0_0) = some r := by rw [if_neg (show ¬ (false = true) by decide)] at H; exact H
 clear H
 have H := H1
 clear H1
 have H' := Aside0.mk H
 clear H
 go_wp2_with (first | (go_at_call 74; (with_reducible refine (spec_l08Word.calls k1 ((rd_T63 l0_0 x3_1).f0) false _ A6.out).mono ?_); rintro e w' ⟨rfl, ⟨nd, rfl⟩⟩; (try first | exact ⟨rfl, _, World.drewN_drewN _ _ _⟩ | exact ⟨rfl, _, Eq.trans (World.drewN_drewN _ _ _) (congrArg (World.drewN _) (Nat.add_assoc _ _ _))⟩)))
 repeat (go_quiet (first | (go_at_call 74; (with_reducible refine (spec_l08Word.calls k1 ((rd_T63 l0_0 x3_1).f0) false _ A6.out).mono ?_); rintro e w' ⟨rfl, ⟨nd, rfl⟩⟩; (try first | exact ⟨rfl, _, World.drewN_drewN _ _ _⟩ | exact ⟨rfl, _, Eq.trans (World.drewN_drewN _ _ _) (congrArg (World.drewN _) (Nat.add_assoc _ _ _))⟩))); try go_wp2_with (first | (go_at_call 74; (with_reducible refine (spec_l08Word.calls k1 ((rd_T63 l0_0 x3_1).f0) false _ A6.out).mono ?_); rintro e w' ⟨rfl, ⟨nd, rfl⟩⟩; (try first | exact ⟨rfl, _, World.drewN_drewN _ _ _⟩ | exact ⟨rfl, _, Eq.trans (World.drewN_drewN _ _ _) (congrArg (World.drewN _) (Nat.add_assoc _ _ _))⟩))))
 go_meet
 case rel => exact ⟨_, (true), s1_, H', ⟨by have := HK1.out; first | omega | exact Nat.le_refl _⟩, ⟨b1_ BK0.out⟩, ⟨by repeat (first | (with_reducible first | exact HB.out | apply below_alloc | apply pw_below_drewN | apply below_drew1) | exact HB.out)⟩⟩}}
 case rest =>
  skip
  {
 clear HC4
 try clear c1
 try clear p1
 try clear q1
 try clear hx1
 try clear c2
 try clear c2b0
 try clear p2
 try clear c3
 try clear c3b0
 try clear c5
 try clear p6
 try clear c7
 try clear c8
 try clear c8b0
 try clear c10
 try clear c10b0
 try clear c11
 try clear c11b0
 try clear hcz12_0
 try clear hcz5_0
 try clear hfz12_0
 try clear hfz5_0
 try clear hx151_0
 try clear hx151_1
 try clear hx153_0
 try clear hx153_1
 try clear p151
 try clear p153
 try clear q151
 try clear q153
 obtain ⟨kq, x45_3, rfl, HA, HJ3, BK0, HB⟩ := hcut
 cases kq with
 | zero => exact absurd HA.out (by simp [spec_l08Is.j1])
 | succ kj3 =>
  skip
  {
 have H := HA.out
 clear HA
 simp only [spec_l08Is.j1] at H
 by_cases c13 : x45_3 = true
 {
 subst c13
 have H1 : (some false) = some r := by rw [if_pos rfl] at H; exact H
 clear H
 have H := H1
 clear H1
 obtain rfl := Option.some.inj H
 go_wp2
 repeat (go_quiet (fail); try go_wp2)
 go_ret
 exact ⟨by first | rfl | (simp [errW_none, errW_some] <;> rfl) | (simp [*, errW_none, errW_some] <;> rfl), by repeat (first | (with_reducible first | exact HB.out | apply below_alloc | apply pw_below_drewN | apply below_drew1) | exact HB.out)⟩}
 {
 replace c13 := Bool.eq_false_iff.mpr c13
 subst c13
 have H1 : (if (((rd_T63 l0_0 x3_1).f1).length : Int) < 1 then (some false) else (if (((rd_T63 l0_0 x3_1).f1).length : Int) > 40 then (some false) else ((spec_l00Rises.f kj3 ((rd_T63 l0_0 x3_1).f1) 1 1000000000).bind fun t155 => (if t155 = true then (spec_l08Is.l0 kj3 (wrap64 (x3_1 + 1)) l0_0) else (some false))))) = some r := by rw [if_neg (show ¬ (false = true) by decide)] at H; exact H
 clear H
 have H := H1
 clear H1
 by_cases c14 : (((rd_T63 l0_0 x3_1).f1).length : Int) < 1
 {
 rw [if_pos c14] at H
 have c14b0 : decide ((((rd_T63 l0_0 x3_1).f1).length : Int) < 1) = true := decide_eq_true c14
 have c14b1 : decide (((rd_T63 l0_0 x3_1).f1).length < 1) = true := decide_eq_true (by omega)
 clear c14
 obtain rfl := Option.some.inj H
 have p154 : 0 ≤ (x3_1 : Int) := (by first | exact of_decide_eq_true (by first | (with_reducible assumption) | assumption) | exact hbd151.out.1)
 have q154 : x3_1 < (l0_0.length : Int) := (by first | exact of_decide_eq_true (by first | (with_reducible assumption) | assumption) | exact hbd151.out.2)
 obtain ⟨ad154, A154_1, c154_1, e154, hx154_0, hx154_1, hl154_1, hi154_1⟩ := at_T63 HR0_0.out x3_1 p154 q154
 obtain rfl : ad151 = ad154 := (by injection e154)
 replace hx154_0 := (HB.out.cell (World.block_lt_of_cell? w _ hx154_0)).trans hx154_0
 replace hx154_1 := (HB.out.cell (World.block_lt_of_cell? w _ hx154_1)).trans hx154_1
 have HR154_1 := Aside0.mk hi154_1
 have HC154_1 := Aside0.mk hl154_1
 clear hi154_1 hl154_1
 replace p154 := eq_true p154
 replace q154 := eq_true q154
 go_wp2
 repeat (go_quiet (fail); try go_wp2)
 go_ret
 exact ⟨by first | rfl | (simp [errW_none, errW_some] <;> rfl) | (simp [*, errW_none, errW_some] <;> rfl), by repeat (first | (with_reducible first | exact HB.out | apply below_alloc | apply pw_below_drewN | apply below_drew1) | exact HB.out)⟩}
 {
 rw [if_neg c14] at H
 have c14b0 : decide ((((rd_T63 l0_0 x3_1).f1).length : Int) < 1) = false := decide_eq_false c14
 have c14b1 : decide (((rd_T63 l0_0 x3_1).f1).length < 1) = false := decide_eq_false (by omega)
 clear c14
 by_cases c15 : (((rd_T63 l0_0 x3_1).f1).length : Int) > 40
 {
 rw [if_pos c15] at H
 have c15b0 : decide (40 < (((rd_T63 l0_0 x3_1).f1).length : Int)) = true := decide_eq_true c15
 have c15b1 : decide (40 < ((rd_T63 l0_0 x3_1).f1).length) = true := decide_eq_true (by omega)
 clear c15
 obtain rfl := Option.some.inj H
 have p154 : 0 ≤ (x3_1 : Int) := (by first | exact of_decide_eq_true (by first | (with_reducible assumption) | assumption) | exact hbd151.out.1)
 have q154 : x3_1 < (l0_0.length : Int) := (by first | exact of_decide_eq_true (by first | (with_reducible assumption) | assumption) | exact hbd151.out.2)
 obtain ⟨ad154, A154_1, c154_1, e154, hx154_0, hx154_1, hl154_1, hi154_1⟩ := at_T63 HR0_0.out x3_1 p154 q154
 obtain rfl : ad151 = ad154 := (by injection e154)
 replace hx154_0 := (HB.out.cell (World.block_lt_of_cell? w _ hx154_0)).trans hx154_0
 replace hx154_1 := (HB.out.cell (World.block_lt_of_cell? w _ hx154_1)).trans hx154_1
 have HR154_1 := Aside0.mk hi154_1
 have HC154_1 := Aside0.mk hl154_1
 clear hi154_1 hl154_1
 replace p154 := eq_true p154
 replace q154 := eq_true q154
 go_wp2
 repeat (go_quiet (fail); try go_wp2)
 go_ret
 exact ⟨by first | rfl | (simp [errW_none, errW_some] <;> rfl) | (simp [*, errW_none, errW_some] <;> rfl), by repeat (first | (with_reducible first | exact HB.out | apply below_alloc | apply pw_below_drewN | apply below_drew1) | exact HB.out)⟩}
 {
 rw [if_neg c15] at H
 have c15b0 : decide (40 < (((rd_T63 l0_0 x3_1).f1).length : Int)) = false := decide_eq_false c15
 have c15b1 : decide (40 < ((rd_T63 l0_0 x3_1).f1).length) = false := decide_eq_false (by omega)
 clear c15
 replace H := Option.bind_eq_some_iff.mp H
 obtain ⟨t155, A160, H⟩ := H
 replace H : (if t155 = true then (spec_l08Is.l0 kj3 (wrap64 (x3_1 + 1)) l0_0) else (some false)) = some r := H
 have A16 := Aside0.mk A160
 clear A160
 by_cases c17 : t155 = true
 {
 subst c17
 have H1 : (spec_l08Is.l0 kj3 (wrap64 (x3_1 + 1)) l0_0) = some r := by rw [if_pos rfl] at H; exact H
 clear H
 have H := H1
 clear H1
 have H' := Aside0.mk H
 clear H
 have p154 : 0 ≤ (x3_1 : Int) := (by first | exact of_decide_eq_true (by first | (with_reducible assumption) | assumption) | exact hbd151.out.1)
 have q154 : x3_1 < (l0_0.length : Int) := (by first | exact of_decide_eq_true (by first | (with_reducible assumption) | assumption) | exact hbd151.out.2)
 obtain ⟨ad154, A154_1, c154_1, e154, hx154_0, hx154_1, hl154_1, hi154_1⟩ := at_T63 HR0_0.out x3_1 p154 q154
 obtain rfl : ad151 = ad154 := (by injection e154)
 replace hx154_0 := (HB.out.cell (World.block_lt_of_cell? w _ hx154_0)).trans hx154_0
 replace hx154_1 := (HB.out.cell (World.block_lt_of_cell? w _ hx154_1)).trans hx154_1
 have HR154_1 := Aside0.mk hi154_1
 have HC154_1 := Aside0.mk hl154_1
 clear hi154_1 hl154_1
 replace p154 := eq_true p154
 replace q154 := eq_true q154
 go_wp2_with (first | (go_at_call 90; (with_reducible refine (spec_l00Rises.calls kj3 _ _ ((rd_T63 l0_0 x3_1).f1) 1 1000000000 true _ ?side1 ?side2 A16.out).mono ?_); (case side1 => exact y2_ (Kd.C_below HR154_1.out HB.out)); (case side2 => exact HC154_1.out); rintro e w' ⟨rfl, ⟨nd, rfl⟩⟩; (try first | exact ⟨rfl, _, World.drewN_drewN _ _ _⟩ | exact ⟨rfl, _, Eq.trans (World.drewN_drewN _ _ _) (congrArg (World.drewN _) (Nat.add_assoc _ _ _))⟩)))
 repeat (go_quiet (first | (go_at_call 90; (with_reducible refine (spec_l00Rises.calls kj3 _ _ ((rd_T63 l0_0 x3_1).f1) 1 1000000000 true _ ?side1 ?side2 A16.out).mono ?_); (case side1 => exact y2_ (Kd.C_below HR154_1.out HB.out)); (case side2 => exact HC154_1.out); rintro e w' ⟨rfl, ⟨nd, rfl⟩⟩; (try first | exact ⟨rfl, _, World.drewN_drewN _ _ _⟩ | exact ⟨rfl, _, Eq.trans (World.drewN_drewN _ _ _) (congrArg (World.drewN _) (Nat.add_assoc _ _ _))⟩))); try go_wp2_with (first | (go_at_call 90; (with_reducible refine (spec_l00Rises.calls kj3 _ _ ((rd_T63 l0_0 x3_1).f1) 1 1000000000 true _ ?side1 ?side2 A16.out).mono ?_); (case side1 => exact y2_ (Kd.C_below HR154_1.out HB.out)); (case side2 => exact HC154_1.out); rintro e w' ⟨rfl, ⟨nd, rfl⟩⟩; (try first | exact ⟨rfl, _, World.drewN_drewN _ _ _⟩ | exact ⟨rfl, _, Eq.trans (World.drewN_drewN _ _ _) (congrArg (World.drewN _) (Nat.add_assoc _ _ _))⟩))))
 go_roundg kj3
 case measure => have := HK1.out; have := HJ3.out; omega
 case rel => exact ⟨(wrap64 (x3_1 + 1)), s1_, H', ⟨by have := HK1.out; have := HJ3.out; omega⟩, ⟨b1_ BK0.out⟩, ⟨by repeat (first | (with_reducible first | exact HB.out | apply below_alloc | apply pw_below_drewN | apply below_drew1) | exact HB.out)⟩⟩}
 {
 replace c17 := Bool.eq_false_iff.mpr c17
 subst c17
 have H1 : (some false) = some r := by rw [if_neg (show ¬ (false = true) by decide)] at H; exact H
 clear H
 have H := H1
 clear H1
 obtain rfl := Option.some.inj H
 have p154 : 0 ≤ (x3_1 : Int) := (by first | exact of_decide_eq_true (by first | (with_reducible assumption) | assumption) | exact hbd151.out.1)
 have q154 : x3_1 < (l0_0.length : Int) := (by first | exact of_decide_eq_true (by first | (with_reducible assumption) | assumption) | exact hbd151.out.2)
 obtain ⟨ad154, A154_1, c154_1, e154, hx154_0, hx154_1, hl154_1, hi154_1⟩ := at_T63 HR0_0.out x3_1 p154 q154
 obtain rfl : ad151 = ad154 := (by injection e154)
 replace hx154_0 := (HB.out.cell (World.block_lt_of_cell? w _ hx154_0)).trans hx154_0
 replace hx154_1 := (HB.out.cell (World.block_lt_of_cell? w _ hx154_1)).trans hx154_1
 have HR154_1 := Aside0.mk hi154_1
 have HC154_1 := Aside0.mk hl154_1
 clear hi154_1 hl154_1
 replace p154 := eq_true p154
 replace q154 := eq_true q154
 go_wp2_with (first | (go_at_call 90; (with_reducible refine (spec_l00Rises.calls kj3 _ _ ((rd_T63 l0_0 x3_1).f1) 1 1000000000 false _ ?side1 ?side2 A16.out).mono ?_); (case side1 => exact y2_ (Kd.C_below HR154_1.out HB.out)); (case side2 => exact HC154_1.out); rintro e w' ⟨rfl, ⟨nd, rfl⟩⟩; (try first | exact ⟨rfl, _, World.drewN_drewN _ _ _⟩ | exact ⟨rfl, _, Eq.trans (World.drewN_drewN _ _ _) (congrArg (World.drewN _) (Nat.add_assoc _ _ _))⟩)))
 repeat (go_quiet (first | (go_at_call 90; (with_reducible refine (spec_l00Rises.calls kj3 _ _ ((rd_T63 l0_0 x3_1).f1) 1 1000000000 false _ ?side1 ?side2 A16.out).mono ?_); (case side1 => exact y2_ (Kd.C_below HR154_1.out HB.out)); (case side2 => exact HC154_1.out); rintro e w' ⟨rfl, ⟨nd, rfl⟩⟩; (try first | exact ⟨rfl, _, World.drewN_drewN _ _ _⟩ | exact ⟨rfl, _, Eq.trans (World.drewN_drewN _ _ _) (congrArg (World.drewN _) (Nat.add_assoc _ _ _))⟩))); try go_wp2_with (first | (go_at_call 90; (with_reducible refine (spec_l00Rises.calls kj3 _ _ ((rd_T63 l0_0 x3_1).f1) 1 1000000000 false _ ?side1 ?side2 A16.out).mono ?_); (case side1 => exact y2_ (Kd.C_below HR154_1.out HB.out)); (case side2 => exact HC154_1.out); rintro e w' ⟨rfl, ⟨nd, rfl⟩⟩; (try first | exact ⟨rfl, _, World.drewN_drewN _ _ _⟩ | exact ⟨rfl, _, Eq.trans (World.drewN_drewN _ _ _) (congrArg (World.drewN _) (Nat.add_assoc _ _ _))⟩))))
 go_ret
 exact ⟨by first | rfl | (simp [errW_none, errW_some] <;> rfl) | (simp [*, errW_none, errW_some] <;> rfl), by repeat (first | (with_reducible first | exact HB.out | apply below_alloc | apply pw_below_drewN | apply below_drew1) | exact HB.out)⟩}}}}}}}
 {
 rw [if_neg c3] at H
 exact absurd H (by simp)}}
 {
 rw [if_neg c2] at H
 have c2b0 : decide (x3_1 < (l0_0.length : Int)) = false := decide_eq_false c2
 clear c2
 obtain rfl := Option.some.inj H
 have hcz18_0 := c1_ BK0 0 (.slice A0_0 l0_0.length c0_0)
 have hfz18_0 := blk_frozen BK0.out 0
 go_wp2
 repeat (go_quiet (fail); try go_wp2)
 go_ret
 exact ⟨by first | rfl | (simp [errW_none, errW_some] <;> rfl) | (simp [*, errW_none, errW_some] <;> rfl), by repeat (first | (with_reducible first | exact HB.out | apply below_alloc | apply pw_below_drewN | apply below_drew1) | exact HB.out)⟩}}}

/-! ### spec_WordsFrom: function 30 -/
abbrev spec_WordsFrom.T : Bool := true
abbrev spec_WordsFrom.F : Bool := false
theorem spec_WordsFrom.s1_ {P : Prop} (h : P := by first | rfl | (simp; done) | (simp [*]; done)) : P := h
theorem spec_WordsFrom.s2_ {P : Prop} (h : P := by kernel_rfl) : P := h
theorem spec_WordsFrom.s3_ {P : Prop} (h : P := by (try simp only [List.map_toArray, List.map_cons, List.map_nil]); first | done | rfl | (simp only [List.length_drop, List.length_take]; rfl)) : P := h
theorem spec_WordsFrom.b1_ {P Q : Prop} (q : Q) (h : Q → P := by intro q_; (with_reducible repeat (first | refine blk_drewN ?_ _ | refine blk_drew ?_ | refine blk_alloc ?_ _)); exact q_) : P := h q
theorem spec_WordsFrom.b2_ {P Q : Prop} (q : Q) (h : Q → P := by intro q_; (with_reducible repeat (first | apply Kd.R_alloc | apply Kd.R_drewN | apply Kd.R_drew)); exact q_) : P := h q
theorem spec_WordsFrom.y1_ {P Q : Prop} (q : Q) (h : Q → P := by intro q_; repeat (first | (with_reducible first | exact q_ | apply below_alloc | apply pw_below_drewN | apply below_drew1) | exact q_)) : P := h q
theorem spec_WordsFrom.y2_ {P Q : Prop} (q : Q) (h : Q → P := by intro q_; repeat (first | exact q_ | (with_reducible refine Kd.C_alloc ?_ _) | (with_reducible refine Kd.C_drewN ?_ _) | (with_reducible refine Kd.C_drew ?_))) : P := h q
theorem spec_WordsFrom.b3_ {w w1 W : World} {g : Nat} {o : Obj} (q : Aside0 (w.heap[g]? = some o)) (hb : Below W.heap.size W w1) (h : w.heap[g]? = some o → W.heap[g]? = some o := by intro q_; (with_reducible repeat (first | refine blk_drewN ?_ _ | refine blk_drew ?_ | refine blk_alloc ?_ _)); exact q_) : Aside0 (w1.heap[g]? = some o) := ⟨blk_below (h q.out) hb⟩
theorem spec_WordsFrom.b6_ {w w' W : World} {k : Nat} (hg : k = W.heap.size) (q : Aside0 (Below w.heap.size w w')) (h : Below w.heap.size w w' → Below w.heap.size w W := by intro q_; repeat (first | (with_reducible first | exact q_ | apply below_alloc | apply pw_below_drewN | apply below_drew1) | exact q_)) : Aside0 (w.heap.size ≤ k) := ⟨by rw [hg]; exact below_size (h q.out)⟩
theorem spec_WordsFrom.c1_ {w : World} {g : Nat} {t : TypeId} {cs : Array Value} (q : Aside0 (w.heap[g]? = some (.cells cs t (0, 0)))) (i : Nat) (v : Value) (h : cs[i]? = some v := by rfl) : w.cell? ⟨g, i, none⟩ = some v := (blk_cell q.out i).trans h
mutual
def spec_WordsFrom.j0 : Nat → ByteArray → Bool → List (S63) → Option (List ByteArray × Bool)
  | 0, _, _, _ => none
  | k + 1, x1, x19, x157000 => if x19 = true then (some (([] : List ByteArray), false)) else (spec_WordsFrom.l0 k x1 (([] : List ByteArray)) 0 x157000)
def spec_WordsFrom.l0 : Nat → ByteArray → List ByteArray → Int → List (S63) → Option (List ByteArray × Bool)
  | 0, _, _, _, _ => none
  | k + 1, x1, x6, x7, x157000 => if x7 < (x157000.length : Int) then (if 0 ≤ x7 then (if (((rd_T63 x157000 x7).f0).size : Int) ≥ (x1.size : Int) then (if 0 ≤ (x1.size : Int) then (if (x1.size : Int) ≤ (((rd_T63 x157000 x7).f0).size : Int) then (if (((rd_T63 x157000 x7).f0).extract 0 ((x1.size : Int) : Int).toNat).toList = x1.toList then (if x6.length < 8796093022208 then (spec_WordsFrom.l0 k x1 (x6 ++ [(rd_T63 x157000 x7).f0]) (wrap64 (x7 + 1)) x157000) else (none)) else (spec_WordsFrom.l0 k x1 x6 (wrap64 (x7 + 1)) x157000)) else (none)) else (none)) else (spec_WordsFrom.l0 k x1 x6 (wrap64 (x7 + 1)) x157000)) else (none)) else (some (x6, true))
end
def spec_WordsFrom.f (k : Nat) (l0_0 : List (S63)) (a1 : ByteArray) : Option (List ByteArray × Bool) := (spec_l08Is.f k l0_0).bind fun t157 => (if t157 = true then (if a1.toList = ([] : List UInt8) then (spec_WordsFrom.j0 k a1 false l0_0) else ((spec_l08Word.f k a1).bind fun t158 => (spec_WordsFrom.j0 k a1 (!t158) l0_0))) else (spec_WordsFrom.j0 k a1 true l0_0))
theorem spec_WordsFrom.mono_l : ∀ k, (∀ y0 y1 y2, LeO (spec_WordsFrom.j0 k y0 y1 y2) (spec_WordsFrom.j0 (k + 1) y0 y1 y2)) ∧ (∀ y0 y1 y2 y3, LeO (spec_WordsFrom.l0 k y0 y1 y2 y3) (spec_WordsFrom.l0 (k + 1) y0 y1 y2 y3))
  | 0 => ⟨fun _ _ _ r h => by simp [spec_WordsFrom.j0] at h, fun _ _ _ _ r h => by simp [spec_WordsFrom.l0] at h⟩
  | k + 1 => by
    obtain ⟨ih0, ih1⟩ := spec_WordsFrom.mono_l k
    refine ⟨?_, ?_⟩
    · intro y0 y1 y2
      unfold spec_WordsFrom.j0
      repeat' first
      | (with_reducible exact ih0 _ _ _)
      | (with_reducible exact ih1 _ _ _ _)
      | (with_reducible exact spec_l08Is.mono _ _)
      | (with_reducible exact spec_l08Word.mono _ _)
      | (with_reducible exact LeO.refl _)
      | (with_reducible exact LeO.none _)
      | (with_reducible refine LeO.ite ?_ ?_)
      | (with_reducible refine LeO.bind ?_ (fun _ => ?_))
      | exact ih0 _ _ _
      | exact ih1 _ _ _ _
      | exact spec_l08Is.mono _ _
      | exact spec_l08Word.mono _ _
      | exact LeO.none _
      | refine LeO.ite ?_ ?_
      | refine LeO.bind ?_ (fun _ => ?_)
    · intro y0 y1 y2 y3
      unfold spec_WordsFrom.l0
      repeat' first
      | (with_reducible exact ih0 _ _ _)
      | (with_reducible exact ih1 _ _ _ _)
      | (with_reducible exact spec_l08Is.mono _ _)
      | (with_reducible exact spec_l08Word.mono _ _)
      | (with_reducible exact LeO.refl _)
      | (with_reducible exact LeO.none _)
      | (with_reducible refine LeO.ite ?_ ?_)
      | (with_reducible refine LeO.bind ?_ (fun _ => ?_))
      | exact ih0 _ _ _
      | exact ih1 _ _ _ _
      | exact spec_l08Is.mono _ _
      | exact spec_l08Word.mono _ _
      | exact LeO.none _
      | refine LeO.ite ?_ ?_
      | refine LeO.bind ?_ (fun _ => ?_)
theorem spec_WordsFrom.mono : ∀ a0 a1 k, LeO (spec_WordsFrom.f k a0 a1) (spec_WordsFrom.f (k + 1) a0 a1) := by
  intro a0 a1 k
  obtain ⟨ih0, ih1⟩ := spec_WordsFrom.mono_l k
  unfold spec_WordsFrom.f
  repeat' first
      | (with_reducible exact ih0 _ _ _)
      | (with_reducible exact ih1 _ _ _ _)
      | (with_reducible exact spec_l08Is.mono _ _)
      | (with_reducible exact spec_l08Word.mono _ _)
      | (with_reducible exact LeO.refl _)
      | (with_reducible exact LeO.none _)
      | (with_reducible refine LeO.ite ?_ ?_)
      | (with_reducible refine LeO.bind ?_ (fun _ => ?_))
      | exact ih0 _ _ _
      | exact ih1 _ _ _ _
      | exact spec_l08Is.mono _ _
      | exact spec_l08Word.mono _ _
      | exact LeO.none _
      | refine LeO.ite ?_ ?_
      | refine LeO.bind ?_ (fun _ => ?_)
set_option maxHeartbeats 8000000 in
set_option maxRecDepth 100000 in
theorem spec_WordsFrom.calls (k : Nat) (A0_0 : Option Addr) (c0_0 : Nat) (l0_0 : List (S63)) (a1 : ByteArray) (r1 : List ByteArray) (r2 : Bool) (w : World) (hr0_0 : Kd.C k63 w A0_0 l0_0.length l0_0) (hc0_0 : l0_0.length ≤ c0_0) (h : spec_WordsFrom.f k l0_0 a1 = some (r1, r2)) :
    Calls Try.prog 30 #[.agg #[.slice A0_0 l0_0.length c0_0], .string a1] w fun e w' => ∃ v0_ : Value, e = .returned (.tuple #[v0_, .bool r2]) ∧ Kd.R Kd.string 9 w' w.heap.size (fun _ => True) v0_ r1 ∧ Below w.heap.size w w' := by
 have hu29 := Try.underlying29
 have HR0_0 := Aside0.mk hr0_0
 have HC0_0 := Aside0.mk hc0_0
 clear hr0_0 hc0_0
 have HB := Aside0.mk (Below.refl w.heap.size w)
 have H : ((spec_l08Is.f k l0_0).bind fun t157 => (if t157 = true then (if a1.toList = ([] : List UInt8) then (spec_WordsFrom.j0 k a1 false l0_0) else ((spec_l08Word.f k a1).bind fun t158 => (spec_WordsFrom.j0 k a1 (!t158) l0_0))) else (spec_WordsFrom.j0 k a1 true l0_0))) = some (r1, r2) := h
 clear h
 have HC3 := Aside0.mk H
 clear H
 go_enter Try.func30, Try.ntmps30
 go_upto_region 1 with (first | ((with_reducible refine gate_dst (N := 2) rfl ?_); (try (refine gate_guard (by rfl) ?_; dsimp only)); refine box_event ?hg (N := 2) ?hd (cs := #[.slice A0_0 l0_0.length c0_0]) (t := 29) ?hr ?_; (case hd => rfl); (case hg => rfl); (case hr => first | (go_simp; done) | (go_simp; rfl)); intro gb156 hg w4 hbox hb; have GW156 := b6_ hg HB; have GE156 := b6_ hg HB; replace HB := Aside0.mk (below_step (y1_ HB.out) hb); have BK156 := Aside0.mk (hbox); clear hb hbox hg))
 (try simp only [Act.put, List.setIfInBounds_toArray, List.set_cons_zero, List.set_cons_succ])
 go_cut [19] (fun v19 wc => ∃ (kq : Nat) (x19_2 : Bool), v19 = .bool x19_2 ∧ Aside0 (spec_WordsFrom.j0 kq a1 x19_2 l0_0 = some (r1, r2)) ∧ Aside0 (kq ≤ k) ∧ Aside0 (wc.heap[gb156]? = some (.cells #[(.slice A0_0 l0_0.length c0_0)] 29 (0, 0))) ∧ Aside0 (Below w.heap.size w wc))
 case first =>
  skip
  {
 have H := HC3.out
 clear HC3
 replace H := Option.bind_eq_some_iff.mp H
 obtain ⟨t157, A50, H⟩ := H
 replace H : (if t157 = true then (if a1.toList = ([] : List UInt8) then (spec_WordsFrom.j0 k a1 false l0_0) else ((spec_l08Word.f k a1).bind fun t158 => (spec_WordsFrom.j0 k a1 (!t158) l0_0))) else (spec_WordsFrom.j0 k a1 true l0_0)) = some (r1, r2) := H
 have A5 := Aside0.mk A50
 clear A50
 by_cases c6 : t157 = true
 {
 subst c6
 have H1 : (if a1.toList = ([] : List UInt8) then (spec_WordsFrom.j0 k a1 false l0_0) else ((spec_l08Word.f k a1).bind fun t158 => (spec_WordsFrom.j0 k a1 (!t158) l0_0))) = some (r1, r2) := by rw [if_pos rfl] at H; exact H
 clear H
 have H := H1
 clear H1
 by_cases c7 : a1.toList = ([] : List UInt8)
 {
 rw [if_pos c7] at H
 have c7b0 : (a1.toList == ([] : List UInt8)) = true := beq_iff_eq.mpr c7
 have c7b1 : (a1.toList != ([] : List UInt8)) = false := bne_eq_false_iff_eq.mpr c7
 clear c7
 (first | rw [c7b0] | (simp only [i64_w, i32_w]; rw [c7b0]) | skip)
 have H' := Aside0.mk H
 clear H
 go_wp2_with (first | ((with_reducible refine gate_callee (f := 50) rfl ?_); refine goesL_ (some 9) rfl rfl Try.func50 s2_ rfl #[.pointer (some ⟨gb156, 0, none⟩)] rfl s3_ ?_; (with_reducible refine (spec_l08Is.calls k gb156 A0_0 c0_0 l0_0 true _ ?side1 ?side2 ?side3 A5.out).mono ?_); (case side1 => exact (b1_ BK156.out)); (case side2 => exact y2_ (Kd.C_below HR0_0.out HB.out)); (case side3 => exact HC0_0.out); rintro e w8 ⟨rfl, hb⟩; refine ⟨_, rfl, ?_⟩; replace BK156 := b3_ BK156 hb; replace HB := Aside0.mk (below_step (y1_ HB.out) hb); (try clear hb); (try clear hb2); (try clear hk); (try clear hi)))
 go_meet
 case rel => exact ⟨_, (false), s1_, H', ⟨by first | omega | exact Nat.le_refl _⟩, ⟨b1_ BK156.out⟩, ⟨by repeat (first | (with_reducible first | exact HB.out | apply below_alloc | apply pw_below_drewN | apply below_drew1) | exact HB.out)⟩⟩}
 {
 rw [if_neg c7] at H
 have c7b0 : (a1.toList == ([] : List UInt8)) = false := beq_eq_false_iff_ne.mpr c7
 have c7b1 : (a1.toList != ([] : List UInt8)) = true := bne_iff_ne.mpr c7
 (first | rw [c7b0] | (simp only [i64_w, i32_w]; rw [c7b0]) | skip)
 replace H := Option.bind_eq_some_iff.mp H
 obtain ⟨t158, A90, H⟩ := H
 replace H : (spec_WordsFrom.j0 k a1 (!t158) l0_0) = some (r1, r2) := H
 have A9 := Aside0.mk A90
 clear A90
 have H' := Aside0.mk H
 clear H
 go_wp2_with (first | ((with_reducible refine gate_callee (f := 50) rfl ?_); refine goesL_ (some 9) rfl rfl Try.func50 s2_ rfl #[.pointer (some ⟨gb156, 0, none⟩)] rfl s3_ ?_; (with_reducible refine (spec_l08Is.calls k gb156 A0_0 c0_0 l0_0 true _ ?side1 ?side2 ?side3 A5.out).mono ?_); (case side1 => exact (b1_ BK156.out)); (case side2 => exact y2_ (Kd.C_below HR0_0.out HB.out)); (case side3 => exact HC0_0.out); rintro e w10 ⟨rfl, hb⟩; refine ⟨_, rfl, ?_⟩; replace BK156 := b3_ BK156 hb; replace HB := Aside0.mk (below_step (y1_ HB.out) hb); (try clear hb); (try clear hb2); (try clear hk); (try clear hi)) | (go_at_call 74; (with_reducible refine (spec_l08Word.calls k a1 t158 _ A9.out).mono ?_); rintro e w' ⟨rfl, ⟨nd, rfl⟩⟩))
 go_meet
 case rel => exact ⟨_, (!t158), s1_, H', ⟨by first | omega | exact Nat.le_refl _⟩, ⟨b1_ BK156.out⟩, ⟨by repeat (first | (with_reducible first | exact HB.out | apply below_alloc | apply pw_below_drewN | apply below_drew1) | exact HB.out)⟩⟩}}
 {
 replace c6 := Bool.eq_false_iff.mpr c6
 subst c6
 have H1 : (spec_WordsFrom.j0 k a1 true l0_0) = some (r1, r2) := by rw [if_neg (show ¬ (false = true) by decide)] at H; exact H
 clear H
 have H := H1
 clear H1
 have H' := Aside0.mk H
 clear H
 go_wp2_with (first | ((with_reducible refine gate_callee (f := 50) rfl ?_); refine goesL_ (some 9) rfl rfl Try.func50 s2_ rfl #[.pointer (some ⟨gb156, 0, none⟩)] rfl s3_ ?_; (with_reducible refine (spec_l08Is.calls k gb156 A0_0 c0_0 l0_0 false _ ?side1 ?side2 ?side3 A5.out).mono ?_); (case side1 => exact (b1_ BK156.out)); (case side2 => exact y2_ (Kd.C_below HR0_0.out HB.out)); (case side3 => exact HC0_0.out); rintro e w11 ⟨rfl, hb⟩; refine ⟨_, rfl, ?_⟩; replace BK156 := b3_ BK156 hb; replace HB := Aside0.mk (below_step (y1_ HB.out) hb); (try clear hb); (try clear hb2); (try clear hk); (try clear hi)))
 go_meet
 case rel => exact ⟨_, (true), s1_, H', ⟨by first | omega | exact Nat.le_refl _⟩, ⟨b1_ BK156.out⟩, ⟨by repeat (first | (with_reducible first | exact HB.out | apply below_alloc | apply pw_below_drewN | apply below_drew1) | exact HB.out)⟩⟩}}
 case rest =>
  skip
  {
 clear HC3
 try clear p2
 try clear c3
 try clear c5
 try clear c6
 try clear c7
 try clear c7b0
 try clear c7b1
 obtain ⟨kq, x19_2, rfl, HA, HJ2, BK156, HB⟩ := hcut
 cases kq with
 | zero => exact absurd HA.out (by simp [spec_WordsFrom.j0])
 | succ kj2 =>
  skip
  {
 have H := HA.out
 clear HA
 simp only [spec_WordsFrom.j0] at H
 by_cases c12 : x19_2 = true
 {
 subst c12
 have H1 : (some (([] : List ByteArray), false)) = some (r1, r2) := by rw [if_pos rfl] at H; exact H
 clear H
 have H := H1
 clear H1
 simp only [Option.some.injEq, Prod.mk.injEq] at H
 obtain ⟨rfl, rfl⟩ := H
 go_wp2
 go_ret2
 exact ⟨_, by first | rfl | (simp [errW_none, errW_some] <;> rfl) | (simp [*, errW_none, errW_some] <;> rfl), by first | exact Kd.R_nil _ _ _ _ _ | exact Kd.N_nil _ _ _ _ _ | exact Kd.V_nil _ _ _ _ _ | exact Kd.Q_nil _ _ _ _ _ | exact Kd.S_nil _ _ _ _ _, by repeat (first | (with_reducible first | exact HB.out | apply below_alloc | apply pw_below_drewN | apply below_drew1) | exact HB.out)⟩}
 {
 replace c12 := Bool.eq_false_iff.mpr c12
 subst c12
 have H1 : (spec_WordsFrom.l0 kj2 a1 (([] : List ByteArray)) 0 l0_0) = some (r1, r2) := by rw [if_neg (show ¬ (false = true) by decide)] at H; exact H
 clear H
 have H := H1
 clear H1
 obtain ⟨y159, hy159⟩ : ∃ y_ : List ByteArray, y_ = (([] : List ByteArray)) := ⟨_, rfl⟩
 replace H : (spec_WordsFrom.l0 kj2 a1 y159 0 l0_0) = some (r1, r2) := by first | (rw [hy159]; with_reducible exact H) | (have H2_ := (Option.bind_some _ _).symm.trans H; rw [hy159]; with_reducible exact H2_) | (have H2_ := (Option.bind_some _ _).symm.trans H; with_reducible exact H2_) | with_reducible exact H | (rw [hy159]; exact H) | exact H
 have Ny159 := Aside0.mk hy159
 clear hy159
 have H' := Aside0.mk H
 clear H
 go_wp2_with (first | ((with_reducible refine gate_dst (N := 20) rfl ?_); (try (refine gate_guard (by rfl) ?_; dsimp only)); refine Kd.R_lit Kd.string _ 9 ?hg (N := 20) ?hd (xs := ([] : List ByteArray)) (inner := []) (ok := fun _ => True) (okp := fun _ => True) ?hr ?hp (fun _ hk => hk) trivial (Below.refl _ _) (Nat.le_refl _) (by simp) ?_; (case hd => rfl); (case hg => rfl); (case hr => first | (go_simp; done) | (go_simp; rfl)); (case hp => exact (Reps.none _ _)); intro v160 w13 ho14 hb hg_ hnew_; clear hg_ hnew_; (first | rw [← Ny159.out] at ho14 | (simp only [Int.reduceToNat] at ho14; rw [← Ny159.out] at ho14)); have HO161 := Aside0.mk (Kd.R_lower ho14 (below_size (y1_ HB.out))); replace BK156 := b3_ BK156 hb; replace HB := Aside0.mk (below_step (y1_ HB.out) hb); clear hb ho14))
 go_loopg [6, 7] kj2 (fun kq v6 v7 w' => ∃ (x6_2 : List ByteArray) (x7_2 : Int), v7 = .int .i64 x7_2 ∧ Aside0 (spec_WordsFrom.l0 kq a1 x6_2 x7_2 l0_0 = some (r1, r2)) ∧ Aside0 (kq ≤ kj2) ∧ Aside0 (Kd.R Kd.string 9 w' w.heap.size (fun _ => True) v6 x6_2) ∧ Aside0 (w'.heap[gb156]? = some (.cells #[(.slice A0_0 l0_0.length c0_0)] 29 (0, 0))) ∧ Aside0 (Below w.heap.size w w'))
 case atStart => exact ⟨(y159), (0), s1_, H', ⟨Nat.le_refl _⟩, ⟨b2_ HO161.out⟩, ⟨b1_ BK156.out⟩, ⟨by repeat (first | (with_reducible first | exact HB.out | apply below_alloc | apply pw_below_drewN | apply below_drew1) | exact HB.out)⟩⟩
 case round =>
  skip
  {
 clear H'
 try clear c1
 try clear p2
 try clear c3
 try clear c5
 try clear c6
 try clear c7
 try clear c7b0
 try clear c7b1
 try clear c12
 try clear p2
 obtain ⟨x6_2, x7_2, rfl, HA, HK2, HO_6, BK156, HB⟩ := hrel
 cases gk with
 | zero => exact absurd HA.out (by simp [spec_WordsFrom.l0])
 | succ k2 =>
  skip
  {
 have H := HA.out
 clear HA
 simp only [spec_WordsFrom.l0] at H
 by_cases c15 : x7_2 < (l0_0.length : Int)
 {
 rw [if_pos c15] at H
 have c15b0 : decide (x7_2 < (l0_0.length : Int)) = true := decide_eq_true c15
 clear c15
 by_cases c16 : 0 ≤ x7_2
 {
 rw [if_pos c16] at H
 have c16b0 : decide (0 ≤ x7_2) = true := decide_eq_true c16
 clear c16
 by_cases c17 : (((rd_T63 l0_0 x7_2).f0).size : Int) ≥ (a1.size : Int)
 {
 rw [if_pos c17] at H
 have c17b0 : decide ((a1.size : Int) ≤ (((rd_T63 l0_0 x7_2).f0).size : Int)) = true := decide_eq_true c17
 have c17b1 : decide (a1.size ≤ ((rd_T63 l0_0 x7_2).f0).size) = true := decide_eq_true (Int.ofNat_le.mp c17)
 clear c17
 by_cases c18 : 0 ≤ (a1.size : Int)
 {
 rw [if_pos c18] at H
 have c18b0 := eq_true c18
 have c18b1 : decide (0 ≤ (a1.size : Int)) = true := decide_eq_true c18
 clear c18
 by_cases c19 : (a1.size : Int) ≤ (((rd_T63 l0_0 x7_2).f0).size : Int)
 {
 rw [if_pos c19] at H
 have c19b0 := eq_true c19
 have c19b1 : decide ((a1.size : Int) ≤ (((rd_T63 l0_0 x7_2).f0).size : Int)) = true := decide_eq_true c19
 clear c19
 by_cases c20 : (((rd_T63 l0_0 x7_2).f0).extract 0 ((a1.size : Int) : Int).toNat).toList = a1.toList
 {
 rw [if_pos c20] at H
 have c20b0 : ((((rd_T63 l0_0 x7_2).f0).extract 0 ((a1.size : Int) : Int).toNat).toList == a1.toList) = true := beq_iff_eq.mpr c20
 have c20b1 : ((((rd_T63 l0_0 x7_2).f0).extract 0 ((a1.size : Int) : Int).toNat).toList != a1.toList) = false := bne_eq_false_iff_eq.mpr c20
 (try simp only [Int.toNat_natCast] at c20b0)
 (try simp only [Int.toNat_natCast] at c20b1)
 clear c20
 by_cases c21 : x6_2.length < 8796093022208
 {
 rw [if_pos c21] at H
 have LMc21 := Aside0.mk c21
 clear c21
 obtain ⟨y163, hy163⟩ : ∃ y_ : List ByteArray, y_ = (x6_2 ++ [(rd_T63 l0_0 x7_2).f0]) := ⟨_, rfl⟩
 replace H : (spec_WordsFrom.l0 k2 a1 y163 (wrap64 (x7_2 + 1)) l0_0) = some (r1, r2) := by first | (rw [hy163]; with_reducible exact H) | (have H2_ := (Option.bind_some _ _).symm.trans H; rw [hy163]; with_reducible exact H2_) | (have H2_ := (Option.bind_some _ _).symm.trans H; with_reducible exact H2_) | with_reducible exact H | (rw [hy163]; exact H) | exact H
 have Ny163 := Aside0.mk hy163
 clear hy163
 have H' := Aside0.mk H
 clear H
 have hcz22_0 := c1_ BK156 0 (.slice A0_0 l0_0.length c0_0)
 have hfz22_0 := blk_frozen BK156.out 0
 have p162 : 0 ≤ (x7_2 : Int) := of_decide_eq_true (by first | (with_reducible assumption) | assumption)
 have q162 : x7_2 < (l0_0.length : Int) := of_decide_eq_true (by first | (with_reducible assumption) | assumption)
 obtain ⟨ad162, A162_1, c162_1, e162, hx162_0, hx162_1, hl162_1, hi162_1⟩ := at_T63 HR0_0.out x7_2 p162 q162
 cases e162
 replace hx162_0 := (HB.out.cell (World.block_lt_of_cell? w _ hx162_0)).trans hx162_0
 replace hx162_1 := (HB.out.cell (World.block_lt_of_cell? w _ hx162_1)).trans hx162_1
 have HR162_1 := Aside0.mk hi162_1
 have HC162_1 := Aside0.mk hl162_1
 clear hi162_1 hl162_1
 replace p162 := eq_true p162
 replace q162 := eq_true q162
 go_wp2_with (first | ((with_reducible refine gate_builtin (b := .append) (xs := #[.tmp 47, .tmp 49]) rfl ?_); (try (refine gate_guard (by rfl) ?_; dsimp only)); at_builtin; refine Kd.R_append Kd.string (w0 := w) w.heap.size rfl (.tmp 47) (.tmp 49) 37 9 (.string ⟨#[]⟩) 16 rfl Try.underlying37 info9 rfl (by decide) (by omega) u6 x6_2 ((rd_T63 l0_0 x7_2).f0) [.string ((rd_T63 l0_0 x7_2).f0)] (fun _ => True) (fun _ => False) rfl rfl ?aP (fun _ hk => hk.elim) ?aF ?aO ?aB ?aS ?aL ?_; (case aP => exact rfl); (case aB => exact (y1_ HB.out)); (case aF => exact (fun _ _ => trivial)); (case aO => exact (b2_ HO_6.out)); (case aS => exact (below_size (y1_ HB.out))); (case aL => have := LMc21.out; omega); intro v164 w23 ho hb hg hat; rw [← Ny163.out] at ho; replace BK156 := Aside0.mk (blk_grown (g := gb156) (o := .cells #[.slice (some ad162) l0_0.length c0_0] 29 (0, 0)) (b1_ BK156.out) hg (Kd.R_ne HO_6.out BK156.out (by decide))); replace HB := Aside0.mk (hb); have HO165 := Aside0.mk (ho); clear HO_6; clear ho hb hg hat))
 go_roundg k2
 case measure => have := HJ2.out; have := HK2.out; omega
 case rel => exact ⟨(y163), (wrap64 (x7_2 + 1)), s1_, H', ⟨by have := HJ2.out; have := HK2.out; omega⟩, ⟨b2_ HO165.out⟩, ⟨b1_ BK156.out⟩, ⟨by repeat (first | (with_reducible first | exact HB.out | apply below_alloc | apply pw_below_drewN | apply below_drew1) | exact HB.out)⟩⟩}
 {
 rw [if_neg c21] at H
 exact absurd H (by simp)}}
 {
 rw [if_neg c20] at H
 have c20b0 : ((((rd_T63 l0_0 x7_2).f0).extract 0 ((a1.size : Int) : Int).toNat).toList == a1.toList) = false := beq_eq_false_iff_ne.mpr c20
 have c20b1 : ((((rd_T63 l0_0 x7_2).f0).extract 0 ((a1.size : Int) : Int).toNat).toList != a1.toList) = true := bne_iff_ne.mpr c20
 (try simp only [Int.toNat_natCast] at c20b0)
 (try simp only [Int.toNat_natCast] at c20b1)
 have H' := Aside0.mk H
 clear H
 have hcz24_0 := c1_ BK156 0 (.slice A0_0 l0_0.length c0_0)
 have hfz24_0 := blk_frozen BK156.out 0
 have p162 : 0 ≤ (x7_2 : Int) := of_decide_eq_true (by first | (with_reducible assumption) | assumption)
 have q162 : x7_2 < (l0_0.length : Int) := of_decide_eq_true (by first | (with_reducible assumption) | assumption)
 obtain ⟨ad162, A162_1, c162_1, e162, hx162_0, hx162_1, hl162_1, hi162_1⟩ := at_T63 HR0_0.out x7_2 p162 q162
 cases e162
 replace hx162_0 := (HB.out.cell (World.block_lt_of_cell? w _ hx162_0)).trans hx162_0
 replace hx162_1 := (HB.out.cell (World.block_lt_of_cell? w _ hx162_1)).trans hx162_1
 have HR162_1 := Aside0.mk hi162_1
 have HC162_1 := Aside0.mk hl162_1
 clear hi162_1 hl162_1
 replace p162 := eq_true p162
 replace q162 := eq_true q162
 go_wp2
 go_roundg k2
 case measure => have := HJ2.out; have := HK2.out; omega
 case rel => exact ⟨(x6_2), (wrap64 (x7_2 + 1)), s1_, H', ⟨by have := HJ2.out; have := HK2.out; omega⟩, ⟨b2_ HO_6.out⟩, ⟨b1_ BK156.out⟩, ⟨by repeat (first | (with_reducible first | exact HB.out | apply below_alloc | apply pw_below_drewN | apply below_drew1) | exact HB.out)⟩⟩}}
 {
 rw [if_neg c19] at H
 exact absurd H (by simp)}}
 {
 rw [if_neg c18] at H
 exact absurd H (by simp)}}
 {
 rw [if_neg c17] at H
 have c17b0 : decide ((a1.size : Int) ≤ (((rd_T63 l0_0 x7_2).f0).size : Int)) = false := decide_eq_false c17
 have c17b1 : decide (a1.size ≤ ((rd_T63 l0_0 x7_2).f0).size) = false := decide_eq_false (fun h => c17 (Int.ofNat_le.mpr h))
 clear c17
 have H' := Aside0.mk H
 clear H
 have hcz25_0 := c1_ BK156 0 (.slice A0_0 l0_0.length c0_0)
 have hfz25_0 := blk_frozen BK156.out 0
 have p162 : 0 ≤ (x7_2 : Int) := of_decide_eq_true (by first | (with_reducible assumption) | assumption)
 have q162 : x7_2 < (l0_0.length : Int) := of_decide_eq_true (by first | (with_reducible assumption) | assumption)
 obtain ⟨ad162, A162_1, c162_1, e162, hx162_0, hx162_1, hl162_1, hi162_1⟩ := at_T63 HR0_0.out x7_2 p162 q162
 cases e162
 replace hx162_0 := (HB.out.cell (World.block_lt_of_cell? w _ hx162_0)).trans hx162_0
 replace hx162_1 := (HB.out.cell (World.block_lt_of_cell? w _ hx162_1)).trans hx162_1
 have HR162_1 := Aside0.mk hi162_1
 have HC162_1 := Aside0.mk hl162_1
 clear hi162_1 hl162_1
 replace p162 := eq_true p162
 replace q162 := eq_true q162
 go_wp2
 go_roundg k2
 case measure => have := HJ2.out; have := HK2.out; omega
 case rel => exact ⟨(x6_2), (wrap64 (x7_2 + 1)), s1_, H', ⟨by have := HJ2.out; have := HK2.out; omega⟩, ⟨b2_ HO_6.out⟩, ⟨b1_ BK156.out⟩, ⟨by repeat (first | (with_reducible first | exact HB.out | apply below_alloc | apply pw_below_drewN | apply below_drew1) | exact HB.out)⟩⟩}}
 {
 rw [if_neg c16] at H
 exact absurd H (by simp)}}
 {
 rw [if_neg c15] at H
 have c15b0 : decide (x7_2 < (l0_0.length : Int)) = false := decide_eq_false c15
 clear c15
 simp only [Option.some.injEq, Prod.mk.injEq] at H
 obtain ⟨rfl, rfl⟩ := H
 have hcz26_0 := c1_ BK156 0 (.slice A0_0 l0_0.length c0_0)
 have hfz26_0 := blk_frozen BK156.out 0
 go_wp2
 go_ret2
 exact ⟨_, by first | rfl | (simp [errW_none, errW_some] <;> rfl) | (simp [*, errW_none, errW_some] <;> rfl), by (with_reducible repeat (first | apply Kd.R_alloc | apply Kd.R_drewN | apply Kd.R_drew)); exact HO_6.out, by repeat (first | (with_reducible first | exact HB.out | apply below_alloc | apply pw_below_drewN | apply below_drew1) | exact HB.out)⟩}}}}}}

/-! ### impl_isDigit: function 107 -/
def impl_isDigit.f (a0 : Int) : Option (Bool) := if a0 ≥ 48 then (some (decide (a0 ≤ 57))) else (some false)
set_option maxHeartbeats 8000000 in
set_option maxRecDepth 100000 in
theorem impl_isDigit.calls (a0 : Int) (r : Bool) (w : World) (h : impl_isDigit.f a0 = some r) :
    Calls Try.prog 107 #[.int .u8 a0] w fun e w' => e = .returned (.bool r) ∧ Drawn0 w w' := by
  have H : (if a0 ≥ 48 then (some (decide (a0 ≤ 57))) else (some false)) = some r := h
  clear h
  by_cases c2 : a0 ≥ 48
  · rw [if_pos c2] at H
    have c2b0 : decide (48 ≤ a0) = true := decide_eq_true c2
    clear c2
    obtain rfl := Option.some.inj H
    go_enter Try.func107, Try.ntmps107
    go_wp2
    go_ret
    exact ⟨by first | rfl | (simp; done) | (simp [*]; done), by repeat (first | exact Drawn0.refl _ | apply Drawn0.step)⟩
  · rw [if_neg c2] at H
    have c2b0 : decide (48 ≤ a0) = false := decide_eq_false c2
    clear c2
    obtain rfl := Option.some.inj H
    go_enter Try.func107, Try.ntmps107
    go_wp2
    go_ret
    exact ⟨by first | rfl | (simp; done) | (simp [*]; done), by repeat (first | exact Drawn0.refl _ | apply Drawn0.step)⟩

/-! ### impl_wordByte: function 91 -/
def impl_wordByte.f (a0 : Int) : Option (Bool) := (impl_isDigit.f a0).bind fun t166 => (if t166 = true then (some true) else (if a0 ≥ 97 then (some (decide (a0 ≤ 122))) else (some false)))
set_option maxHeartbeats 8000000 in
set_option maxRecDepth 100000 in
theorem impl_wordByte.calls (a0 : Int) (r : Bool) (w : World) (h : impl_wordByte.f a0 = some r) :
    Calls Try.prog 91 #[.int .u8 a0] w fun e w' => e = .returned (.bool r) ∧ Drawn0 w w' := by
  have H : ((impl_isDigit.f a0).bind fun t166 => (if t166 = true then (some true) else (if a0 ≥ 97 then (some (decide (a0 ≤ 122))) else (some false)))) = some r := h
  clear h
  replace H := Option.bind_eq_some_iff.mp H
  obtain ⟨t166, A20, H⟩ := H
  replace H : (if t166 = true then (some true) else (if a0 ≥ 97 then (some (decide (a0 ≤ 122))) else (some false))) = some r := H
  have A2 := Aside0.mk A20
  clear A20
  by_cases c3 : t166 = true
  · subst c3
    have H1 : (some true) = some r := by rw [if_pos rfl] at H; exact H
    clear H
    have H := H1
    clear H1
    obtain rfl := Option.some.inj H
    go_enter Try.func91, Try.ntmps91
    go_wp2_with (first | ((with_reducible refine gate_callee (f := 107) rfl ?_); refine goesL_ (some 4) rfl rfl Try.func107 (by kernel_rfl) rfl #[.int .u8 a0] rfl (by (try simp only [List.map_toArray, List.map_cons, List.map_nil]); first | done | rfl | (simp only [List.length_drop, List.length_take]; rfl)) ?_; (with_reducible refine (impl_isDigit.calls a0 true _ A2.out).mono ?_); rintro e w' ⟨rfl, ⟨nd, rfl⟩⟩; refine ⟨_, rfl, ?_⟩))
    go_ret
    exact ⟨by first | rfl | (simp; done) | (simp [*]; done), by repeat (first | exact Drawn0.refl _ | apply Drawn0.step)⟩
  · replace c3 := Bool.eq_false_iff.mpr c3
    subst c3
    have H1 : (if a0 ≥ 97 then (some (decide (a0 ≤ 122))) else (some false)) = some r := by rw [if_neg (show ¬ (false = true) by decide)] at H; exact H
    clear H
    have H := H1
    clear H1
    by_cases c4 : a0 ≥ 97
    · rw [if_pos c4] at H
      have c4b0 : decide (97 ≤ a0) = true := decide_eq_true c4
      clear c4
      obtain rfl := Option.some.inj H
      go_enter Try.func91, Try.ntmps91
      go_wp2_with (first | ((with_reducible refine gate_callee (f := 107) rfl ?_); refine goesL_ (some 4) rfl rfl Try.func107 (by kernel_rfl) rfl #[.int .u8 a0] rfl (by (try simp only [List.map_toArray, List.map_cons, List.map_nil]); first | done | rfl | (simp only [List.length_drop, List.length_take]; rfl)) ?_; (with_reducible refine (impl_isDigit.calls a0 false _ A2.out).mono ?_); rintro e w' ⟨rfl, ⟨nd, rfl⟩⟩; refine ⟨_, rfl, ?_⟩))
      go_ret
      exact ⟨by first | rfl | (simp; done) | (simp [*]; done), by repeat (first | exact Drawn0.refl _ | apply Drawn0.step)⟩
    · rw [if_neg c4] at H
      have c4b0 : decide (97 ≤ a0) = false := decide_eq_false c4
      clear c4
      obtain rfl := Option.some.inj H
      go_enter Try.func91, Try.ntmps91
      go_wp2_with (first | ((with_reducible refine gate_callee (f := 107) rfl ?_); refine goesL_ (some 4) rfl rfl Try.func107 (by kernel_rfl) rfl #[.int .u8 a0] rfl (by (try simp only [List.map_toArray, List.map_cons, List.map_nil]); first | done | rfl | (simp only [List.length_drop, List.length_take]; rfl)) ?_; (with_reducible refine (impl_isDigit.calls a0 false _ A2.out).mono ?_); rintro e w' ⟨rfl, ⟨nd, rfl⟩⟩; refine ⟨_, rfl, ?_⟩))
      go_ret
      exact ⟨by first | rfl | (simp; done) | (simp [*]; done), by repeat (first | exact Drawn0.refl _ | apply Drawn0.step)⟩

end Go.Proofs.Ytcnhepjdibbkgaa.QFnExactWordsFrom
