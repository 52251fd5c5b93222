-- written by a program of this session, on the lines of the kit's print
import Derived.Test.YtgfilednbllkmaaQFnExactReadUpTox0
import Derived.Test.YtgfilednbllkmaaQFnExactReadUpTox7
namespace Go.Proofs.Ytgfilednbllkmaa.QFnExactReadUpTo
open Go.RowKit Go.Proofs.YtgfilednbllkmaaW.PrintWords Go.Proofs.YtgfilednbllkmaaW.PrintLast Go.Proofs.YtgfilednbllkmaaW.PrintMore
attribute [local go_sem] max2_int min2_int max_two min_two max_three min_three max_four min_four   -- for this text's walks alone
set_option linter.unusedVariables false
set_option linter.unusedSimpArgs false

/-! ### impl_leasesOk: function 55 -/
abbrev impl_leasesOk.T : Bool := true
abbrev impl_leasesOk.F : Bool := false
theorem impl_leasesOk.s1_ {P : Prop} (h : P := by first | rfl | (simp; done) | (simp [*]; done)) : P := h
theorem impl_leasesOk.y1_ {P Q : Prop} (q : Q) (h : Q → P := by intro q_; repeat (first | (with_reducible first | exact q_ | apply below_alloc | apply pw_below_drewN | apply below_drew1) | exact q_)) : P := h q
theorem impl_leasesOk.b6_ {w w' W : World} {k : Nat} (hg : k = W.heap.size) (q : Aside0 (Below w.heap.size w w')) (h : Below w.heap.size w w' → Below w.heap.size w W := by intro q_; repeat (first | (with_reducible first | exact q_ | apply below_alloc | apply pw_below_drewN | apply below_drew1) | exact q_)) : Aside0 (w.heap.size ≤ k) := ⟨by rw [hg]; exact below_size (h q.out)⟩
mutual
def impl_leasesOk.l0 : Nat → List (S63) → List (S63) → Int → Int → Option (Bool)
  | 0, _, _, _, _ => none
  | k + 1, x0, x5, x6, x7 => if x7 < x6 then (if 0 ≤ x7 then (if x7 < (x5.length : Int) then ((impl_isMember.f ((rd_T63 x5 x7).f0)).bind fun t272 => (if t272 = true then ((impl_isTick.f ((rd_T63 x5 x7).f1)).bind fun t273 => (if t273 = true then (if x7 > 0 then (if 0 ≤ (wrap64 (x7 - 1)) then (if (wrap64 (x7 - 1)) < (x0.length : Int) then (impl_leasesOk.j1 k x0 x5 x6 x7 (decide (((rd_T63 x0 (wrap64 (x7 - 1))).f0) ≥ ((rd_T63 x5 x7).f0)))) else (none)) else (none)) else (impl_leasesOk.j1 k x0 x5 x6 x7 false)) else (impl_leasesOk.j1 k x0 x5 x6 x7 true))) else (impl_leasesOk.j1 k x0 x5 x6 x7 true))) else (none)) else (none)) else (some (decide ((x0.length : Int) ≤ 30)))
def impl_leasesOk.j1 : Nat → List (S63) → List (S63) → Int → Int → Bool → Option (Bool)
  | 0, _, _, _, _, _ => none
  | k + 1, x0, x5, x6, x7, x36 => if x36 = true then (some false) else (impl_leasesOk.l0 k x0 x5 x6 (wrap64 (x7 + 1)))
end
def impl_leasesOk.f (k : Nat) (l0 : List (S63)) : Option (Bool) := impl_leasesOk.l0 k l0 l0 (l0.length : Int) 0
theorem impl_leasesOk.mono_l : ∀ k, (∀ y0 y1 y2 y3, LeO (impl_leasesOk.l0 k y0 y1 y2 y3) (impl_leasesOk.l0 (k + 1) y0 y1 y2 y3)) ∧ (∀ y0 y1 y2 y3 y4, LeO (impl_leasesOk.j1 k y0 y1 y2 y3 y4) (impl_leasesOk.j1 (k + 1) y0 y1 y2 y3 y4))
  | 0 => ⟨fun _ _ _ _ r h => by simp [impl_leasesOk.l0] at h, fun _ _ _ _ _ r h => by simp [impl_leasesOk.j1] at h⟩
  | k + 1 => by
    obtain ⟨ih0, ih1⟩ := impl_leasesOk.mono_l k
    refine ⟨?_, ?_⟩
    · intro y0 y1 y2 y3
      unfold impl_leasesOk.l0
      repeat' first
      | (with_reducible exact ih0 _ _ _ _)
      | (with_reducible exact ih1 _ _ _ _ _)
      | (with_reducible exact LeO.refl _)
      | (with_reducible exact LeO.none _)
      | (with_reducible refine LeO.ite ?_ ?_)
      | (with_reducible refine LeO.bind ?_ (fun _ => ?_))
      | exact ih0 _ _ _ _
      | exact ih1 _ _ _ _ _
      | exact LeO.none _
      | refine LeO.ite ?_ ?_
      | refine LeO.bind ?_ (fun _ => ?_)
    · intro y0 y1 y2 y3 y4
      unfold impl_leasesOk.j1
      repeat' first
      | (with_reducible exact ih0 _ _ _ _)
      | (with_reducible exact ih1 _ _ _ _ _)
      | (with_reducible exact LeO.refl _)
      | (with_reducible exact LeO.none _)
      | (with_reducible refine LeO.ite ?_ ?_)
      | (with_reducible refine LeO.bind ?_ (fun _ => ?_))
      | exact ih0 _ _ _ _
      | exact ih1 _ _ _ _ _
      | exact LeO.none _
      | refine LeO.ite ?_ ?_
      | refine LeO.bind ?_ (fun _ => ?_)
theorem impl_leasesOk.mono : ∀ a0 k, LeO (impl_leasesOk.f k a0) (impl_leasesOk.f (k + 1) a0) := by
  intro a0 k
  obtain ⟨ih0, ih1⟩ := impl_leasesOk.mono_l k
  unfold impl_leasesOk.f
  repeat' first
      | (with_reducible exact ih0 _ _ _ _)
      | (with_reducible exact ih1 _ _ _ _ _)
      | (with_reducible exact LeO.refl _)
      | (with_reducible exact LeO.none _)
      | (with_reducible refine LeO.ite ?_ ?_)
      | (with_reducible refine LeO.bind ?_ (fun _ => ?_))
      | exact ih0 _ _ _ _
      | exact ih1 _ _ _ _ _
      | exact LeO.none _
      | refine LeO.ite ?_ ?_
      | refine LeO.bind ?_ (fun _ => ?_)
set_option maxHeartbeats 8000000 in
set_option maxRecDepth 100000 in
theorem impl_leasesOk.calls (k : Nat) (A0 : Option Addr) (c0 : Nat) (l0 : List (S63)) (r : Bool) (w : World) (hr0 : Kd.C k63 w A0 l0.length l0) (hc0 : l0.length ≤ c0) (h : impl_leasesOk.f k l0 = some r) :
    Calls Try.prog 55 #[.slice A0 l0.length c0] w fun e w' => e = .returned (.bool r) ∧ Below w.heap.size w w' := by
 have hu63 := Try.underlying63
 have HR0 := Aside0.mk hr0
 have HC0 := Aside0.mk hc0
 clear hr0 hc0
 have HB := Aside0.mk (Below.refl w.heap.size w)
 have H : (impl_leasesOk.l0 k l0 l0 (l0.length : Int) 0) = some r := h
 clear h
 have H' := Aside0.mk H
 clear H
 go_enter Try.func55, Try.ntmps55
 go_wp2
 repeat (go_quiet (fail); try go_wp2)
 go_loopg [7] k (fun kq v7 w' => ∃ (x7_1 : Int), v7 = .int .i64 x7_1 ∧ Aside0 (impl_leasesOk.l0 kq l0 l0 (l0.length : Int) x7_1 = some r) ∧ Aside0 (kq ≤ k) ∧ Aside0 (Below w.heap.size w w'))
 case atStart => exact ⟨(0), s1_, H', ⟨Nat.le_refl _⟩, ⟨by repeat (first | (with_reducible first | exact HB.out | apply below_alloc | apply pw_below_drewN | apply below_drew1) | exact HB.out)⟩⟩
 case round =>
  skip
  {
 clear H'
 obtain ⟨x7_1, rfl, HA, HK1, HB⟩ := hrel
 cases gk with
 | zero => exact absurd HA.out (by simp [impl_leasesOk.l0])
 | succ k1 =>
  skip
  {
 have H := HA.out
 clear HA
 simp only [impl_leasesOk.l0] at H
 by_cases c2 : x7_1 < (l0.length : Int)
 {
 rw [if_pos c2] at H
 have c2b0 : decide (x7_1 < (l0.length : Int)) = true := decide_eq_true c2
 clear c2
 by_cases c3 : 0 ≤ x7_1
 {
 rw [if_pos c3] at H
 have c3b0 : decide (0 ≤ x7_1) = true := decide_eq_true c3
 clear c3
 by_cases c4 : x7_1 < (l0.length : Int)
 {
 rw [if_pos c4] at H
 have c4b0 : decide (x7_1 < (l0.length : Int)) = true := decide_eq_true c4
 clear c4
 have HC5 := Aside0.mk H
 clear H
 have p270 : 0 ≤ (x7_1 : Int) := of_decide_eq_true (by first | (with_reducible assumption) | assumption)
 have q270 : x7_1 < (l0.length : Int) := of_decide_eq_true (by first | (with_reducible assumption) | assumption)
 have hbd270 := Aside0.mk (And.intro p270 q270)
 obtain ⟨ad270, e270, hx270_0, hx270_1⟩ := at_T63 HR0.out x7_1 p270 q270
 cases e270
 replace hx270_0 := (HB.out.cell (World.block_lt_of_cell? w _ hx270_0)).trans hx270_0
 replace hx270_1 := (HB.out.cell (World.block_lt_of_cell? w _ hx270_1)).trans hx270_1
 replace p270 := eq_true p270
 replace q270 := eq_true q270
 go_upto_region 4 with (first | ((with_reducible refine gate_dst (N := 4) rfl ?_); refine box_event ?hg (N := 4) ?hd (cs := #[.int .i64 0, .int .i64 0]) (t := 63) ?hr ?_; (case hd => rfl); (case hg => rfl); (case hr => first | (go_simp; done) | (go_simp; rfl)); intro gb271 hg w6 hbox hb; have GW271 := b6_ hg HB; have GE271 := b6_ hg HB; have n0_ := Aside0.mk (below_step (y1_ HB.out) hb); have n1_ := Aside0.mk (hbox); clear HB; have HB := n0_; have BK271 := n1_; clear n0_ n1_; clear hb hbox hg; have hcz7_0 : w6.cell? ⟨gb271, 0, none⟩ = some (.int .i64 0) := (blk_cell BK271.out 0).trans rfl; have hcz7_1 : w6.cell? ⟨gb271, 1, none⟩ = some (.int .i64 0) := (blk_cell BK271.out 1).trans rfl; have hfz7_0 := blk_frozen BK271.out 0; have hfz7_1 := blk_frozen BK271.out 1))
 repeat (go_quiet (first | ((with_reducible refine gate_dst (N := 4) rfl ?_); refine box_event ?hg (N := 4) ?hd (cs := #[.int .i64 0, .int .i64 0]) (t := 63) ?hr ?_; (case hd => rfl); (case hg => rfl); (case hr => first | (go_simp; done) | (go_simp; rfl)); intro gb271 hg w6 hbox hb; have GW271 := b6_ hg HB; have GE271 := b6_ hg HB; have n0_ := Aside0.mk (below_step (y1_ HB.out) hb); have n1_ := Aside0.mk (hbox); clear HB; have HB := n0_; have BK271 := n1_; clear n0_ n1_; clear hb hbox hg; have hcz7_0 : w6.cell? ⟨gb271, 0, none⟩ = some (.int .i64 0) := (blk_cell BK271.out 0).trans rfl; have hcz7_1 : w6.cell? ⟨gb271, 1, none⟩ = some (.int .i64 0) := (blk_cell BK271.out 1).trans rfl; have hfz7_0 := blk_frozen BK271.out 0; have hfz7_1 := blk_frozen BK271.out 1)); go_upto_region 4 with (first | ((with_reducible refine gate_dst (N := 4) rfl ?_); refine box_event ?hg (N := 4) ?hd (cs := #[.int .i64 0, .int .i64 0]) (t := 63) ?hr ?_; (case hd => rfl); (case hg => rfl); (case hr => first | (go_simp; done) | (go_simp; rfl)); intro gb271 hg w6 hbox hb; have GW271 := b6_ hg HB; have GE271 := b6_ hg HB; have n0_ := Aside0.mk (below_step (y1_ HB.out) hb); have n1_ := Aside0.mk (hbox); clear HB; have HB := n0_; have BK271 := n1_; clear n0_ n1_; clear hb hbox hg; have hcz7_0 : w6.cell? ⟨gb271, 0, none⟩ = some (.int .i64 0) := (blk_cell BK271.out 0).trans rfl; have hcz7_1 : w6.cell? ⟨gb271, 1, none⟩ = some (.int .i64 0) := (blk_cell BK271.out 1).trans rfl; have hfz7_0 := blk_frozen BK271.out 0; have hfz7_1 := blk_frozen BK271.out 1)))
 (try simp only [Act.put, List.setIfInBounds_toArray, List.set_cons_zero, List.set_cons_succ])
 go_cut [36] (fun v36 wc => ∃ (kq : Nat) (x36_4 : Bool), v36 = .bool x36_4 ∧ Aside0 (impl_leasesOk.j1 kq l0 l0 (l0.length : Int) x7_1 x36_4 = some r) ∧ Aside0 (kq ≤ k1) ∧ Aside0 (wc.heap[gb271]? = some (.cells #[.int .i64 ((rd_T63 l0 x7_1).f0), .int .i64 ((rd_T63 l0 x7_1).f1)] 63 (0, 0))) ∧ Aside0 (Below w.heap.size w wc))
 case first =>
  skip
  {
 have H := HC5.out
 clear HC5
 replace H := Option.bind_eq_some_iff.mp H
 obtain ⟨t272, A80, H⟩ := H
 replace H : (if t272 = true then ((impl_isTick.f ((rd_T63 l0 x7_1).f1)).bind fun t273 => (if t273 = true then (if x7_1 > 0 then (if 0 ≤ (wrap64 (x7_1 - 1)) then (if (wrap64 (x7_1 - 1)) < (l0.length : Int) then (impl_leasesOk.j1 k1 l0 l0 (l0.length : Int) x7_1 (decide (((rd_T63 l0 (wrap64 (x7_1 - 1))).f0) ≥ ((rd_T63 l0 x7_1).f0)))) else (none)) else (none)) else (impl_leasesOk.j1 k1 l0 l0 (l0.length : Int) x7_1 false)) else (impl_leasesOk.j1 k1 l0 l0 (l0.length : Int) x7_1 true))) else (impl_leasesOk.j1 k1 l0 l0 (l0.length : Int) x7_1 true)) = some r := H
 have A8 := Aside0.mk A80
 clear A80
 by_cases c9 : t272 = true
 {
 subst c9
 have H1 : ((impl_isTick.f ((rd_T63 l0 x7_1).f1)).bind fun t273 => (if t273 = true then (if x7_1 > 0 then (if 0 ≤ (wrap64 (x7_1 - 1)) then (if (wrap64 (x7_1 - 1)) < (l0.length : Int) then (impl_leasesOk.j1 k1 l0 l0 (l0.length : Int) x7_1 (decide (((rd_T63 l0 (wrap64 (x7_1 - 1))).f0) ≥ ((rd_T63 l0 x7_1).f0)))) else (none)) else (none)) else (impl_leasesOk.j1 k1 l0 l0 (l0.length : Int) x7_1 false)) else (impl_leasesOk.j1 k1 l0 l0 (l0.length : Int) x7_1 true))) = some r := by rw [if_pos rfl] at H; exact H
 clear H
 have H := H1
 clear H1
 replace H := Option.bind_eq_some_iff.mp H
 obtain ⟨t273, A100, H⟩ := H
 replace H : (if t273 = true then (if x7_1 > 0 then (if 0 ≤ (wrap64 (x7_1 - 1)) then (if (wrap64 (x7_1 - 1)) < (l0.length : Int) then (impl_leasesOk.j1 k1 l0 l0 (l0.length : Int) x7_1 (decide (((rd_T63 l0 (wrap64 (x7_1 - 1))).f0) ≥ ((rd_T63 l0 x7_1).f0)))) else (none)) else (none)) else (impl_leasesOk.j1 k1 l0 l0 (l0.length : Int) x7_1 false)) else (impl_leasesOk.j1 k1 l0 l0 (l0.length : Int) x7_1 true)) = some r := H
 have A10 := Aside0.mk A100
 clear A100
 by_cases c11 : t273 = true
 {
 subst c11
 have H1 : (if x7_1 > 0 then (if 0 ≤ (wrap64 (x7_1 - 1)) then (if (wrap64 (x7_1 - 1)) < (l0.length : Int) then (impl_leasesOk.j1 k1 l0 l0 (l0.length : Int) x7_1 (decide (((rd_T63 l0 (wrap64 (x7_1 - 1))).f0) ≥ ((rd_T63 l0 x7_1).f0)))) else (none)) else (none)) else (impl_leasesOk.j1 k1 l0 l0 (l0.length : Int) x7_1 false)) = some r := by rw [if_pos rfl] at H; exact H
 clear H
 have H := H1
 clear H1
 by_cases c12 : x7_1 > 0
 {
 rw [if_pos c12] at H
 have c12b0 : decide (0 < x7_1) = true := decide_eq_true c12
 clear c12
 (first | rw [c12b0] | (simp only [i64_w, i32_w]; rw [c12b0]) | skip)
 obtain ⟨ji13, hji13⟩ : ∃ j_ : Int, (wrap64 (x7_1 - 1)) = j_ := ⟨_, rfl⟩
 replace H : (if 0 ≤ (ji13) then (if (ji13) < (l0.length : Int) then (impl_leasesOk.j1 k1 l0 l0 (l0.length : Int) x7_1 (decide (((rd_T63 l0 (ji13)).f0) ≥ ((rd_T63 l0 x7_1).f0)))) else (none)) else (none)) = some r := by first | (rw [hji13] at H; exact H) | (simp only [hji13] at H ⊢; exact H)
 (try rw [hji13] at A8)
 (try rw [hji13] at A10)
 have hji13w : (IntKind.i64.wrap (x7_1 - 1)) = ji13 := (i64_w _).trans hji13
 by_cases c14 : 0 ≤ (ji13)
 {
 rw [if_pos c14] at H
 have c14b0 : decide (0 ≤ (ji13)) = true := decide_eq_true c14
 clear c14
 by_cases c15 : (ji13) < (l0.length : Int)
 {
 rw [if_pos c15] at H
 have c15b0 : decide ((ji13) < (l0.length : Int)) = true := decide_eq_true c15
 clear c15
 have H' := Aside0.mk H
 clear H
 have hcz16_0 : w6.cell? ⟨gb271, 0, none⟩ = some (.int .i64 0) := (blk_cell BK271.out 0).trans rfl
 have hcz16_1 : w6.cell? ⟨gb271, 1, none⟩ = some (.int .i64 0) := (blk_cell BK271.out 1).trans rfl
 have hfz16_0 := blk_frozen BK271.out 0
 have hfz16_1 := blk_frozen BK271.out 1
 have p274 : 0 ≤ ((ji13) : Int) := of_decide_eq_true (by first | (with_reducible assumption) | assumption)
 have q274 : (ji13) < (l0.length : Int) := of_decide_eq_true (by first | (with_reducible assumption) | assumption)
 obtain ⟨ad274, e274, hx274_0, hx274_1⟩ := at_T63 HR0.out (ji13) p274 q274
 obtain rfl : ad270 = ad274 := (by injection e274)
 have hn274_0 : ad270.block ≠ gb271 := Nat.ne_of_lt (Nat.lt_of_lt_of_le (by have := World.block_lt_of_cell? _ _ hx274_0; first | rwa [add_block] at this | exact this) GW271.out)
 have hn274_1 : ad270.block ≠ gb271 := Nat.ne_of_lt (Nat.lt_of_lt_of_le (by have := World.block_lt_of_cell? _ _ hx274_0; first | rwa [add_block] at this | exact this) GW271.out)
 replace hx274_0 := (HB.out.cell (World.block_lt_of_cell? w _ hx274_0)).trans hx274_0
 replace hx274_1 := (HB.out.cell (World.block_lt_of_cell? w _ hx274_1)).trans hx274_1
 replace hx274_0 := (cell_far (p := ⟨gb271, 0, none⟩) (by first | (rw [add_block]; exact hn274_0) | (show (Addr.add _ _).block ≠ _; rw [add_block]; exact hn274_0) | exact hn274_0) (.int .i64 ((rd_T63 l0 x7_1).f0))).trans hx274_0
 replace hx274_1 := (cell_far (p := ⟨gb271, 0, none⟩) (by first | (rw [add_block]; exact hn274_0) | (show (Addr.add _ _).block ≠ _; rw [add_block]; exact hn274_0) | exact hn274_0) (.int .i64 ((rd_T63 l0 x7_1).f0))).trans hx274_1
 replace hx274_0 := (cell_far (p := ⟨gb271, 1, none⟩) (by first | (rw [add_block]; exact hn274_1) | (show (Addr.add _ _).block ≠ _; rw [add_block]; exact hn274_1) | exact hn274_1) (.int .i64 ((rd_T63 l0 x7_1).f1))).trans hx274_0
 replace hx274_1 := (cell_far (p := ⟨gb271, 1, none⟩) (by first | (rw [add_block]; exact hn274_1) | (show (Addr.add _ _).block ≠ _; rw [add_block]; exact hn274_1) | exact hn274_1) (.int .i64 ((rd_T63 l0 x7_1).f1))).trans hx274_1
 (try have hy274_0 := fun (n_ : Nat) => (show ((((w6.drewN n_).setCell ⟨gb271, 0, none⟩ (.int .i64 ((rd_T63 l0 x7_1).f0))).setCell ⟨gb271, 1, none⟩ (.int .i64 ((rd_T63 l0 x7_1).f1)))).cell? _ = some _ from hx274_0))
 (try have hy274_1 := fun (n_ : Nat) => (show ((((w6.drewN n_).setCell ⟨gb271, 0, none⟩ (.int .i64 ((rd_T63 l0 x7_1).f0))).setCell ⟨gb271, 1, none⟩ (.int .i64 ((rd_T63 l0 x7_1).f1)))).cell? _ = some _ from hx274_1))
 clear hn274_0
 clear hn274_1
 replace p274 := eq_true p274
 replace q274 := eq_true q274
 go_wp2_with (first | (go_at_call 54; (with_reducible refine (impl_isMember.calls ((rd_T63 l0 x7_1).f0) true _ A8.out).mono ?_); rintro e w' ⟨rfl, ⟨nd, rfl⟩⟩; (try first | exact ⟨rfl, _, World.drewN_drewN _ _ _⟩ | exact ⟨rfl, _, Eq.trans (World.drewN_drewN _ _ _) (congrArg (World.drewN _) (Nat.add_assoc _ _ _))⟩)) | (go_at_call 45; (with_reducible refine (impl_isTick.calls ((rd_T63 l0 x7_1).f1) true _ A10.out).mono ?_); rintro e w' ⟨rfl, ⟨nd, rfl⟩⟩; (try first | exact ⟨rfl, _, World.drewN_drewN _ _ _⟩ | exact ⟨rfl, _, Eq.trans (World.drewN_drewN _ _ _) (congrArg (World.drewN _) (Nat.add_assoc _ _ _))⟩)))
 repeat (go_quiet (first | (go_at_call 54; (with_reducible refine (impl_isMember.calls ((rd_T63 l0 x7_1).f0) true _ A8.out).mono ?_); rintro e w' ⟨rfl, ⟨nd, rfl⟩⟩; (try first | exact ⟨rfl, _, World.drewN_drewN _ _ _⟩ | exact ⟨rfl, _, Eq.trans (World.drewN_drewN _ _ _) (congrArg (World.drewN _) (Nat.add_assoc _ _ _))⟩)) | (go_at_call 45; (with_reducible refine (impl_isTick.calls ((rd_T63 l0 x7_1).f1) true _ A10.out).mono ?_); rintro e w' ⟨rfl, ⟨nd, rfl⟩⟩; (try first | exact ⟨rfl, _, World.drewN_drewN _ _ _⟩ | exact ⟨rfl, _, Eq.trans (World.drewN_drewN _ _ _) (congrArg (World.drewN _) (Nat.add_assoc _ _ _))⟩))); try go_wp2_with (first | (go_at_call 54; (with_reducible refine (impl_isMember.calls ((rd_T63 l0 x7_1).f0) true _ A8.out).mono ?_); rintro e w' ⟨rfl, ⟨nd, rfl⟩⟩; (try first | exact ⟨rfl, _, World.drewN_drewN _ _ _⟩ | exact ⟨rfl, _, Eq.trans (World.drewN_drewN _ _ _) (congrArg (World.drewN _) (Nat.add_assoc _ _ _))⟩)) | (go_at_call 45; (with_reducible refine (impl_isTick.calls ((rd_T63 l0 x7_1).f1) true _ A10.out).mono ?_); rintro e w' ⟨rfl, ⟨nd, rfl⟩⟩; (try first | exact ⟨rfl, _, World.drewN_drewN _ _ _⟩ | exact ⟨rfl, _, Eq.trans (World.drewN_drewN _ _ _) (congrArg (World.drewN _) (Nat.add_assoc _ _ _))⟩))))
 go_meet
 case rel => exact ⟨_, (decide (((rd_T63 l0 (ji13)).f0) ≥ ((rd_T63 l0 x7_1).f0))), (by first | rfl | (simp; done) | (simp only [← hji13] <;> (first | rfl | simp)) | (simp [*]; done)), H', ⟨by have := HK1.out; first | omega | exact Nat.le_refl _⟩, ⟨by (with_reducible repeat (first | refine blk_drewN ?_ _ | refine blk_drew ?_ | refine blk_alloc ?_ _)); refine blk_put (cs := #[.int .i64 ((rd_T63 l0 x7_1).f0), .int .i64 0]) ?_ 1 _ rfl; (with_reducible repeat (first | refine blk_drewN ?_ _ | refine blk_drew ?_ | refine blk_alloc ?_ _)); refine blk_put (cs := #[.int .i64 0, .int .i64 0]) ?_ 0 _ rfl; (with_reducible repeat (first | refine blk_drewN ?_ _ | refine blk_drew ?_ | refine blk_alloc ?_ _)); exact BK271.out⟩, ⟨by repeat (first | (with_reducible first | exact HB.out | apply below_alloc | apply pw_below_drewN | apply below_drew1 | refine below_set ?_ GE271.out) | exact HB.out)⟩⟩}
 {
 rw [if_neg c15] at H
 exact absurd H (by simp)}}
 {
 rw [if_neg c14] at H
 exact absurd H (by simp)}}
 {
 rw [if_neg c12] at H
 have c12b0 : decide (0 < x7_1) = false := decide_eq_false c12
 clear c12
 (first | rw [c12b0] | (simp only [i64_w, i32_w]; rw [c12b0]) | skip)
 have H' := Aside0.mk H
 clear H
 have hcz17_0 : w6.cell? ⟨gb271, 0, none⟩ = some (.int .i64 0) := (blk_cell BK271.out 0).trans rfl
 have hcz17_1 : w6.cell? ⟨gb271, 1, none⟩ = some (.int .i64 0) := (blk_cell BK271.out 1).trans rfl
 have hfz17_0 := blk_frozen BK271.out 0
 have hfz17_1 := blk_frozen BK271.out 1
 go_wp2_with (first | (go_at_call 54; (with_reducible refine (impl_isMember.calls ((rd_T63 l0 x7_1).f0) true _ A8.out).mono ?_); rintro e w' ⟨rfl, ⟨nd, rfl⟩⟩; (try first | exact ⟨rfl, _, World.drewN_drewN _ _ _⟩ | exact ⟨rfl, _, Eq.trans (World.drewN_drewN _ _ _) (congrArg (World.drewN _) (Nat.add_assoc _ _ _))⟩)) | (go_at_call 45; (with_reducible refine (impl_isTick.calls ((rd_T63 l0 x7_1).f1) true _ A10.out).mono ?_); rintro e w' ⟨rfl, ⟨nd, rfl⟩⟩; (try first | exact ⟨rfl, _, World.drewN_drewN _ _ _⟩ | exact ⟨rfl, _, Eq.trans (World.drewN_drewN _ _ _) (congrArg (World.drewN _) (Nat.add_assoc _ _ _))⟩)))
 repeat (go_quiet (first | (go_at_call 54; (with_reducible refine (impl_isMember.calls ((rd_T63 l0 x7_1).f0) true _ A8.out).mono ?_); rintro e w' ⟨rfl, ⟨nd, rfl⟩⟩; (try first | exact ⟨rfl, _, World.drewN_drewN _ _ _⟩ | exact ⟨rfl, _, Eq.trans (World.drewN_drewN _ _ _) (congrArg (World.drewN _) (Nat.add_assoc _ _ _))⟩)) | (go_at_call 45; (with_reducible refine (impl_isTick.calls ((rd_T63 l0 x7_1).f1) true _ A10.out).mono ?_); rintro e w' ⟨rfl, ⟨nd, rfl⟩⟩; (try first | exact ⟨rfl, _, World.drewN_drewN _ _ _⟩ | exact ⟨rfl, _, Eq.trans (World.drewN_drewN _ _ _) (congrArg (World.drewN _) (Nat.add_assoc _ _ _))⟩))); try go_wp2_with (first | (go_at_call 54; (with_reducible refine (impl_isMember.calls ((rd_T63 l0 x7_1).f0) true _ A8.out).mono ?_); rintro e w' ⟨rfl, ⟨nd, rfl⟩⟩; (try first | exact ⟨rfl, _, World.drewN_drewN _ _ _⟩ | exact ⟨rfl, _, Eq.trans (World.drewN_drewN _ _ _) (congrArg (World.drewN _) (Nat.add_assoc _ _ _))⟩)) | (go_at_call 45; (with_reducible refine (impl_isTick.calls ((rd_T63 l0 x7_1).f1) true _ A10.out).mono ?_); rintro e w' ⟨rfl, ⟨nd, rfl⟩⟩; (try first | exact ⟨rfl, _, World.drewN_drewN _ _ _⟩ | exact ⟨rfl, _, Eq.trans (World.drewN_drewN _ _ _) (congrArg (World.drewN _) (Nat.add_assoc _ _ _))⟩))))
 go_meet
 case rel => exact ⟨_, (false), s1_, H', ⟨by have := HK1.out; first | omega | exact Nat.le_refl _⟩, ⟨by (with_reducible repeat (first | refine blk_drewN ?_ _ | refine blk_drew ?_ | refine blk_alloc ?_ _)); refine blk_put (cs := #[.int .i64 ((rd_T63 l0 x7_1).f0), .int .i64 0]) ?_ 1 _ rfl; (with_reducible repeat (first | refine blk_drewN ?_ _ | refine blk_drew ?_ | refine blk_alloc ?_ _)); refine blk_put (cs := #[.int .i64 0, .int .i64 0]) ?_ 0 _ rfl; (with_reducible repeat (first | refine blk_drewN ?_ _ | refine blk_drew ?_ | refine blk_alloc ?_ _)); exact BK271.out⟩, ⟨by repeat (first | (with_reducible first | exact HB.out | apply below_alloc | apply pw_below_drewN | apply below_drew1 | refine below_set ?_ GE271.out) | exact HB.out)⟩⟩}}
 {
 replace c11 := Bool.eq_false_iff.mpr c11
 subst c11
 have H1 : (impl_leasesOk.j1 k1 l0 l0 (l0.length : Int) x7_1 true) = some r := by rw [if_neg (show ¬ (false = true) by decide)] at H; exact H
 clear H
 have H := H1
 clear H1
 have H' := Aside0.mk H
 clear H
 have hcz18_0 : w6.cell? ⟨gb271, 0, none⟩ = some (.int .i64 0) := (blk_cell BK271.out 0).trans rfl
 have hcz18_1 : w6.cell? ⟨gb271, 1, none⟩ = some (.int .i64 0) := (blk_cell BK271.out 1).trans rfl
 have hfz18_0 := blk_frozen BK271.out 0
 have hfz18_1 := blk_frozen BK271.out 1
 go_wp2_with (first | (go_at_call 54; (with_reducible refine (impl_isMember.calls ((rd_T63 l0 x7_1).f0) true _ A8.out).mono ?_); rintro e w' ⟨rfl, ⟨nd, rfl⟩⟩; (try first | exact ⟨rfl, _, World.drewN_drewN _ _ _⟩ | exact ⟨rfl, _, Eq.trans (World.drewN_drewN _ _ _) (congrArg (World.drewN _) (Nat.add_assoc _ _ _))⟩)) | (go_at_call 45; (with_reducible refine (impl_isTick.calls ((rd_T63 l0 x7_1).f1) false _ A10.out).mono ?_); rintro e w' ⟨rfl, ⟨nd, rfl⟩⟩; (try first | exact ⟨rfl, _, World.drewN_drewN _ _ _⟩ | exact ⟨rfl, _, Eq.trans (World.drewN_drewN _ _ _) (congrArg (World.drewN _) (Nat.add_assoc _ _ _))⟩)))
 repeat (go_quiet (first | (go_at_call 54; (with_reducible refine (impl_isMember.calls ((rd_T63 l0 x7_1).f0) true _ A8.out).mono ?_); rintro e w' ⟨rfl, ⟨nd, rfl⟩⟩; (try first | exact ⟨rfl, _, World.drewN_drewN _ _ _⟩ | exact ⟨rfl, _, Eq.trans (World.drewN_drewN _ _ _) (congrArg (World.drewN _) (Nat.add_assoc _ _ _))⟩)) | (go_at_call 45; (with_reducible refine (impl_isTick.calls ((rd_T63 l0 x7_1).f1) false _ A10.out).mono ?_); rintro e w' ⟨rfl, ⟨nd, rfl⟩⟩; (try first | exact ⟨rfl, _, World.drewN_drewN _ _ _⟩ | exact ⟨rfl, _, Eq.trans (World.drewN_drewN _ _ _) (congrArg (World.drewN _) (Nat.add_assoc _ _ _))⟩))); try go_wp2_with (first | (go_at_call 54; (with_reducible refine (impl_isMember.calls ((rd_T63 l0 x7_1).f0) true _ A8.out).mono ?_); rintro e w' ⟨rfl, ⟨nd, rfl⟩⟩; (try first | exact ⟨rfl, _, World.drewN_drewN _ _ _⟩ | exact ⟨rfl, _, Eq.trans (World.drewN_drewN _ _ _) (congrArg (World.drewN _) (Nat.add_assoc _ _ _))⟩)) | (go_at_call 45; (with_reducible refine (impl_isTick.calls ((rd_T63 l0 x7_1).f1) false _ A10.out).mono ?_); rintro e w' ⟨rfl, ⟨nd, rfl⟩⟩; (try first | exact ⟨rfl, _, World.drewN_drewN _ _ _⟩ | exact ⟨rfl, _, Eq.trans (World.drewN_drewN _ _ _) (congrArg (World.drewN _) (Nat.add_assoc _ _ _))⟩))))
 go_meet
 case rel => exact ⟨_, (true), s1_, H', ⟨by have := HK1.out; first | omega | exact Nat.le_refl _⟩, ⟨by (with_reducible repeat (first | refine blk_drewN ?_ _ | refine blk_drew ?_ | refine blk_alloc ?_ _)); refine blk_put (cs := #[.int .i64 ((rd_T63 l0 x7_1).f0), .int .i64 0]) ?_ 1 _ rfl; (with_reducible repeat (first | refine blk_drewN ?_ _ | refine blk_drew ?_ | refine blk_alloc ?_ _)); refine blk_put (cs := #[.int .i64 0, .int .i64 0]) ?_ 0 _ rfl; (with_reducible repeat (first | refine blk_drewN ?_ _ | refine blk_drew ?_ | refine blk_alloc ?_ _)); exact BK271.out⟩, ⟨by repeat (first | (with_reducible first | exact HB.out | apply below_alloc | apply pw_below_drewN | apply below_drew1 | refine below_set ?_ GE271.out) | exact HB.out)⟩⟩}}
 {
 replace c9 := Bool.eq_false_iff.mpr c9
 subst c9
 have H1 : (impl_leasesOk.j1 k1 l0 l0 (l0.length : Int) x7_1 true) = some r := by rw [if_neg (show ¬ (false = true) by decide)] at H; exact H
 clear H
 have H := H1
 clear H1
 have H' := Aside0.mk H
 clear H
 have hcz19_0 : w6.cell? ⟨gb271, 0, none⟩ = some (.int .i64 0) := (blk_cell BK271.out 0).trans rfl
 have hcz19_1 : w6.cell? ⟨gb271, 1, none⟩ = some (.int .i64 0) := (blk_cell BK271.out 1).trans rfl
 have hfz19_0 := blk_frozen BK271.out 0
 have hfz19_1 := blk_frozen BK271.out 1
 go_wp2_with (first | (go_at_call 54; (with_reducible refine (impl_isMember.calls ((rd_T63 l0 x7_1).f0) false _ A8.out).mono ?_); rintro e w' ⟨rfl, ⟨nd, rfl⟩⟩; (try first | exact ⟨rfl, _, World.drewN_drewN _ _ _⟩ | exact ⟨rfl, _, Eq.trans (World.drewN_drewN _ _ _) (congrArg (World.drewN _) (Nat.add_assoc _ _ _))⟩)))
 repeat (go_quiet (first | (go_at_call 54; (with_reducible refine (impl_isMember.calls ((rd_T63 l0 x7_1).f0) false _ A8.out).mono ?_); rintro e w' ⟨rfl, ⟨nd, rfl⟩⟩; (try first | exact ⟨rfl, _, World.drewN_drewN _ _ _⟩ | exact ⟨rfl, _, Eq.trans (World.drewN_drewN _ _ _) (congrArg (World.drewN _) (Nat.add_assoc _ _ _))⟩))); try go_wp2_with (first | (go_at_call 54; (with_reducible refine (impl_isMember.calls ((rd_T63 l0 x7_1).f0) false _ A8.out).mono ?_); rintro e w' ⟨rfl, ⟨nd, rfl⟩⟩; (try first | exact ⟨rfl, _, World.drewN_drewN _ _ _⟩ | exact ⟨rfl, _, Eq.trans (World.drewN_drewN _ _ _) (congrArg (World.drewN _) (Nat.add_assoc _ _ _))⟩))))
 go_meet
 case rel => exact ⟨_, (true), s1_, H', ⟨by have := HK1.out; first | omega | exact Nat.le_refl _⟩, ⟨by (with_reducible repeat (first | refine blk_drewN ?_ _ | refine blk_drew ?_ | refine blk_alloc ?_ _)); refine blk_put (cs := #[.int .i64 ((rd_T63 l0 x7_1).f0), .int .i64 0]) ?_ 1 _ rfl; (with_reducible repeat (first | refine blk_drewN ?_ _ | refine blk_drew ?_ | refine blk_alloc ?_ _)); refine blk_put (cs := #[.int .i64 0, .int .i64 0]) ?_ 0 _ rfl; (with_reducible repeat (first | refine blk_drewN ?_ _ | refine blk_drew ?_ | refine blk_alloc ?_ _)); exact BK271.out⟩, ⟨by repeat (first | (with_reducible first | exact HB.out | apply below_alloc | apply pw_below_drewN | apply below_drew1 | refine below_set ?_ GE271.out) | exact HB.out)⟩⟩}}
 case rest =>
  skip
  {
 clear HC5
 try clear c1
 try clear c2
 try clear c2b0
 try clear p2
 try clear q2
 try clear hx2
 try clear c3
 try clear c3b0
 try clear c4
 try clear c4b0
 try clear c5
 try clear p6
 try clear c9
 try clear c11
 try clear c12
 try clear c12b0
 try clear c14
 try clear c14b0
 try clear c15
 try clear c15b0
 try clear hcz16_0
 try clear hcz16_1
 try clear hcz17_0
 try clear hcz17_1
 try clear hcz18_0
 try clear hcz18_1
 try clear hcz19_0
 try clear hcz19_1
 try clear hcz7_0
 try clear hcz7_1
 try clear hfz16_0
 try clear hfz16_1
 try clear hfz17_0
 try clear hfz17_1
 try clear hfz18_0
 try clear hfz18_1
 try clear hfz19_0
 try clear hfz19_1
 try clear hfz7_0
 try clear hfz7_1
 try clear hx270_0
 try clear hx270_1
 try clear hx274_0
 try clear hx274_1
 try clear p270
 try clear p274
 try clear q270
 try clear q274
 obtain ⟨kq, x36_4, rfl, HA, HJ4, BK271, HB⟩ := hcut
 cases kq with
 | zero => exact absurd HA.out (by simp [impl_leasesOk.j1])
 | succ kj4 =>
  skip
  {
 have H := HA.out
 clear HA
 simp only [impl_leasesOk.j1] at H
 by_cases c20 : x36_4 = true
 {
 subst c20
 have H1 : (some false) = some r := by rw [if_pos rfl] at H; exact H
 clear H
 have H := H1
 clear H1
 obtain rfl := Option.some.inj H
 go_wp2
 repeat (go_quiet (fail); try go_wp2)
 go_ret
 exact ⟨by first | rfl | (simp [errW_none, errW_some] <;> rfl) | (simp [*, errW_none, errW_some] <;> rfl), by repeat (first | (with_reducible first | exact HB.out | apply below_alloc | apply pw_below_drewN | apply below_drew1) | exact HB.out)⟩}
 {
 replace c20 := Bool.eq_false_iff.mpr c20
 subst c20
 have H1 : (impl_leasesOk.l0 kj4 l0 l0 (l0.length : Int) (wrap64 (x7_1 + 1))) = some r := by rw [if_neg (show ¬ (false = true) by decide)] at H; exact H
 clear H
 have H := H1
 clear H1
 have H' := Aside0.mk H
 clear H
 go_wp2
 repeat (go_quiet (fail); try go_wp2)
 go_roundg kj4
 case measure => have := HK1.out; have := HJ4.out; omega
 case rel => exact ⟨(wrap64 (x7_1 + 1)), s1_, H', ⟨by have := HK1.out; have := HJ4.out; omega⟩, ⟨by repeat (first | (with_reducible first | exact HB.out | apply below_alloc | apply pw_below_drewN | apply below_drew1) | exact HB.out)⟩⟩}}}}
 {
 rw [if_neg c4] at H
 exact absurd H (by simp)}}
 {
 rw [if_neg c3] at H
 exact absurd H (by simp)}}
 {
 rw [if_neg c2] at H
 have c2b0 : decide (x7_1 < (l0.length : Int)) = false := decide_eq_false c2
 clear c2
 obtain rfl := Option.some.inj H
 go_wp2
 repeat (go_quiet (fail); try go_wp2)
 go_ret
 exact ⟨by first | rfl | (simp [errW_none, errW_some] <;> rfl) | (simp [*, errW_none, errW_some] <;> rfl), by repeat (first | (with_reducible first | exact HB.out | apply below_alloc | apply pw_below_drewN | apply below_drew1) | exact HB.out)⟩}}}

/-! ### impl_ValidPresence: function 19 -/
abbrev impl_ValidPresence.T : Bool := true
abbrev impl_ValidPresence.F : Bool := false
theorem impl_ValidPresence.s1_ {P : Prop} (h : P := by first | rfl | (simp; done) | (simp [*]; done)) : P := h
theorem impl_ValidPresence.b1_ {P Q : Prop} (q : Q) (h : Q → P := by intro q_; (with_reducible repeat (first | refine blk_drewN ?_ _ | refine blk_drew ?_ | refine blk_alloc ?_ _)); exact q_) : P := h q
theorem impl_ValidPresence.y1_ {P Q : Prop} (q : Q) (h : Q → P := by intro q_; repeat (first | (with_reducible first | exact q_ | apply below_alloc | apply pw_below_drewN | apply below_drew1) | exact q_)) : P := h q
theorem impl_ValidPresence.y2_ {P Q : Prop} (q : Q) (h : Q → P := by intro q_; repeat (first | exact q_ | (with_reducible refine Kd.C_alloc ?_ _) | (with_reducible refine Kd.C_drewN ?_ _) | (with_reducible refine Kd.C_drew ?_))) : P := h q
theorem impl_ValidPresence.b3_ {w w1 W : World} {g : Nat} {o : Obj} (q : Aside0 (w.heap[g]? = some o)) (hb : Below W.heap.size W w1) (h : w.heap[g]? = some o → W.heap[g]? = some o := by intro q_; (with_reducible repeat (first | refine blk_drewN ?_ _ | refine blk_drew ?_ | refine blk_alloc ?_ _)); exact q_) : Aside0 (w1.heap[g]? = some o) := ⟨blk_below (h q.out) hb⟩
theorem impl_ValidPresence.b4_ {w W : World} {g k : Nat} {o : Obj} (hg : k = W.heap.size) (q : Aside0 (w.heap[g]? = some o)) (h : w.heap[g]? = some o → W.heap[g]? = some o := by intro q_; (with_reducible repeat (first | refine blk_drewN ?_ _ | refine blk_drew ?_ | refine blk_alloc ?_ _)); exact q_) : Aside0 (g ≠ k) := ⟨by rw [hg]; exact Nat.ne_of_lt (blk_lt (h q.out))⟩
theorem impl_ValidPresence.b5_ {w W : World} {g k : Nat} {o : Obj} (hg : k = W.heap.size) (q : Aside0 (w.heap[g]? = some o)) (h : w.heap[g]? = some o → W.heap[g]? = some o := by intro q_; (with_reducible repeat (first | refine blk_drewN ?_ _ | refine blk_drew ?_ | refine blk_alloc ?_ _)); exact q_) : Aside0 (k ≠ g) := ⟨by rw [hg]; exact Nat.ne_of_gt (blk_lt (h q.out))⟩
theorem impl_ValidPresence.b6_ {w w' W : World} {k : Nat} (hg : k = W.heap.size) (q : Aside0 (Below w.heap.size w w')) (h : Below w.heap.size w w' → Below w.heap.size w W := by intro q_; repeat (first | (with_reducible first | exact q_ | apply below_alloc | apply pw_below_drewN | apply below_drew1) | exact q_)) : Aside0 (w.heap.size ≤ k) := ⟨by rw [hg]; exact below_size (h q.out)⟩
mutual
def impl_ValidPresence.l0 : Nat → List (S73) → Int → Int → List (S63) → List (S63) → List (S73) → Option (Bool)
  | 0, _, _, _, _, _, _ => none
  | k + 1, x6, x7, x8, x276000, x276001, x276002 => if x8 < x7 then (if 0 ≤ x8 then (if x8 < (x6.length : Int) then ((impl_isMember.f ((rd_T73 x6 x8).f0)).bind fun t278 => (if t278 = true then ((impl_in.f ((rd_T73 x6 x8).f1) 0 1000000000).bind fun t279 => (if t279 = true then (if x8 > 0 then (if 0 ≤ (wrap64 (x8 - 1)) then (if (wrap64 (x8 - 1)) < (x276002.length : Int) then (impl_ValidPresence.j1 k x6 x7 x8 (decide (((rd_T73 x276002 (wrap64 (x8 - 1))).f0) ≥ ((rd_T73 x6 x8).f0))) x276000 x276001 x276002) else (none)) else (none)) else (impl_ValidPresence.j1 k x6 x7 x8 false x276000 x276001 x276002)) else (impl_ValidPresence.j1 k x6 x7 x8 true x276000 x276001 x276002))) else (impl_ValidPresence.j1 k x6 x7 x8 true x276000 x276001 x276002))) else (none)) else (none)) else ((impl_leasesOk.f k x276000).bind fun t281 => (if t281 = true then ((impl_leasesOk.f k x276001).bind fun t282 => (if t282 = true then (some (decide ((x276002.length : Int) ≤ 30))) else (some false))) else (some false)))
def impl_ValidPresence.j1 : Nat → List (S73) → Int → Int → Bool → List (S63) → List (S63) → List (S73) → Option (Bool)
  | 0, _, _, _, _, _, _, _ => none
  | k + 1, x6, x7, x8, x38, x276000, x276001, x276002 => if x38 = true then (some false) else (impl_ValidPresence.l0 k x6 x7 (wrap64 (x8 + 1)) x276000 x276001 x276002)
end
def impl_ValidPresence.f (k : Nat) (l0_0 : List (S63)) (l0_1 : List (S63)) (l0_2 : List (S73)) : Option (Bool) := impl_ValidPresence.l0 k l0_2 (l0_2.length : Int) 0 l0_0 l0_1 l0_2
theorem impl_ValidPresence.mono_l : ∀ k, (∀ y0 y1 y2 y3 y4 y5, LeO (impl_ValidPresence.l0 k y0 y1 y2 y3 y4 y5) (impl_ValidPresence.l0 (k + 1) y0 y1 y2 y3 y4 y5)) ∧ (∀ y0 y1 y2 y3 y4 y5 y6, LeO (impl_ValidPresence.j1 k y0 y1 y2 y3 y4 y5 y6) (impl_ValidPresence.j1 (k + 1) y0 y1 y2 y3 y4 y5 y6))
  | 0 => ⟨fun _ _ _ _ _ _ r h => by simp [impl_ValidPresence.l0] at h, fun _ _ _ _ _ _ _ r h => by simp [impl_ValidPresence.j1] at h⟩
  | k + 1 => by
    obtain ⟨ih0, ih1⟩ := impl_ValidPresence.mono_l k
    refine ⟨?_, ?_⟩
    · intro y0 y1 y2 y3 y4 y5
      unfold impl_ValidPresence.l0
      repeat' first
      | (with_reducible exact ih0 _ _ _ _ _ _)
      | (with_reducible exact ih1 _ _ _ _ _ _ _)
      | (with_reducible exact impl_leasesOk.mono _ _)
      | (with_reducible exact LeO.refl _)
      | (with_reducible exact LeO.none _)
      | (with_reducible refine LeO.ite ?_ ?_)
      | (with_reducible refine LeO.bind ?_ (fun _ => ?_))
      | exact ih0 _ _ _ _ _ _
      | exact ih1 _ _ _ _ _ _ _
      | exact impl_leasesOk.mono _ _
      | exact LeO.none _
      | refine LeO.ite ?_ ?_
      | refine LeO.bind ?_ (fun _ => ?_)
    · intro y0 y1 y2 y3 y4 y5 y6
      unfold impl_ValidPresence.j1
      repeat' first
      | (with_reducible exact ih0 _ _ _ _ _ _)
      | (with_reducible exact ih1 _ _ _ _ _ _ _)
      | (with_reducible exact impl_leasesOk.mono _ _)
      | (with_reducible exact LeO.refl _)
      | (with_reducible exact LeO.none _)
      | (with_reducible refine LeO.ite ?_ ?_)
      | (with_reducible refine LeO.bind ?_ (fun _ => ?_))
      | exact ih0 _ _ _ _ _ _
      | exact ih1 _ _ _ _ _ _ _
      | exact impl_leasesOk.mono _ _
      | exact LeO.none _
      | refine LeO.ite ?_ ?_
      | refine LeO.bind ?_ (fun _ => ?_)
theorem impl_ValidPresence.mono : ∀ a0 a1 a2 k, LeO (impl_ValidPresence.f k a0 a1 a2) (impl_ValidPresence.f (k + 1) a0 a1 a2) := by
  intro a0 a1 a2 k
  obtain ⟨ih0, ih1⟩ := impl_ValidPresence.mono_l k
  unfold impl_ValidPresence.f
  repeat' first
      | (with_reducible exact ih0 _ _ _ _ _ _)
      | (with_reducible exact ih1 _ _ _ _ _ _ _)
      | (with_reducible exact impl_leasesOk.mono _ _)
      | (with_reducible exact LeO.refl _)
      | (with_reducible exact LeO.none _)
      | (with_reducible refine LeO.ite ?_ ?_)
      | (with_reducible refine LeO.bind ?_ (fun _ => ?_))
      | exact ih0 _ _ _ _ _ _
      | exact ih1 _ _ _ _ _ _ _
      | exact impl_leasesOk.mono _ _
      | exact LeO.none _
      | refine LeO.ite ?_ ?_
      | refine LeO.bind ?_ (fun _ => ?_)
set_option maxHeartbeats 8000000 in
set_option maxRecDepth 100000 in
theorem impl_ValidPresence.calls (k : Nat) (A0_0 : Option Addr) (c0_0 : Nat) (l0_0 : List (S63)) (A0_1 : Option Addr) (c0_1 : Nat) (l0_1 : List (S63)) (A0_2 : Option Addr) (c0_2 : Nat) (l0_2 : List (S73)) (r : Bool) (w : World) (hr0_0 : Kd.C k63 w A0_0 l0_0.length l0_0) (hc0_0 : l0_0.length ≤ c0_0) (hr0_1 : Kd.C k63 w A0_1 l0_1.length l0_1) (hc0_1 : l0_1.length ≤ c0_1) (hr0_2 : Kd.C k73 w A0_2 l0_2.length l0_2) (hc0_2 : l0_2.length ≤ c0_2) (h : impl_ValidPresence.f k l0_0 l0_1 l0_2 = some r) :
    Calls Try.prog 19 #[.agg #[.slice A0_0 l0_0.length c0_0, .slice A0_1 l0_1.length c0_1, .slice A0_2 l0_2.length c0_2]] w fun e w' => e = .returned (.bool r) ∧ Below w.heap.size w w' := by
 have hu27 := Try.underlying27
 have hu73 := Try.underlying73
 have HR0_0 := Aside0.mk hr0_0
 have HC0_0 := Aside0.mk hc0_0
 clear hr0_0 hc0_0
 have HR0_1 := Aside0.mk hr0_1
 have HC0_1 := Aside0.mk hc0_1
 clear hr0_1 hc0_1
 have HR0_2 := Aside0.mk hr0_2
 have HC0_2 := Aside0.mk hc0_2
 clear hr0_2 hc0_2
 have HB := Aside0.mk (Below.refl w.heap.size w)
 have H : (impl_ValidPresence.l0 k l0_2 (l0_2.length : Int) 0 l0_0 l0_1 l0_2) = some r := h
 clear h
 have H' := Aside0.mk H
 clear H
 go_enter Try.func19, Try.ntmps19
 go_wp2_with (first | ((with_reducible refine gate_dst (N := 1) rfl ?_); (try (refine gate_guard (by rfl) ?_; dsimp only)); refine box_event ?hg (N := 1) ?hd (cs := #[.slice A0_0 l0_0.length c0_0, .slice A0_1 l0_1.length c0_1, .slice A0_2 l0_2.length c0_2]) (t := 27) ?hr ?_; (case hd => rfl); (case hg => rfl); (case hr => first | (go_simp; done) | (go_simp; rfl)); intro gb275 hg w2 hbox hb; have GW275 := b6_ hg HB; have GE275 := b6_ hg HB; have n0_ := Aside0.mk (below_step (y1_ HB.out) hb); have n1_ := Aside0.mk (hbox); clear HB; have HB := n0_; have BK275 := n1_; clear n0_ n1_; clear hb hbox hg; have hcz3_0 : w2.cell? ⟨gb275, 0, none⟩ = some (.slice A0_0 l0_0.length c0_0) := (blk_cell BK275.out 0).trans rfl; have hcz3_1 : w2.cell? ⟨gb275, 1, none⟩ = some (.slice A0_1 l0_1.length c0_1) := (blk_cell BK275.out 1).trans rfl; have hcz3_2 : w2.cell? ⟨gb275, 2, none⟩ = some (.slice A0_2 l0_2.length c0_2) := (blk_cell BK275.out 2).trans rfl; have hfz3_0 := blk_frozen BK275.out 0; have hfz3_1 := blk_frozen BK275.out 1; have hfz3_2 := blk_frozen BK275.out 2))
 repeat (go_quiet (first | ((with_reducible refine gate_dst (N := 1) rfl ?_); (try (refine gate_guard (by rfl) ?_; dsimp only)); refine box_event ?hg (N := 1) ?hd (cs := #[.slice A0_0 l0_0.length c0_0, .slice A0_1 l0_1.length c0_1, .slice A0_2 l0_2.length c0_2]) (t := 27) ?hr ?_; (case hd => rfl); (case hg => rfl); (case hr => first | (go_simp; done) | (go_simp; rfl)); intro gb275 hg w2 hbox hb; have GW275 := b6_ hg HB; have GE275 := b6_ hg HB; have n0_ := Aside0.mk (below_step (y1_ HB.out) hb); have n1_ := Aside0.mk (hbox); clear HB; have HB := n0_; have BK275 := n1_; clear n0_ n1_; clear hb hbox hg; have hcz3_0 : w2.cell? ⟨gb275, 0, none⟩ = some (.slice A0_0 l0_0.length c0_0) := (blk_cell BK275.out 0).trans rfl; have hcz3_1 : w2.cell? ⟨gb275, 1, none⟩ = some (.slice A0_1 l0_1.length c0_1) := (blk_cell BK275.out 1).trans rfl; have hcz3_2 : w2.cell? ⟨gb275, 2, none⟩ = some (.slice A0_2 l0_2.length c0_2) := (blk_cell BK275.out 2).trans rfl; have hfz3_0 := blk_frozen BK275.out 0; have hfz3_1 := blk_frozen BK275.out 1; have hfz3_2 := blk_frozen BK275.out 2)); try go_wp2_with (first | ((with_reducible refine gate_dst (N := 1) rfl ?_); (try (refine gate_guard (by rfl) ?_; dsimp only)); refine box_event ?hg (N := 1) ?hd (cs := #[.slice A0_0 l0_0.length c0_0, .slice A0_1 l0_1.length c0_1, .slice A0_2 l0_2.length c0_2]) (t := 27) ?hr ?_; (case hd => rfl); (case hg => rfl); (case hr => first | (go_simp; done) | (go_simp; rfl)); intro gb275 hg w2 hbox hb; have GW275 := b6_ hg HB; have GE275 := b6_ hg HB; have n0_ := Aside0.mk (below_step (y1_ HB.out) hb); have n1_ := Aside0.mk (hbox); clear HB; have HB := n0_; have BK275 := n1_; clear n0_ n1_; clear hb hbox hg; have hcz3_0 : w2.cell? ⟨gb275, 0, none⟩ = some (.slice A0_0 l0_0.length c0_0) := (blk_cell BK275.out 0).trans rfl; have hcz3_1 : w2.cell? ⟨gb275, 1, none⟩ = some (.slice A0_1 l0_1.length c0_1) := (blk_cell BK275.out 1).trans rfl; have hcz3_2 : w2.cell? ⟨gb275, 2, none⟩ = some (.slice A0_2 l0_2.length c0_2) := (blk_cell BK275.out 2).trans rfl; have hfz3_0 := blk_frozen BK275.out 0; have hfz3_1 := blk_frozen BK275.out 1; have hfz3_2 := blk_frozen BK275.out 2)))
 go_loopg [8] k (fun kq v8 w' => ∃ (x8_1 : Int), v8 = .int .i64 x8_1 ∧ Aside0 (impl_ValidPresence.l0 kq l0_2 (l0_2.length : Int) x8_1 l0_0 l0_1 l0_2 = some r) ∧ Aside0 (kq ≤ k) ∧ Aside0 (w'.heap[gb275]? = some (.cells #[(.slice A0_0 l0_0.length c0_0), (.slice A0_1 l0_1.length c0_1), (.slice A0_2 l0_2.length c0_2)] 27 (0, 0))) ∧ Aside0 (Below w.heap.size w w'))
 case atStart => exact ⟨(0), s1_, H', ⟨Nat.le_refl _⟩, ⟨b1_ BK275.out⟩, ⟨by repeat (first | (with_reducible first | exact HB.out | apply below_alloc | apply pw_below_drewN | apply below_drew1) | exact HB.out)⟩⟩
 case round =>
  skip
  {
 clear H'
 try clear c1
 try clear p2
 try clear hcz3_0
 try clear hcz3_1
 try clear hcz3_2
 try clear hfz3_0
 try clear hfz3_1
 try clear hfz3_2
 obtain ⟨x8_1, rfl, HA, HK1, BK275, HB⟩ := hrel
 cases gk with
 | zero => exact absurd HA.out (by simp [impl_ValidPresence.l0])
 | succ k1 =>
  skip
  {
 have H := HA.out
 clear HA
 simp only [impl_ValidPresence.l0] at H
 by_cases c4 : x8_1 < (l0_2.length : Int)
 {
 rw [if_pos c4] at H
 have c4b0 : decide (x8_1 < (l0_2.length : Int)) = true := decide_eq_true c4
 clear c4
 by_cases c5 : 0 ≤ x8_1
 {
 rw [if_pos c5] at H
 have c5b0 : decide (0 ≤ x8_1) = true := decide_eq_true c5
 clear c5
 by_cases c6 : x8_1 < (l0_2.length : Int)
 {
 rw [if_pos c6] at H
 have c6b0 : decide (x8_1 < (l0_2.length : Int)) = true := decide_eq_true c6
 clear c6
 have HC7 := Aside0.mk H
 clear H
 have p276 : 0 ≤ (x8_1 : Int) := of_decide_eq_true (by first | (with_reducible assumption) | assumption)
 have q276 : x8_1 < (l0_2.length : Int) := of_decide_eq_true (by first | (with_reducible assumption) | assumption)
 have hbd276 := Aside0.mk (And.intro p276 q276)
 obtain ⟨ad276, e276, hx276_0, hx276_1⟩ := at_T73 HR0_2.out x8_1 p276 q276
 cases e276
 replace hx276_0 := (HB.out.cell (World.block_lt_of_cell? w _ hx276_0)).trans hx276_0
 replace hx276_1 := (HB.out.cell (World.block_lt_of_cell? w _ hx276_1)).trans hx276_1
 replace p276 := eq_true p276
 replace q276 := eq_true q276
 go_upto_region 4 with (first | ((with_reducible refine gate_dst (N := 4) rfl ?_); (try (refine gate_guard (by rfl) ?_; dsimp only)); refine box_event ?hg (N := 4) ?hd (cs := #[.int .i64 0, .int .i64 0]) (t := 73) ?hr ?_; (case hd => rfl); (case hg => rfl); (case hr => first | (go_simp; done) | (go_simp; rfl)); intro gb277 hg w8 hbox hb; have GW277 := b6_ hg HB; have GE277 := b6_ hg HB; have NB275_277 := b4_ hg BK275; have NB277_275 := b5_ hg BK275; have n0_ := b3_ BK275 hb; have n1_ := Aside0.mk (below_step (y1_ HB.out) hb); have n2_ := Aside0.mk (hbox); clear BK275; clear HB; have BK275 := n0_; have HB := n1_; have BK277 := n2_; clear n0_ n1_ n2_; clear hb hbox hg; have hnb9 := NB277_275.out; have hnc9 := NB275_277.out; have hcz10_0 : w8.cell? ⟨gb277, 0, none⟩ = some (.int .i64 0) := (blk_cell BK277.out 0).trans rfl; have hcz10_1 : w8.cell? ⟨gb277, 1, none⟩ = some (.int .i64 0) := (blk_cell BK277.out 1).trans rfl; have hfz10_0 := blk_frozen BK277.out 0; have hfz10_1 := blk_frozen BK277.out 1))
 repeat (go_quiet (first | ((with_reducible refine gate_dst (N := 4) rfl ?_); (try (refine gate_guard (by rfl) ?_; dsimp only)); refine box_event ?hg (N := 4) ?hd (cs := #[.int .i64 0, .int .i64 0]) (t := 73) ?hr ?_; (case hd => rfl); (case hg => rfl); (case hr => first | (go_simp; done) | (go_simp; rfl)); intro gb277 hg w8 hbox hb; have GW277 := b6_ hg HB; have GE277 := b6_ hg HB; have NB275_277 := b4_ hg BK275; have NB277_275 := b5_ hg BK275; have n0_ := b3_ BK275 hb; have n1_ := Aside0.mk (below_step (y1_ HB.out) hb); have n2_ := Aside0.mk (hbox); clear BK275; clear HB; have BK275 := n0_; have HB := n1_; have BK277 := n2_; clear n0_ n1_ n2_; clear hb hbox hg; have hnb9 := NB277_275.out; have hnc9 := NB275_277.out; have hcz10_0 : w8.cell? ⟨gb277, 0, none⟩ = some (.int .i64 0) := (blk_cell BK277.out 0).trans rfl; have hcz10_1 : w8.cell? ⟨gb277, 1, none⟩ = some (.int .i64 0) := (blk_cell BK277.out 1).trans rfl; have hfz10_0 := blk_frozen BK277.out 0; have hfz10_1 := blk_frozen BK277.out 1)); go_upto_region 4 with (first | ((with_reducible refine gate_dst (N := 4) rfl ?_); (try (refine gate_guard (by rfl) ?_; dsimp only)); refine box_event ?hg (N := 4) ?hd (cs := #[.int .i64 0, .int .i64 0]) (t := 73) ?hr ?_; (case hd => rfl); (case hg => rfl); (case hr => first | (go_simp; done) | (go_simp; rfl)); intro gb277 hg w8 hbox hb; have GW277 := b6_ hg HB; have GE277 := b6_ hg HB; have NB275_277 := b4_ hg BK275; have NB277_275 := b5_ hg BK275; have n0_ := b3_ BK275 hb; have n1_ := Aside0.mk (below_step (y1_ HB.out) hb); have n2_ := Aside0.mk (hbox); clear BK275; clear HB; have BK275 := n0_; have HB := n1_; have BK277 := n2_; clear n0_ n1_ n2_; clear hb hbox hg; have hnb9 := NB277_275.out; have hnc9 := NB275_277.out; have hcz10_0 : w8.cell? ⟨gb277, 0, none⟩ = some (.int .i64 0) := (blk_cell BK277.out 0).trans rfl; have hcz10_1 : w8.cell? ⟨gb277, 1, none⟩ = some (.int .i64 0) := (blk_cell BK277.out 1).trans rfl; have hfz10_0 := blk_frozen BK277.out 0; have hfz10_1 := blk_frozen BK277.out 1)))
 (try simp only [Act.put, List.setIfInBounds_toArray, List.set_cons_zero, List.set_cons_succ])
 go_cut [38] (fun v38 wc => ∃ (kq : Nat) (x38_6 : Bool), v38 = .bool x38_6 ∧ Aside0 (impl_ValidPresence.j1 kq l0_2 (l0_2.length : Int) x8_1 x38_6 l0_0 l0_1 l0_2 = some r) ∧ Aside0 (kq ≤ k1) ∧ Aside0 (wc.heap[gb275]? = some (.cells #[(.slice A0_0 l0_0.length c0_0), (.slice A0_1 l0_1.length c0_1), (.slice (some ad276) l0_2.length c0_2)] 27 (0, 0))) ∧ Aside0 (wc.heap[gb277]? = some (.cells #[.int .i64 ((rd_T73 l0_2 x8_1).f0), .int .i64 ((rd_T73 l0_2 x8_1).f1)] 73 (0, 0))) ∧ Aside0 (Below w.heap.size w wc))
 case first =>
  skip
  {
 have H := HC7.out
 clear HC7
 replace H := Option.bind_eq_some_iff.mp H
 obtain ⟨t278, A110, H⟩ := H
 replace H : (if t278 = true then ((impl_in.f ((rd_T73 l0_2 x8_1).f1) 0 1000000000).bind fun t279 => (if t279 = true then (if x8_1 > 0 then (if 0 ≤ (wrap64 (x8_1 - 1)) then (if (wrap64 (x8_1 - 1)) < (l0_2.length : Int) then (impl_ValidPresence.j1 k1 l0_2 (l0_2.length : Int) x8_1 (decide (((rd_T73 l0_2 (wrap64 (x8_1 - 1))).f0) ≥ ((rd_T73 l0_2 x8_1).f0))) l0_0 l0_1 l0_2) else (none)) else (none)) else (impl_ValidPresence.j1 k1 l0_2 (l0_2.length : Int) x8_1 false l0_0 l0_1 l0_2)) else (impl_ValidPresence.j1 k1 l0_2 (l0_2.length : Int) x8_1 true l0_0 l0_1 l0_2))) else (impl_ValidPresence.j1 k1 l0_2 (l0_2.length : Int) x8_1 true l0_0 l0_1 l0_2)) = some r := H
 have A11 := Aside0.mk A110
 clear A110
 by_cases c12 : t278 = true
 {
 subst c12
 have H1 : ((impl_in.f ((rd_T73 l0_2 x8_1).f1) 0 1000000000).bind fun t279 => (if t279 = true then (if x8_1 > 0 then (if 0 ≤ (wrap64 (x8_1 - 1)) then (if (wrap64 (x8_1 - 1)) < (l0_2.length : Int) then (impl_ValidPresence.j1 k1 l0_2 (l0_2.length : Int) x8_1 (decide (((rd_T73 l0_2 (wrap64 (x8_1 - 1))).f0) ≥ ((rd_T73 l0_2 x8_1).f0))) l0_0 l0_1 l0_2) else (none)) else (none)) else (impl_ValidPresence.j1 k1 l0_2 (l0_2.length : Int) x8_1 false l0_0 l0_1 l0_2)) else (impl_ValidPresence.j1 k1 l0_2 (l0_2.length : Int) x8_1 true l0_0 l0_1 l0_2))) = some r := by rw [if_pos rfl] at H; exact H
 clear H
 have H := H1
 clear H1
 replace H := Option.bind_eq_some_iff.mp H
 obtain ⟨t279, A130, H⟩ := H
 replace H : (if t279 = true then (if x8_1 > 0 then (if 0 ≤ (wrap64 (x8_1 - 1)) then (if (wrap64 (x8_1 - 1)) < (l0_2.length : Int) then (impl_ValidPresence.j1 k1 l0_2 (l0_2.length : Int) x8_1 (decide (((rd_T73 l0_2 (wrap64 (x8_1 - 1))).f0) ≥ ((rd_T73 l0_2 x8_1).f0))) l0_0 l0_1 l0_2) else (none)) else (none)) else (impl_ValidPresence.j1 k1 l0_2 (l0_2.length : Int) x8_1 false l0_0 l0_1 l0_2)) else (impl_ValidPresence.j1 k1 l0_2 (l0_2.length : Int) x8_1 true l0_0 l0_1 l0_2)) = some r := H
 have A13 := Aside0.mk A130
 clear A130
 by_cases c14 : t279 = true
 {
 subst c14
 have H1 : (if x8_1 > 0 then (if 0 ≤ (wrap64 (x8_1 - 1)) then (if (wrap64 (x8_1 - 1)) < (l0_2.length : Int) then (impl_ValidPresence.j1 k1 l0_2 (l0_2.length : Int) x8_1 (decide (((rd_T73 l0_2 (wrap64 (x8_1 - 1))).f0) ≥ ((rd_T73 l0_2 x8_1).f0))) l0_0 l0_1 l0_2) else (none)) else (none)) else (impl_ValidPresence.j1 k1 l0_2 (l0_2.length : Int) x8_1 false l0_0 l0_1 l0_2)) = some r := by rw [if_pos rfl] at H; exact H
 clear H
 have H := H1
 clear H1
 by_cases c15 : x8_1 > 0
 {
 rw [if_pos c15] at H
 have c15b0 : decide (0 < x8_1) = true := decide_eq_true c15
 clear c15
 (first | rw [c15b0] | (simp only [i64_w, i32_w]; rw [c15b0]) | skip)
 obtain ⟨ji16, hji16⟩ : ∃ j_ : Int, (wrap64 (x8_1 - 1)) = j_ := ⟨_, rfl⟩
 replace H : (if 0 ≤ (ji16) then (if (ji16) < (l0_2.length : Int) then (impl_ValidPresence.j1 k1 l0_2 (l0_2.length : Int) x8_1 (decide (((rd_T73 l0_2 (ji16)).f0) ≥ ((rd_T73 l0_2 x8_1).f0))) l0_0 l0_1 l0_2) else (none)) else (none)) = some r := by first | (rw [hji16] at H; exact H) | (simp only [hji16] at H ⊢; exact H)
 (try rw [hji16] at A11)
 (try rw [hji16] at A13)
 have hji16w : (IntKind.i64.wrap (x8_1 - 1)) = ji16 := (i64_w _).trans hji16
 by_cases c17 : 0 ≤ (ji16)
 {
 rw [if_pos c17] at H
 have c17b0 : decide (0 ≤ (ji16)) = true := decide_eq_true c17
 clear c17
 by_cases c18 : (ji16) < (l0_2.length : Int)
 {
 rw [if_pos c18] at H
 have c18b0 : decide ((ji16) < (l0_2.length : Int)) = true := decide_eq_true c18
 clear c18
 have H' := Aside0.mk H
 clear H
 have hnb19 := NB277_275.out
 have hnc19 := NB275_277.out
 have hcz20_0 : w8.cell? ⟨gb277, 0, none⟩ = some (.int .i64 0) := (blk_cell BK277.out 0).trans rfl
 have hcz20_1 : w8.cell? ⟨gb277, 1, none⟩ = some (.int .i64 0) := (blk_cell BK277.out 1).trans rfl
 have hfz20_0 := blk_frozen BK277.out 0
 have hfz20_1 := blk_frozen BK277.out 1
 have hcz21_0 : w8.cell? ⟨gb275, 0, none⟩ = some (.slice A0_0 l0_0.length c0_0) := (blk_cell BK275.out 0).trans rfl
 have hcz21_1 : w8.cell? ⟨gb275, 1, none⟩ = some (.slice A0_1 l0_1.length c0_1) := (blk_cell BK275.out 1).trans rfl
 have hcz21_2 : w8.cell? ⟨gb275, 2, none⟩ = some (.slice (some ad276) l0_2.length c0_2) := (blk_cell BK275.out 2).trans rfl
 have hfz21_0 := blk_frozen BK275.out 0
 have hfz21_1 := blk_frozen BK275.out 1
 have hfz21_2 := blk_frozen BK275.out 2
 have p280 : 0 ≤ ((ji16) : Int) := of_decide_eq_true (by first | (with_reducible assumption) | assumption)
 have q280 : (ji16) < (l0_2.length : Int) := of_decide_eq_true (by first | (with_reducible assumption) | assumption)
 obtain ⟨ad280, e280, hx280_0, hx280_1⟩ := at_T73 HR0_2.out (ji16) p280 q280
 obtain rfl : ad276 = ad280 := (by injection e280)
 have hn280_0 : ad276.block ≠ gb277 := Nat.ne_of_lt (Nat.lt_of_lt_of_le (by have := World.block_lt_of_cell? _ _ hx280_0; first | rwa [add_block] at this | exact this) GW277.out)
 have hn280_1 : ad276.block ≠ gb277 := Nat.ne_of_lt (Nat.lt_of_lt_of_le (by have := World.block_lt_of_cell? _ _ hx280_0; first | rwa [add_block] at this | exact this) GW277.out)
 replace hx280_0 := (HB.out.cell (World.block_lt_of_cell? w _ hx280_0)).trans hx280_0
 replace hx280_1 := (HB.out.cell (World.block_lt_of_cell? w _ hx280_1)).trans hx280_1
 replace hx280_0 := (cell_far (p := ⟨gb277, 0, none⟩) (by first | (rw [add_block]; exact hn280_0) | (show (Addr.add _ _).block ≠ _; rw [add_block]; exact hn280_0) | exact hn280_0) (.int .i64 ((rd_T73 l0_2 x8_1).f0))).trans hx280_0
 replace hx280_1 := (cell_far (p := ⟨gb277, 0, none⟩) (by first | (rw [add_block]; exact hn280_0) | (show (Addr.add _ _).block ≠ _; rw [add_block]; exact hn280_0) | exact hn280_0) (.int .i64 ((rd_T73 l0_2 x8_1).f0))).trans hx280_1
 replace hx280_0 := (cell_far (p := ⟨gb277, 1, none⟩) (by first | (rw [add_block]; exact hn280_1) | (show (Addr.add _ _).block ≠ _; rw [add_block]; exact hn280_1) | exact hn280_1) (.int .i64 ((rd_T73 l0_2 x8_1).f1))).trans hx280_0
 replace hx280_1 := (cell_far (p := ⟨gb277, 1, none⟩) (by first | (rw [add_block]; exact hn280_1) | (show (Addr.add _ _).block ≠ _; rw [add_block]; exact hn280_1) | exact hn280_1) (.int .i64 ((rd_T73 l0_2 x8_1).f1))).trans hx280_1
 (try have hy280_0 := fun (n_ : Nat) => (show ((((w8.drewN n_).setCell ⟨gb277, 0, none⟩ (.int .i64 ((rd_T73 l0_2 x8_1).f0))).setCell ⟨gb277, 1, none⟩ (.int .i64 ((rd_T73 l0_2 x8_1).f1)))).cell? _ = some _ from hx280_0))
 (try have hy280_1 := fun (n_ : Nat) => (show ((((w8.drewN n_).setCell ⟨gb277, 0, none⟩ (.int .i64 ((rd_T73 l0_2 x8_1).f0))).setCell ⟨gb277, 1, none⟩ (.int .i64 ((rd_T73 l0_2 x8_1).f1)))).cell? _ = some _ from hx280_1))
 clear hn280_0
 clear hn280_1
 replace p280 := eq_true p280
 replace q280 := eq_true q280
 go_wp2_with (first | (go_at_call 54; (with_reducible refine (impl_isMember.calls ((rd_T73 l0_2 x8_1).f0) true _ A11.out).mono ?_); rintro e w' ⟨rfl, ⟨nd, rfl⟩⟩; (try first | exact ⟨rfl, _, World.drewN_drewN _ _ _⟩ | exact ⟨rfl, _, Eq.trans (World.drewN_drewN _ _ _) (congrArg (World.drewN _) (Nat.add_assoc _ _ _))⟩)) | (go_at_call 46; (with_reducible refine (impl_in.calls ((rd_T73 l0_2 x8_1).f1) 0 1000000000 true _ A13.out).mono ?_); rintro e w' ⟨rfl, ⟨nd, rfl⟩⟩; (try first | exact ⟨rfl, _, World.drewN_drewN _ _ _⟩ | exact ⟨rfl, _, Eq.trans (World.drewN_drewN _ _ _) (congrArg (World.drewN _) (Nat.add_assoc _ _ _))⟩)))
 repeat (go_quiet (first | (go_at_call 54; (with_reducible refine (impl_isMember.calls ((rd_T73 l0_2 x8_1).f0) true _ A11.out).mono ?_); rintro e w' ⟨rfl, ⟨nd, rfl⟩⟩; (try first | exact ⟨rfl, _, World.drewN_drewN _ _ _⟩ | exact ⟨rfl, _, Eq.trans (World.drewN_drewN _ _ _) (congrArg (World.drewN _) (Nat.add_assoc _ _ _))⟩)) | (go_at_call 46; (with_reducible refine (impl_in.calls ((rd_T73 l0_2 x8_1).f1) 0 1000000000 true _ A13.out).mono ?_); rintro e w' ⟨rfl, ⟨nd, rfl⟩⟩; (try first | exact ⟨rfl, _, World.drewN_drewN _ _ _⟩ | exact ⟨rfl, _, Eq.trans (World.drewN_drewN _ _ _) (congrArg (World.drewN _) (Nat.add_assoc _ _ _))⟩))); try go_wp2_with (first | (go_at_call 54; (with_reducible refine (impl_isMember.calls ((rd_T73 l0_2 x8_1).f0) true _ A11.out).mono ?_); rintro e w' ⟨rfl, ⟨nd, rfl⟩⟩; (try first | exact ⟨rfl, _, World.drewN_drewN _ _ _⟩ | exact ⟨rfl, _, Eq.trans (World.drewN_drewN _ _ _) (congrArg (World.drewN _) (Nat.add_assoc _ _ _))⟩)) | (go_at_call 46; (with_reducible refine (impl_in.calls ((rd_T73 l0_2 x8_1).f1) 0 1000000000 true _ A13.out).mono ?_); rintro e w' ⟨rfl, ⟨nd, rfl⟩⟩; (try first | exact ⟨rfl, _, World.drewN_drewN _ _ _⟩ | exact ⟨rfl, _, Eq.trans (World.drewN_drewN _ _ _) (congrArg (World.drewN _) (Nat.add_assoc _ _ _))⟩))))
 go_meet
 case rel => exact ⟨_, (decide (((rd_T73 l0_2 (ji16)).f0) ≥ ((rd_T73 l0_2 x8_1).f0))), (by first | rfl | (simp; done) | (simp only [← hji16] <;> (first | rfl | simp)) | (simp [*]; done)), H', ⟨by have := HK1.out; first | omega | exact Nat.le_refl _⟩, ⟨by (with_reducible repeat (first | refine blk_drewN ?_ _ | refine blk_drew ?_ | refine blk_alloc ?_ _)); refine blk_far ?_ NB275_277.out _; (with_reducible repeat (first | refine blk_drewN ?_ _ | refine blk_drew ?_ | refine blk_alloc ?_ _)); refine blk_far ?_ NB275_277.out _; (with_reducible repeat (first | refine blk_drewN ?_ _ | refine blk_drew ?_ | refine blk_alloc ?_ _)); exact BK275.out⟩, ⟨by (with_reducible repeat (first | refine blk_drewN ?_ _ | refine blk_drew ?_ | refine blk_alloc ?_ _)); refine blk_put (cs := #[.int .i64 ((rd_T73 l0_2 x8_1).f0), .int .i64 0]) ?_ 1 _ rfl; (with_reducible repeat (first | refine blk_drewN ?_ _ | refine blk_drew ?_ | refine blk_alloc ?_ _)); refine blk_put (cs := #[.int .i64 0, .int .i64 0]) ?_ 0 _ rfl; (with_reducible repeat (first | refine blk_drewN ?_ _ | refine blk_drew ?_ | refine blk_alloc ?_ _)); exact BK277.out⟩, ⟨by repeat (first | (with_reducible first | exact HB.out | apply below_alloc | apply pw_below_drewN | apply below_drew1 | refine below_set ?_ GE277.out) | exact HB.out)⟩⟩}
 {
 rw [if_neg c18] at H
 exact absurd H (by simp)}}
 {
 rw [if_neg c17] at H
 exact absurd H (by simp)}}
 {
 rw [if_neg c15] at H
 have c15b0 : decide (0 < x8_1) = false := decide_eq_false c15
 clear c15
 (first | rw [c15b0] | (simp only [i64_w, i32_w]; rw [c15b0]) | skip)
 have H' := Aside0.mk H
 clear H
 have hnb22 := NB277_275.out
 have hnc22 := NB275_277.out
 have hcz23_0 : w8.cell? ⟨gb277, 0, none⟩ = some (.int .i64 0) := (blk_cell BK277.out 0).trans rfl
 have hcz23_1 : w8.cell? ⟨gb277, 1, none⟩ = some (.int .i64 0) := (blk_cell BK277.out 1).trans rfl
 have hfz23_0 := blk_frozen BK277.out 0
 have hfz23_1 := blk_frozen BK277.out 1
 go_wp2_with (first | (go_at_call 54; (with_reducible refine (impl_isMember.calls ((rd_T73 l0_2 x8_1).f0) true _ A11.out).mono ?_); rintro e w' ⟨rfl, ⟨nd, rfl⟩⟩; (try first | exact ⟨rfl, _, World.drewN_drewN _ _ _⟩ | exact ⟨rfl, _, Eq.trans (World.drewN_drewN _ _ _) (congrArg (World.drewN _) (Nat.add_assoc _ _ _))⟩)) | (go_at_call 46; (with_reducible refine (impl_in.calls ((rd_T73 l0_2 x8_1).f1) 0 1000000000 true _ A13.out).mono ?_); rintro e w' ⟨rfl, ⟨nd, rfl⟩⟩; (try first | exact ⟨rfl, _, World.drewN_drewN _ _ _⟩ | exact ⟨rfl, _, Eq.trans (World.drewN_drewN _ _ _) (congrArg (World.drewN _) (Nat.add_assoc _ _ _))⟩)))
 repeat (go_quiet (first | (go_at_call 54; (with_reducible refine (impl_isMember.calls ((rd_T73 l0_2 x8_1).f0) true _ A11.out).mono ?_); rintro e w' ⟨rfl, ⟨nd, rfl⟩⟩; (try first | exact ⟨rfl, _, World.drewN_drewN _ _ _⟩ | exact ⟨rfl, _, Eq.trans (World.drewN_drewN _ _ _) (congrArg (World.drewN _) (Nat.add_assoc _ _ _))⟩)) | (go_at_call 46; (with_reducible refine (impl_in.calls ((rd_T73 l0_2 x8_1).f1) 0 1000000000 true _ A13.out).mono ?_); rintro e w' ⟨rfl, ⟨nd, rfl⟩⟩; (try first | exact ⟨rfl, _, World.drewN_drewN _ _ _⟩ | exact ⟨rfl, _, Eq.trans (World.drewN_drewN _ _ _) (congrArg (World.drewN _) (Nat.add_assoc _ _ _))⟩))); try go_wp2_with (first | (go_at_call 54; (with_reducible refine (impl_isMember.calls ((rd_T73 l0_2 x8_1).f0) true _ A11.out).mono ?_); rintro e w' ⟨rfl, ⟨nd, rfl⟩⟩; (try first | exact ⟨rfl, _, World.drewN_drewN _ _ _⟩ | exact ⟨rfl, _, Eq.trans (World.drewN_drewN _ _ _) (congrArg (World.drewN _) (Nat.add_assoc _ _ _))⟩)) | (go_at_call 46; (with_reducible refine (impl_in.calls ((rd_T73 l0_2 x8_1).f1) 0 1000000000 true _ A13.out).mono ?_); rintro e w' ⟨rfl, ⟨nd, rfl⟩⟩; (try first | exact ⟨rfl, _, World.drewN_drewN _ _ _⟩ | exact ⟨rfl, _, Eq.trans (World.drewN_drewN _ _ _) (congrArg (World.drewN _) (Nat.add_assoc _ _ _))⟩))))
 go_meet
 case rel => exact ⟨_, (false), s1_, H', ⟨by have := HK1.out; first | omega | exact Nat.le_refl _⟩, ⟨by (with_reducible repeat (first | refine blk_drewN ?_ _ | refine blk_drew ?_ | refine blk_alloc ?_ _)); refine blk_far ?_ NB275_277.out _; (with_reducible repeat (first | refine blk_drewN ?_ _ | refine blk_drew ?_ | refine blk_alloc ?_ _)); refine blk_far ?_ NB275_277.out _; (with_reducible repeat (first | refine blk_drewN ?_ _ | refine blk_drew ?_ | refine blk_alloc ?_ _)); exact BK275.out⟩, ⟨by (with_reducible repeat (first | refine blk_drewN ?_ _ | refine blk_drew ?_ | refine blk_alloc ?_ _)); refine blk_put (cs := #[.int .i64 ((rd_T73 l0_2 x8_1).f0), .int .i64 0]) ?_ 1 _ rfl; (with_reducible repeat (first | refine blk_drewN ?_ _ | refine blk_drew ?_ | refine blk_alloc ?_ _)); refine blk_put (cs := #[.int .i64 0, .int .i64 0]) ?_ 0 _ rfl; (with_reducible repeat (first | refine blk_drewN ?_ _ | refine blk_drew ?_ | refine blk_alloc ?_ _)); exact BK277.out⟩, ⟨by repeat (first | (with_reducible first | exact HB.out | apply below_alloc | apply pw_below_drewN | apply below_drew1 | refine below_set ?_ GE277.out) | exact HB.out)⟩⟩}}
 {
 replace c14 := Bool.eq_false_iff.mpr c14
 subst c14
 have H1 : (impl_ValidPresence.j1 k1 l0_2 (l0_2.length : Int) x8_1 true l0_0 l0_1 l0_2) = some r := by rw [if_neg (show ¬ (false = true) by decide)] at H; exact H
 clear H
 have H := H1
 clear H1
 have H' := Aside0.mk H
 clear H
 have hnb24 := NB277_275.out
 have hnc24 := NB275_277.out
 have hcz25_0 : w8.cell? ⟨gb277, 0, none⟩ = some (.int .i64 0) := (blk_cell BK277.out 0).trans rfl
 have hcz25_1 : w8.cell? ⟨gb277, 1, none⟩ = some (.int .i64 0) := (blk_cell BK277.out 1).trans rfl
 have hfz25_0 := blk_frozen BK277.out 0
 have hfz25_1 := blk_frozen BK277.out 1
 go_wp2_with (first | (go_at_call 54; (with_reducible refine (impl_isMember.calls ((rd_T73 l0_2 x8_1).f0) true _ A11.out).mono ?_); rintro e w' ⟨rfl, ⟨nd, rfl⟩⟩; (try first | exact ⟨rfl, _, World.drewN_drewN _ _ _⟩ | exact ⟨rfl, _, Eq.trans (World.drewN_drewN _ _ _) (congrArg (World.drewN _) (Nat.add_assoc _ _ _))⟩)) | (go_at_call 46; (with_reducible refine (impl_in.calls ((rd_T73 l0_2 x8_1).f1) 0 1000000000 false _ A13.out).mono ?_); rintro e w' ⟨rfl, ⟨nd, rfl⟩⟩; (try first | exact ⟨rfl, _, World.drewN_drewN _ _ _⟩ | exact ⟨rfl, _, Eq.trans (World.drewN_drewN _ _ _) (congrArg (World.drewN _) (Nat.add_assoc _ _ _))⟩)))
 repeat (go_quiet (first | (go_at_call 54; (with_reducible refine (impl_isMember.calls ((rd_T73 l0_2 x8_1).f0) true _ A11.out).mono ?_); rintro e w' ⟨rfl, ⟨nd, rfl⟩⟩; (try first | exact ⟨rfl, _, World.drewN_drewN _ _ _⟩ | exact ⟨rfl, _, Eq.trans (World.drewN_drewN _ _ _) (congrArg (World.drewN _) (Nat.add_assoc _ _ _))⟩)) | (go_at_call 46; (with_reducible refine (impl_in.calls ((rd_T73 l0_2 x8_1).f1) 0 1000000000 false _ A13.out).mono ?_); rintro e w' ⟨rfl, ⟨nd, rfl⟩⟩; (try first | exact ⟨rfl, _, World.drewN_drewN _ _ _⟩ | exact ⟨rfl, _, Eq.trans (World.drewN_drewN _ _ _) (congrArg (World.drewN _) (Nat.add_assoc _ _ _))⟩))); try go_wp2_with (first | (go_at_call 54; (with_reducible refine (impl_isMember.calls ((rd_T73 l0_2 x8_1).f0) true _ A11.out).mono ?_); rintro e w' ⟨rfl, ⟨nd, rfl⟩⟩; (try first | exact ⟨rfl, _, World.drewN_drewN _ _ _⟩ | exact ⟨rfl, _, Eq.trans (World.drewN_drewN _ _ _) (congrArg (World.drewN _) (Nat.add_assoc _ _ _))⟩)) | (go_at_call 46; (with_reducible refine (impl_in.calls ((rd_T73 l0_2 x8_1).f1) 0 1000000000 false _ A13.out).mono ?_); rintro e w' ⟨rfl, ⟨nd, rfl⟩⟩; (try first | exact ⟨rfl, _, World.drewN_drewN _ _ _⟩ | exact ⟨rfl, _, Eq.trans (World.drewN_drewN _ _ _) (congrArg (World.drewN _) (Nat.add_assoc _ _ _))⟩))))
 go_meet
 case rel => exact ⟨_, (true), s1_, H', ⟨by have := HK1.out; first | omega | exact Nat.le_refl _⟩, ⟨by (with_reducible repeat (first | refine blk_drewN ?_ _ | refine blk_drew ?_ | refine blk_alloc ?_ _)); refine blk_far ?_ NB275_277.out _; (with_reducible repeat (first | refine blk_drewN ?_ _ | refine blk_drew ?_ | refine blk_alloc ?_ _)); refine blk_far ?_ NB275_277.out _; (with_reducible repeat (first | refine blk_drewN ?_ _ | refine blk_drew ?_ | refine blk_alloc ?_ _)); exact BK275.out⟩, ⟨by (with_reducible repeat (first | refine blk_drewN ?_ _ | refine blk_drew ?_ | refine blk_alloc ?_ _)); refine blk_put (cs := #[.int .i64 ((rd_T73 l0_2 x8_1).f0), .int .i64 0]) ?_ 1 _ rfl; (with_reducible repeat (first | refine blk_drewN ?_ _ | refine blk_drew ?_ | refine blk_alloc ?_ _)); refine blk_put (cs := #[.int .i64 0, .int .i64 0]) ?_ 0 _ rfl; (with_reducible repeat (first | refine blk_drewN ?_ _ | refine blk_drew ?_ | refine blk_alloc ?_ _)); exact BK277.out⟩, ⟨by repeat (first | (with_reducible first | exact HB.out | apply below_alloc | apply pw_below_drewN | apply below_drew1 | refine below_set ?_ GE277.out) | exact HB.out)⟩⟩}}
 {
 replace c12 := Bool.eq_false_iff.mpr c12
 subst c12
 have H1 : (impl_ValidPresence.j1 k1 l0_2 (l0_2.length : Int) x8_1 true l0_0 l0_1 l0_2) = some r := by rw [if_neg (show ¬ (false = true) by decide)] at H; exact H
 clear H
 have H := H1
 clear H1
 have H' := Aside0.mk H
 clear H
 have hnb26 := NB277_275.out
 have hnc26 := NB275_277.out
 have hcz27_0 : w8.cell? ⟨gb277, 0, none⟩ = some (.int .i64 0) := (blk_cell BK277.out 0).trans rfl
 have hcz27_1 : w8.cell? ⟨gb277, 1, none⟩ = some (.int .i64 0) := (blk_cell BK277.out 1).trans rfl
 have hfz27_0 := blk_frozen BK277.out 0
 have hfz27_1 := blk_frozen BK277.out 1
 go_wp2_with (first | (go_at_call 54; (with_reducible refine (impl_isMember.calls ((rd_T73 l0_2 x8_1).f0) false _ A11.out).mono ?_); rintro e w' ⟨rfl, ⟨nd, rfl⟩⟩; (try first | exact ⟨rfl, _, World.drewN_drewN _ _ _⟩ | exact ⟨rfl, _, Eq.trans (World.drewN_drewN _ _ _) (congrArg (World.drewN _) (Nat.add_assoc _ _ _))⟩)))
 repeat (go_quiet (first | (go_at_call 54; (with_reducible refine (impl_isMember.calls ((rd_T73 l0_2 x8_1).f0) false _ A11.out).mono ?_); rintro e w' ⟨rfl, ⟨nd, rfl⟩⟩; (try first | exact ⟨rfl, _, World.drewN_drewN _ _ _⟩ | exact ⟨rfl, _, Eq.trans (World.drewN_drewN _ _ _) (congrArg (World.drewN _) (Nat.add_assoc _ _ _))⟩))); try go_wp2_with (first | (go_at_call 54; (with_reducible refine (impl_isMember.calls ((rd_T73 l0_2 x8_1).f0) false _ A11.out).mono ?_); rintro e w' ⟨rfl, ⟨nd, rfl⟩⟩; (try first | exact ⟨rfl, _, World.drewN_drewN _ _ _⟩ | exact ⟨rfl, _, Eq.trans (World.drewN_drewN _ _ _) (congrArg (World.drewN _) (Nat.add_assoc _ _ _))⟩))))
 go_meet
 case rel => exact ⟨_, (true), s1_, H', ⟨by have := HK1.out; first | omega | exact Nat.le_refl _⟩, ⟨by (with_reducible repeat (first | refine blk_drewN ?_ _ | refine blk_drew ?_ | refine blk_alloc ?_ _)); refine blk_far ?_ NB275_277.out _; (with_reducible repeat (first | refine blk_drewN ?_ _ | refine blk_drew ?_ | refine blk_alloc ?_ _)); refine blk_far ?_ NB275_277.out _; (with_reducible repeat (first | refine blk_drewN ?_ _ | refine blk_drew ?_ | refine blk_alloc ?_ _)); exact BK275.out⟩, ⟨by (with_reducible repeat (first | refine blk_drewN ?_ _ | refine blk_drew ?_ | refine blk_alloc ?_ _)); refine blk_put (cs := #[.int .i64 ((rd_T73 l0_2 x8_1).f0), .int .i64 0]) ?_ 1 _ rfl; (with_reducible repeat (first | refine blk_drewN ?_ _ | refine blk_drew ?_ | refine blk_alloc ?_ _)); refine blk_put (cs := #[.int .i64 0, .int .i64 0]) ?_ 0 _ rfl; (with_reducible repeat (first | refine blk_drewN ?_ _ | refine blk_drew ?_ | refine blk_alloc ?_ _)); exact BK277.out⟩, ⟨by repeat (first | (with_reducible first | exact HB.out | apply below_alloc | apply pw_below_drewN | apply below_drew1 | refine below_set ?_ GE277.out) | exact HB.out)⟩⟩}}
 case rest =>
  skip
  {
 clear HC7
 try clear c1
 try clear c2
 try clear p2
 try clear q2
 try clear hx2
 try clear c4
 try clear c4b0
 try clear c5
 try clear c5b0
 try clear c6
 try clear c6b0
 try clear p6
 try clear c9
 try clear c12
 try clear c14
 try clear c15
 try clear c15b0
 try clear c17
 try clear c17b0
 try clear c18
 try clear c18b0
 try clear c19
 try clear c22
 try clear c24
 try clear c26
 try clear p27
 try clear q27
 try clear hx27
 try clear hcz10_0
 try clear hcz10_1
 try clear hcz20_0
 try clear hcz20_1
 try clear hcz21_0
 try clear hcz21_1
 try clear hcz21_2
 try clear hcz23_0
 try clear hcz23_1
 try clear hcz25_0
 try clear hcz25_1
 try clear hcz27_0
 try clear hcz27_1
 try clear hcz3_0
 try clear hcz3_1
 try clear hcz3_2
 try clear hfz10_0
 try clear hfz10_1
 try clear hfz20_0
 try clear hfz20_1
 try clear hfz21_0
 try clear hfz21_1
 try clear hfz21_2
 try clear hfz23_0
 try clear hfz23_1
 try clear hfz25_0
 try clear hfz25_1
 try clear hfz27_0
 try clear hfz27_1
 try clear hfz3_0
 try clear hfz3_1
 try clear hfz3_2
 try clear hx276_0
 try clear hx276_1
 try clear hx280_0
 try clear hx280_1
 try clear p2
 try clear p276
 try clear p280
 try clear q276
 try clear q280
 obtain ⟨kq, x38_6, rfl, HA, HJ6, BK275, BK277, HB⟩ := hcut
 cases kq with
 | zero => exact absurd HA.out (by simp [impl_ValidPresence.j1])
 | succ kj6 =>
  skip
  {
 have H := HA.out
 clear HA
 simp only [impl_ValidPresence.j1] at H
 by_cases c28 : x38_6 = true
 {
 subst c28
 have H1 : (some false) = some r := by rw [if_pos rfl] at H; exact H
 clear H
 have H := H1
 clear H1
 obtain rfl := Option.some.inj H
 go_wp2
 repeat (go_quiet (fail); try go_wp2)
 go_ret
 exact ⟨by first | rfl | (simp [errW_none, errW_some] <;> rfl) | (simp [*, errW_none, errW_some] <;> rfl), by repeat (first | (with_reducible first | exact HB.out | apply below_alloc | apply pw_below_drewN | apply below_drew1) | exact HB.out)⟩}
 {
 replace c28 := Bool.eq_false_iff.mpr c28
 subst c28
 have H1 : (impl_ValidPresence.l0 kj6 l0_2 (l0_2.length : Int) (wrap64 (x8_1 + 1)) l0_0 l0_1 l0_2) = some r := by rw [if_neg (show ¬ (false = true) by decide)] at H; exact H
 clear H
 have H := H1
 clear H1
 have H' := Aside0.mk H
 clear H
 go_wp2
 repeat (go_quiet (fail); try go_wp2)
 go_roundg kj6
 case measure => have := HK1.out; have := HJ6.out; omega
 case rel => exact ⟨(wrap64 (x8_1 + 1)), s1_, H', ⟨by have := HK1.out; have := HJ6.out; omega⟩, ⟨b1_ BK275.out⟩, ⟨by repeat (first | (with_reducible first | exact HB.out | apply below_alloc | apply pw_below_drewN | apply below_drew1) | exact HB.out)⟩⟩}}}}
 {
 rw [if_neg c6] at H
 exact absurd H (by simp)}}
 {
 rw [if_neg c5] at H
 exact absurd H (by simp)}}
 {
 rw [if_neg c4] at H
 have c4b0 : decide (x8_1 < (l0_2.length : Int)) = false := decide_eq_false c4
 clear c4
 replace H := Option.bind_eq_some_iff.mp H
 obtain ⟨t281, A290, H⟩ := H
 replace H : (if t281 = true then ((impl_leasesOk.f k1 l0_1).bind fun t282 => (if t282 = true then (some (decide ((l0_2.length : Int) ≤ 30))) else (some false))) else (some false)) = some r := H
 have A29 := Aside0.mk A290
 clear A290
 by_cases c30 : t281 = true
 {
 subst c30
 have H1 : ((impl_leasesOk.f k1 l0_1).bind fun t282 => (if t282 = true then (some (decide ((l0_2.length : Int) ≤ 30))) else (some false))) = some r := by rw [if_pos rfl] at H; exact H
 clear H
 have H := H1
 clear H1
 replace H := Option.bind_eq_some_iff.mp H
 obtain ⟨t282, A310, H⟩ := H
 replace H : (if t282 = true then (some (decide ((l0_2.length : Int) ≤ 30))) else (some false)) = some r := H
 have A31 := Aside0.mk A310
 clear A310
 by_cases c32 : t282 = true
 {
 subst c32
 have H1 : (some (decide ((l0_2.length : Int) ≤ 30))) = some r := by rw [if_pos rfl] at H; exact H
 clear H
 have H := H1
 clear H1
 obtain rfl := Option.some.inj H
 have hcz33_0 : wr.cell? ⟨gb275, 0, none⟩ = some (.slice A0_0 l0_0.length c0_0) := (blk_cell BK275.out 0).trans rfl
 have hcz33_1 : wr.cell? ⟨gb275, 1, none⟩ = some (.slice A0_1 l0_1.length c0_1) := (blk_cell BK275.out 1).trans rfl
 have hcz33_2 : wr.cell? ⟨gb275, 2, none⟩ = some (.slice A0_2 l0_2.length c0_2) := (blk_cell BK275.out 2).trans rfl
 have hfz33_0 := blk_frozen BK275.out 0
 have hfz33_1 := blk_frozen BK275.out 1
 have hfz33_2 := blk_frozen BK275.out 2
 go_wp2_with (first | (go_at_call 55; (with_reducible refine (impl_leasesOk.calls k1 _ _ l0_0 true _ ?side1 ?side2 A29.out).mono ?_); (case side1 => exact y2_ (Kd.C_below HR0_0.out HB.out)); (case side2 => exact HC0_0.out); rintro e w34 ⟨rfl, hb⟩; have n0_ := b3_ BK275 hb; have n1_ := Aside0.mk (below_step (y1_ HB.out) hb); clear BK275; clear HB; have BK275 := n0_; have HB := n1_; clear n0_ n1_; (try clear hb); (try clear hb2); (try clear hk); (try clear hi); have hcz35_0 : w34.cell? ⟨gb275, 0, none⟩ = some (.slice A0_0 l0_0.length c0_0) := (blk_cell BK275.out 0).trans rfl; have hcz35_1 : w34.cell? ⟨gb275, 1, none⟩ = some (.slice A0_1 l0_1.length c0_1) := (blk_cell BK275.out 1).trans rfl; have hcz35_2 : w34.cell? ⟨gb275, 2, none⟩ = some (.slice A0_2 l0_2.length c0_2) := (blk_cell BK275.out 2).trans rfl; have hfz35_0 := blk_frozen BK275.out 0; have hfz35_1 := blk_frozen BK275.out 1; have hfz35_2 := blk_frozen BK275.out 2) | (go_at_call 55; (with_reducible refine (impl_leasesOk.calls k1 _ _ l0_1 true _ ?side1 ?side2 A31.out).mono ?_); (case side1 => exact y2_ (Kd.C_below HR0_1.out HB.out)); (case side2 => exact HC0_1.out); rintro e w36 ⟨rfl, hb⟩; have n0_ := b3_ BK275 hb; have n1_ := Aside0.mk (below_step (y1_ HB.out) hb); clear BK275; clear HB; have BK275 := n0_; have HB := n1_; clear n0_ n1_; (try clear hb); (try clear hb2); (try clear hk); (try clear hi); have hcz37_0 : w36.cell? ⟨gb275, 0, none⟩ = some (.slice A0_0 l0_0.length c0_0) := (blk_cell BK275.out 0).trans rfl; have hcz37_1 : w36.cell? ⟨gb275, 1, none⟩ = some (.slice A0_1 l0_1.length c0_1) := (blk_cell BK275.out 1).trans rfl; have hcz37_2 : w36.cell? ⟨gb275, 2, none⟩ = some (.slice A0_2 l0_2.length c0_2) := (blk_cell BK275.out 2).trans rfl; have hfz37_0 := blk_frozen BK275.out 0; have hfz37_1 := blk_frozen BK275.out 1; have hfz37_2 := blk_frozen BK275.out 2))
 repeat (go_quiet (first | (go_at_call 55; (with_reducible refine (impl_leasesOk.calls k1 _ _ l0_0 true _ ?side1 ?side2 A29.out).mono ?_); (case side1 => exact y2_ (Kd.C_below HR0_0.out HB.out)); (case side2 => exact HC0_0.out); rintro e w34 ⟨rfl, hb⟩; have n0_ := b3_ BK275 hb; have n1_ := Aside0.mk (below_step (y1_ HB.out) hb); clear BK275; clear HB; have BK275 := n0_; have HB := n1_; clear n0_ n1_; (try clear hb); (try clear hb2); (try clear hk); (try clear hi); have hcz35_0 : w34.cell? ⟨gb275, 0, none⟩ = some (.slice A0_0 l0_0.length c0_0) := (blk_cell BK275.out 0).trans rfl; have hcz35_1 : w34.cell? ⟨gb275, 1, none⟩ = some (.slice A0_1 l0_1.length c0_1) := (blk_cell BK275.out 1).trans rfl; have hcz35_2 : w34.cell? ⟨gb275, 2, none⟩ = some (.slice A0_2 l0_2.length c0_2) := (blk_cell BK275.out 2).trans rfl; have hfz35_0 := blk_frozen BK275.out 0; have hfz35_1 := blk_frozen BK275.out 1; have hfz35_2 := blk_frozen BK275.out 2) | (go_at_call 55; (with_reducible refine (impl_leasesOk.calls k1 _ _ l0_1 true _ ?side1 ?side2 A31.out).mono ?_); (case side1 => exact y2_ (Kd.C_below HR0_1.out HB.out)); (case side2 => exact HC0_1.out); rintro e w36 ⟨rfl, hb⟩; have n0_ := b3_ BK275 hb; have n1_ := Aside0.mk (below_step (y1_ HB.out) hb); clear BK275; clear HB; have BK275 := n0_; have HB := n1_; clear n0_ n1_; (try clear hb); (try clear hb2); (try clear hk); (try clear hi); have hcz37_0 : w36.cell? ⟨gb275, 0, none⟩ = some (.slice A0_0 l0_0.length c0_0) := (blk_cell BK275.out 0).trans rfl; have hcz37_1 : w36.cell? ⟨gb275, 1, none⟩ = some (.slice A0_1 l0_1.length c0_1) := (blk_cell BK275.out 1).trans rfl; have hcz37_2 : w36.cell? ⟨gb275, 2, none⟩ = some (.slice A0_2 l0_2.length c0_2) := (blk_cell BK275.out 2).trans rfl; have hfz37_0 := blk_frozen BK275.out 0; have hfz37_1 := blk_frozen BK275.out 1; have hfz37_2 := blk_frozen BK275.out 2)); try go_wp2_with (first | (go_at_call 55; (with_reducible refine (impl_leasesOk.calls k1 _ _ l0_0 true _ ?side1 ?side2 A29.out).mono ?_); (case side1 => exact y2_ (Kd.C_below HR0_0.out HB.out)); (case side2 => exact HC0_0.out); rintro e w34 ⟨rfl, hb⟩; have n0_ := b3_ BK275 hb; have n1_ := Aside0.mk (below_step (y1_ HB.out) hb); clear BK275; clear HB; have BK275 := n0_; have HB := n1_; clear n0_ n1_; (try clear hb); (try clear hb2); (try clear hk); (try clear hi); have hcz35_0 : w34.cell? ⟨gb275, 0, none⟩ = some (.slice A0_0 l0_0.length c0_0) := (blk_cell BK275.out 0).trans rfl; have hcz35_1 : w34.cell? ⟨gb275, 1, none⟩ = some (.slice A0_1 l0_1.length c0_1) := (blk_cell BK275.out 1).trans rfl; have hcz35_2 : w34.cell? ⟨gb275, 2, none⟩ = some (.slice A0_2 l0_2.length c0_2) := (blk_cell BK275.out 2).trans rfl; have hfz35_0 := blk_frozen BK275.out 0; have hfz35_1 := blk_frozen BK275.out 1; have hfz35_2 := blk_frozen BK275.out 2) | (go_at_call 55; (with_reducible refine (impl_leasesOk.calls k1 _ _ l0_1 true _ ?side1 ?side2 A31.out).mono ?_); (case side1 => exact y2_ (Kd.C_below HR0_1.out HB.out)); (case side2 => exact HC0_1.out); rintro e w36 ⟨rfl, hb⟩; have n0_ := b3_ BK275 hb; have n1_ := Aside0.mk (below_step (y1_ HB.out) hb); clear BK275; clear HB; have BK275 := n0_; have HB := n1_; clear n0_ n1_; (try clear hb); (try clear hb2); (try clear hk); (try clear hi); have hcz37_0 : w36.cell? ⟨gb275, 0, none⟩ = some (.slice A0_0 l0_0.length c0_0) := (blk_cell BK275.out 0).trans rfl; have hcz37_1 : w36.cell? ⟨gb275, 1, none⟩ = some (.slice A0_1 l0_1.length c0_1) := (blk_cell BK275.out 1).trans rfl; have hcz37_2 : w36.cell? ⟨gb275, 2, none⟩ = some (.slice A0_2 l0_2.length c0_2) := (blk_cell BK275.out 2).trans rfl; have hfz37_0 := blk_frozen BK275.out 0; have hfz37_1 := blk_frozen BK275.out 1; have hfz37_2 := blk_frozen BK275.out 2)))
 go_ret
 exact ⟨by first | rfl | (simp [errW_none, errW_some] <;> rfl) | (simp [*, errW_none, errW_some] <;> rfl), by repeat (first | (with_reducible first | exact HB.out | apply below_alloc | apply pw_below_drewN | apply below_drew1) | exact HB.out)⟩}
 {
 replace c32 := Bool.eq_false_iff.mpr c32
 subst c32
 have H1 : (some false) = some r := by rw [if_neg (show ¬ (false = true) by decide)] at H; exact H
 clear H
 have H := H1
 clear H1
 obtain rfl := Option.some.inj H
 have hcz38_0 : wr.cell? ⟨gb275, 0, none⟩ = some (.slice A0_0 l0_0.length c0_0) := (blk_cell BK275.out 0).trans rfl
 have hcz38_1 : wr.cell? ⟨gb275, 1, none⟩ = some (.slice A0_1 l0_1.length c0_1) := (blk_cell BK275.out 1).trans rfl
 have hcz38_2 : wr.cell? ⟨gb275, 2, none⟩ = some (.slice A0_2 l0_2.length c0_2) := (blk_cell BK275.out 2).trans rfl
 have hfz38_0 := blk_frozen BK275.out 0
 have hfz38_1 := blk_frozen BK275.out 1
 have hfz38_2 := blk_frozen BK275.out 2
 go_wp2_with (first | (go_at_call 55; (with_reducible refine (impl_leasesOk.calls k1 _ _ l0_0 true _ ?side1 ?side2 A29.out).mono ?_); (case side1 => exact y2_ (Kd.C_below HR0_0.out HB.out)); (case side2 => exact HC0_0.out); rintro e w39 ⟨rfl, hb⟩; have n0_ := b3_ BK275 hb; have n1_ := Aside0.mk (below_step (y1_ HB.out) hb); clear BK275; clear HB; have BK275 := n0_; have HB := n1_; clear n0_ n1_; (try clear hb); (try clear hb2); (try clear hk); (try clear hi); have hcz40_0 : w39.cell? ⟨gb275, 0, none⟩ = some (.slice A0_0 l0_0.length c0_0) := (blk_cell BK275.out 0).trans rfl; have hcz40_1 : w39.cell? ⟨gb275, 1, none⟩ = some (.slice A0_1 l0_1.length c0_1) := (blk_cell BK275.out 1).trans rfl; have hcz40_2 : w39.cell? ⟨gb275, 2, none⟩ = some (.slice A0_2 l0_2.length c0_2) := (blk_cell BK275.out 2).trans rfl; have hfz40_0 := blk_frozen BK275.out 0; have hfz40_1 := blk_frozen BK275.out 1; have hfz40_2 := blk_frozen BK275.out 2) | (go_at_call 55; (with_reducible refine (impl_leasesOk.calls k1 _ _ l0_1 false _ ?side1 ?side2 A31.out).mono ?_); (case side1 => exact y2_ (Kd.C_below HR0_1.out HB.out)); (case side2 => exact HC0_1.out); rintro e w41 ⟨rfl, hb⟩; have n0_ := b3_ BK275 hb; have n1_ := Aside0.mk (below_step (y1_ HB.out) hb); clear BK275; clear HB; have BK275 := n0_; have HB := n1_; clear n0_ n1_; (try clear hb); (try clear hb2); (try clear hk); (try clear hi)))
 repeat (go_quiet (first | (go_at_call 55; (with_reducible refine (impl_leasesOk.calls k1 _ _ l0_0 true _ ?side1 ?side2 A29.out).mono ?_); (case side1 => exact y2_ (Kd.C_below HR0_0.out HB.out)); (case side2 => exact HC0_0.out); rintro e w39 ⟨rfl, hb⟩; have n0_ := b3_ BK275 hb; have n1_ := Aside0.mk (below_step (y1_ HB.out) hb); clear BK275; clear HB; have BK275 := n0_; have HB := n1_; clear n0_ n1_; (try clear hb); (try clear hb2); (try clear hk); (try clear hi); have hcz40_0 : w39.cell? ⟨gb275, 0, none⟩ = some (.slice A0_0 l0_0.length c0_0) := (blk_cell BK275.out 0).trans rfl; have hcz40_1 : w39.cell? ⟨gb275, 1, none⟩ = some (.slice A0_1 l0_1.length c0_1) := (blk_cell BK275.out 1).trans rfl; have hcz40_2 : w39.cell? ⟨gb275, 2, none⟩ = some (.slice A0_2 l0_2.length c0_2) := (blk_cell BK275.out 2).trans rfl; have hfz40_0 := blk_frozen BK275.out 0; have hfz40_1 := blk_frozen BK275.out 1; have hfz40_2 := blk_frozen BK275.out 2) | (go_at_call 55; (with_reducible refine (impl_leasesOk.calls k1 _ _ l0_1 false _ ?side1 ?side2 A31.out).mono ?_); (case side1 => exact y2_ (Kd.C_below HR0_1.out HB.out)); (case side2 => exact HC0_1.out); rintro e w41 ⟨rfl, hb⟩; have n0_ := b3_ BK275 hb; have n1_ := Aside0.mk (below_step (y1_ HB.out) hb); clear BK275; clear HB; have BK275 := n0_; have HB := n1_; clear n0_ n1_; (try clear hb); (try clear hb2); (try clear hk); (try clear hi))); try go_wp2_with (first | (go_at_call 55; (with_reducible refine (impl_leasesOk.calls k1 _ _ l0_0 true _ ?side1 ?side2 A29.out).mono ?_); (case side1 => exact y2_ (Kd.C_below HR0_0.out HB.out)); (case side2 => exact HC0_0.out); rintro e w39 ⟨rfl, hb⟩; have n0_ := b3_ BK275 hb; have n1_ := Aside0.mk (below_step (y1_ HB.out) hb); clear BK275; clear HB; have BK275 := n0_; have HB := n1_; clear n0_ n1_; (try clear hb); (try clear hb2); (try clear hk); (try clear hi); have hcz40_0 : w39.cell? ⟨gb275, 0, none⟩ = some (.slice A0_0 l0_0.length c0_0) := (blk_cell BK275.out 0).trans rfl; have hcz40_1 : w39.cell? ⟨gb275, 1, none⟩ = some (.slice A0_1 l0_1.length c0_1) := (blk_cell BK275.out 1).trans rfl; have hcz40_2 : w39.cell? ⟨gb275, 2, none⟩ = some (.slice A0_2 l0_2.length c0_2) := (blk_cell BK275.out 2).trans rfl; have hfz40_0 := blk_frozen BK275.out 0; have hfz40_1 := blk_frozen BK275.out 1; have hfz40_2 := blk_frozen BK275.out 2) | (go_at_call 55; (with_reducible refine (impl_leasesOk.calls k1 _ _ l0_1 false _ ?side1 ?side2 A31.out).mono ?_); (case side1 => exact y2_ (Kd.C_below HR0_1.out HB.out)); (case side2 => exact HC0_1.out); rintro e w41 ⟨rfl, hb⟩; have n0_ := b3_ BK275 hb; have n1_ := Aside0.mk (below_step (y1_ HB.out) hb); clear BK275; clear HB; have BK275 := n0_; have HB := n1_; clear n0_ n1_; (try clear hb); (try clear hb2); (try clear hk); (try clear hi))))
 go_ret
 exact ⟨by first | rfl | (simp [errW_none, errW_some] <;> rfl) | (simp [*, errW_none, errW_some] <;> rfl), by repeat (first | (with_reducible first | exact HB.out | apply below_alloc | apply pw_below_drewN | apply below_drew1) | exact HB.out)⟩}}
 {
 replace c30 := Bool.eq_false_iff.mpr c30
 subst c30
 have H1 : (some false) = some r := by rw [if_neg (show ¬ (false = true) by decide)] at H; exact H
 clear H
 have H := H1
 clear H1
 obtain rfl := Option.some.inj H
 have hcz42_0 : wr.cell? ⟨gb275, 0, none⟩ = some (.slice A0_0 l0_0.length c0_0) := (blk_cell BK275.out 0).trans rfl
 have hcz42_1 : wr.cell? ⟨gb275, 1, none⟩ = some (.slice A0_1 l0_1.length c0_1) := (blk_cell BK275.out 1).trans rfl
 have hcz42_2 : wr.cell? ⟨gb275, 2, none⟩ = some (.slice A0_2 l0_2.length c0_2) := (blk_cell BK275.out 2).trans rfl
 have hfz42_0 := blk_frozen BK275.out 0
 have hfz42_1 := blk_frozen BK275.out 1
 have hfz42_2 := blk_frozen BK275.out 2
 go_wp2_with (first | (go_at_call 55; (with_reducible refine (impl_leasesOk.calls k1 _ _ l0_0 false _ ?side1 ?side2 A29.out).mono ?_); (case side1 => exact y2_ (Kd.C_below HR0_0.out HB.out)); (case side2 => exact HC0_0.out); rintro e w43 ⟨rfl, hb⟩; have n0_ := b3_ BK275 hb; have n1_ := Aside0.mk (below_step (y1_ HB.out) hb); clear BK275; clear HB; have BK275 := n0_; have HB := n1_; clear n0_ n1_; (try clear hb); (try clear hb2); (try clear hk); (try clear hi)))
 repeat (go_quiet (first | (go_at_call 55; (with_reducible refine (impl_leasesOk.calls k1 _ _ l0_0 false _ ?side1 ?side2 A29.out).mono ?_); (case side1 => exact y2_ (Kd.C_below HR0_0.out HB.out)); (case side2 => exact HC0_0.out); rintro e w43 ⟨rfl, hb⟩; have n0_ := b3_ BK275 hb; have n1_ := Aside0.mk (below_step (y1_ HB.out) hb); clear BK275; clear HB; have BK275 := n0_; have HB := n1_; clear n0_ n1_; (try clear hb); (try clear hb2); (try clear hk); (try clear hi))); try go_wp2_with (first | (go_at_call 55; (with_reducible refine (impl_leasesOk.calls k1 _ _ l0_0 false _ ?side1 ?side2 A29.out).mono ?_); (case side1 => exact y2_ (Kd.C_below HR0_0.out HB.out)); (case side2 => exact HC0_0.out); rintro e w43 ⟨rfl, hb⟩; have n0_ := b3_ BK275 hb; have n1_ := Aside0.mk (below_step (y1_ HB.out) hb); clear BK275; clear HB; have BK275 := n0_; have HB := n1_; clear n0_ n1_; (try clear hb); (try clear hb2); (try clear hk); (try clear hi))))
 go_ret
 exact ⟨by first | rfl | (simp [errW_none, errW_some] <;> rfl) | (simp [*, errW_none, errW_some] <;> rfl), by repeat (first | (with_reducible first | exact HB.out | apply below_alloc | apply pw_below_drewN | apply below_drew1) | exact HB.out)⟩}}}}

/-! ### impl_Lease: function 113 -/
def impl_Lease.f (l0 : List (S63)) : Option (List (S63)) := if l0.length < 8796093022208 then some l0 else none
set_option maxHeartbeats 8000000 in
set_option maxRecDepth 100000 in
theorem impl_Lease.calls (A0 : Option Addr) (c0 : Nat) (l0 : List (S63)) (r : List (S63)) (w : World) (hr0 : Kd.C k63 w A0 l0.length l0) (hc0 : l0.length ≤ c0) (h : impl_Lease.f l0 = some r) :
    Calls Try.prog 113 #[.slice A0 l0.length c0] w fun e w' => ∃ v0_ : Value, e = .returned (v0_) ∧ Kd.R k63 63 w' w.heap.size (fun _ => True) v0_ r ∧ Below w.heap.size w w' := by
  have hl : l0.length < 8796093022208 := by
    unfold impl_Lease.f at h
    split at h
    · assumption
    · cases h
  obtain rfl : l0 = r := by
    unfold impl_Lease.f at h
    rw [if_pos hl] at h
    exact Option.some.inj h
  clear h
  have HR0 := Aside0.mk hr0
  have HC0 := Aside0.mk hc0
  have LM := Aside0.mk hl
  clear hr0 hc0 hl
  have HB := Aside0.mk (Below.refl w.heap.size w)
  cases A0 with
  | none =>
    have hn : l0 = [] := by
      have h1 := HR0.out.1
      have h2 := HR0.out.2.2
      rcases Nat.eq_zero_or_pos l0.length with h3 | h3
      · exact List.eq_nil_of_length_eq_zero h3
      · obtain ⟨ad, e, _⟩ := h2 h3
        cases e
    subst hn
    have hnil : ∀ W : World, (binOp .eql 24 (.slice none 0 c0) (.slice none 0 0)).run Try.prog W = .ok (.bool true) W := fun W => Lib.run_eql_slice_nil (P := Try.prog) W 24 63 none 0 c0 0 0 Try.underlying24
    simp only [List.length_nil]
    go_enter Try.func113, Try.ntmps113
    go_wp2
    go_ret
    exact ⟨_, rfl, Kd.R_nil _ _ _ _ _, HB.out⟩
  | some ad =>
    have hnil : ∀ W : World, (binOp .eql 24 (.slice (some ad) l0.length c0) (.slice none 0 0)).run Try.prog W = .ok (.bool false) W := fun W => Lib.run_eql_slice_nil (P := Try.prog) W 24 63 (some ad) l0.length c0 0 0 Try.underlying24
    go_enter Try.func113, Try.ntmps113
    go_wp2_with (first
      | ((with_reducible refine gate_dst (N := 5) rfl ?_); refine Kd.R_lit k63 (w0 := w) w.heap.size 63 ?hg (N := 5) ?hd (xs := ([] : List (S63))) (inner := []) (ok := fun _ => True) (okp := fun _ => True) ?hr ?hp (fun _ hk => hk) trivial (Below.refl _ _) (Nat.le_refl _) (by simp) ?_; (case hd => rfl); (case hg => rfl); (case hr => first | (go_simp; done) | (go_simp; rfl)); (case hp => exact (Reps.none _ _)); intro v1 w1 ho hb hg_ hnew_; have HO1 := Aside0.mk ho; have HB1 := Aside0.mk hb; have HR1 := Aside0.mk (Kd.C_below HR0.out hb); clear ho hb hg_ hnew_)
      | ((with_reducible refine gate_builtin (b := .append) (xs := #[.tmp 5, .tmp 6]) rfl ?_); at_builtin; refine Kd.R_append_rows k63 (w0 := w) w.heap.size rfl (.tmp 5) (.tmp 6) 24 63 (.agg #[(.int .i64 0), (.int .i64 0)]) 16 rfl Try.underlying24 info63 rfl (by decide) (by omega) v1 ([] : List (S63)) l0 _ _ _ (fun _ => True) (fun _ => False) rfl rfl ?aO ?aR (fun _ _ h => h) (fun _ h => h.elim) ?aF ?aB ?aS ?aL ?_; (case aO => exact HO1.out); (case aR => exact HR1.out); (case aF => exact fun _ _ => trivial); (case aB => exact HB1.out); (case aS => exact HB1.out.size); (case aL => have := LM.out; simp; omega); intro v2 w2 ho hb hg hat; have HO2 := Aside0.mk ho; have HB2 := Aside0.mk hb; clear ho hb hg hat; clear HO1 HB1 HR1))
    go_ret
    exact ⟨_, rfl, HO2.out, HB2.out⟩

end Go.Proofs.Ytgfilednbllkmaa.QFnExactReadUpTo
