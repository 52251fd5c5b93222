-- written by a program of this session, on the lines of the kit's print
import Derived.Test.YtcnhepjdibbkgaaQFnExactDropFromx0
import Derived.Test.YtcnhepjdibbkgaaQFnExactDropFromx3
import Derived.Test.YtcnhepjdibbkgaaQFnExactDropFromx4
namespace Go.Proofs.Ytcnhepjdibbkgaa.QFnExactDropFrom
open Go.RowKit Go.Proofs.YtcnhepjdibbkgaaW.PrintWords Go.Proofs.YtcnhepjdibbkgaaW.PrintLast Go.Proofs.YtcnhepjdibbkgaaW.PrintMore
attribute [local go_sem] max2_int min2_int max_two min_two max_three min_three max_four min_four   -- for this text's walks alone
set_option linter.unusedVariables false
set_option linter.unusedSimpArgs false

/-! ### spec_DropFrom: function 40 -/
abbrev spec_DropFrom.T : Bool := true
abbrev spec_DropFrom.F : Bool := false
mutual
def spec_DropFrom.j0 : Nat → Int → Bool → List (S63) → Option ((List (S63)) × Bool)
  | 0, _, _, _ => none
  | k + 1, x1, x16, x159000 => if x16 = true then (some (([] : List (S63)), false)) else (spec_DropFrom.l0 k x1 0 x159000 (([] : List (S63))))
def spec_DropFrom.l0 : Nat → Int → Int → List (S63) → List (S63) → Option ((List (S63)) × Bool)
  | 0, _, _, _, _ => none
  | k + 1, x1, x7, x159000, x166000 => if x7 < (x159000.length : Int) then (spec_DropFrom.l1 k x1 x7 (([] : List Int)) 0 x159000 x166000) else (some (x166000, true))
def spec_DropFrom.l1 : Nat → Int → Int → List Int → Int → List (S63) → List (S63) → Option ((List (S63)) × Bool)
  | 0, _, _, _, _, _, _ => none
  | k + 1, x1, x7, x8, x9, x159000, x166000 => if 0 ≤ x7 then (if x7 < (x159000.length : Int) then (if x9 < (((rd_T63 x159000 x7).f1).length : Int) then (if 0 ≤ x9 then (if (rd ((rd_T63 x159000 x7).f1) x9) = x1 then (spec_DropFrom.l1 k x1 x7 x8 (wrap64 (x9 + 1)) x159000 x166000) else (if x8.length < 17592186044416 then (spec_DropFrom.l1 k x1 x7 (x8 ++ [rd ((rd_T63 x159000 x7).f1) x9]) (wrap64 (x9 + 1)) x159000 x166000) else (none))) else (none)) else (if (x8.length : Int) > 0 then (if x166000.length < 3518437208883 then (spec_DropFrom.l0 k x1 (wrap64 (x7 + 1)) x159000 (x166000 ++ [(⟨(rd_T63 x159000 x7).f0, x8⟩ : S63)])) else (none)) else (spec_DropFrom.l0 k x1 (wrap64 (x7 + 1)) x159000 x166000))) else (none)) else (none)
end
def spec_DropFrom.f (k : Nat) (l0_0 : List (S63)) (a1 : Int) : Option ((List (S63)) × Bool) := (spec_l08Is.f k l0_0).bind fun t160 => (if t160 = true then ((spec_l00In.f a1 1 1000000000).bind fun t161 => (spec_DropFrom.j0 k a1 (!t161) l0_0)) else (spec_DropFrom.j0 k a1 true l0_0))
theorem spec_DropFrom.mono_l : ∀ k, (∀ y0 y1 y2, LeO (spec_DropFrom.j0 k y0 y1 y2) (spec_DropFrom.j0 (k + 1) y0 y1 y2)) ∧ (∀ y0 y1 y2 y3, LeO (spec_DropFrom.l0 k y0 y1 y2 y3) (spec_DropFrom.l0 (k + 1) y0 y1 y2 y3)) ∧ (∀ y0 y1 y2 y3 y4 y5, LeO (spec_DropFrom.l1 k y0 y1 y2 y3 y4 y5) (spec_DropFrom.l1 (k + 1) y0 y1 y2 y3 y4 y5))
  | 0 => ⟨fun _ _ _ r h => by simp [spec_DropFrom.j0] at h, fun _ _ _ _ r h => by simp [spec_DropFrom.l0] at h, fun _ _ _ _ _ _ r h => by simp [spec_DropFrom.l1] at h⟩
  | k + 1 => by
    obtain ⟨ih0, ih1, ih2⟩ := spec_DropFrom.mono_l k
    refine ⟨?_, ?_, ?_⟩
    · intro y0 y1 y2
      unfold spec_DropFrom.j0
      repeat' first
      | (with_reducible exact ih0 _ _ _)
      | (with_reducible exact ih1 _ _ _ _)
      | (with_reducible exact ih2 _ _ _ _ _ _)
      | (with_reducible exact spec_l08Is.mono _ _)
      | (with_reducible exact LeO.refl _)
      | (with_reducible exact LeO.none _)
      | (with_reducible refine LeO.ite ?_ ?_)
      | (with_reducible refine LeO.bind ?_ (fun _ => ?_))
      | exact ih0 _ _ _
      | exact ih1 _ _ _ _
      | exact ih2 _ _ _ _ _ _
      | exact spec_l08Is.mono _ _
      | exact LeO.none _
      | refine LeO.ite ?_ ?_
      | refine LeO.bind ?_ (fun _ => ?_)
    · intro y0 y1 y2 y3
      unfold spec_DropFrom.l0
      repeat' first
      | (with_reducible exact ih0 _ _ _)
      | (with_reducible exact ih1 _ _ _ _)
      | (with_reducible exact ih2 _ _ _ _ _ _)
      | (with_reducible exact spec_l08Is.mono _ _)
      | (with_reducible exact LeO.refl _)
      | (with_reducible exact LeO.none _)
      | (with_reducible refine LeO.ite ?_ ?_)
      | (with_reducible refine LeO.bind ?_ (fun _ => ?_))
      | exact ih0 _ _ _
      | exact ih1 _ _ _ _
      | exact ih2 _ _ _ _ _ _
      | exact spec_l08Is.mono _ _
      | exact LeO.none _
      | refine LeO.ite ?_ ?_
      | refine LeO.bind ?_ (fun _ => ?_)
    · intro y0 y1 y2 y3 y4 y5
      unfold spec_DropFrom.l1
      repeat' first
      | (with_reducible exact ih0 _ _ _)
      | (with_reducible exact ih1 _ _ _ _)
      | (with_reducible exact ih2 _ _ _ _ _ _)
      | (with_reducible exact spec_l08Is.mono _ _)
      | (with_reducible exact LeO.refl _)
      | (with_reducible exact LeO.none _)
      | (with_reducible refine LeO.ite ?_ ?_)
      | (with_reducible refine LeO.bind ?_ (fun _ => ?_))
      | exact ih0 _ _ _
      | exact ih1 _ _ _ _
      | exact ih2 _ _ _ _ _ _
      | exact spec_l08Is.mono _ _
      | exact LeO.none _
      | refine LeO.ite ?_ ?_
      | refine LeO.bind ?_ (fun _ => ?_)
theorem spec_DropFrom.mono : ∀ a0 a1 k, LeO (spec_DropFrom.f k a0 a1) (spec_DropFrom.f (k + 1) a0 a1) := by
  intro a0 a1 k
  obtain ⟨ih0, ih1, ih2⟩ := spec_DropFrom.mono_l k
  unfold spec_DropFrom.f
  repeat' first
      | (with_reducible exact ih0 _ _ _)
      | (with_reducible exact ih1 _ _ _ _)
      | (with_reducible exact ih2 _ _ _ _ _ _)
      | (with_reducible exact spec_l08Is.mono _ _)
      | (with_reducible exact LeO.refl _)
      | (with_reducible exact LeO.none _)
      | (with_reducible refine LeO.ite ?_ ?_)
      | (with_reducible refine LeO.bind ?_ (fun _ => ?_))
      | exact ih0 _ _ _
      | exact ih1 _ _ _ _
      | exact ih2 _ _ _ _ _ _
      | exact spec_l08Is.mono _ _
      | exact LeO.none _
      | refine LeO.ite ?_ ?_
      | refine LeO.bind ?_ (fun _ => ?_)
def spec_DropFrom.T14 : Bool × List (List Nat × List Nat) := (true, [([], []), ([0], [0]), ([], []), ([2], [2]), ([], []), ([3, 4], [3, 4]), ([5], [5]), ([6], [6]), ([], []), ([7, 8], [7, 8]), ([9], [9]), ([1, 10], [1, 10]), ([0, 1, 2, 3, 4, 5, 6, 7, 8, 9, 10, 11], []), ([12, 11, 11, 0, 1, 2, 3, 4, 5, 6, 7, 8, 9, 10, 11], [11, 12])])
def spec_DropFrom.B14 : List Nat := [0, 1, 0, 4, 0, 28, 60, 124, 0, 508, 1020, 2047, 4095, 8191]
theorem spec_DropFrom.tab14 : rtab .any (opsOf Try.f40 14) = spec_DropFrom.T14 := by kernel_rfl
theorem spec_DropFrom.bits14 : waitsOk spec_DropFrom.T14.2 spec_DropFrom.B14 = true := by kernel_rfl
set_option maxHeartbeats 8000000 in
set_option maxRecDepth 100000 in
theorem spec_DropFrom.calls (k : Nat) (A0_0 : Option Addr) (c0_0 : Nat) (l0_0 : List (S63)) (a1 : Int) (r1 : List (S63)) (r2 : Bool) (w : World) (hr0_0 : Kd.C k63 w A0_0 l0_0.length l0_0) (hc0_0 : l0_0.length ≤ c0_0) (h : spec_DropFrom.f k l0_0 a1 = some (r1, r2)) :
    Calls Try.prog 40 #[.agg #[.slice A0_0 l0_0.length c0_0], .int .i64 a1] w fun e w' => ∃ v0_ : Value, e = .returned (.tuple #[.agg #[v0_], .bool r2]) ∧ Kd.S k63 63 w' w.heap.size (fun _ => True) v0_ r1 ∧ Below w.heap.size w w' := by
 have hu29 := Try.underlying29
 have hu63 := Try.underlying63
 have HR0_0 := A_ hr0_0
 have HC0_0 := A_ hc0_0
 clear hr0_0 hc0_0
 have HB := A_ (Below.refl w.heap.size w)
 have H : ((spec_l08Is.f k l0_0).bind fun t160 => (if t160 = true then ((spec_l00In.f a1 1 1000000000).bind fun t161 => (spec_DropFrom.j0 k a1 (!t161) l0_0)) else (spec_DropFrom.j0 k a1 true l0_0))) = some (r1, r2) := h
 clear h
 have HC3 := A_ H
 clear H
 go_enter Try.func40, Try.ntmps40
 go_upto_region 1 with (first | ((with_reducible refine gate_dst (N := 2) rfl ?_); refine bx_ 2 #[.slice A0_0 l0_0.length c0_0] 29 ?_; intro gb158 hg w4 hbox hb; have GW158 := b6_ hg HB; have GE158 := b6_ hg HB; replace HB := A_ (below_step (y1_ HB.out) hb); have BK158 := A_ (hbox); clear hb hbox hg) | ((with_reducible refine gate_dst (N := 4) rfl ?_); refine bx_ 4 #[.slice none 0 0] 29 ?_; intro gb159 hg w5 hbox hb; have GW159 := b6_ hg HB; have GE159 := b6_ hg HB; have NB158_159 := b4_ hg BK158; have NB159_158 := b5_ hg BK158; replace BK158 := b3_ BK158 hb; replace HB := A_ (below_step (y1_ HB.out) hb); have BK159 := A_ (hbox); clear hb hbox hg))
 (try simp only [Act.put, List.setIfInBounds_toArray, List.set_cons_zero, List.set_cons_succ])
 go_cut [16] (fun v16 wc => ∃ (kq : Nat) (x16_2 : Bool), v16 = .bool x16_2 ∧ Aside0 (spec_DropFrom.j0 kq a1 x16_2 l0_0 = some (r1, r2)) ∧ Aside0 (kq ≤ k) ∧ Aside0 (wc.heap[gb158]? = some (.cells #[(.slice A0_0 l0_0.length c0_0)] 29 (0, 0))) ∧ Aside0 (wc.heap[gb159]? = some (.cells #[(.slice none 0 0)] 29 (0, 0))) ∧ Aside0 (Below w.heap.size w wc))
 case first =>
  skip
  {
 have H := HC3.out
 clear HC3
 replace H := Option.bind_eq_some_iff.mp H
 obtain ⟨t160, A60, H⟩ := H
 replace H : (if t160 = true then ((spec_l00In.f a1 1 1000000000).bind fun t161 => (spec_DropFrom.j0 k a1 (!t161) l0_0)) else (spec_DropFrom.j0 k a1 true l0_0)) = some (r1, r2) := H
 have A6 := A_ A60
 clear A60
 by_cases c7 : t160 = true
 {
 subst c7
 have H1 : ((spec_l00In.f a1 1 1000000000).bind fun t161 => (spec_DropFrom.j0 k a1 (!t161) l0_0)) = some (r1, r2) := by rw [if_pos rfl] at H; exact H
 clear H
 have H := H1
 clear H1
 replace H := Option.bind_eq_some_iff.mp H
 obtain ⟨t161, A80, H⟩ := H
 replace H : (spec_DropFrom.j0 k a1 (!t161) l0_0) = some (r1, r2) := H
 have A8 := A_ A80
 clear A80
 have H' := A_ H
 clear H
 go_wp2_with (first | ((with_reducible refine gate_callee (f := 50) rfl ?_); refine goesL_ (some 10) rfl rfl Try.func50 s2_ rfl #[.pointer (some ⟨gb158, 0, none⟩)] rfl (by (try simp only [List.map_toArray, List.map_cons, List.map_nil]); first | done | rfl | (simp only [List.length_drop, List.length_take]; rfl)) ?_; (with_reducible refine (spec_l08Is.calls k gb158 A0_0 c0_0 l0_0 true _ ?side1 ?side2 ?side3 A6.out).mono ?_); (case side1 => exact (b1_ BK158.out)); (case side2 => repeat (first | exact (Kd.C_below HR0_0.out HB.out) | (with_reducible refine Kd.C_alloc ?_ _) | (with_reducible refine Kd.C_drewN ?_ _) | (with_reducible refine Kd.C_drew ?_))); (case side3 => exact HC0_0.out); rintro e w9 ⟨rfl, hb⟩; refine ⟨_, rfl, ?_⟩; replace BK158 := b3_ BK158 hb; replace BK159 := b3_ BK159 hb; replace HB := A_ (below_step (y1_ HB.out) hb); (try clear hb); (try clear hb2); (try clear hk); (try clear hi)) | (go_at_call 68; (with_reducible refine (spec_l00In.calls a1 1 1000000000 t161 _ A8.out).mono ?_); rintro e w' ⟨rfl, ⟨nd, rfl⟩⟩))
 go_meet
 case rel => exact ⟨_, (!t161), s1_, H', ⟨by first | omega | exact Nat.le_refl _⟩, ⟨b1_ BK158.out⟩, ⟨b1_ BK159.out⟩, ⟨y1_ HB.out⟩⟩}
 {
 replace c7 := Bool.eq_false_iff.mpr c7
 subst c7
 have H1 : (spec_DropFrom.j0 k a1 true l0_0) = some (r1, r2) := by rw [if_neg (show ¬ (false = true) by decide)] at H; exact H
 clear H
 have H := H1
 clear H1
 have H' := A_ H
 clear H
 go_wp2_with (first | ((with_reducible refine gate_callee (f := 50) rfl ?_); refine goesL_ (some 10) rfl rfl Try.func50 s2_ rfl #[.pointer (some ⟨gb158, 0, none⟩)] rfl (by (try simp only [List.map_toArray, List.map_cons, List.map_nil]); first | done | rfl | (simp only [List.length_drop, List.length_take]; rfl)) ?_; (with_reducible refine (spec_l08Is.calls k gb158 A0_0 c0_0 l0_0 false _ ?side1 ?side2 ?side3 A6.out).mono ?_); (case side1 => exact (b1_ BK158.out)); (case side2 => repeat (first | exact (Kd.C_below HR0_0.out HB.out) | (with_reducible refine Kd.C_alloc ?_ _) | (with_reducible refine Kd.C_drewN ?_ _) | (with_reducible refine Kd.C_drew ?_))); (case side3 => exact HC0_0.out); rintro e w10 ⟨rfl, hb⟩; refine ⟨_, rfl, ?_⟩; replace BK158 := b3_ BK158 hb; replace BK159 := b3_ BK159 hb; replace HB := A_ (below_step (y1_ HB.out) hb); (try clear hb); (try clear hb2); (try clear hk); (try clear hi)))
 go_meet
 case rel => exact ⟨_, (true), s1_, H', ⟨by first | omega | exact Nat.le_refl _⟩, ⟨b1_ BK158.out⟩, ⟨b1_ BK159.out⟩, ⟨y1_ HB.out⟩⟩}}
 case rest =>
  skip
  {
 clear HC3
 try clear p2
 try clear c4
 try clear c5
 try clear c7
 obtain ⟨kq, x16_2, rfl, HA, HJ2, BK158, BK159, HB⟩ := hcut
 cases kq with
 | zero => exact absurd HA.out (by simp [spec_DropFrom.j0])
 | succ kj2 =>
  skip
  {
 have H := HA.out
 clear HA
 simp only [spec_DropFrom.j0] at H
 by_cases c11 : x16_2 = true
 {
 subst c11
 have H1 : (some (([] : List (S63)), false)) = some (r1, r2) := by rw [if_pos rfl] at H; exact H
 clear H
 have H := H1
 clear H1
 simp only [Option.some.injEq, Prod.mk.injEq] at H
 obtain ⟨rfl, rfl⟩ := H
 have hnb12 := NB159_158.out
 have hnc12 := NB158_159.out
 have hcz13_0 := c1_ BK159 0 (.slice none 0 0)
 have hfz13_0 := f1_ BK159 0
 go_wp2
 refine bodyPost_ret (results_ct rfl _ _ gb159 29 #[.slice none 0 0] (0, 0) _ rfl (by refine b1_ ?_; refine blk_put (cs := #[.slice none 0 0]) ?_ 0 _ rfl; refine b1_ ?_; exact BK159.out) Try.underlying29 rfl s2_) rfl ?_
 exact ⟨_, e1_, by first | exact Kd.S_nil _ _ _ _ _ | exact Kd.N_nil _ _ _ _ _ | exact Kd.V_nil _ _ _ _ _ | exact Kd.Q_nil _ _ _ _ _ | exact Kd.R_nil _ _ _ _ _, by repeat (first | (with_reducible first | exact HB.out | apply below_alloc | apply pw_below_drewN | apply below_drew1 | refine below_set ?_ GE159.out) | exact HB.out)⟩}
 {
 replace c11 := Bool.eq_false_iff.mpr c11
 subst c11
 have H1 : (spec_DropFrom.l0 kj2 a1 0 l0_0 (([] : List (S63)))) = some (r1, r2) := by rw [if_neg (show ¬ (false = true) by decide)] at H; exact H
 clear H
 have H := H1
 clear H1
 obtain ⟨y162, hy162⟩ : ∃ y_ : List (S63), y_ = (([] : List (S63))) := ⟨_, rfl⟩
 replace H : (spec_DropFrom.l0 kj2 a1 0 l0_0 y162) = some (r1, r2) := by first | (rw [hy162]; with_reducible exact H) | (have H2_ := (Option.bind_some _ _).symm.trans H; rw [hy162]; with_reducible exact H2_) | (have H2_ := (Option.bind_some _ _).symm.trans H; with_reducible exact H2_) | with_reducible exact H | (rw [hy162]; exact H) | exact H
 have Ny162 := A_ hy162
 clear hy162
 have H' := A_ H
 clear H
 go_wp2_with (first | ((with_reducible refine gate_dst (N := 18) rfl ?_); refine Kd.S_lit k63 _ 63 ?hg (N := 18) ?hd (xs := ([] : List (S63))) (inner := []) (ok := fun _ => True) (okp := fun _ => True) ?hr ?hp (fun _ hk => hk) trivial (Below.refl _ _) (Nat.le_refl _) (by simp) ?_; (case hd => rfl); (case hg => rfl); (case hr => first | (go_simp; done) | (go_simp; rfl)); (case hp => exact (Reps.none _ _)); intro v163 w14 ho15 hb hg_ hnew_; clear hg_ hnew_; (first | rw [← Ny162.out] at ho15 | (simp only [Int.reduceToNat] at ho15; rw [← Ny162.out] at ho15)); have HO164 := A_ (Kd.S_lower ho15 (below_size (y1_ HB.out))); replace BK158 := b3_ BK158 hb; replace BK159 := b3_ BK159 hb; replace HB := A_ (below_step (y1_ HB.out) hb); clear hb ho15; obtain ⟨Ao16, co16, eo16⟩ := Kd.S_slice HO164.out; subst eo16) | ((with_reducible refine gate_dst (N := 6) rfl ?_); refine bx_ 6 #[.slice none 0 0] 29 ?_; intro gb165 hg w17 hbox hb; have GW165 := b6_ hg HB; have GE165 := b6_ hg HB; have NB158_165 := b4_ hg BK158; have NB165_158 := b5_ hg BK158; have NB159_165 := b4_ hg BK159; have NB165_159 := b5_ hg BK159; replace HO164 := A_ (Kd.S_below (by (with_reducible repeat (first | apply Kd.S_alloc | apply Kd.S_drewN | apply Kd.S_drew)); exact HO164.out) hb); replace BK158 := b3_ BK158 hb; replace BK159 := b3_ BK159 hb; replace HB := A_ (below_step (y1_ HB.out) hb); have BK165 := A_ (hbox); clear hb hbox hg; have hnb18 := NB165_158.out; have hnc18 := NB158_165.out; have hnb19 := NB165_159.out; have hnc19 := NB159_165.out; have hcz20_0 := c1_ BK165 0 (.slice none 0 0); have hfz20_0 := f1_ BK165 0))
 go_loopg [7] kj2 (fun kq v7 w' => ∃ (x7_2 : Int) (x166000_2 : List (S63)) (u166000 : Value), v7 = .int .i64 x7_2 ∧ Aside0 (spec_DropFrom.l0 kq a1 x7_2 l0_0 x166000_2 = some (r1, r2)) ∧ Aside0 (kq ≤ kj2) ∧ Aside0 (Kd.S k63 63 w' w.heap.size (fun _ => True) u166000 x166000_2) ∧ Aside0 (w'.heap[gb158]? = some (.cells #[(.slice A0_0 l0_0.length c0_0)] 29 (0, 0))) ∧ Aside0 (w'.heap[gb159]? = some (.cells #[(.slice none 0 0)] 29 (0, 0))) ∧ Aside0 (w'.heap[gb165]? = some (.cells #[u166000] 29 (0, 0))) ∧ Aside0 (Below w.heap.size w w'))
 case atStart => exact ⟨(0), (y162), (.slice Ao16 y162.length co16), s1_, H', ⟨Nat.le_refl _⟩, ⟨by (with_reducible repeat (first | apply Kd.S_alloc | apply Kd.S_drewN | apply Kd.S_drew)); exact Kd.S_mono (Kd.S_far (p := ⟨gb165, 0, none⟩) (Kd.S_types HO164.out BK165.out (by decide)) (fun _ hk => hk.2) (.slice Ao16 y162.length co16)) (fun _ hk => trivial)⟩, ⟨by refine b1_ ?_; refine blk_far ?_ NB158_165.out _; refine b1_ ?_; exact BK158.out⟩, ⟨by refine b1_ ?_; refine blk_far ?_ NB159_165.out _; refine b1_ ?_; exact BK159.out⟩, ⟨by refine b1_ ?_; refine blk_put (cs := #[.slice none 0 0]) ?_ 0 _ rfl; refine b1_ ?_; exact BK165.out⟩, ⟨by repeat (first | (with_reducible first | exact HB.out | apply below_alloc | apply pw_below_drewN | apply below_drew1 | refine below_set ?_ GE165.out) | exact HB.out)⟩⟩
 case round =>
  skip
  {
 clear H'
 try clear c1
 try clear p2
 try clear c4
 try clear c5
 try clear c7
 try clear c11
 try clear c12
 try clear c18
 try clear c19
 try clear hcz13_0
 try clear hcz20_0
 try clear hfz13_0
 try clear hfz20_0
 try clear p2
 obtain ⟨x7_2, x166000_2, u166000, rfl, HA, HK2, HO_166000, BK158, BK159, BK165, HB⟩ := hrel
 cases gk with
 | zero => exact absurd HA.out (by simp [spec_DropFrom.l0])
 | succ k2 =>
  skip
  {
 have H := HA.out
 clear HA
 simp only [spec_DropFrom.l0] at H
 by_cases c21 : x7_2 < (l0_0.length : Int)
 {
 rw [if_pos c21] at H
 have c21b0 : decide (x7_2 < (l0_0.length : Int)) = true := decide_eq_true c21
 clear c21
 obtain ⟨y166, hy166⟩ : ∃ y_ : List Int, y_ = (([] : List Int)) := ⟨_, rfl⟩
 replace H : (spec_DropFrom.l1 k2 a1 x7_2 y166 0 l0_0 x166000_2) = some (r1, r2) := by first | (rw [hy166]; with_reducible exact H) | (have H2_ := (Option.bind_some _ _).symm.trans H; rw [hy166]; with_reducible exact H2_) | (have H2_ := (Option.bind_some _ _).symm.trans H; with_reducible exact H2_) | with_reducible exact H | (rw [hy166]; exact H) | exact H
 have Ny166 := A_ hy166
 clear hy166
 have H' := A_ H
 clear H
 have hnb22 := NB158_159.out
 have hnc22 := NB159_158.out
 have hnb23 := NB158_165.out
 have hnc23 := NB165_158.out
 have hcz24_0 := c1_ BK158 0 (.slice A0_0 l0_0.length c0_0)
 have hfz24_0 := f1_ BK158 0
 go_wp2_with (first | ((with_reducible refine gate_dst (N := 27) rfl ?_); refine Kd.R_lit (Kd.int .i64) _ 2 ?hg (N := 27) ?hd (xs := ([] : List Int)) (inner := []) (ok := fun _ => True) (okp := fun _ => True) ?hr ?hp (fun _ hk => hk) trivial (Below.refl _ _) (Nat.le_refl _) (by simp) ?_; (case hd => rfl); (case hg => rfl); (case hr => first | (go_simp; done) | (go_simp; rfl)); (case hp => exact (Reps.none _ _)); intro v167 w25 ho26 hb hg_ hnew_; clear hg_ hnew_; (first | rw [← Ny166.out] at ho26 | (simp only [Int.reduceToNat] at ho26; rw [← Ny166.out] at ho26)); replace HO_166000 := A_ (Kd.S_elder' (by (with_reducible repeat (first | apply Kd.S_alloc | apply Kd.S_drewN | apply Kd.S_drew)); exact HO_166000.out) (Kd.R_base ho26) hb); have HO168 := A_ (Kd.R_lower ho26 (below_size (y1_ HB.out))); replace BK158 := b3_ BK158 hb; replace BK159 := b3_ BK159 hb; replace BK165 := b3_ BK165 hb; replace HB := A_ (below_step (y1_ HB.out) hb); clear hb ho26))
 go_loopg [8, 9] k2 (fun kq v8 v9 w' => ∃ (x8_3 : List Int) (x9_3 : Int), v9 = .int .i64 x9_3 ∧ Aside0 (spec_DropFrom.l1 kq a1 x7_2 x8_3 x9_3 l0_0 x166000_2 = some (r1, r2)) ∧ Aside0 (kq ≤ k2) ∧ Aside0 (Kd.R (Kd.int .i64) 2 w' w.heap.size (fun _ => True) v8 x8_3) ∧ Aside0 (Kd.S k63 63 w' w.heap.size (fun k_ => some k_ ≠ (v8 : Value).ownBlock) u166000 x166000_2) ∧ Aside0 (w'.heap[gb158]? = some (.cells #[(.slice A0_0 l0_0.length c0_0)] 29 (0, 0))) ∧ Aside0 (w'.heap[gb159]? = some (.cells #[(.slice none 0 0)] 29 (0, 0))) ∧ Aside0 (w'.heap[gb165]? = some (.cells #[u166000] 29 (0, 0))) ∧ Aside0 (Below w.heap.size w w'))
 case atStart => exact ⟨(y166), (0), s1_, H', ⟨Nat.le_refl _⟩, ⟨b2_ HO168.out⟩, ⟨by (with_reducible repeat (first | apply Kd.S_alloc | apply Kd.S_drewN | apply Kd.S_drew)); exact Kd.S_mono HO_166000.out (fun _ hk => hk.2)⟩, ⟨b1_ BK158.out⟩, ⟨b1_ BK159.out⟩, ⟨b1_ BK165.out⟩, ⟨y1_ HB.out⟩⟩
 case round =>
  skip
  {
 clear H'
 try clear c1
 try clear c2
 try clear p2
 try clear c4
 try clear c5
 try clear c7
 try clear c11
 try clear c12
 try clear c18
 try clear c19
 try clear c21
 try clear c21b0
 try clear c22
 try clear c23
 try clear hcz13_0
 try clear hcz20_0
 try clear hcz24_0
 try clear hfz13_0
 try clear hfz20_0
 try clear hfz24_0
 try clear p2
 obtain ⟨x8_3, x9_3, rfl, HA, HK3, HO_8, HO_166000, BK158, BK159, BK165, HB⟩ := hrel
 cases gk with
 | zero => exact absurd HA.out (by simp [spec_DropFrom.l1])
 | succ k3 =>
  skip
  {
 have H := HA.out
 clear HA
 simp only [spec_DropFrom.l1] at H
 by_cases c27 : 0 ≤ x7_2
 {
 rw [if_pos c27] at H
 have c27b0 : decide (0 ≤ x7_2) = true := decide_eq_true c27
 clear c27
 by_cases c28 : x7_2 < (l0_0.length : Int)
 {
 rw [if_pos c28] at H
 have c28b0 : decide (x7_2 < (l0_0.length : Int)) = true := decide_eq_true c28
 clear c28
 by_cases c29 : x9_3 < (((rd_T63 l0_0 x7_2).f1).length : Int)
 {
 rw [if_pos c29] at H
 have c29b0 : decide (x9_3 < (((rd_T63 l0_0 x7_2).f1).length : Int)) = true := decide_eq_true c29
 clear c29
 by_cases c30 : 0 ≤ x9_3
 {
 rw [if_pos c30] at H
 have c30b0 : decide (0 ≤ x9_3) = true := decide_eq_true c30
 clear c30
 by_cases c31 : (rd ((rd_T63 l0_0 x7_2).f1) x9_3) = a1
 {
 rw [if_pos c31] at H
 have c31b0 : ((rd ((rd_T63 l0_0 x7_2).f1) x9_3) == a1) = true := beq_iff_eq.mpr c31
 have c31b1 : ((rd ((rd_T63 l0_0 x7_2).f1) x9_3) != a1) = false := bne_eq_false_iff_eq.mpr c31
 clear c31
 have H' := A_ H
 clear H
 have hnb32 := NB158_159.out
 have hnc32 := NB159_158.out
 have hnb33 := NB158_165.out
 have hnc33 := NB165_158.out
 have hcz34_0 := c1_ BK158 0 (.slice A0_0 l0_0.length c0_0)
 have hfz34_0 := f1_ BK158 0
 have p169 : 0 ≤ (x7_2 : Int) := o1_
 have q169 : x7_2 < (l0_0.length : Int) := o1_
 obtain ⟨ad169, A169_1, c169_1, e169, hx169_0, hx169_1, hl169_1, hi169_1⟩ := at_T63 HR0_0.out x7_2 p169 q169
 cases e169
 replace hx169_0 := (HB.out.cell (World.block_lt_of_cell? w _ hx169_0)).trans hx169_0
 replace hx169_1 := (HB.out.cell (World.block_lt_of_cell? w _ hx169_1)).trans hx169_1
 have HR169_1 := A_ hi169_1
 have HC169_1 := A_ hl169_1
 clear hi169_1 hl169_1
 replace p169 := eq_true p169
 replace q169 := eq_true q169
 have p170 : 0 ≤ (x7_2 : Int) := o1_
 have q170 : x7_2 < (l0_0.length : Int) := o1_
 obtain ⟨ad170, A170_1, c170_1, e170, hx170_0, hx170_1, hl170_1, hi170_1⟩ := at_T63 HR0_0.out x7_2 p170 q170
 obtain rfl : ad169 = ad170 := (by injection e170)
 replace hx170_0 := (HB.out.cell (World.block_lt_of_cell? w _ hx170_0)).trans hx170_0
 replace hx170_1 := (HB.out.cell (World.block_lt_of_cell? w _ hx170_1)).trans hx170_1
 have HR170_1 := A_ hi170_1
 have HC170_1 := A_ hl170_1
 clear hi170_1 hl170_1
 replace p170 := eq_true p170
 replace q170 := eq_true q170
 have ea_ := Option.some.inj (hx169_1.symm.trans hx170_1)
 injection ea_ with ea_ en_ ec_
 subst ea_
 subst ec_
 clear en_
 have p171 : 0 ≤ (x9_3 : Int) := o1_
 have q171 : x9_3 < (((rd_T63 l0_0 x7_2).f1).length : Int) := o1_
 obtain ⟨ad171, e171, hx171_0⟩ := Kd.at_int HR170_1.out x9_3 p171 q171
 cases e171
 replace hx171_0 := (HB.out.cell (World.block_lt_of_cell? w _ hx171_0)).trans hx171_0
 replace p171 := eq_true p171
 replace q171 := eq_true q171
 go_wp2
 go_roundg k3
 case measure => have := HJ2.out; have := HK2.out; have := HK3.out; omega
 case rel => exact ⟨(x8_3), (wrap64 (x9_3 + 1)), s1_, H', ⟨by have := HJ2.out; have := HK2.out; have := HK3.out; omega⟩, ⟨b2_ HO_8.out⟩, ⟨by (with_reducible repeat (first | apply Kd.S_alloc | apply Kd.S_drewN | apply Kd.S_drew)); exact HO_166000.out⟩, ⟨b1_ BK158.out⟩, ⟨b1_ BK159.out⟩, ⟨b1_ BK165.out⟩, ⟨y1_ HB.out⟩⟩}
 {
 rw [if_neg c31] at H
 have c31b0 : ((rd ((rd_T63 l0_0 x7_2).f1) x9_3) == a1) = false := beq_eq_false_iff_ne.mpr c31
 have c31b1 : ((rd ((rd_T63 l0_0 x7_2).f1) x9_3) != a1) = true := bne_iff_ne.mpr c31
 by_cases c35 : x8_3.length < 17592186044416
 {
 rw [if_pos c35] at H
 have LMc35 := A_ c35
 clear c35
 obtain ⟨y174, hy174⟩ : ∃ y_ : List Int, y_ = (x8_3 ++ [rd ((rd_T63 l0_0 x7_2).f1) x9_3]) := ⟨_, rfl⟩
 replace H : (spec_DropFrom.l1 k3 a1 x7_2 y174 (wrap64 (x9_3 + 1)) l0_0 x166000_2) = some (r1, r2) := by first | (rw [hy174]; with_reducible exact H) | (have H2_ := (Option.bind_some _ _).symm.trans H; rw [hy174]; with_reducible exact H2_) | (have H2_ := (Option.bind_some _ _).symm.trans H; with_reducible exact H2_) | with_reducible exact H | (rw [hy174]; exact H) | exact H
 have Ny174 := A_ hy174
 clear hy174
 have H' := A_ H
 clear H
 have hnb36 := NB158_159.out
 have hnc36 := NB159_158.out
 have hnb37 := NB158_165.out
 have hnc37 := NB165_158.out
 have hcz38_0 := c1_ BK158 0 (.slice A0_0 l0_0.length c0_0)
 have hfz38_0 := f1_ BK158 0
 have p169 : 0 ≤ (x7_2 : Int) := o1_
 have q169 : x7_2 < (l0_0.length : Int) := o1_
 obtain ⟨ad169, A169_1, c169_1, e169, hx169_0, hx169_1, hl169_1, hi169_1⟩ := at_T63 HR0_0.out x7_2 p169 q169
 cases e169
 replace hx169_0 := (HB.out.cell (World.block_lt_of_cell? w _ hx169_0)).trans hx169_0
 replace hx169_1 := (HB.out.cell (World.block_lt_of_cell? w _ hx169_1)).trans hx169_1
 have HR169_1 := A_ hi169_1
 have HC169_1 := A_ hl169_1
 clear hi169_1 hl169_1
 replace p169 := eq_true p169
 replace q169 := eq_true q169
 have p170 : 0 ≤ (x7_2 : Int) := o1_
 have q170 : x7_2 < (l0_0.length : Int) := o1_
 obtain ⟨ad170, A170_1, c170_1, e170, hx170_0, hx170_1, hl170_1, hi170_1⟩ := at_T63 HR0_0.out x7_2 p170 q170
 obtain rfl : ad169 = ad170 := (by injection e170)
 replace hx170_0 := (HB.out.cell (World.block_lt_of_cell? w _ hx170_0)).trans hx170_0
 replace hx170_1 := (HB.out.cell (World.block_lt_of_cell? w _ hx170_1)).trans hx170_1
 have HR170_1 := A_ hi170_1
 have HC170_1 := A_ hl170_1
 clear hi170_1 hl170_1
 replace p170 := eq_true p170
 replace q170 := eq_true q170
 have ea_ := Option.some.inj (hx169_1.symm.trans hx170_1)
 injection ea_ with ea_ en_ ec_
 subst ea_
 subst ec_
 clear en_
 have p171 : 0 ≤ (x9_3 : Int) := o1_
 have q171 : x9_3 < (((rd_T63 l0_0 x7_2).f1).length : Int) := o1_
 obtain ⟨ad171, e171, hx171_0⟩ := Kd.at_int HR170_1.out x9_3 p171 q171
 cases e171
 replace hx171_0 := (HB.out.cell (World.block_lt_of_cell? w _ hx171_0)).trans hx171_0
 replace p171 := eq_true p171
 replace q171 := eq_true q171
 have p172 : 0 ≤ (x7_2 : Int) := o1_
 have q172 : x7_2 < (l0_0.length : Int) := o1_
 obtain ⟨ad172, A172_1, c172_1, e172, hx172_0, hx172_1, hl172_1, hi172_1⟩ := at_T63 HR0_0.out x7_2 p172 q172
 obtain rfl : ad169 = ad172 := (by injection e172)
 replace hx172_0 := (HB.out.cell (World.block_lt_of_cell? w _ hx172_0)).trans hx172_0
 replace hx172_1 := (HB.out.cell (World.block_lt_of_cell? w _ hx172_1)).trans hx172_1
 have HR172_1 := A_ hi172_1
 have HC172_1 := A_ hl172_1
 clear hi172_1 hl172_1
 replace p172 := eq_true p172
 replace q172 := eq_true q172
 have ea_ := Option.some.inj (hx169_1.symm.trans hx172_1)
 injection ea_ with ea_ en_ ec_
 subst ea_
 subst ec_
 clear en_
 have p173 : 0 ≤ (x9_3 : Int) := o1_
 have q173 : x9_3 < (((rd_T63 l0_0 x7_2).f1).length : Int) := o1_
 obtain ⟨ad173, e173, hx173_0⟩ := Kd.at_int HR172_1.out x9_3 p173 q173
 cases e173
 replace hx173_0 := (HB.out.cell (World.block_lt_of_cell? w _ hx173_0)).trans hx173_0
 replace p173 := eq_true p173
 replace q173 := eq_true q173
 go_wp2_with (first | ((with_reducible refine gate_builtin (b := .append) (xs := #[.tmp 50, .tmp 60]) rfl ?_); at_builtin; refine Kd.R_append (Kd.int .i64) (w0 := w) w.heap.size rfl (.tmp 50) (.tmp 60) 53 2 (.int .i64 0) 8 rfl Try.underlying53 info2 rfl (by decide) (by omega) u8 x8_3 (rd ((rd_T63 l0_0 x7_2).f1) x9_3) [.int .i64 (rd ((rd_T63 l0_0 x7_2).f1) x9_3)] (fun _ => True) (fun _ => False) rfl rfl ?aP (fun _ hk => hk.elim) ?aF ?aO ?aB ?aS ?aL ?_; (case aP => exact rfl); (case aB => exact (y1_ HB.out)); (case aF => exact (fun _ _ => trivial)); (case aO => exact (b2_ HO_8.out)); (case aS => exact (below_size (y1_ HB.out))); (case aL => have := LMc35.out; omega); intro v175 w39 ho hb hg hat; rw [← Ny174.out] at ho; replace HO_166000 := A_ (Kd.S_after (ok := (fun _ => True)) (by (with_reducible repeat (first | apply Kd.S_alloc | apply Kd.S_drewN | apply Kd.S_drew)); exact Kd.S_mono HO_166000.out (fun _ hk => ⟨trivial, hk⟩)) hg hat); replace BK158 := A_ (blk_grown (g := gb158) (o := .cells #[.slice (some ad169) l0_0.length c0_0] 29 (0, 0)) (b1_ BK158.out) hg (Kd.R_ne HO_8.out BK158.out (by decide))); replace BK159 := A_ (blk_grown (g := gb159) (o := .cells #[.slice none 0 0] 29 (0, 0)) (b1_ BK159.out) hg (Kd.R_ne HO_8.out BK159.out (by decide))); replace BK165 := A_ (blk_grown (g := gb165) (o := .cells #[u166000] 29 (0, 0)) (b1_ BK165.out) hg (Kd.R_ne HO_8.out BK165.out (by decide))); replace HB := A_ (hb); have HO176 := A_ (ho); clear HO_8; clear ho hb hg hat))
 go_roundg k3
 case measure => have := HJ2.out; have := HK2.out; have := HK3.out; omega
 case rel => exact ⟨(y174), (wrap64 (x9_3 + 1)), s1_, H', ⟨by have := HJ2.out; have := HK2.out; have := HK3.out; omega⟩, ⟨b2_ HO176.out⟩, ⟨by (with_reducible repeat (first | apply Kd.S_alloc | apply Kd.S_drewN | apply Kd.S_drew)); exact Kd.S_mono HO_166000.out (fun _ hk => hk.2)⟩, ⟨b1_ BK158.out⟩, ⟨b1_ BK159.out⟩, ⟨b1_ BK165.out⟩, ⟨y1_ HB.out⟩⟩}
 {
 rw [if_neg c35] at H
 exact absurd H (by simp)}}}
 {
 rw [if_neg c30] at H
 exact absurd H (by simp)}}
 {
 rw [if_neg c29] at H
 have c29b0 : decide (x9_3 < (((rd_T63 l0_0 x7_2).f1).length : Int)) = false := decide_eq_false c29
 clear c29
 by_cases c40 : (x8_3.length : Int) > 0
 {
 rw [if_pos c40] at H
 have c40b0 : decide (0 < (x8_3.length : Int)) = true := decide_eq_true c40
 have c40b1 : decide (0 < x8_3.length) = true := decide_eq_true (by omega)
 clear c40
 by_cases c41 : x166000_2.length < 3518437208883
 {
 rw [if_pos c41] at H
 have LMc41 := A_ c41
 clear c41
 obtain ⟨y178, hy178⟩ : ∃ y_ : List (S63), y_ = (x166000_2 ++ [(⟨(rd_T63 l0_0 x7_2).f0, x8_3⟩ : S63)]) := ⟨_, rfl⟩
 replace H : (spec_DropFrom.l0 k3 a1 (wrap64 (x7_2 + 1)) l0_0 y178) = some (r1, r2) := by first | (rw [hy178]; with_reducible exact H) | (have H2_ := (Option.bind_some _ _).symm.trans H; rw [hy178]; with_reducible exact H2_) | (have H2_ := (Option.bind_some _ _).symm.trans H; with_reducible exact H2_) | with_reducible exact H | (rw [hy178]; exact H) | exact H
 have Ny178 := A_ hy178
 clear hy178
 have H' := A_ H
 clear H
 have hnb42 := NB158_159.out
 have hnc42 := NB159_158.out
 have hnb43 := NB158_165.out
 have hnc43 := NB165_158.out
 have hcz44_0 := c1_ BK158 0 (.slice A0_0 l0_0.length c0_0)
 have hfz44_0 := f1_ BK158 0
 have p169 : 0 ≤ (x7_2 : Int) := o1_
 have q169 : x7_2 < (l0_0.length : Int) := o1_
 obtain ⟨ad169, A169_1, c169_1, e169, hx169_0, hx169_1, hl169_1, hi169_1⟩ := at_T63 HR0_0.out x7_2 p169 q169
 cases e169
 replace hx169_0 := (HB.out.cell (World.block_lt_of_cell? w _ hx169_0)).trans hx169_0
 replace hx169_1 := (HB.out.cell (World.block_lt_of_cell? w _ hx169_1)).trans hx169_1
 have HR169_1 := A_ hi169_1
 have HC169_1 := A_ hl169_1
 clear hi169_1 hl169_1
 replace p169 := eq_true p169
 replace q169 := eq_true q169
 obtain ⟨Ao45, co45, eo45⟩ := Kd.R_slice HO_8.out
 subst eo45
 try go_wp2
 replace HO_8 := A_ (Kd.R_drew HO_8.out)
 replace HO_166000 := A_ (Kd.S_drew HO_166000.out)
 replace BK158 := A_ (blk_drew BK158.out)
 replace BK159 := A_ (blk_drew BK159.out)
 replace BK165 := A_ (blk_drew BK165.out)
 replace HB := A_ (below_drew1 HB.out)
 have p177 : 0 ≤ (x7_2 : Int) := o1_
 have q177 : x7_2 < (l0_0.length : Int) := o1_
 obtain ⟨ad177, A177_1, c177_1, e177, hx177_0, hx177_1, hl177_1, hi177_1⟩ := at_T63 HR0_0.out x7_2 p177 q177
 have hw177_1 := hx177_1
 have hw177_0 := hx177_0
 obtain rfl : ad169 = ad177 := (by injection e177)
 replace hx177_0 := (HB.out.cell (World.block_lt_of_cell? w _ hx177_0)).trans hx177_0
 replace hx177_1 := (HB.out.cell (World.block_lt_of_cell? w _ hx177_1)).trans hx177_1
 have HR177_1 := A_ hi177_1
 have HC177_1 := A_ hl177_1
 clear hi177_1 hl177_1
 replace p177 := eq_true p177
 replace q177 := eq_true q177
 refine start_ (n := 14) (S := fun w' => w'.cell? ⟨gb165, 0, none⟩ = some (u166000) ∧ w'.cell? ⟨gb158, 0, none⟩ = some (.slice (some ad169) l0_0.length c0_0) ∧ w'.cell? (ad169.add ((x7_2).toNat * 2)) = some (.string ((rd_T63 l0_0 x7_2).f0)) ∧ w'.cell? ⟨(ad169.add ((x7_2).toNat * 2)).block, (ad169.add ((x7_2).toNat * 2)).off + 1, none⟩ = some (.slice A177_1 ((rd_T63 l0_0 x7_2).f1).length c177_1)) (ds := [13]) #[F,F,F,F,F,F,F,F,F,F,F,F,F,F] s2_ rfl rfl ⟨(blk_cell BK165.out 0).trans rfl, (blk_cell BK158.out 0).trans rfl, ((HB.out.cell (World.block_lt_of_cell? w _ hw177_0)).trans hw177_0), ((HB.out.cell (World.block_lt_of_cell? w _ hw177_1)).trans hw177_1)⟩ (fun hHeld => ?_); refine with_tabW spec_DropFrom.tab14 spec_DropFrom.bits14 (fun HT_ HW_ => ?_)
 generalize wr.drew = w46 at HO_8 HO_166000 BK158 BK159 BK165 HB HR177_1 hx177_0 hx177_1 hHeld ⊢
 refine pu_ 0 65 #[T,F,F,F,F,F,F,F,F,F,F,F,F,F] (any_of HT_.out s2_) ?_
 refine pu_ 2 67 #[T,F,T,F,F,F,F,F,F,F,F,F,F,F] (any_of HT_.out s2_) ?_
 refine pu_ 4 69 #[T,F,T,F,T,F,F,F,F,F,F,F,F,F] (any_of HT_.out s2_) ?_
 refine pu_ 8 73 #[T,F,T,F,T,F,F,F,T,F,F,F,F,F] (any_of HT_.out s2_) ?_
 refine take_ (i := 1) (N := some 66) (v := ?_) (a' := ?_) #[T,T,T,F,T,F,F,F,T,F,F,F,F,F] rfl rfl (take_ofW HT_.out HW_.out s2_) (fun _ _ _ h => h) (Or.inl ⟨by rfl, ?_⟩) hHeld ?_ ?_
 rotate_left
 {
 rintro w' ⟨s0, s1, s2, s3⟩
 go_simp
 with_reducible rfl}
 rotate_left
 · exact p1_
 refine take_ (i := 3) (N := some 68) (v := ?_) (a' := ?_) #[T,T,T,T,T,F,F,F,T,F,F,F,F,F] rfl rfl (take_ofW HT_.out HW_.out s2_) (fun _ _ _ h => h) (Or.inl ⟨by rfl, ?_⟩) hHeld ?_ ?_
 rotate_left
 {
 rintro w' ⟨s0, s1, s2, s3⟩
 go_simp
 with_reducible rfl}
 rotate_left
 · exact p1_
 refine pu_ 5 70 #[T,T,T,T,T,T,F,F,T,F,F,F,F,F] (any_of HT_.out s2_) ?_
 refine pu_ 6 71 #[T,T,T,T,T,T,T,F,T,F,F,F,F,F] (any_of HT_.out s2_) ?_
 refine take_ (i := 7) (N := some 72) (v := ?_) (a' := ?_) #[T,T,T,T,T,T,T,T,T,F,F,F,F,F] rfl rfl (take_ofW HT_.out HW_.out s2_) (fun _ _ _ h => h) (Or.inl ⟨by rfl, ?_⟩) hHeld ?_ ?_
 rotate_left
 {
 rintro w' ⟨s0, s1, s2, s3⟩
 go_simp
 with_reducible rfl}
 rotate_left
 · exact p1_
 refine pu_ 9 74 #[T,T,T,T,T,T,T,T,T,T,F,F,F,F] (any_of HT_.out s2_) ?_
 refine one_ (i := 10) (N := some 75) #[T,T,T,T,T,T,T,T,T,T,T,F,F,F] rfl rfl (one_of HT_.out s2_) (by decide) (fun K hK => ?_)
 refine value_ (w1 := ?_) (v := ?_) (by rfl) rfl ?_ ?_
 rotate_left 2
 {
 go_simp
 constructor
 · rfl
 · rfl}
 refine hK.out _ _ ⟨(blk_cell (blk_alloc BK165.out _) 0).trans rfl, (blk_cell (blk_alloc BK158.out _) 0).trans rfl, (World.cell?_alloc_lt _ _ _ (World.block_lt_of_cell? _ _ (((HB.out.cell (World.block_lt_of_cell? w _ hw177_0)).trans hw177_0)))).trans (((HB.out.cell (World.block_lt_of_cell? w _ hw177_0)).trans hw177_0)), (World.cell?_alloc_lt _ _ _ (World.block_lt_of_cell? _ _ (((HB.out.cell (World.block_lt_of_cell? w _ hw177_1)).trans hw177_1)))).trans (((HB.out.cell (World.block_lt_of_cell? w _ hw177_1)).trans hw177_1))⟩ (fun hHeld => ?_)
 clear hK K
 refine norm_ (a' := ?_) ?_ ?_
 rotate_left
 {
 show Act.put _ (some 75) _ = _
 simp only [Act.put, List.setIfInBounds_toArray, List.set_cons_zero, List.set_cons_succ, i64_w, i32_w]
 rfl}
 refine one_ (i := 11) (N := some 76) #[T,T,T,T,T,T,T,T,T,T,T,T,F,F] rfl rfl (one_of HT_.out s2_) (by decide) (fun K hK => ?_)
 refine Kd.S_append_step k63 (w0 := w) w.heap.size (by rfl) (.tmp 66) (.tmp 75) 27 63 (.agg #[(.string ⟨#[]⟩), (.slice none 0 0)]) 40 rfl Try.underlying27 info63 rfl (by decide) (by omega) u166000 x166000_2 (⟨(rd_T63 l0_0 x7_2).f0, x8_3⟩ : S63) [.string ((rd_T63 l0_0 x7_2).f0), .slice Ao45 x8_3.length co45] (fun _ => True) (fun k_ => some k_ = (.slice Ao45 x8_3.length co45 : Value).ownBlock) rfl rfl ?aP (fun k_ hk_ => ((Kd.R_mono (ok' := fun k_ => ((fun _ => True)) k_ ∧ some k_ ≠ (u166000 : Value).ownBlock) (Kd.R_apart' (HO_8.out) (Kd.S_typed HO_166000.out) (by decide)) (fun k_ hk => ⟨trivial, hk.2⟩))).1 k_ hk_.symm) ?aF ?aO ?aB ?aS ?aL ?_
 (case aP => exact k63_mkM _ _ _ (⟨(rd_T63 l0_0 x7_2).f0, x8_3⟩ : S63) (Kd.R_mono (Kd.R_tight rfl (Kd.R_mono (ok' := fun k_ => ((fun _ => True)) k_ ∧ some k_ ≠ (u166000 : Value).ownBlock) (Kd.R_apart' (HO_8.out) (Kd.S_typed HO_166000.out) (by decide)) (fun k_ hk => ⟨trivial, hk.2⟩))) (fun _ h_ => h_)))
 (case aB => exact (y1_ HB.out))
 (case aF => exact (fun _ _ => trivial))
 (case aO => exact (by (with_reducible repeat (first | apply Kd.S_alloc | apply Kd.S_drewN | apply Kd.S_drew)); exact Kd.S_mono HO_166000.out (fun k_ hk => ⟨trivial, fun e_ => hk e_⟩)))
 (case aS => exact (below_size (y1_ HB.out)))
 (case aL => have := LMc41.out; omega)
 intro v179 w47 ho hb hg hat
 rw [← Ny178.out] at ho
 replace BK158 := A_ (blk_grown (g := gb158) (o := .cells #[.slice (some ad169) l0_0.length c0_0] 29 (0, 0)) (b1_ BK158.out) hg (Kd.S_ne HO_166000.out BK158.out (by decide)))
 replace BK159 := A_ (blk_grown (g := gb159) (o := .cells #[.slice none 0 0] 29 (0, 0)) (b1_ BK159.out) hg (Kd.S_ne HO_166000.out BK159.out (by decide)))
 replace BK165 := A_ (blk_grown (g := gb165) (o := .cells #[u166000] 29 (0, 0)) (b1_ BK165.out) hg (Kd.S_ne HO_166000.out BK165.out (by decide)))
 replace HB := A_ (hb)
 have HO180 := A_ (ho)
 clear HO_166000
 clear HO_8
 clear ho hb hg hat
 obtain ⟨Ao48, co48, eo48⟩ := Kd.S_slice HO180.out
 (first | subst eo48 | (injection eo48 with f1_ f2_ f3_; have f4_ := f1_.symm; have f5_ := f3_.symm; clear f1_ f2_ f3_; subst f4_; subst f5_))
 refine hK.out _ _ ⟨(blk_cell BK165.out 0).trans rfl, (blk_cell BK158.out 0).trans rfl, ((HB.out.cell (World.block_lt_of_cell? w _ hw177_0)).trans hw177_0), ((HB.out.cell (World.block_lt_of_cell? w _ hw177_1)).trans hw177_1)⟩ (fun hHeld => ?_)
 clear hK K
 refine norm_ (a' := ?_) ?_ ?_
 rotate_left
 {
 show Act.put _ (some 76) _ = _
 simp only [Act.put, List.setIfInBounds_toArray, List.set_cons_zero, List.set_cons_succ, i64_w, i32_w]
 rfl}
 refine pu_ 12 77 #[T,T,T,T,T,T,T,T,T,T,T,T,T,F] (any_of HT_.out s2_) ?_
 refine last_ (i := 13) (N := none) #[T,T,T,T,T,T,T,T,T,T,T,T,T,T] rfl rfl (one_of HT_.out s2_) (by decide) (fun K hK => ?_)
 have hs49 : w47.cell? ⟨gb165, 0, none⟩ = some (u166000) := (blk_cell BK165.out 0).trans rfl
 have hfs49 := blk_frozen BK165.out 0
 have hns49_0 := NB158_165.out
 have hns49_1 := NB159_165.out
 have hms49_0 := NB165_158.out
 have hms49_1 := NB165_159.out
 refine skip_ (w1 := ?_) (by rfl) rfl ?_ ?_
 rotate_left
 {
 go_simp
 rfl}
 refine hK.out _ _ ?_
 clear hK K
 refine done_ (done_of HT_.out s2_) ?_
 try go_wp2
 go_roundg k3
 case measure => have := HJ2.out; have := HK2.out; have := HK3.out; omega
 case rel => exact ⟨(wrap64 (x7_2 + 1)), (y178), (.slice Ao48 y178.length co48), s1_, H', ⟨by have := HJ2.out; have := HK2.out; have := HK3.out; omega⟩, ⟨by (with_reducible repeat (first | apply Kd.S_alloc | apply Kd.S_drewN | apply Kd.S_drew)); exact Kd.S_mono (Kd.S_far (p := ⟨gb165, 0, none⟩) (Kd.S_types HO180.out BK165.out (by decide)) (fun _ hk => hk.2) (.slice Ao48 y178.length co48)) (fun _ hk => trivial)⟩, ⟨by refine b1_ ?_; refine blk_far ?_ NB158_165.out _; refine b1_ ?_; exact BK158.out⟩, ⟨by refine b1_ ?_; refine blk_far ?_ NB159_165.out _; refine b1_ ?_; exact BK159.out⟩, ⟨by refine b1_ ?_; refine blk_put (cs := #[u166000]) ?_ 0 _ rfl; refine b1_ ?_; exact BK165.out⟩, ⟨by repeat (first | (with_reducible first | exact HB.out | apply below_alloc | apply pw_below_drewN | apply below_drew1 | refine below_set ?_ GE165.out) | exact HB.out)⟩⟩}
 {
 rw [if_neg c41] at H
 exact absurd H (by simp)}}
 {
 rw [if_neg c40] at H
 have c40b0 : decide (0 < (x8_3.length : Int)) = false := decide_eq_false c40
 have c40b1 : decide (0 < x8_3.length) = false := decide_eq_false (by omega)
 clear c40
 have H' := A_ H
 clear H
 have hnb50 := NB158_159.out
 have hnc50 := NB159_158.out
 have hnb51 := NB158_165.out
 have hnc51 := NB165_158.out
 have hcz52_0 := c1_ BK158 0 (.slice A0_0 l0_0.length c0_0)
 have hfz52_0 := f1_ BK158 0
 have p169 : 0 ≤ (x7_2 : Int) := o1_
 have q169 : x7_2 < (l0_0.length : Int) := o1_
 obtain ⟨ad169, A169_1, c169_1, e169, hx169_0, hx169_1, hl169_1, hi169_1⟩ := at_T63 HR0_0.out x7_2 p169 q169
 cases e169
 replace hx169_0 := (HB.out.cell (World.block_lt_of_cell? w _ hx169_0)).trans hx169_0
 replace hx169_1 := (HB.out.cell (World.block_lt_of_cell? w _ hx169_1)).trans hx169_1
 have HR169_1 := A_ hi169_1
 have HC169_1 := A_ hl169_1
 clear hi169_1 hl169_1
 replace p169 := eq_true p169
 replace q169 := eq_true q169
 obtain ⟨Ao53, co53, eo53⟩ := Kd.R_slice HO_8.out
 subst eo53
 go_wp2
 go_roundg k3
 case measure => have := HJ2.out; have := HK2.out; have := HK3.out; omega
 case rel => exact ⟨(wrap64 (x7_2 + 1)), (x166000_2), (u166000), s1_, H', ⟨by have := HJ2.out; have := HK2.out; have := HK3.out; omega⟩, ⟨by (with_reducible repeat (first | apply Kd.S_alloc | apply Kd.S_drewN | apply Kd.S_drew)); exact Kd.S_mono HO_166000.out (fun _ hk => trivial)⟩, ⟨b1_ BK158.out⟩, ⟨b1_ BK159.out⟩, ⟨b1_ BK165.out⟩, ⟨y1_ HB.out⟩⟩}}}
 {
 rw [if_neg c28] at H
 exact absurd H (by simp)}}
 {
 rw [if_neg c27] at H
 exact absurd H (by simp)}}}}
 {
 rw [if_neg c21] at H
 have c21b0 : decide (x7_2 < (l0_0.length : Int)) = false := decide_eq_false c21
 clear c21
 simp only [Option.some.injEq, Prod.mk.injEq] at H
 obtain ⟨rfl, rfl⟩ := H
 have hnb54 := NB158_159.out
 have hnc54 := NB159_158.out
 have hnb55 := NB158_165.out
 have hnc55 := NB165_158.out
 have hcz56_0 := c1_ BK158 0 (.slice A0_0 l0_0.length c0_0)
 have hfz56_0 := f1_ BK158 0
 have hnb57 := NB165_159.out
 have hnc57 := NB159_165.out
 have hcz58_0 := c1_ BK165 0 (u166000)
 have hfz58_0 := f1_ BK165 0
 obtain ⟨Ao59, co59, eo59⟩ := Kd.S_slice HO_166000.out
 subst eo59
 have hcz60_0 := c1_ BK159 0 (.slice none 0 0)
 have hfz60_0 := f1_ BK159 0
 go_wp2
 refine bodyPost_ret (results_ct rfl _ _ gb159 29 #[.slice Ao59 x166000_2.length co59] (0, 0) _ rfl (by refine b1_ ?_; refine blk_put (cs := #[.slice none 0 0]) ?_ 0 _ rfl; refine b1_ ?_; exact BK159.out) Try.underlying29 rfl s2_) rfl ?_
 exact ⟨_, e1_, by (with_reducible repeat (first | apply Kd.S_alloc | apply Kd.S_drewN | apply Kd.S_drew)); exact Kd.S_mono (Kd.S_far (p := ⟨gb159, 0, none⟩) (Kd.S_types HO_166000.out BK159.out (by decide)) (fun _ hk => hk.2) (.slice Ao59 x166000_2.length co59)) (fun _ hk => trivial), by repeat (first | (with_reducible first | exact HB.out | apply below_alloc | apply pw_below_drewN | apply below_drew1 | refine below_set ?_ GE159.out) | exact HB.out)⟩}}}}}}

/-! ### impl_isDigit: function 107 -/
def impl_isDigit.f (a0 : Int) : Option (Bool) := if a0 ≥ 48 then (some (decide (a0 ≤ 57))) else (some false)
set_option maxHeartbeats 8000000 in
set_option maxRecDepth 100000 in
theorem impl_isDigit.calls (a0 : Int) (r : Bool) (w : World) (h : impl_isDigit.f a0 = some r) :
    Calls Try.prog 107 #[.int .u8 a0] w fun e w' => e = .returned (.bool r) ∧ Drawn0 w w' := by
  have H : (if a0 ≥ 48 then (some (decide (a0 ≤ 57))) else (some false)) = some r := h
  clear h
  by_cases c2 : a0 ≥ 48
  · rw [if_pos c2] at H
    have c2b0 : decide (48 ≤ a0) = true := decide_eq_true c2
    clear c2
    obtain rfl := Option.some.inj H
    go_enter Try.func107, Try.ntmps107
    go_wp2
    go_ret
    exact ⟨by first | rfl | (simp; done) | (simp [*]; done), by repeat (first | exact Drawn0.refl _ | apply Drawn0.step)⟩
  · rw [if_neg c2] at H
    have c2b0 : decide (48 ≤ a0) = false := decide_eq_false c2
    clear c2
    obtain rfl := Option.some.inj H
    go_enter Try.func107, Try.ntmps107
    go_wp2
    go_ret
    exact ⟨by first | rfl | (simp; done) | (simp [*]; done), by repeat (first | exact Drawn0.refl _ | apply Drawn0.step)⟩

/-! ### impl_wordByte: function 91 -/
def impl_wordByte.f (a0 : Int) : Option (Bool) := (impl_isDigit.f a0).bind fun t181 => (if t181 = true then (some true) else (if a0 ≥ 97 then (some (decide (a0 ≤ 122))) else (some false)))
set_option maxHeartbeats 8000000 in
set_option maxRecDepth 100000 in
theorem impl_wordByte.calls (a0 : Int) (r : Bool) (w : World) (h : impl_wordByte.f a0 = some r) :
    Calls Try.prog 91 #[.int .u8 a0] w fun e w' => e = .returned (.bool r) ∧ Drawn0 w w' := by
  have H : ((impl_isDigit.f a0).bind fun t181 => (if t181 = true then (some true) else (if a0 ≥ 97 then (some (decide (a0 ≤ 122))) else (some false)))) = some r := h
  clear h
  replace H := Option.bind_eq_some_iff.mp H
  obtain ⟨t181, A20, H⟩ := H
  replace H : (if t181 = true then (some true) else (if a0 ≥ 97 then (some (decide (a0 ≤ 122))) else (some false))) = some r := H
  have A2 := A_ A20
  clear A20
  by_cases c3 : t181 = true
  · subst c3
    have H1 : (some true) = some r := by rw [if_pos rfl] at H; exact H
    clear H
    have H := H1
    clear H1
    obtain rfl := Option.some.inj H
    go_enter Try.func91, Try.ntmps91
    go_wp2_with (first | ((with_reducible refine gate_callee (f := 107) rfl ?_); refine goesL_ (some 4) rfl rfl Try.func107 (by kernel_rfl) rfl #[.int .u8 a0] rfl (by (try simp only [List.map_toArray, List.map_cons, List.map_nil]); first | done | rfl | (simp only [List.length_drop, List.length_take]; rfl)) ?_; (with_reducible refine (impl_isDigit.calls a0 true _ A2.out).mono ?_); rintro e w' ⟨rfl, ⟨nd, rfl⟩⟩; refine ⟨_, rfl, ?_⟩))
    go_ret
    exact ⟨by first | rfl | (simp; done) | (simp [*]; done), by repeat (first | exact Drawn0.refl _ | apply Drawn0.step)⟩
  · replace c3 := Bool.eq_false_iff.mpr c3
    subst c3
    have H1 : (if a0 ≥ 97 then (some (decide (a0 ≤ 122))) else (some false)) = some r := by rw [if_neg (show ¬ (false = true) by decide)] at H; exact H
    clear H
    have H := H1
    clear H1
    by_cases c4 : a0 ≥ 97
    · rw [if_pos c4] at H
      have c4b0 : decide (97 ≤ a0) = true := decide_eq_true c4
      clear c4
      obtain rfl := Option.some.inj H
      go_enter Try.func91, Try.ntmps91
      go_wp2_with (first | ((with_reducible refine gate_callee (f := 107) rfl ?_); refine goesL_ (some 4) rfl rfl Try.func107 (by kernel_rfl) rfl #[.int .u8 a0] rfl (by (try simp only [List.map_toArray, List.map_cons, List.map_nil]); first | done | rfl | (simp only [List.length_drop, List.length_take]; rfl)) ?_; (with_reducible refine (impl_isDigit.calls a0 false _ A2.out).mono ?_); rintro e w' ⟨rfl, ⟨nd, rfl⟩⟩; refine ⟨_, rfl, ?_⟩))
      go_ret
      exact ⟨by first | rfl | (simp; done) | (simp [*]; done), by repeat (first | exact Drawn0.refl _ | apply Drawn0.step)⟩
    · rw [if_neg c4] at H
      have c4b0 : decide (97 ≤ a0) = false := decide_eq_false c4
      clear c4
      obtain rfl := Option.some.inj H
      go_enter Try.func91, Try.ntmps91
      go_wp2_with (first | ((with_reducible refine gate_callee (f := 107) rfl ?_); refine goesL_ (some 4) rfl rfl Try.func107 (by kernel_rfl) rfl #[.int .u8 a0] rfl (by (try simp only [List.map_toArray, List.map_cons, List.map_nil]); first | done | rfl | (simp only [List.length_drop, List.length_take]; rfl)) ?_; (with_reducible refine (impl_isDigit.calls a0 false _ A2.out).mono ?_); rintro e w' ⟨rfl, ⟨nd, rfl⟩⟩; refine ⟨_, rfl, ?_⟩))
      go_ret
      exact ⟨by first | rfl | (simp; done) | (simp [*]; done), by repeat (first | exact Drawn0.refl _ | apply Drawn0.step)⟩

/-! ### impl_wordOk: function 51 -/
def impl_wordOk.l0 : Nat → ByteArray → Int → Int → Option (Bool)
  | 0, _, _, _ => none
  | k + 1, x0, x5, x6 => if x6 < x5 then (if 0 ≤ x6 then (if x6 < (x0.size : Int) then ((impl_wordByte.f (bt x0 x6)).bind fun t182 => (if t182 = true then (impl_wordOk.l0 k x0 x5 (wrap64 (x6 + 1))) else (some false))) else (none)) else (none)) else (if (x0.size : Int) ≥ 1 then (some (decide ((x0.size : Int) ≤ 80))) else (some false))
def impl_wordOk.f (k : Nat) (a0 : ByteArray) : Option (Bool) := impl_wordOk.l0 k a0 (a0.size : Int) 0
theorem impl_wordOk.mono_l : ∀ k, (∀ y0 y1 y2, LeO (impl_wordOk.l0 k y0 y1 y2) (impl_wordOk.l0 (k + 1) y0 y1 y2))
  | 0 => fun _ _ _ r h => by simp [impl_wordOk.l0] at h
  | k + 1 => by
    have ih0 := impl_wordOk.mono_l k
    · intro y0 y1 y2
      unfold impl_wordOk.l0
      repeat' first
      | (with_reducible exact ih0 _ _ _)
      | (with_reducible exact LeO.refl _)
      | (with_reducible exact LeO.none _)
      | (with_reducible refine LeO.ite ?_ ?_)
      | (with_reducible refine LeO.bind ?_ (fun _ => ?_))
      | exact ih0 _ _ _
      | exact LeO.none _
      | refine LeO.ite ?_ ?_
      | refine LeO.bind ?_ (fun _ => ?_)
theorem impl_wordOk.mono : ∀ a0 k, LeO (impl_wordOk.f k a0) (impl_wordOk.f (k + 1) a0) := by
  intro a0 k
  have ih0 := impl_wordOk.mono_l k
  unfold impl_wordOk.f
  repeat' first
      | (with_reducible exact ih0 _ _ _)
      | (with_reducible exact LeO.refl _)
      | (with_reducible exact LeO.none _)
      | (with_reducible refine LeO.ite ?_ ?_)
      | (with_reducible refine LeO.bind ?_ (fun _ => ?_))
      | exact ih0 _ _ _
      | exact LeO.none _
      | refine LeO.ite ?_ ?_
      | refine LeO.bind ?_ (fun _ => ?_)
set_option maxHeartbeats 8000000 in
set_option maxRecDepth 100000 in
theorem impl_wordOk.calls (k : Nat) (a0 : ByteArray) (r : Bool) (w : World) (h : impl_wordOk.f k a0 = some r) :
    Calls Try.prog 51 #[.string a0] w fun e w' => e = .returned (.bool r) ∧ Drawn0 w w' := by
  have H : (impl_wordOk.l0 k a0 (a0.size : Int) 0) = some r := h
  clear h
  have H' := A_ H
  clear H
  go_enter Try.func51, Try.ntmps51
  go_wp2
  go_loopg [6] k (fun kq v6 w' => ∃ (x6_1 : Int), v6 = .int .i64 x6_1 ∧ Aside0 (impl_wordOk.l0 kq a0 (a0.size : Int) x6_1 = some r) ∧ Aside0 (kq ≤ k) ∧ Drawn0 w w')
  case atStart => exact ⟨(0), (by first | rfl | (simp; done) | (simp [*]; done)), H', ⟨Nat.le_refl _⟩, by repeat (first | exact Drawn0.refl _ | apply Drawn0.step)⟩
  case round =>
    clear H'
    obtain ⟨x6_1, rfl, HA, HK1, ⟨m1, rfl⟩⟩ := hrel
    cases gk with
    | zero => exact absurd HA.out (by simp [impl_wordOk.l0])
    | succ k1 =>
      have H := HA.out
      clear HA
      simp only [impl_wordOk.l0] at H
      by_cases c2 : x6_1 < (a0.size : Int)
      · rw [if_pos c2] at H
        have c2b0 : decide (x6_1 < (a0.size : Int)) = true := decide_eq_true c2
        clear c2
        by_cases c3 : 0 ≤ x6_1
        · rw [if_pos c3] at H
          have c3b0 : decide (0 ≤ x6_1) = true := decide_eq_true c3
          clear c3
          by_cases c4 : x6_1 < (a0.size : Int)
          · rw [if_pos c4] at H
            have c4b0 : decide (x6_1 < (a0.size : Int)) = true := decide_eq_true c4
            clear c4
            replace H := Option.bind_eq_some_iff.mp H
            obtain ⟨t182, A60, H⟩ := H
            replace H : (if t182 = true then (impl_wordOk.l0 k1 a0 (a0.size : Int) (wrap64 (x6_1 + 1))) else (some false)) = some r := H
            have A6 := A_ A60
            clear A60
            by_cases c7 : t182 = true
            · subst c7
              have H1 : (impl_wordOk.l0 k1 a0 (a0.size : Int) (wrap64 (x6_1 + 1))) = some r := by rw [if_pos rfl] at H; exact H
              clear H
              have H := H1
              clear H1
              have H' := A_ H
              clear H
              have p5 : 0 ≤ (x6_1 : Int) := o1_
              have q5 : x6_1 < (a0.size : Int) := o1_
              have hx5 := bt_at a0 x6_1
              replace p5 := eq_true p5
              replace q5 := eq_true q5
              go_wp2_with (first | ((with_reducible refine gate_callee (f := 91) rfl ?_); refine goesL_ (some 12) rfl rfl Try.func91 (by kernel_rfl) rfl #[.int .u8 (bt a0 x6_1)] rfl (by (try simp only [List.map_toArray, List.map_cons, List.map_nil]); first | done | rfl | (simp only [List.length_drop, List.length_take]; rfl)) ?_; (with_reducible refine (impl_wordByte.calls (bt a0 x6_1) true _ A6.out).mono ?_); rintro e w' ⟨rfl, ⟨nd, rfl⟩⟩; refine ⟨_, rfl, ?_⟩))
              go_roundg k1
              case measure => have := HK1.out; omega
              case rel => exact ⟨(wrap64 (x6_1 + 1)), (by first | rfl | (simp; done) | (simp [*]; done)), H', ⟨by have := HK1.out; omega⟩, by repeat (first | exact Drawn0.refl _ | apply Drawn0.step)⟩
            · replace c7 := Bool.eq_false_iff.mpr c7
              subst c7
              have H1 : (some false) = some r := by rw [if_neg (show ¬ (false = true) by decide)] at H; exact H
              clear H
              have H := H1
              clear H1
              obtain rfl := Option.some.inj H
              have p5 : 0 ≤ (x6_1 : Int) := o1_
              have q5 : x6_1 < (a0.size : Int) := o1_
              have hx5 := bt_at a0 x6_1
              replace p5 := eq_true p5
              replace q5 := eq_true q5
              go_wp2_with (first | ((with_reducible refine gate_callee (f := 91) rfl ?_); refine goesL_ (some 12) rfl rfl Try.func91 (by kernel_rfl) rfl #[.int .u8 (bt a0 x6_1)] rfl (by (try simp only [List.map_toArray, List.map_cons, List.map_nil]); first | done | rfl | (simp only [List.length_drop, List.length_take]; rfl)) ?_; (with_reducible refine (impl_wordByte.calls (bt a0 x6_1) false _ A6.out).mono ?_); rintro e w' ⟨rfl, ⟨nd, rfl⟩⟩; refine ⟨_, rfl, ?_⟩))
              go_ret
              exact ⟨by first | rfl | (simp; done) | (simp [*]; done), by repeat (first | exact Drawn0.refl _ | apply Drawn0.step)⟩
          · rw [if_neg c4] at H
            exact absurd H (by simp)
        · rw [if_neg c3] at H
          exact absurd H (by simp)
      · rw [if_neg c2] at H
        have c2b0 : decide (x6_1 < (a0.size : Int)) = false := decide_eq_false c2
        clear c2
        by_cases c8 : (a0.size : Int) ≥ 1
        · rw [if_pos c8] at H
          have c8b0 : decide (1 ≤ (a0.size : Int)) = true := decide_eq_true c8
          have c8b1 : decide (1 ≤ a0.size) = true := decide_eq_true (by omega)
          clear c8
          obtain rfl := Option.some.inj H
          go_wp2
          go_ret
          exact ⟨by first | rfl | (simp; done) | (simp [*]; done), by repeat (first | exact Drawn0.refl _ | apply Drawn0.step)⟩
        · rw [if_neg c8] at H
          have c8b0 : decide (1 ≤ (a0.size : Int)) = false := decide_eq_false c8
          have c8b1 : decide (1 ≤ a0.size) = false := decide_eq_false (by omega)
          clear c8
          obtain rfl := Option.some.inj H
          go_wp2
          go_ret
          exact ⟨by first | rfl | (simp; done) | (simp [*]; done), by repeat (first | exact Drawn0.refl _ | apply Drawn0.step)⟩

end Go.Proofs.Ytcnhepjdibbkgaa.QFnExactDropFrom
