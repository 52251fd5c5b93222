-- written by a program of this session, on the lines of the kit's print
import Derived.Test.YtcnhepjdibbkgaaQFnExactDropFromx0
namespace Go.Proofs.Ytcnhepjdibbkgaa.QFnExactDropFrom
open Go.RowKit Go.Proofs.YtcnhepjdibbkgaaW.PrintWords Go.Proofs.YtcnhepjdibbkgaaW.PrintLast Go.Proofs.YtcnhepjdibbkgaaW.PrintMore
attribute [local go_sem] max2_int min2_int max_two min_two max_three min_three max_four min_four   -- for this text's walks alone
set_option linter.unusedVariables false
set_option linter.unusedSimpArgs false

/-! ### slices_Clone_int64_int64: function 79 -/
def slices_Clone_int64_int64.f (l0 : List Int) : Option (List Int) := if l0.length < 17592186044416 then some l0 else none
set_option maxHeartbeats 8000000 in
set_option maxRecDepth 100000 in
theorem slices_Clone_int64_int64.calls (A0 : Option Addr) (c0 : Nat) (l0 : List Int) (r : List Int) (w : World) (hr0 : Kd.C (Kd.int .i64) w A0 l0.length l0) (hc0 : l0.length ≤ c0) (h : slices_Clone_int64_int64.f l0 = some r) :
    Calls Try.prog 79 #[.slice A0 l0.length c0] w fun e w' => ∃ v0_ : Value, e = .returned (v0_) ∧ Kd.R (Kd.int .i64) 2 w' w.heap.size (fun _ => True) v0_ r ∧ Below w.heap.size w w' := by
  have hl : l0.length < 17592186044416 := by
    unfold slices_Clone_int64_int64.f at h
    split at h
    · assumption
    · cases h
  obtain rfl : l0 = r := by
    unfold slices_Clone_int64_int64.f at h
    rw [if_pos hl] at h
    exact Option.some.inj h
  clear h
  have HR0 := A_ hr0
  have HC0 := A_ hc0
  have LM := A_ hl
  clear hr0 hc0 hl
  have HB := A_ (Below.refl w.heap.size w)
  cases A0 with
  | none =>
    have hn : l0 = [] := by
      have h1 := HR0.out.1
      have h2 := HR0.out.2.2
      rcases Nat.eq_zero_or_pos l0.length with h3 | h3
      · exact List.eq_nil_of_length_eq_zero h3
      · obtain ⟨ad, e, _⟩ := h2 h3
        cases e
    subst hn
    have hnil : ∀ W : World, (binOp .eql 53 (.slice none 0 c0) (.slice none 0 0)).run Try.prog W = .ok (.bool true) W := fun W => Lib.run_eql_slice_nil (P := Try.prog) W 53 2 none 0 c0 0 0 Try.underlying53
    simp only [List.length_nil]
    go_enter Try.func79, Try.ntmps79
    go_wp2
    go_ret
    exact ⟨_, rfl, Kd.R_nil _ _ _ _ _, HB.out⟩
  | some ad =>
    have hnil : ∀ W : World, (binOp .eql 53 (.slice (some ad) l0.length c0) (.slice none 0 0)).run Try.prog W = .ok (.bool false) W := fun W => Lib.run_eql_slice_nil (P := Try.prog) W 53 2 (some ad) l0.length c0 0 0 Try.underlying53
    go_enter Try.func79, Try.ntmps79
    go_wp2_with (first
      | ((with_reducible refine gate_dst (N := 5) rfl ?_); refine Kd.R_lit (Kd.int .i64) (w0 := w) w.heap.size 2 ?hg (N := 5) ?hd (xs := ([] : List Int)) (inner := []) (ok := fun _ => True) (okp := fun _ => True) ?hr ?hp (fun _ hk => hk) trivial (Below.refl _ _) (Nat.le_refl _) (by simp) ?_; (case hd => rfl); (case hg => rfl); (case hr => first | (go_simp; done) | (go_simp; rfl)); (case hp => exact (Reps.none _ _)); intro v1 w1 ho hb hg_ hnew_; have HO1 := A_ ho; have HB1 := A_ hb; have HR1 := A_ (Kd.C_below HR0.out hb); clear ho hb hg_ hnew_)
      | ((with_reducible refine gate_builtin (b := .append) (xs := #[.tmp 5, .tmp 6]) rfl ?_); at_builtin; refine Kd.R_append_rows (Kd.int .i64) (w0 := w) w.heap.size rfl (.tmp 5) (.tmp 6) 53 2 (.int .i64 0) 8 rfl Try.underlying53 info2 rfl (by decide) (by omega) v1 ([] : List Int) l0 _ _ _ (fun _ => True) (fun _ => False) rfl rfl ?aO ?aR (fun _ _ h => h) (fun _ h => h.elim) ?aF ?aB ?aS ?aL ?_; (case aO => exact HO1.out); (case aR => exact HR1.out); (case aF => exact fun _ _ => trivial); (case aB => exact HB1.out); (case aS => exact HB1.out.size); (case aL => have := LM.out; simp; omega); intro v2 w2 ho hb hg hat; have HO2 := A_ ho; have HB2 := A_ hb; clear ho hb hg hat; clear HO1 HB1 HR1))
    go_ret
    exact ⟨_, rfl, HO2.out, HB2.out⟩

/-! ### impl_cloneIndex: function 81 -/
abbrev impl_cloneIndex.T : Bool := true
abbrev impl_cloneIndex.F : Bool := false
def impl_cloneIndex.l0 : Nat → List (S63) → Int → Int → List (S63) → Option ((List (S63)))
  | 0, _, _, _, _ => none
  | k + 1, x8, x9, x10, x196000 => if x10 < x9 then (if 0 ≤ x10 then (if x10 < (x8.length : Int) then ((slices_Clone_int64_int64.f ((rd_T63 x8 x10).f1)).bind fun t198 => (if x196000.length < 3518437208883 then (impl_cloneIndex.l0 k x8 x9 (wrap64 (x10 + 1)) (x196000 ++ [(⟨(rd_T63 x8 x10).f0, t198⟩ : S63)])) else (none))) else (none)) else (none)) else (some x196000)
def impl_cloneIndex.f (k : Nat) (l0_0 : List (S63)) : Option ((List (S63))) := impl_cloneIndex.l0 k l0_0 (l0_0.length : Int) 0 ([] : List (S63))
theorem impl_cloneIndex.mono_l : ∀ k, (∀ y0 y1 y2 y3, LeO (impl_cloneIndex.l0 k y0 y1 y2 y3) (impl_cloneIndex.l0 (k + 1) y0 y1 y2 y3))
  | 0 => fun _ _ _ _ r h => by simp [impl_cloneIndex.l0] at h
  | k + 1 => by
    have ih0 := impl_cloneIndex.mono_l k
    · intro y0 y1 y2 y3
      unfold impl_cloneIndex.l0
      repeat' first
      | (with_reducible exact ih0 _ _ _ _)
      | (with_reducible exact LeO.refl _)
      | (with_reducible exact LeO.none _)
      | (with_reducible refine LeO.ite ?_ ?_)
      | (with_reducible refine LeO.bind ?_ (fun _ => ?_))
      | exact ih0 _ _ _ _
      | exact LeO.none _
      | refine LeO.ite ?_ ?_
      | refine LeO.bind ?_ (fun _ => ?_)
theorem impl_cloneIndex.mono : ∀ a0 k, LeO (impl_cloneIndex.f k a0) (impl_cloneIndex.f (k + 1) a0) := by
  intro a0 k
  have ih0 := impl_cloneIndex.mono_l k
  unfold impl_cloneIndex.f
  repeat' first
      | (with_reducible exact ih0 _ _ _ _)
      | (with_reducible exact LeO.refl _)
      | (with_reducible exact LeO.none _)
      | (with_reducible refine LeO.ite ?_ ?_)
      | (with_reducible refine LeO.bind ?_ (fun _ => ?_))
      | exact ih0 _ _ _ _
      | exact LeO.none _
      | refine LeO.ite ?_ ?_
      | refine LeO.bind ?_ (fun _ => ?_)
def impl_cloneIndex.T5 : Bool × List (List Nat × List Nat) := (true, [([], []), ([0], [0]), ([], []), ([2], [2]), ([], []), ([4], [4]), ([5], [5]), ([3, 6], [3, 6]), ([7], [7]), ([1, 8, 6], [1, 8]), ([0, 1, 2, 3, 4, 5, 6, 7, 8, 9], []), ([10, 9, 9, 0, 1, 2, 3, 4, 5, 6, 7, 8, 9], [9, 10])])
def impl_cloneIndex.B5 : List Nat := [0, 1, 0, 4, 0, 16, 48, 124, 252, 511, 1023, 2047]
theorem impl_cloneIndex.tab5 : rtab .any (opsOf Try.f81 5) = impl_cloneIndex.T5 := by kernel_rfl
theorem impl_cloneIndex.bits5 : waitsOk impl_cloneIndex.T5.2 impl_cloneIndex.B5 = true := by kernel_rfl
set_option maxHeartbeats 8000000 in
set_option maxRecDepth 100000 in
theorem impl_cloneIndex.calls (k : Nat) (A0_0 : Option Addr) (c0_0 : Nat) (l0_0 : List (S63)) (r : List (S63)) (w : World) (hr0_0 : Kd.C k63 w A0_0 l0_0.length l0_0) (hc0_0 : l0_0.length ≤ c0_0) (h : impl_cloneIndex.f k l0_0 = some r) :
    Calls Try.prog 81 #[.agg #[.slice A0_0 l0_0.length c0_0]] w fun e w' => ∃ v0_ : Value, e = .returned (.agg #[v0_]) ∧ Kd.S k63 63 w' w.heap.size (fun _ => True) v0_ r ∧ Below w.heap.size w w' := by
 have hu29 := Try.underlying29
 have hu63 := Try.underlying63
 have HR0_0 := A_ hr0_0
 have HC0_0 := A_ hc0_0
 clear hr0_0 hc0_0
 have HB := A_ (Below.refl w.heap.size w)
 have H : (impl_cloneIndex.l0 k l0_0 (l0_0.length : Int) 0 ([] : List (S63))) = some r := h
 clear h
 have H' := A_ H
 clear H
 go_enter Try.func81, Try.ntmps81
 go_wp2_with (first | ((with_reducible refine gate_dst (N := 1) rfl ?_); refine bx_ 1 #[.slice A0_0 l0_0.length c0_0] 29 ?_; intro gb193 hg w2 hbox hb; have GW193 := b6_ hg HB; have GE193 := b6_ hg HB; replace HB := A_ (below_step (y1_ HB.out) hb); have BK193 := A_ (hbox); clear hb hbox hg) | ((with_reducible refine gate_dst (N := 2) rfl ?_); refine bx_ 2 #[.slice none 0 0] 29 ?_; intro gb194 hg w3 hbox hb; have GW194 := b6_ hg HB; have GE194 := b6_ hg HB; have NB193_194 := b4_ hg BK193; have NB194_193 := b5_ hg BK193; replace BK193 := b3_ BK193 hb; replace HB := A_ (below_step (y1_ HB.out) hb); have BK194 := A_ (hbox); clear hb hbox hg) | ((with_reducible refine gate_dst (N := 3) rfl ?_); refine bx_ 3 #[.slice none 0 0] 29 ?_; intro gb195 hg w4 hbox hb; have GW195 := b6_ hg HB; have GE195 := b6_ hg HB; have NB193_195 := b4_ hg BK193; have NB195_193 := b5_ hg BK193; have NB194_195 := b4_ hg BK194; have NB195_194 := b5_ hg BK194; replace BK193 := b3_ BK193 hb; replace BK194 := b3_ BK194 hb; replace HB := A_ (below_step (y1_ HB.out) hb); have BK195 := A_ (hbox); clear hb hbox hg; have hnb5 := NB195_193.out; have hnc5 := NB193_195.out; have hnb6 := NB195_194.out; have hnc6 := NB194_195.out; have hcz7_0 := c1_ BK195 0 (.slice none 0 0); have hfz7_0 := f1_ BK195 0; have hnb8 := NB193_194.out; have hnc8 := NB194_193.out; have hcz9_0 := c1_ BK193 0 (.slice A0_0 l0_0.length c0_0); have hfz9_0 := f1_ BK193 0))
 go_loopg [10] k (fun kq v10 w' => ∃ (x10_1 : Int) (x196000_1 : List (S63)) (u196000 : Value), v10 = .int .i64 x10_1 ∧ Aside0 (impl_cloneIndex.l0 kq l0_0 (l0_0.length : Int) x10_1 x196000_1 = some r) ∧ Aside0 (kq ≤ k) ∧ Aside0 (Kd.S k63 63 w' w.heap.size (fun _ => True) u196000 x196000_1) ∧ Aside0 (w'.heap[gb193]? = some (.cells #[(.slice A0_0 l0_0.length c0_0)] 29 (0, 0))) ∧ Aside0 (w'.heap[gb194]? = some (.cells #[(.slice none 0 0)] 29 (0, 0))) ∧ Aside0 (w'.heap[gb195]? = some (.cells #[u196000] 29 (0, 0))) ∧ Aside0 (Below w.heap.size w w'))
 case atStart => exact ⟨(0), (([] : List (S63))), (.slice none 0 0), (by first | rfl | (simp; done) | (simp [*]; done)), H', ⟨Nat.le_refl _⟩, ⟨by first | exact Kd.S_nil _ _ _ _ _ | exact Kd.N_nil _ _ _ _ _ | exact Kd.V_nil _ _ _ _ _ | exact Kd.Q_nil _ _ _ _ _ | exact Kd.R_nil _ _ _ _ _⟩, ⟨by refine b1_ ?_; refine blk_far ?_ NB193_195.out _; refine b1_ ?_; exact BK193.out⟩, ⟨by refine b1_ ?_; refine blk_far ?_ NB194_195.out _; refine b1_ ?_; exact BK194.out⟩, ⟨by refine b1_ ?_; refine blk_put (cs := #[.slice none 0 0]) ?_ 0 _ rfl; refine b1_ ?_; exact BK195.out⟩, ⟨by repeat (first | (with_reducible first | exact HB.out | apply below_alloc | apply pw_below_drewN | apply below_drew1 | refine below_set ?_ GE195.out) | exact HB.out)⟩⟩
 case round =>
  skip
  {
 clear H'
 try clear p2
 try clear c5
 try clear c6
 try clear c8
 try clear hcz7_0
 try clear hcz9_0
 try clear hfz7_0
 try clear hfz9_0
 obtain ⟨x10_1, x196000_1, u196000, rfl, HA, HK1, HO_196000, BK193, BK194, BK195, HB⟩ := hrel
 cases gk with
 | zero => exact absurd HA.out (by simp [impl_cloneIndex.l0])
 | succ k1 =>
  skip
  {
 have H := HA.out
 clear HA
 simp only [impl_cloneIndex.l0] at H
 by_cases c10 : x10_1 < (l0_0.length : Int)
 {
 rw [if_pos c10] at H
 have c10b0 : decide (x10_1 < (l0_0.length : Int)) = true := decide_eq_true c10
 clear c10
 by_cases c11 : 0 ≤ x10_1
 {
 rw [if_pos c11] at H
 have c11b0 : decide (0 ≤ x10_1) = true := decide_eq_true c11
 clear c11
 by_cases c12 : x10_1 < (l0_0.length : Int)
 {
 rw [if_pos c12] at H
 have c12b0 : decide (x10_1 < (l0_0.length : Int)) = true := decide_eq_true c12
 clear c12
 replace H := Option.bind_eq_some_iff.mp H
 obtain ⟨t198, A130, H⟩ := H
 replace H : (if x196000_1.length < 3518437208883 then (impl_cloneIndex.l0 k1 l0_0 (l0_0.length : Int) (wrap64 (x10_1 + 1)) (x196000_1 ++ [(⟨(rd_T63 l0_0 x10_1).f0, t198⟩ : S63)])) else (none)) = some r := H
 have A13 := A_ A130
 clear A130
 by_cases c14 : x196000_1.length < 3518437208883
 {
 rw [if_pos c14] at H
 have LMc14 := A_ c14
 clear c14
 obtain ⟨y201, hy201⟩ : ∃ y_ : List (S63), y_ = (x196000_1 ++ [(⟨(rd_T63 l0_0 x10_1).f0, t198⟩ : S63)]) := ⟨_, rfl⟩
 replace H : (impl_cloneIndex.l0 k1 l0_0 (l0_0.length : Int) (wrap64 (x10_1 + 1)) y201) = some r := by first | (rw [hy201]; with_reducible exact H) | (have H2_ := (Option.bind_some _ _).symm.trans H; rw [hy201]; with_reducible exact H2_) | (have H2_ := (Option.bind_some _ _).symm.trans H; with_reducible exact H2_) | with_reducible exact H | (rw [hy201]; exact H) | exact H
 have Ny201 := A_ hy201
 clear hy201
 have H' := A_ H
 clear H
 have p196 : 0 ≤ (x10_1 : Int) := o1_
 have q196 : x10_1 < (l0_0.length : Int) := o1_
 obtain ⟨ad196, A196_1, c196_1, e196, hx196_0, hx196_1, hl196_1, hi196_1⟩ := at_T63 HR0_0.out x10_1 p196 q196
 cases e196
 replace hx196_0 := (HB.out.cell (World.block_lt_of_cell? w _ hx196_0)).trans hx196_0
 replace hx196_1 := (HB.out.cell (World.block_lt_of_cell? w _ hx196_1)).trans hx196_1
 have HR196_1 := A_ hi196_1
 have HC196_1 := A_ hl196_1
 clear hi196_1 hl196_1
 replace p196 := eq_true p196
 replace q196 := eq_true q196
 try go_wp2_with (first | ((with_reducible refine gate_dst (N := 5) rfl ?_); refine bx_ 5 #[.string (⟨#[]⟩ : ByteArray), .slice none 0 0] 63 ?_; intro gb197 hg w15 hbox hb; have GW197 := b6_ hg HB; have GE197 := b6_ hg HB; have NB193_197 := b4_ hg BK193; have NB197_193 := b5_ hg BK193; have NB194_197 := b4_ hg BK194; have NB197_194 := b5_ hg BK194; have NB195_197 := b4_ hg BK195; have NB197_195 := b5_ hg BK195; replace HO_196000 := A_ (Kd.S_below (Kd.S_elderB (by (with_reducible repeat (first | apply Kd.S_alloc | apply Kd.S_drewN | apply Kd.S_drew)); exact HO_196000.out) gb197 (Nat.le_of_eq hg.symm)) hb); replace BK193 := b3_ BK193 hb; replace BK194 := b3_ BK194 hb; replace BK195 := b3_ BK195 hb; replace HB := A_ (below_step (y1_ HB.out) hb); have BK197 := A_ (hbox); clear hb hbox hg; have hnb16 := NB197_193.out; have hnc16 := NB193_197.out; have hnb17 := NB197_194.out; have hnc17 := NB194_197.out; have hnb18 := NB197_195.out; have hnc18 := NB195_197.out; have hcz19_0 := c1_ BK197 0 (.string (⟨#[]⟩ : ByteArray)); have hcz19_1 := c1_ BK197 1 (.slice none 0 0); have hfz19_0 := f1_ BK197 0; have hfz19_1 := f1_ BK197 1))
 have n0_ : Aside0 (Kd.S k63 63 ((w15.setCell ⟨gb197, 0, none⟩ (.string ((rd_T63 l0_0 x10_1).f0))).setCell ⟨gb197, 1, none⟩ (.slice A196_1 ((rd_T63 l0_0 x10_1).f1).length c196_1)) w.heap.size (fun k_ => k_ ≠ gb197) u196000 x196000_1) := ⟨by (with_reducible repeat (first | apply Kd.S_alloc | apply Kd.S_drewN | apply Kd.S_drew)); exact Kd.S_mono (Kd.S_far (p := ⟨gb197, 1, none⟩) (Kd.S_far (p := ⟨gb197, 0, none⟩) (Kd.S_mono HO_196000.out (fun k_ hk => (⟨hk, hk.2⟩ : _ ∧ k_ ≠ gb197))) (fun _ hk => hk.2) (.string ((rd_T63 l0_0 x10_1).f0))) (fun _ hk => hk.2) (.slice A196_1 ((rd_T63 l0_0 x10_1).f1).length c196_1)) (fun _ hk => hk.1.2)⟩
 have n1_ : Aside0 (((w15.setCell ⟨gb197, 0, none⟩ (.string ((rd_T63 l0_0 x10_1).f0))).setCell ⟨gb197, 1, none⟩ (.slice A196_1 ((rd_T63 l0_0 x10_1).f1).length c196_1)).heap[gb193]? = some (.cells #[.slice (some ad196) l0_0.length c0_0] 29 (0, 0))) := ⟨by refine b1_ ?_; refine blk_far ?_ NB193_197.out _; refine b1_ ?_; refine blk_far ?_ NB193_197.out _; refine b1_ ?_; exact BK193.out⟩
 have n2_ : Aside0 (((w15.setCell ⟨gb197, 0, none⟩ (.string ((rd_T63 l0_0 x10_1).f0))).setCell ⟨gb197, 1, none⟩ (.slice A196_1 ((rd_T63 l0_0 x10_1).f1).length c196_1)).heap[gb194]? = some (.cells #[.slice none 0 0] 29 (0, 0))) := ⟨by refine b1_ ?_; refine blk_far ?_ NB194_197.out _; refine b1_ ?_; refine blk_far ?_ NB194_197.out _; refine b1_ ?_; exact BK194.out⟩
 have n3_ : Aside0 (((w15.setCell ⟨gb197, 0, none⟩ (.string ((rd_T63 l0_0 x10_1).f0))).setCell ⟨gb197, 1, none⟩ (.slice A196_1 ((rd_T63 l0_0 x10_1).f1).length c196_1)).heap[gb195]? = some (.cells #[u196000] 29 (0, 0))) := ⟨by refine b1_ ?_; refine blk_far ?_ NB195_197.out _; refine b1_ ?_; refine blk_far ?_ NB195_197.out _; refine b1_ ?_; exact BK195.out⟩
 have n4_ : Aside0 (((w15.setCell ⟨gb197, 0, none⟩ (.string ((rd_T63 l0_0 x10_1).f0))).setCell ⟨gb197, 1, none⟩ (.slice A196_1 ((rd_T63 l0_0 x10_1).f1).length c196_1)).heap[gb197]? = some (.cells #[.string ((rd_T63 l0_0 x10_1).f0), .slice A196_1 ((rd_T63 l0_0 x10_1).f1).length c196_1] 63 (0, 0))) := ⟨by refine b1_ ?_; refine blk_put (cs := #[.string ((rd_T63 l0_0 x10_1).f0), .slice none 0 0]) ?_ 1 _ rfl; refine b1_ ?_; refine blk_put (cs := #[.string (⟨#[]⟩ : ByteArray), .slice none 0 0]) ?_ 0 _ rfl; refine b1_ ?_; exact BK197.out⟩
 have n5_ : Aside0 (Below w.heap.size w ((w15.setCell ⟨gb197, 0, none⟩ (.string ((rd_T63 l0_0 x10_1).f0))).setCell ⟨gb197, 1, none⟩ (.slice A196_1 ((rd_T63 l0_0 x10_1).f1).length c196_1))) := ⟨by repeat (first | (with_reducible first | exact HB.out | apply below_alloc | apply pw_below_drewN | apply below_drew1 | refine below_set ?_ GE197.out) | exact HB.out)⟩
 (try clear HO_196000)
 (try clear BK193)
 (try clear BK194)
 (try clear BK195)
 (try clear BK197)
 (try clear HB)
 generalize ((w15.setCell ⟨gb197, 0, none⟩ (.string ((rd_T63 l0_0 x10_1).f0))).setCell ⟨gb197, 1, none⟩ (.slice A196_1 ((rd_T63 l0_0 x10_1).f1).length c196_1)) = w20 at n0_ n1_ n2_ n3_ n4_ n5_ ⊢
 have HO_196000 := n0_
 have BK193 := n1_
 have BK194 := n2_
 have BK195 := n3_
 have BK197 := n4_
 have HB := n5_
 clear n0_ n1_ n2_ n3_ n4_ n5_
 replace HO_196000 := A_ (Kd.S_drew HO_196000.out)
 replace BK193 := A_ (blk_drew BK193.out)
 replace BK194 := A_ (blk_drew BK194.out)
 replace BK195 := A_ (blk_drew BK195.out)
 replace BK197 := A_ (blk_drew BK197.out)
 replace HB := A_ (below_drew1 HB.out)
 refine start_ (n := 12) (S := fun w' => w'.cell? ⟨gb195, 0, none⟩ = some (u196000) ∧ w'.cell? ⟨gb197, 0, none⟩ = some (.string ((rd_T63 l0_0 x10_1).f0)) ∧ w'.cell? ⟨gb197, 1, none⟩ = some (.slice A196_1 ((rd_T63 l0_0 x10_1).f1).length c196_1)) (ds := [11]) #[F,F,F,F,F,F,F,F,F,F,F,F] s2_ rfl rfl ⟨(blk_cell BK195.out 0).trans rfl, (blk_cell BK197.out 0).trans rfl, (blk_cell BK197.out 1).trans rfl⟩ (fun hHeld => ?_); refine with_tabW impl_cloneIndex.tab5 impl_cloneIndex.bits5 (fun HT_ HW_ => ?_)
 generalize w20.drew = w21 at HO_196000 BK193 BK194 BK195 BK197 HB hHeld ⊢
 refine pu_ 0 14 #[T,F,F,F,F,F,F,F,F,F,F,F] (any_of HT_.out s2_) ?_
 refine pu_ 2 16 #[T,F,T,F,F,F,F,F,F,F,F,F] (any_of HT_.out s2_) ?_
 refine pu_ 4 18 #[T,F,T,F,T,F,F,F,F,F,F,F] (any_of HT_.out s2_) ?_
 refine take_ (i := 1) (N := some 15) (v := ?_) (a' := ?_) #[T,T,T,F,T,F,F,F,F,F,F,F] rfl rfl (take_ofW HT_.out HW_.out s2_) (fun _ _ _ h => h) (Or.inl ⟨by rfl, ?_⟩) hHeld ?_ ?_
 rotate_left
 {
 rintro w' ⟨s0, s1, s2⟩
 go_simp
 with_reducible rfl}
 rotate_left
 · exact p1_
 refine take_ (i := 3) (N := some 17) (v := ?_) (a' := ?_) #[T,T,T,T,T,F,F,F,F,F,F,F] rfl rfl (take_ofW HT_.out HW_.out s2_) (fun _ _ _ h => h) (Or.inl ⟨by rfl, ?_⟩) hHeld ?_ ?_
 rotate_left
 {
 rintro w' ⟨s0, s1, s2⟩
 go_simp
 with_reducible rfl}
 rotate_left
 · exact p1_
 refine take_ (i := 5) (N := some 19) (v := ?_) (a' := ?_) #[T,T,T,T,T,T,F,F,F,F,F,F] rfl rfl (take_ofW HT_.out HW_.out s2_) (fun _ _ _ h => h) (Or.inl ⟨by rfl, ?_⟩) hHeld ?_ ?_
 rotate_left
 {
 rintro w' ⟨s0, s1, s2⟩
 go_simp
 with_reducible rfl}
 rotate_left
 · exact p1_
 refine one_ (i := 6) (N := some 20) #[T,T,T,T,T,T,T,F,F,F,F,F] rfl rfl (one_of HT_.out s2_) (by decide) (fun K hK => ?_)
 refine goes_ Try.func79 s2_ rfl #[.slice A196_1 ((rd_T63 l0_0 x10_1).f1).length c196_1] (by rfl) rfl rfl (by (try simp only [List.map_toArray, List.map_cons, List.map_nil]); first | done | rfl | (simp only [List.length_drop, List.length_take]; rfl)) ?_
 with_reducible refine (slices_Clone_int64_int64.calls _ _ ((rd_T63 l0_0 x10_1).f1) t198 _ ?side1 ?side2 A13.out).mono ?_
 (case side1 => repeat (first | exact (Kd.C_below HR196_1.out HB.out) | (with_reducible refine Kd.C_alloc ?_ _) | (with_reducible refine Kd.C_drewN ?_ _) | (with_reducible refine Kd.C_drew ?_)))
 (case side2 => exact HC196_1.out)
 rintro e w22 ⟨v199, rfl, ho0, hb⟩
 refine ⟨_, rfl, ?_⟩
 replace HO_196000 := A_ (Kd.S_elder' (by (with_reducible repeat (first | apply Kd.S_alloc | apply Kd.S_drewN | apply Kd.S_drew)); exact HO_196000.out) (Kd.R_base ho0) hb)
 have HO200 := A_ (Kd.R_lower ho0 (below_size (y1_ HB.out)))
 replace BK193 := b3_ BK193 hb
 replace BK194 := b3_ BK194 hb
 replace BK195 := b3_ BK195 hb
 replace BK197 := b3_ BK197 hb
 replace HB := A_ (below_step (y1_ HB.out) hb)
 (try clear hb)
 (try clear hb2)
 (try clear hk)
 (try clear hi)
 (try clear ho0)
 obtain ⟨Ao23, co23, eo23⟩ := Kd.R_slice HO200.out
 (first | subst eo23 | (injection eo23 with f1_ f2_ f3_; have f4_ := f1_.symm; have f5_ := f3_.symm; clear f1_ f2_ f3_; subst f4_; subst f5_))
 refine hK.out _ _ ⟨(blk_cell BK195.out 0).trans rfl, (blk_cell BK197.out 0).trans rfl, (blk_cell BK197.out 1).trans rfl⟩ (fun hHeld => ?_)
 clear hK K
 refine norm_ (a' := ?_) ?_ ?_
 rotate_left
 {
 show Act.put _ (some 20) _ = _
 simp only [Act.put, List.setIfInBounds_toArray, List.set_cons_zero, List.set_cons_succ, i64_w, i32_w]
 rfl}
 refine pu_ 7 21 #[T,T,T,T,T,T,T,T,F,F,F,F] (any_of HT_.out s2_) ?_
 refine one_ (i := 8) (N := some 22) #[T,T,T,T,T,T,T,T,T,F,F,F] rfl rfl (one_of HT_.out s2_) (by decide) (fun K hK => ?_)
 refine value_ (w1 := ?_) (v := ?_) (by rfl) rfl ?_ ?_
 rotate_left 2
 {
 go_simp
 constructor
 · rfl
 · rfl}
 refine hK.out _ _ ⟨(blk_cell (blk_alloc BK195.out _) 0).trans rfl, (blk_cell (blk_alloc BK197.out _) 0).trans rfl, (blk_cell (blk_alloc BK197.out _) 1).trans rfl⟩ (fun hHeld => ?_)
 clear hK K
 refine norm_ (a' := ?_) ?_ ?_
 rotate_left
 {
 show Act.put _ (some 22) _ = _
 simp only [Act.put, List.setIfInBounds_toArray, List.set_cons_zero, List.set_cons_succ, i64_w, i32_w]
 rfl}
 refine one_ (i := 9) (N := some 23) #[T,T,T,T,T,T,T,T,T,T,F,F] rfl rfl (one_of HT_.out s2_) (by decide) (fun K hK => ?_)
 refine Kd.S_append_step k63 (w0 := w) w.heap.size (by rfl) (.tmp 15) (.tmp 22) 27 63 (.agg #[(.string ⟨#[]⟩), (.slice none 0 0)]) 40 rfl Try.underlying27 info63 rfl (by decide) (by omega) u196000 x196000_1 (⟨(rd_T63 l0_0 x10_1).f0, t198⟩ : S63) [.string ((rd_T63 l0_0 x10_1).f0), .slice Ao23 t198.length co23] (fun k_ => k_ ≠ gb197) (fun k_ => some k_ = (.slice Ao23 t198.length co23 : Value).ownBlock) rfl rfl ?aP (fun k_ hk_ => ((Kd.R_mono (ok' := fun k_ => ((fun k_ => k_ ≠ gb197)) k_ ∧ some k_ ≠ (u196000 : Value).ownBlock) (Kd.R_types (Kd.R_apart' (HO200.out) (Kd.S_typed HO_196000.out) (by decide)) BK197.out (by decide)) (fun k_ hk => ⟨hk.2, hk.1.2⟩))).1 k_ hk_.symm) ?aF ?aO ?aB ?aS ?aL ?_
 (case aP => exact k63_mkM _ _ _ (⟨(rd_T63 l0_0 x10_1).f0, t198⟩ : S63) (Kd.R_mono (Kd.R_tight rfl (Kd.R_mono (ok' := fun k_ => ((fun k_ => k_ ≠ gb197)) k_ ∧ some k_ ≠ (u196000 : Value).ownBlock) (Kd.R_types (Kd.R_apart' (HO200.out) (Kd.S_typed HO_196000.out) (by decide)) BK197.out (by decide)) (fun k_ hk => ⟨hk.2, hk.1.2⟩))) (fun _ h_ => h_)))
 (case aB => exact (y1_ HB.out))
 (case aF => exact (fun k_ hk => Kd.freshB (g := gb197) (o := .cells #[.string ((rd_T63 l0_0 x10_1).f0), .slice A196_1 ((rd_T63 l0_0 x10_1).f1).length c196_1] 63 (0, 0)) (b1_ BK197.out) k_ hk))
 (case aO => exact (by (with_reducible repeat (first | apply Kd.S_alloc | apply Kd.S_drewN | apply Kd.S_drew)); exact Kd.S_mono HO_196000.out (fun k_ hk => ⟨hk.1, fun e_ => hk.2 e_⟩)))
 (case aS => exact (below_size (y1_ HB.out)))
 (case aL => have := LMc14.out; omega)
 intro v202 w24 ho hb hg hat
 rw [← Ny201.out] at ho
 replace BK193 := A_ (blk_grown (g := gb193) (o := .cells #[.slice (some ad196) l0_0.length c0_0] 29 (0, 0)) (b1_ BK193.out) hg (Kd.S_ne HO_196000.out BK193.out (by decide)))
 replace BK194 := A_ (blk_grown (g := gb194) (o := .cells #[.slice none 0 0] 29 (0, 0)) (b1_ BK194.out) hg (Kd.S_ne HO_196000.out BK194.out (by decide)))
 replace BK195 := A_ (blk_grown (g := gb195) (o := .cells #[u196000] 29 (0, 0)) (b1_ BK195.out) hg (Kd.S_ne HO_196000.out BK195.out (by decide)))
 replace BK197 := A_ (blk_grown (g := gb197) (o := .cells #[.string ((rd_T63 l0_0 x10_1).f0), .slice A196_1 ((rd_T63 l0_0 x10_1).f1).length c196_1] 63 (0, 0)) (b1_ BK197.out) hg (Kd.S_away HO_196000.out (fun _ hk => hk.1)))
 replace HB := A_ (hb)
 have HO203 := A_ (ho)
 clear HO_196000
 clear HO200
 clear ho hb hg hat
 obtain ⟨Ao25, co25, eo25⟩ := Kd.S_slice HO203.out
 (first | subst eo25 | (injection eo25 with f1_ f2_ f3_; have f4_ := f1_.symm; have f5_ := f3_.symm; clear f1_ f2_ f3_; subst f4_; subst f5_))
 refine hK.out _ _ ⟨(blk_cell BK195.out 0).trans rfl, (blk_cell BK197.out 0).trans rfl, (blk_cell BK197.out 1).trans rfl⟩ (fun hHeld => ?_)
 clear hK K
 refine norm_ (a' := ?_) ?_ ?_
 rotate_left
 {
 show Act.put _ (some 23) _ = _
 simp only [Act.put, List.setIfInBounds_toArray, List.set_cons_zero, List.set_cons_succ, i64_w, i32_w]
 rfl}
 refine pu_ 10 24 #[T,T,T,T,T,T,T,T,T,T,T,F] (any_of HT_.out s2_) ?_
 refine last_ (i := 11) (N := none) #[T,T,T,T,T,T,T,T,T,T,T,T] rfl rfl (one_of HT_.out s2_) (by decide) (fun K hK => ?_)
 have hs26 : w24.cell? ⟨gb195, 0, none⟩ = some (u196000) := (blk_cell BK195.out 0).trans rfl
 have hfs26 := blk_frozen BK195.out 0
 have hns26_0 := NB193_195.out
 have hns26_1 := NB194_195.out
 have hns26_3 := NB197_195.out
 have hms26_0 := NB195_193.out
 have hms26_1 := NB195_194.out
 have hms26_3 := NB195_197.out
 refine skip_ (w1 := ?_) (by rfl) rfl ?_ ?_
 rotate_left
 {
 go_simp
 rfl}
 refine hK.out _ _ ?_
 clear hK K
 refine done_ (done_of HT_.out s2_) ?_
 try go_wp2
 go_roundg k1
 case measure => have := HK1.out; omega
 case rel => exact ⟨(wrap64 (x10_1 + 1)), (y201), (.slice Ao25 y201.length co25), (by first | rfl | (simp; done) | (simp [*]; done)), H', ⟨by have := HK1.out; omega⟩, ⟨by (with_reducible repeat (first | apply Kd.S_alloc | apply Kd.S_drewN | apply Kd.S_drew)); exact Kd.S_mono (Kd.S_far (p := ⟨gb195, 0, none⟩) (Kd.S_types HO203.out BK195.out (by decide)) (fun _ hk => hk.2) (.slice Ao25 y201.length co25)) (fun _ hk => trivial)⟩, ⟨by refine b1_ ?_; refine blk_far ?_ NB193_195.out _; refine b1_ ?_; exact BK193.out⟩, ⟨by refine b1_ ?_; refine blk_far ?_ NB194_195.out _; refine b1_ ?_; exact BK194.out⟩, ⟨by refine b1_ ?_; refine blk_put (cs := #[u196000]) ?_ 0 _ rfl; refine b1_ ?_; exact BK195.out⟩, ⟨by repeat (first | (with_reducible first | exact HB.out | apply below_alloc | apply pw_below_drewN | apply below_drew1 | refine below_set ?_ GE195.out) | exact HB.out)⟩⟩}
 {
 rw [if_neg c14] at H
 exact absurd H (by simp)}}
 {
 rw [if_neg c12] at H
 exact absurd H (by simp)}}
 {
 rw [if_neg c11] at H
 exact absurd H (by simp)}}
 {
 rw [if_neg c10] at H
 have c10b0 : decide (x10_1 < (l0_0.length : Int)) = false := decide_eq_false c10
 clear c10
 obtain rfl := Option.some.inj H
 have hnb27 := NB195_193.out
 have hnc27 := NB193_195.out
 have hnb28 := NB195_194.out
 have hnc28 := NB194_195.out
 have hcz29_0 := c1_ BK195 0 (u196000)
 have hfz29_0 := f1_ BK195 0
 obtain ⟨Ao30, co30, eo30⟩ := Kd.S_slice HO_196000.out
 subst eo30
 have hnb31 := NB194_193.out
 have hnc31 := NB193_194.out
 have hcz32_0 := c1_ BK194 0 (.slice none 0 0)
 have hfz32_0 := f1_ BK194 0
 go_wp2
 refine bodyPost_ret (results_cell_row rfl _ _ gb194 29 #[.slice Ao30 x196000_1.length co30] (0, 0) _ rfl (by refine b1_ ?_; refine blk_put (cs := #[.slice none 0 0]) ?_ 0 _ rfl; refine b1_ ?_; exact BK194.out) Try.underlying29 rfl s2_) rfl ?_
 exact ⟨_, e1_, by (with_reducible repeat (first | apply Kd.S_alloc | apply Kd.S_drewN | apply Kd.S_drew)); exact Kd.S_mono (Kd.S_far (p := ⟨gb194, 0, none⟩) (Kd.S_types HO_196000.out BK194.out (by decide)) (fun _ hk => hk.2) (.slice Ao30 x196000_1.length co30)) (fun _ hk => trivial), by repeat (first | (with_reducible first | exact HB.out | apply below_alloc | apply pw_below_drewN | apply below_drew1 | refine below_set ?_ GE194.out) | exact HB.out)⟩}}}

/-! ### impl_DropFrom_1_v3: function 83 -/
def impl_DropFrom_1_v3.f (a0 : Int) (a1_0 : Int) : Option (Bool) := some (a0 == a1_0)
set_option maxHeartbeats 8000000 in
set_option maxRecDepth 100000 in
theorem impl_DropFrom_1_v3.calls (a0 : Int) (g1_ : Nat) (a1_0 : Int) (r : Bool) (w : World) (hbk1 : w.heap[g1_]? = some (.cells #[.int .i64 a1_0] 2 (0, 0))) (h : impl_DropFrom_1_v3.f a0 a1_0 = some r) :
    Calls Try.prog 83 #[.int .i64 a0, .pointer (some ⟨g1_, 0, none⟩)] w fun e w' => e = .returned (.bool r) ∧ Below w.heap.size w w' := by
  have BK1 := A_ hbk1
  clear hbk1
  have HB := A_ (Below.refl w.heap.size w)
  have H : (some (a0 == a1_0)) = some r := h
  clear h
  obtain rfl := Option.some.inj H
  have hcz3_0 : w.cell? ⟨g1_, 0, none⟩ = some (.int .i64 a1_0) := (blk_cell BK1.out 0).trans rfl
  have hfz3_0 := blk_frozen BK1.out 0
  go_enter Try.func83, Try.ntmps83
  go_wp2
  go_ret
  exact ⟨e1_, y1_ HB.out⟩

/-! ### slices_IndexFunc_int64_int64_v2: function 103 -/
def slices_IndexFunc_int64_int64_v2.l0 : Nat → List Int → Int → Int → Int → Option (Int)
  | 0, _, _, _, _ => none
  | k + 1, x0, x7, x8, x65000 => if x8 < x7 then (if 0 ≤ x8 then (if x8 < (x0.length : Int) then ((impl_DropFrom_1_v3.f (rd x0 x8) x65000).bind fun t205 => (if t205 = true then (some x8) else (slices_IndexFunc_int64_int64_v2.l0 k x0 x7 (wrap64 (x8 + 1)) x65000))) else (none)) else (none)) else (some (-1))
def slices_IndexFunc_int64_int64_v2.f (k : Nat) (l0 : List Int) (a1_0 : Int) : Option (Int) := slices_IndexFunc_int64_int64_v2.l0 k l0 (l0.length : Int) 0 a1_0
theorem slices_IndexFunc_int64_int64_v2.mono_l : ∀ k, (∀ y0 y1 y2 y3, LeO (slices_IndexFunc_int64_int64_v2.l0 k y0 y1 y2 y3) (slices_IndexFunc_int64_int64_v2.l0 (k + 1) y0 y1 y2 y3))
  | 0 => fun _ _ _ _ r h => by simp [slices_IndexFunc_int64_int64_v2.l0] at h
  | k + 1 => by
    have ih0 := slices_IndexFunc_int64_int64_v2.mono_l k
    · intro y0 y1 y2 y3
      unfold slices_IndexFunc_int64_int64_v2.l0
      repeat' first
      | (with_reducible exact ih0 _ _ _ _)
      | (with_reducible exact LeO.refl _)
      | (with_reducible exact LeO.none _)
      | (with_reducible refine LeO.ite ?_ ?_)
      | (with_reducible refine LeO.bind ?_ (fun _ => ?_))
      | exact ih0 _ _ _ _
      | exact LeO.none _
      | refine LeO.ite ?_ ?_
      | refine LeO.bind ?_ (fun _ => ?_)
theorem slices_IndexFunc_int64_int64_v2.mono : ∀ a0 a1 k, LeO (slices_IndexFunc_int64_int64_v2.f k a0 a1) (slices_IndexFunc_int64_int64_v2.f (k + 1) a0 a1) := by
  intro a0 a1 k
  have ih0 := slices_IndexFunc_int64_int64_v2.mono_l k
  unfold slices_IndexFunc_int64_int64_v2.f
  repeat' first
      | (with_reducible exact ih0 _ _ _ _)
      | (with_reducible exact LeO.refl _)
      | (with_reducible exact LeO.none _)
      | (with_reducible refine LeO.ite ?_ ?_)
      | (with_reducible refine LeO.bind ?_ (fun _ => ?_))
      | exact ih0 _ _ _ _
      | exact LeO.none _
      | refine LeO.ite ?_ ?_
      | refine LeO.bind ?_ (fun _ => ?_)
set_option maxHeartbeats 8000000 in
set_option maxRecDepth 100000 in
theorem slices_IndexFunc_int64_int64_v2.calls (k : Nat) (A0 : Option Addr) (c0 : Nat) (l0 : List Int) (g1_0_ : Nat) (a1_0 : Int) (r : Int) (w : World) (hbk1_0 : w.heap[g1_0_]? = some (.cells #[.int .i64 a1_0] 2 (0, 0))) (hr0 : Kd.C (Kd.int .i64) w A0 l0.length l0) (hc0 : l0.length ≤ c0) (h : slices_IndexFunc_int64_int64_v2.f k l0 a1_0 = some r) :
    Calls Try.prog 103 #[.slice A0 l0.length c0, .func (.func 83) #[] #[.pointer (some ⟨g1_0_, 0, none⟩)]] w fun e w' => e = .returned (.int .i64 r) ∧ Below w.heap.size w w' := by
  have HR0 := A_ hr0
  have HC0 := A_ hc0
  clear hr0 hc0
  have BK64 := A_ hbk1_0
  clear hbk1_0
  have HB := A_ (Below.refl w.heap.size w)
  have H : (slices_IndexFunc_int64_int64_v2.l0 k l0 (l0.length : Int) 0 a1_0) = some r := h
  clear h
  have H' := A_ H
  clear H
  go_enter Try.func103, Try.ntmps103
  go_wp2
  go_loopg [8] k (fun kq v8 w' => ∃ (x8_1 : Int), v8 = .int .i64 x8_1 ∧ Aside0 (slices_IndexFunc_int64_int64_v2.l0 kq l0 (l0.length : Int) x8_1 a1_0 = some r) ∧ Aside0 (kq ≤ k) ∧ Aside0 (w'.heap[g1_0_]? = some (.cells #[.int .i64 a1_0] 2 (0, 0))) ∧ Aside0 (Below w.heap.size w w'))
  case atStart => exact ⟨(0), (by first | rfl | (simp; done) | (simp [*]; done)), H', ⟨Nat.le_refl _⟩, ⟨b1_ BK64.out⟩, ⟨y1_ HB.out⟩⟩
  case round =>
    clear H'
    try clear p2
    obtain ⟨x8_1, rfl, HA, HK1, BK64, HB⟩ := hrel
    cases gk with
    | zero => exact absurd HA.out (by simp [slices_IndexFunc_int64_int64_v2.l0])
    | succ k1 =>
      have H := HA.out
      clear HA
      simp only [slices_IndexFunc_int64_int64_v2.l0] at H
      by_cases c3 : x8_1 < (l0.length : Int)
      · rw [if_pos c3] at H
        have c3b0 : decide (x8_1 < (l0.length : Int)) = true := decide_eq_true c3
        clear c3
        by_cases c4 : 0 ≤ x8_1
        · rw [if_pos c4] at H
          have c4b0 : decide (0 ≤ x8_1) = true := decide_eq_true c4
          clear c4
          by_cases c5 : x8_1 < (l0.length : Int)
          · rw [if_pos c5] at H
            have c5b0 : decide (x8_1 < (l0.length : Int)) = true := decide_eq_true c5
            clear c5
            replace H := Option.bind_eq_some_iff.mp H
            obtain ⟨t205, A60, H⟩ := H
            replace H : (if t205 = true then (some x8_1) else (slices_IndexFunc_int64_int64_v2.l0 k1 l0 (l0.length : Int) (wrap64 (x8_1 + 1)) a1_0)) = some r := H
            have A6 := A_ A60
            clear A60
            by_cases c7 : t205 = true
            · subst c7
              have H1 : (some x8_1) = some r := by rw [if_pos rfl] at H; exact H
              clear H
              have H := H1
              clear H1
              obtain rfl := Option.some.inj H
              have p204 : 0 ≤ (x8_1 : Int) := o1_
              have q204 : x8_1 < (l0.length : Int) := o1_
              obtain ⟨ad204, e204, hx204_0⟩ := Kd.at_int HR0.out x8_1 p204 q204
              cases e204
              replace hx204_0 := (HB.out.cell (World.block_lt_of_cell? w _ hx204_0)).trans hx204_0
              replace p204 := eq_true p204
              replace q204 := eq_true q204
              go_wp2_with (first | (go_at_call 83; (with_reducible refine (impl_DropFrom_1_v3.calls (rd l0 x8_1) g1_0_ a1_0 true _ ?side1 A6.out).mono ?_); (case side1 => exact (b1_ BK64.out)); rintro e w8 ⟨rfl, hb⟩; replace BK64 := A_ (blk_below (g := g1_0_) (o := .cells #[.int .i64 a1_0] 2 (0, 0)) (b1_ BK64.out) hb); replace HB := A_ (below_step (y1_ HB.out) hb); (try clear hb); (try clear hb2); (try clear hk); (try clear hi)))
              go_ret
              exact ⟨e1_, y1_ HB.out⟩
            · replace c7 := Bool.eq_false_iff.mpr c7
              subst c7
              have H1 : (slices_IndexFunc_int64_int64_v2.l0 k1 l0 (l0.length : Int) (wrap64 (x8_1 + 1)) a1_0) = some r := by rw [if_neg (show ¬ (false = true) by decide)] at H; exact H
              clear H
              have H := H1
              clear H1
              have H' := A_ H
              clear H
              have p204 : 0 ≤ (x8_1 : Int) := o1_
              have q204 : x8_1 < (l0.length : Int) := o1_
              obtain ⟨ad204, e204, hx204_0⟩ := Kd.at_int HR0.out x8_1 p204 q204
              cases e204
              replace hx204_0 := (HB.out.cell (World.block_lt_of_cell? w _ hx204_0)).trans hx204_0
              replace p204 := eq_true p204
              replace q204 := eq_true q204
              go_wp2_with (first | (go_at_call 83; (with_reducible refine (impl_DropFrom_1_v3.calls (rd l0 x8_1) g1_0_ a1_0 false _ ?side1 A6.out).mono ?_); (case side1 => exact (b1_ BK64.out)); rintro e w9 ⟨rfl, hb⟩; replace BK64 := A_ (blk_below (g := g1_0_) (o := .cells #[.int .i64 a1_0] 2 (0, 0)) (b1_ BK64.out) hb); replace HB := A_ (below_step (y1_ HB.out) hb); (try clear hb); (try clear hb2); (try clear hk); (try clear hi)))
              go_roundg k1
              case measure => have := HK1.out; omega
              case rel => exact ⟨(wrap64 (x8_1 + 1)), (by first | rfl | (simp; done) | (simp [*]; done)), H', ⟨by have := HK1.out; omega⟩, ⟨b1_ BK64.out⟩, ⟨y1_ HB.out⟩⟩
          · rw [if_neg c5] at H
            exact absurd H (by simp)
        · rw [if_neg c4] at H
          exact absurd H (by simp)
      · rw [if_neg c3] at H
        have c3b0 : decide (x8_1 < (l0.length : Int)) = false := decide_eq_false c3
        clear c3
        obtain rfl := Option.some.inj H
        go_wp2
        go_ret
        exact ⟨e1_, y1_ HB.out⟩

-- NOT PRINTED: function 82 (slices_DeleteFunc_int64_int64_v1)

-- NOT PRINTED: function 41 (impl_DropFrom)

/-! ### laws_heldInt64S: function 39 -/
def laws_heldInt64S.l0 : Nat → List Int → Int → Int → Option (Int)
  | 0, _, _, _ => none
  | k + 1, x0, x1, x5 => if x5 < (x0.length : Int) then (if 0 ≤ x5 then (if (rd x0 x5) = x1 then (laws_heldInt64S.l0 k x0 (wrap64 (x1 + 1)) (wrap64 (x5 + 1))) else (some (-1))) else (none)) else (some x1)
def laws_heldInt64S.f (k : Nat) (l0 : List Int) (a1 : Int) : Option (Int) := laws_heldInt64S.l0 k l0 a1 0
theorem laws_heldInt64S.mono_l : ∀ k, (∀ y0 y1 y2, LeO (laws_heldInt64S.l0 k y0 y1 y2) (laws_heldInt64S.l0 (k + 1) y0 y1 y2))
  | 0 => fun _ _ _ r h => by simp [laws_heldInt64S.l0] at h
  | k + 1 => by
    have ih0 := laws_heldInt64S.mono_l k
    · intro y0 y1 y2
      unfold laws_heldInt64S.l0
      repeat' first
      | (with_reducible exact ih0 _ _ _)
      | (with_reducible exact LeO.refl _)
      | (with_reducible exact LeO.none _)
      | (with_reducible refine LeO.ite ?_ ?_)
      | (with_reducible refine LeO.bind ?_ (fun _ => ?_))
      | exact ih0 _ _ _
      | exact LeO.none _
      | refine LeO.ite ?_ ?_
      | refine LeO.bind ?_ (fun _ => ?_)
theorem laws_heldInt64S.mono : ∀ a0 a1 k, LeO (laws_heldInt64S.f k a0 a1) (laws_heldInt64S.f (k + 1) a0 a1) := by
  intro a0 a1 k
  have ih0 := laws_heldInt64S.mono_l k
  unfold laws_heldInt64S.f
  repeat' first
      | (with_reducible exact ih0 _ _ _)
      | (with_reducible exact LeO.refl _)
      | (with_reducible exact LeO.none _)
      | (with_reducible refine LeO.ite ?_ ?_)
      | (with_reducible refine LeO.bind ?_ (fun _ => ?_))
      | exact ih0 _ _ _
      | exact LeO.none _
      | refine LeO.ite ?_ ?_
      | refine LeO.bind ?_ (fun _ => ?_)
set_option maxHeartbeats 8000000 in
set_option maxRecDepth 100000 in
theorem laws_heldInt64S.calls (k : Nat) (A0 : Option Addr) (c0 : Nat) (l0 : List Int) (a1 : Int) (r : Int) (w : World) (hr0 : Kd.C (Kd.int .i64) w A0 l0.length l0) (hc0 : l0.length ≤ c0) (h : laws_heldInt64S.f k l0 a1 = some r) :
    Calls Try.prog 39 #[.slice A0 l0.length c0, .int .i64 a1] w fun e w' => e = .returned (.int .i64 r) ∧ Drawn0 w w' := by
  have HR0 := A_ hr0
  have HC0 := A_ hc0
  clear hr0 hc0
  have H : (laws_heldInt64S.l0 k l0 a1 0) = some r := h
  clear h
  have H' := A_ H
  clear H
  go_enter Try.func39, Try.ntmps39
  go_wp2
  go_loopg [1, 5] k (fun kq v1 v5 w' => ∃ (x1_1 : Int) (x5_1 : Int), v1 = .int .i64 x1_1 ∧ v5 = .int .i64 x5_1 ∧ Aside0 (laws_heldInt64S.l0 kq l0 x1_1 x5_1 = some r) ∧ Aside0 (kq ≤ k) ∧ Drawn0 w w')
  case atStart => exact ⟨(a1), (0), (by first | rfl | (simp; done) | (simp [*]; done)), (by first | rfl | (simp; done) | (simp [*]; done)), H', ⟨Nat.le_refl _⟩, by repeat (first | exact Drawn0.refl _ | apply Drawn0.step)⟩
  case round =>
    clear H'
    try clear p2
    obtain ⟨x1_1, x5_1, rfl, rfl, HA, HK1, ⟨m1, rfl⟩⟩ := hrel
    cases gk with
    | zero => exact absurd HA.out (by simp [laws_heldInt64S.l0])
    | succ k1 =>
      have H := HA.out
      clear HA
      simp only [laws_heldInt64S.l0] at H
      by_cases c3 : x5_1 < (l0.length : Int)
      · rw [if_pos c3] at H
        have c3b0 : decide (x5_1 < (l0.length : Int)) = true := decide_eq_true c3
        clear c3
        by_cases c4 : 0 ≤ x5_1
        · rw [if_pos c4] at H
          have c4b0 : decide (0 ≤ x5_1) = true := decide_eq_true c4
          clear c4
          by_cases c5 : (rd l0 x5_1) = x1_1
          · rw [if_pos c5] at H
            have c5b0 : ((rd l0 x5_1) == x1_1) = true := beq_iff_eq.mpr c5
            have c5b1 : ((rd l0 x5_1) != x1_1) = false := bne_eq_false_iff_eq.mpr c5
            clear c5
            have H' := A_ H
            clear H
            have p248 : 0 ≤ (x5_1 : Int) := o1_
            have q248 : x5_1 < (l0.length : Int) := o1_
            obtain ⟨ad248, e248, hx248_0⟩ := Kd.at_int HR0.out x5_1 p248 q248
            cases e248
            replace p248 := eq_true p248
            replace q248 := eq_true q248
            go_wp2
            go_roundg k1
            case measure => have := HK1.out; omega
            case rel => exact ⟨(wrap64 (x1_1 + 1)), (wrap64 (x5_1 + 1)), (by first | rfl | (simp; done) | (simp [*]; done)), (by first | rfl | (simp; done) | (simp [*]; done)), H', ⟨by have := HK1.out; omega⟩, by repeat (first | exact Drawn0.refl _ | apply Drawn0.step)⟩
          · rw [if_neg c5] at H
            have c5b0 : ((rd l0 x5_1) == x1_1) = false := beq_eq_false_iff_ne.mpr c5
            have c5b1 : ((rd l0 x5_1) != x1_1) = true := bne_iff_ne.mpr c5
            obtain rfl := Option.some.inj H
            have p248 : 0 ≤ (x5_1 : Int) := o1_
            have q248 : x5_1 < (l0.length : Int) := o1_
            obtain ⟨ad248, e248, hx248_0⟩ := Kd.at_int HR0.out x5_1 p248 q248
            cases e248
            replace p248 := eq_true p248
            replace q248 := eq_true q248
            go_wp2
            go_ret
            exact ⟨by first | rfl | (simp; done) | (simp [*]; done), by repeat (first | exact Drawn0.refl _ | apply Drawn0.step)⟩
        · rw [if_neg c4] at H
          exact absurd H (by simp)
      · rw [if_neg c3] at H
        have c3b0 : decide (x5_1 < (l0.length : Int)) = false := decide_eq_false c3
        clear c3
        obtain rfl := Option.some.inj H
        go_wp2
        go_ret
        exact ⟨by first | rfl | (simp; done) | (simp [*]; done), by repeat (first | exact Drawn0.refl _ | apply Drawn0.step)⟩

end Go.Proofs.Ytcnhepjdibbkgaa.QFnExactDropFrom
