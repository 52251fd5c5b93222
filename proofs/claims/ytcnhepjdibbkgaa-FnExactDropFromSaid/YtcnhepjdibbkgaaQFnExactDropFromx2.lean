-- written by a program of this session, on the lines of the kit's print
import Derived.Test.YtcnhepjdibbkgaaQFnExactDropFromx0
import Derived.Test.YtcnhepjdibbkgaaQFnExactDropFromx1
namespace Go.Proofs.Ytcnhepjdibbkgaa.QFnExactDropFrom
open Go.RowKit Go.Proofs.YtcnhepjdibbkgaaW.PrintWords Go.Proofs.YtcnhepjdibbkgaaW.PrintLast Go.Proofs.YtcnhepjdibbkgaaW.PrintMore
attribute [local go_sem] max2_int min2_int max_two min_two max_three min_three max_four min_four   -- for this text's walks alone
set_option linter.unusedVariables false
set_option linter.unusedSimpArgs false

/-! ### laws_eqEntryS: function 49 -/
abbrev laws_eqEntryS.T : Bool := true
abbrev laws_eqEntryS.F : Bool := false
abbrev laws_eqEntryS.m0_ : Array Bool := #[F,F,F,F,F,F,F,F,F,F]
abbrev laws_eqEntryS.m1_ : Array Bool := #[T,F,F,F,F,F,F,F,F,F]
abbrev laws_eqEntryS.m2_ : Array Bool := #[T,T,F,F,F,F,F,F,F,F]
abbrev laws_eqEntryS.m3_ : Array Bool := #[T,T,T,F,F,F,F,F,F,F]
abbrev laws_eqEntryS.m4_ : Array Bool := #[T,T,T,F,T,F,F,F,F,F]
abbrev laws_eqEntryS.m5_ : Array Bool := #[T,T,T,F,T,T,F,F,F,F]
abbrev laws_eqEntryS.m6_ : Array Bool := #[T,T,T,F,T,T,T,F,F,F]
abbrev laws_eqEntryS.m7_ : Array Bool := #[T,T,T,T,T,T,T,F,F,F]
abbrev laws_eqEntryS.m8_ : Array Bool := #[T,T,T,T,T,T,T,T,F,F]
abbrev laws_eqEntryS.m9_ : Array Bool := #[T,T,T,T,T,T,T,T,T,F]
abbrev laws_eqEntryS.m10_ : Array Bool := #[T,T,T,T,T,T,T,T,T,T]
def laws_eqEntryS.l0 : Nat → List (S63) → List (S63) → Int → Option (Bool)
  | 0, _, _, _ => none
  | k + 1, x0, x1, x5 => if x5 < (x0.length : Int) then (if 0 ≤ x5 then (if x5 < (x1.length : Int) then ((laws_eqEntry.f k ((rd_T63 x0 x5).f0) ((rd_T63 x0 x5).f1) ((rd_T63 x1 x5).f0) ((rd_T63 x1 x5).f1)).bind fun t140 => (if t140 = true then (laws_eqEntryS.l0 k x0 x1 (wrap64 (x5 + 1))) else (some false))) else (none)) else (none)) else (some true)
def laws_eqEntryS.f (k : Nat) (l0 : List (S63)) (l1 : List (S63)) : Option (Bool) := if (l0.length : Int) = (l1.length : Int) then (laws_eqEntryS.l0 k l0 l1 0) else (some false)
theorem laws_eqEntryS.mono_l : ∀ k, (∀ y0 y1 y2, LeO (laws_eqEntryS.l0 k y0 y1 y2) (laws_eqEntryS.l0 (k + 1) y0 y1 y2))
  | 0 => fun _ _ _ r h => by simp [laws_eqEntryS.l0] at h
  | k + 1 => by
    have ih0 := laws_eqEntryS.mono_l k
    · intro y0 y1 y2
      unfold laws_eqEntryS.l0
      repeat' first
      | (with_reducible exact ih0 _ _ _)
      | (with_reducible exact laws_eqEntry.mono _ _ _ _ _)
      | (with_reducible exact LeO.refl _)
      | (with_reducible exact LeO.none _)
      | (with_reducible refine LeO.ite ?_ ?_)
      | (with_reducible refine LeO.bind ?_ (fun _ => ?_))
      | exact ih0 _ _ _
      | exact laws_eqEntry.mono _ _ _ _ _
      | exact LeO.none _
      | refine LeO.ite ?_ ?_
      | refine LeO.bind ?_ (fun _ => ?_)
theorem laws_eqEntryS.mono : ∀ a0 a1 k, LeO (laws_eqEntryS.f k a0 a1) (laws_eqEntryS.f (k + 1) a0 a1) := by
  intro a0 a1 k
  have ih0 := laws_eqEntryS.mono_l k
  unfold laws_eqEntryS.f
  repeat' first
      | (with_reducible exact ih0 _ _ _)
      | (with_reducible exact laws_eqEntry.mono _ _ _ _ _)
      | (with_reducible exact LeO.refl _)
      | (with_reducible exact LeO.none _)
      | (with_reducible refine LeO.ite ?_ ?_)
      | (with_reducible refine LeO.bind ?_ (fun _ => ?_))
      | exact ih0 _ _ _
      | exact laws_eqEntry.mono _ _ _ _ _
      | exact LeO.none _
      | refine LeO.ite ?_ ?_
      | refine LeO.bind ?_ (fun _ => ?_)
def laws_eqEntryS.T6 : Bool × List (List Nat × List Nat) := (true, [([], []), ([], []), ([0, 1], [0, 1]), ([2], [2]), ([], []), ([], []), ([4, 5], [4, 5]), ([6], [6]), ([3, 7], [3, 7]), ([8], [8])])
def laws_eqEntryS.B6 : List Nat := [0, 0, 3, 7, 0, 0, 48, 112, 255, 511]
theorem laws_eqEntryS.tab6 : rtab .any (opsOf Try.f49 6) = laws_eqEntryS.T6 := by kernel_rfl
theorem laws_eqEntryS.bits6 : waitsOk laws_eqEntryS.T6.2 laws_eqEntryS.B6 = true := by kernel_rfl
set_option maxHeartbeats 8000000 in
set_option maxRecDepth 100000 in
theorem laws_eqEntryS.calls (k : Nat) (A0 : Option Addr) (c0 : Nat) (l0 : List (S63)) (A1 : Option Addr) (c1 : Nat) (l1 : List (S63)) (r : Bool) (w : World) (hr0 : Kd.C k63 w A0 l0.length l0) (hc0 : l0.length ≤ c0) (hr1 : Kd.C k63 w A1 l1.length l1) (hc1 : l1.length ≤ c1) (h : laws_eqEntryS.f k l0 l1 = some r) :
    Calls Try.prog 49 #[.slice A0 l0.length c0, .slice A1 l1.length c1] w fun e w' => e = .returned (.bool r) ∧ Below w.heap.size w w' := by
 have hu63 := Try.underlying63
 have HR0 := A_ hr0
 have HC0 := A_ hc0
 clear hr0 hc0
 have HR1 := A_ hr1
 have HC1 := A_ hc1
 clear hr1 hc1
 have HB := A_ (Below.refl w.heap.size w)
 have H : (if (l0.length : Int) = (l1.length : Int) then (laws_eqEntryS.l0 k l0 l1 0) else (some false)) = some r := h
 clear h
 by_cases c3 : (l0.length : Int) = (l1.length : Int)
 {
 rw [if_pos c3] at H
 have c3b0 : ((l0.length : Int) == (l1.length : Int)) = true := beq_iff_eq.mpr c3
 have c3b1 : ((l0.length : Int) != (l1.length : Int)) = false := bne_eq_false_iff_eq.mpr c3
 have c3b2 : (l0.length == l1.length) = true := by first | simpa using c3 | (simp at c3 ⊢; omega)
 clear c3
 have H' := A_ H
 clear H
 go_enter Try.func49, Try.ntmps49
 go_wp2
 go_loopg [5] k (fun kq v5 w' => ∃ (x5_1 : Int), v5 = .int .i64 x5_1 ∧ Aside0 (laws_eqEntryS.l0 kq l0 l1 x5_1 = some r) ∧ Aside0 (kq ≤ k) ∧ Aside0 (Below w.heap.size w w'))
 case atStart => exact ⟨(0), (by first | rfl | (simp; done) | (simp [*]; done)), H', ⟨Nat.le_refl _⟩, ⟨y1_ HB.out⟩⟩
 case round =>
  skip
  {
 clear H'
 try clear c1
 try clear p2
 try clear c3
 try clear c3b0
 try clear c3b1
 try clear c3b2
 obtain ⟨x5_1, rfl, HA, HK1, HB⟩ := hrel
 cases gk with
 | zero => exact absurd HA.out (by simp [laws_eqEntryS.l0])
 | succ k1 =>
  skip
  {
 have H := HA.out
 clear HA
 simp only [laws_eqEntryS.l0] at H
 by_cases c4 : x5_1 < (l0.length : Int)
 {
 rw [if_pos c4] at H
 have c4b0 : decide (x5_1 < (l0.length : Int)) = true := decide_eq_true c4
 clear c4
 by_cases c5 : 0 ≤ x5_1
 {
 rw [if_pos c5] at H
 have c5b0 : decide (0 ≤ x5_1) = true := decide_eq_true c5
 clear c5
 by_cases c6 : x5_1 < (l1.length : Int)
 {
 rw [if_pos c6] at H
 have c6b0 : decide (x5_1 < (l1.length : Int)) = true := decide_eq_true c6
 clear c6
 replace H := Option.bind_eq_some_iff.mp H
 obtain ⟨t140, A70, H⟩ := H
 replace H : (if t140 = true then (laws_eqEntryS.l0 k1 l0 l1 (wrap64 (x5_1 + 1))) else (some false)) = some r := H
 have A7 := A_ A70
 clear A70
 by_cases c8 : t140 = true
 {
 subst c8
 have H1 : (laws_eqEntryS.l0 k1 l0 l1 (wrap64 (x5_1 + 1))) = some r := by rw [if_pos rfl] at H; exact H
 clear H
 have H := H1
 clear H1
 have H' := A_ H
 clear H
 try go_wp2
 replace HB := A_ (below_drew1 HB.out)
 have p138 : 0 ≤ (x5_1 : Int) := o1_
 have q138 : x5_1 < (l0.length : Int) := o1_
 obtain ⟨ad138, A138_1, c138_1, e138, hx138_0, hx138_1, hl138_1, hi138_1⟩ := at_T63 HR0.out x5_1 p138 q138
 have hw138_1 := hx138_1
 have hw138_0 := hx138_0
 cases e138
 replace hx138_0 := (HB.out.cell (World.block_lt_of_cell? w _ hx138_0)).trans hx138_0
 replace hx138_1 := (HB.out.cell (World.block_lt_of_cell? w _ hx138_1)).trans hx138_1
 have HR138_1 := A_ hi138_1
 have HC138_1 := A_ hl138_1
 clear hi138_1 hl138_1
 replace p138 := eq_true p138
 replace q138 := eq_true q138
 have p139 : 0 ≤ (x5_1 : Int) := o1_
 have q139 : x5_1 < (l1.length : Int) := o1_
 obtain ⟨ad139, A139_1, c139_1, e139, hx139_0, hx139_1, hl139_1, hi139_1⟩ := at_T63 HR1.out x5_1 p139 q139
 have hw139_1 := hx139_1
 have hw139_0 := hx139_0
 cases e139
 replace hx139_0 := (HB.out.cell (World.block_lt_of_cell? w _ hx139_0)).trans hx139_0
 replace hx139_1 := (HB.out.cell (World.block_lt_of_cell? w _ hx139_1)).trans hx139_1
 have HR139_1 := A_ hi139_1
 have HC139_1 := A_ hl139_1
 clear hi139_1 hl139_1
 replace p139 := eq_true p139
 replace q139 := eq_true q139
 refine start_ (n := 10) (S := fun w' => w'.cell? (ad138.add ((x5_1).toNat * 2)) = some (.string ((rd_T63 l0 x5_1).f0)) ∧ w'.cell? ⟨(ad138.add ((x5_1).toNat * 2)).block, (ad138.add ((x5_1).toNat * 2)).off + 1, none⟩ = some (.slice A138_1 ((rd_T63 l0 x5_1).f1).length c138_1) ∧ w'.cell? (ad139.add ((x5_1).toNat * 2)) = some (.string ((rd_T63 l1 x5_1).f0)) ∧ w'.cell? ⟨(ad139.add ((x5_1).toNat * 2)).block, (ad139.add ((x5_1).toNat * 2)).off + 1, none⟩ = some (.slice A139_1 ((rd_T63 l1 x5_1).f1).length c139_1)) (ds := []) m0_ s2_ rfl rfl ⟨((HB.out.cell (World.block_lt_of_cell? w _ hw138_0)).trans hw138_0), ((HB.out.cell (World.block_lt_of_cell? w _ hw138_1)).trans hw138_1), ((HB.out.cell (World.block_lt_of_cell? w _ hw139_0)).trans hw139_0), ((HB.out.cell (World.block_lt_of_cell? w _ hw139_1)).trans hw139_1)⟩ (fun hHeld => ?_); refine with_tabW laws_eqEntryS.tab6 laws_eqEntryS.bits6 (fun HT_ HW_ => ?_)
 generalize wr.drew = w9 at HB HR138_1 HR139_1 hx138_0 hx138_1 hx139_0 hx139_1 hHeld ⊢
 refine pu_ 0 17 m1_ (any_of HT_.out s2_) ?_
 refine pu_ 1 18 m2_ (any_of HT_.out s2_) ?_
 refine pu_ 2 19 m3_ (any_of HT_.out s2_) ?_
 refine pu_ 4 21 m4_ (any_of HT_.out s2_) ?_
 refine pu_ 5 22 m5_ (any_of HT_.out s2_) ?_
 refine pu_ 6 23 m6_ (any_of HT_.out s2_) ?_
 refine take_ (i := 3) (N := some 20) (v := ?_) (a' := ?_) m7_ rfl rfl (take_ofW HT_.out HW_.out s2_) (fun _ _ _ h => h) (Or.inl ⟨by rfl, ?_⟩) hHeld ?_ ?_
 rotate_left
 {
 rintro w' ⟨s0, s1, s2, s3⟩
 go_simp
 with_reducible rfl}
 rotate_left
 · exact p1_
 refine take_ (i := 7) (N := some 24) (v := ?_) (a' := ?_) m8_ rfl rfl (take_ofW HT_.out HW_.out s2_) (fun _ _ _ h => h) (Or.inl ⟨by rfl, ?_⟩) hHeld ?_ ?_
 rotate_left
 {
 rintro w' ⟨s0, s1, s2, s3⟩
 go_simp
 with_reducible rfl}
 rotate_left
 · exact p1_
 refine one_ (i := 8) (N := some 25) m9_ rfl rfl (one_of HT_.out s2_) (by decide) (fun K hK => ?_)
 refine goes_ Try.func89 s2_ rfl #[.agg #[.string ((rd_T63 l0 x5_1).f0), .slice A138_1 ((rd_T63 l0 x5_1).f1).length c138_1], .agg #[.string ((rd_T63 l1 x5_1).f0), .slice A139_1 ((rd_T63 l1 x5_1).f1).length c139_1]] (by rfl) rfl rfl (by (try simp only [List.map_toArray, List.map_cons, List.map_nil]); first | done | rfl | (simp only [List.length_drop, List.length_take]; rfl)) ?_
 with_reducible refine (laws_eqEntry.calls k1 ((rd_T63 l0 x5_1).f0) _ _ ((rd_T63 l0 x5_1).f1) ((rd_T63 l1 x5_1).f0) _ _ ((rd_T63 l1 x5_1).f1) true _ ?side1 ?side2 ?side3 ?side4 A7.out).mono ?_
 (case side1 => exact y2_ (Kd.C_below HR138_1.out HB.out))
 (case side2 => exact HC138_1.out)
 (case side3 => exact y2_ (Kd.C_below HR139_1.out HB.out))
 (case side4 => exact HC139_1.out)
 rintro e w10 ⟨rfl, hb⟩
 refine ⟨_, rfl, ?_⟩
 replace HB := A_ (below_step (y1_ HB.out) hb)
 (try clear hb)
 (try clear hb2)
 (try clear hk)
 (try clear hi)
 refine hK.out _ _ ⟨((HB.out.cell (World.block_lt_of_cell? w _ hw138_0)).trans hw138_0), ((HB.out.cell (World.block_lt_of_cell? w _ hw138_1)).trans hw138_1), ((HB.out.cell (World.block_lt_of_cell? w _ hw139_0)).trans hw139_0), ((HB.out.cell (World.block_lt_of_cell? w _ hw139_1)).trans hw139_1)⟩ (fun hHeld => ?_)
 clear hK K
 refine norm_ (a' := ?_) ?_ ?_
 rotate_left
 {
 show Act.put _ (some 25) _ = _
 simp only [Act.put, List.setIfInBounds_toArray, List.set_cons_zero, List.set_cons_succ, i64_w, i32_w]
 rfl}
 refine pu_ 9 26 m10_ (any_of HT_.out s2_) ?_
 refine done_ (done_of HT_.out s2_) ?_
 try go_wp2
 go_roundg k1
 case measure => have := HK1.out; omega
 case rel => exact ⟨(wrap64 (x5_1 + 1)), (by first | rfl | (simp; done) | (simp [*]; done)), H', ⟨by have := HK1.out; omega⟩, ⟨y1_ HB.out⟩⟩}
 {
 replace c8 := Bool.eq_false_iff.mpr c8
 subst c8
 have H1 : (some false) = some r := by rw [if_neg (show ¬ (false = true) by decide)] at H; exact H
 clear H
 have H := H1
 clear H1
 obtain rfl := Option.some.inj H
 try go_wp2
 replace HB := A_ (below_drew1 HB.out)
 have p138 : 0 ≤ (x5_1 : Int) := o1_
 have q138 : x5_1 < (l0.length : Int) := o1_
 obtain ⟨ad138, A138_1, c138_1, e138, hx138_0, hx138_1, hl138_1, hi138_1⟩ := at_T63 HR0.out x5_1 p138 q138
 have hw138_1 := hx138_1
 have hw138_0 := hx138_0
 cases e138
 replace hx138_0 := (HB.out.cell (World.block_lt_of_cell? w _ hx138_0)).trans hx138_0
 replace hx138_1 := (HB.out.cell (World.block_lt_of_cell? w _ hx138_1)).trans hx138_1
 have HR138_1 := A_ hi138_1
 have HC138_1 := A_ hl138_1
 clear hi138_1 hl138_1
 replace p138 := eq_true p138
 replace q138 := eq_true q138
 have p139 : 0 ≤ (x5_1 : Int) := o1_
 have q139 : x5_1 < (l1.length : Int) := o1_
 obtain ⟨ad139, A139_1, c139_1, e139, hx139_0, hx139_1, hl139_1, hi139_1⟩ := at_T63 HR1.out x5_1 p139 q139
 have hw139_1 := hx139_1
 have hw139_0 := hx139_0
 cases e139
 replace hx139_0 := (HB.out.cell (World.block_lt_of_cell? w _ hx139_0)).trans hx139_0
 replace hx139_1 := (HB.out.cell (World.block_lt_of_cell? w _ hx139_1)).trans hx139_1
 have HR139_1 := A_ hi139_1
 have HC139_1 := A_ hl139_1
 clear hi139_1 hl139_1
 replace p139 := eq_true p139
 replace q139 := eq_true q139
 refine start_ (n := 10) (S := fun w' => w'.cell? (ad138.add ((x5_1).toNat * 2)) = some (.string ((rd_T63 l0 x5_1).f0)) ∧ w'.cell? ⟨(ad138.add ((x5_1).toNat * 2)).block, (ad138.add ((x5_1).toNat * 2)).off + 1, none⟩ = some (.slice A138_1 ((rd_T63 l0 x5_1).f1).length c138_1) ∧ w'.cell? (ad139.add ((x5_1).toNat * 2)) = some (.string ((rd_T63 l1 x5_1).f0)) ∧ w'.cell? ⟨(ad139.add ((x5_1).toNat * 2)).block, (ad139.add ((x5_1).toNat * 2)).off + 1, none⟩ = some (.slice A139_1 ((rd_T63 l1 x5_1).f1).length c139_1)) (ds := []) m0_ s2_ rfl rfl ⟨((HB.out.cell (World.block_lt_of_cell? w _ hw138_0)).trans hw138_0), ((HB.out.cell (World.block_lt_of_cell? w _ hw138_1)).trans hw138_1), ((HB.out.cell (World.block_lt_of_cell? w _ hw139_0)).trans hw139_0), ((HB.out.cell (World.block_lt_of_cell? w _ hw139_1)).trans hw139_1)⟩ (fun hHeld => ?_); refine with_tabW laws_eqEntryS.tab6 laws_eqEntryS.bits6 (fun HT_ HW_ => ?_)
 generalize wr.drew = w11 at HB HR138_1 HR139_1 hx138_0 hx138_1 hx139_0 hx139_1 hHeld ⊢
 refine pu_ 0 17 m1_ (any_of HT_.out s2_) ?_
 refine pu_ 1 18 m2_ (any_of HT_.out s2_) ?_
 refine pu_ 2 19 m3_ (any_of HT_.out s2_) ?_
 refine pu_ 4 21 m4_ (any_of HT_.out s2_) ?_
 refine pu_ 5 22 m5_ (any_of HT_.out s2_) ?_
 refine pu_ 6 23 m6_ (any_of HT_.out s2_) ?_
 refine take_ (i := 3) (N := some 20) (v := ?_) (a' := ?_) m7_ rfl rfl (take_ofW HT_.out HW_.out s2_) (fun _ _ _ h => h) (Or.inl ⟨by rfl, ?_⟩) hHeld ?_ ?_
 rotate_left
 {
 rintro w' ⟨s0, s1, s2, s3⟩
 go_simp
 with_reducible rfl}
 rotate_left
 · exact p1_
 refine take_ (i := 7) (N := some 24) (v := ?_) (a' := ?_) m8_ rfl rfl (take_ofW HT_.out HW_.out s2_) (fun _ _ _ h => h) (Or.inl ⟨by rfl, ?_⟩) hHeld ?_ ?_
 rotate_left
 {
 rintro w' ⟨s0, s1, s2, s3⟩
 go_simp
 with_reducible rfl}
 rotate_left
 · exact p1_
 refine one_ (i := 8) (N := some 25) m9_ rfl rfl (one_of HT_.out s2_) (by decide) (fun K hK => ?_)
 refine goes_ Try.func89 s2_ rfl #[.agg #[.string ((rd_T63 l0 x5_1).f0), .slice A138_1 ((rd_T63 l0 x5_1).f1).length c138_1], .agg #[.string ((rd_T63 l1 x5_1).f0), .slice A139_1 ((rd_T63 l1 x5_1).f1).length c139_1]] (by rfl) rfl rfl (by (try simp only [List.map_toArray, List.map_cons, List.map_nil]); first | done | rfl | (simp only [List.length_drop, List.length_take]; rfl)) ?_
 with_reducible refine (laws_eqEntry.calls k1 ((rd_T63 l0 x5_1).f0) _ _ ((rd_T63 l0 x5_1).f1) ((rd_T63 l1 x5_1).f0) _ _ ((rd_T63 l1 x5_1).f1) false _ ?side1 ?side2 ?side3 ?side4 A7.out).mono ?_
 (case side1 => exact y2_ (Kd.C_below HR138_1.out HB.out))
 (case side2 => exact HC138_1.out)
 (case side3 => exact y2_ (Kd.C_below HR139_1.out HB.out))
 (case side4 => exact HC139_1.out)
 rintro e w12 ⟨rfl, hb⟩
 refine ⟨_, rfl, ?_⟩
 replace HB := A_ (below_step (y1_ HB.out) hb)
 (try clear hb)
 (try clear hb2)
 (try clear hk)
 (try clear hi)
 refine hK.out _ _ ⟨((HB.out.cell (World.block_lt_of_cell? w _ hw138_0)).trans hw138_0), ((HB.out.cell (World.block_lt_of_cell? w _ hw138_1)).trans hw138_1), ((HB.out.cell (World.block_lt_of_cell? w _ hw139_0)).trans hw139_0), ((HB.out.cell (World.block_lt_of_cell? w _ hw139_1)).trans hw139_1)⟩ (fun hHeld => ?_)
 clear hK K
 refine norm_ (a' := ?_) ?_ ?_
 rotate_left
 {
 show Act.put _ (some 25) _ = _
 simp only [Act.put, List.setIfInBounds_toArray, List.set_cons_zero, List.set_cons_succ, i64_w, i32_w]
 rfl}
 refine pu_ 9 26 m10_ (any_of HT_.out s2_) ?_
 refine done_ (done_of HT_.out s2_) ?_
 try go_wp2
 go_ret
 exact ⟨e1_, y1_ HB.out⟩}}
 {
 rw [if_neg c6] at H
 exact absurd H (by simp)}}
 {
 rw [if_neg c5] at H
 exact absurd H (by simp)}}
 {
 rw [if_neg c4] at H
 have c4b0 : decide (x5_1 < (l0.length : Int)) = false := decide_eq_false c4
 clear c4
 obtain rfl := Option.some.inj H
 go_wp2
 go_ret
 exact ⟨e1_, y1_ HB.out⟩}}}}
 {
 rw [if_neg c3] at H
 have c3b0 : ((l0.length : Int) == (l1.length : Int)) = false := beq_eq_false_iff_ne.mpr c3
 have c3b1 : ((l0.length : Int) != (l1.length : Int)) = true := bne_iff_ne.mpr c3
 have c3b2 : (l0.length == l1.length) = false := by first | simpa using c3 | (simp at c3 ⊢; omega)
 obtain rfl := Option.some.inj H
 go_enter Try.func49, Try.ntmps49
 go_wp2
 go_ret
 exact ⟨e1_, y1_ HB.out⟩}

/-! ### laws_eqIndex: function 15 -/
abbrev laws_eqIndex.T : Bool := true
abbrev laws_eqIndex.F : Bool := false
def laws_eqIndex.f (k : Nat) (l0_0 : List (S63)) (l1_0 : List (S63)) : Option (Bool) := (laws_eqEntryS.f k l0_0 l1_0).bind fun t143 => (if t143 = true then (some true) else (some false))
theorem laws_eqIndex.mono : ∀ a0 a1 k, LeO (laws_eqIndex.f k a0 a1) (laws_eqIndex.f (k + 1) a0 a1) := by
  intro a0 a1 k
  unfold laws_eqIndex.f
  repeat' first
      | (with_reducible exact laws_eqEntryS.mono _ _ _)
      | (with_reducible exact LeO.refl _)
      | (with_reducible exact LeO.none _)
      | (with_reducible refine LeO.ite ?_ ?_)
      | (with_reducible refine LeO.bind ?_ (fun _ => ?_))
      | exact laws_eqEntryS.mono _ _ _
      | exact LeO.none _
      | refine LeO.ite ?_ ?_
      | refine LeO.bind ?_ (fun _ => ?_)
set_option maxHeartbeats 8000000 in
set_option maxRecDepth 100000 in
theorem laws_eqIndex.calls (k : Nat) (A0_0 : Option Addr) (c0_0 : Nat) (l0_0 : List (S63)) (A1_0 : Option Addr) (c1_0 : Nat) (l1_0 : List (S63)) (r : Bool) (w : World) (hr0_0 : Kd.C k63 w A0_0 l0_0.length l0_0) (hc0_0 : l0_0.length ≤ c0_0) (hr1_0 : Kd.C k63 w A1_0 l1_0.length l1_0) (hc1_0 : l1_0.length ≤ c1_0) (h : laws_eqIndex.f k l0_0 l1_0 = some r) :
    Calls Try.prog 15 #[.agg #[.slice A0_0 l0_0.length c0_0], .agg #[.slice A1_0 l1_0.length c1_0]] w fun e w' => e = .returned (.bool r) ∧ Below w.heap.size w w' := by
 have hu29 := Try.underlying29
 have HR0_0 := A_ hr0_0
 have HC0_0 := A_ hc0_0
 clear hr0_0 hc0_0
 have HR1_0 := A_ hr1_0
 have HC1_0 := A_ hc1_0
 clear hr1_0 hc1_0
 have HB := A_ (Below.refl w.heap.size w)
 have H : ((laws_eqEntryS.f k l0_0 l1_0).bind fun t143 => (if t143 = true then (some true) else (some false))) = some r := h
 clear h
 replace H := Option.bind_eq_some_iff.mp H
 obtain ⟨t143, A30, H⟩ := H
 replace H : (if t143 = true then (some true) else (some false)) = some r := H
 have A3 := A_ A30
 clear A30
 by_cases c4 : t143 = true
 {
 subst c4
 have H1 : (some true) = some r := by rw [if_pos rfl] at H; exact H
 clear H
 have H := H1
 clear H1
 obtain rfl := Option.some.inj H
 go_enter Try.func15, Try.ntmps15
 go_wp2_with (first | ((with_reducible refine gate_dst (N := 2) rfl ?_); refine bx_ 2 #[.slice A0_0 l0_0.length c0_0] 29 ?_; intro gb141 hg w5 hbox hb; have GW141 := b6_ hg HB; have GE141 := b6_ hg HB; replace HB := A_ (below_step (y1_ HB.out) hb); have BK141 := A_ (hbox); clear hb hbox hg) | ((with_reducible refine gate_dst (N := 3) rfl ?_); refine bx_ 3 #[.slice A1_0 l1_0.length c1_0] 29 ?_; intro gb142 hg w6 hbox hb; have GW142 := b6_ hg HB; have GE142 := b6_ hg HB; have NB141_142 := b4_ hg BK141; have NB142_141 := b5_ hg BK141; replace BK141 := b3_ BK141 hb; replace HB := A_ (below_step (y1_ HB.out) hb); have BK142 := A_ (hbox); clear hb hbox hg; have hnb7 := NB141_142.out; have hnc7 := NB142_141.out; have hcz8_0 := c1_ BK141 0 (.slice A0_0 l0_0.length c0_0); have hfz8_0 := blk_frozen BK141.out 0; have hcz9_0 := c1_ BK142 0 (.slice A1_0 l1_0.length c1_0); have hfz9_0 := blk_frozen BK142.out 0) | ((with_reducible refine gate_callee (f := 49) rfl ?_); refine goesL_ (some 9) rfl rfl Try.func49 (by kernel_rfl) rfl #[.slice A0_0 l0_0.length c0_0, .slice A1_0 l1_0.length c1_0] rfl (by (try simp only [List.map_toArray, List.map_cons, List.map_nil]); first | done | rfl | (simp only [List.length_drop, List.length_take]; rfl)) ?_; (with_reducible refine (laws_eqEntryS.calls k _ _ l0_0 _ _ l1_0 true _ ?side1 ?side2 ?side3 ?side4 A3.out).mono ?_); (case side1 => exact y2_ (Kd.C_below HR0_0.out HB.out)); (case side2 => exact HC0_0.out); (case side3 => exact y2_ (Kd.C_below HR1_0.out HB.out)); (case side4 => exact HC1_0.out); rintro e w10 ⟨rfl, hb⟩; refine ⟨_, rfl, ?_⟩; replace BK141 := b3_ BK141 hb; replace BK142 := b3_ BK142 hb; replace HB := A_ (below_step (y1_ HB.out) hb); (try clear hb); (try clear hb2); (try clear hk); (try clear hi)))
 go_ret
 exact ⟨e1_, y1_ HB.out⟩}
 {
 replace c4 := Bool.eq_false_iff.mpr c4
 subst c4
 have H1 : (some false) = some r := by rw [if_neg (show ¬ (false = true) by decide)] at H; exact H
 clear H
 have H := H1
 clear H1
 obtain rfl := Option.some.inj H
 go_enter Try.func15, Try.ntmps15
 go_wp2_with (first | ((with_reducible refine gate_dst (N := 2) rfl ?_); refine bx_ 2 #[.slice A0_0 l0_0.length c0_0] 29 ?_; intro gb141 hg w11 hbox hb; have GW141 := b6_ hg HB; have GE141 := b6_ hg HB; replace HB := A_ (below_step (y1_ HB.out) hb); have BK141 := A_ (hbox); clear hb hbox hg) | ((with_reducible refine gate_dst (N := 3) rfl ?_); refine bx_ 3 #[.slice A1_0 l1_0.length c1_0] 29 ?_; intro gb142 hg w12 hbox hb; have GW142 := b6_ hg HB; have GE142 := b6_ hg HB; have NB141_142 := b4_ hg BK141; have NB142_141 := b5_ hg BK141; replace BK141 := b3_ BK141 hb; replace HB := A_ (below_step (y1_ HB.out) hb); have BK142 := A_ (hbox); clear hb hbox hg; have hnb13 := NB141_142.out; have hnc13 := NB142_141.out; have hcz14_0 := c1_ BK141 0 (.slice A0_0 l0_0.length c0_0); have hfz14_0 := blk_frozen BK141.out 0; have hcz15_0 := c1_ BK142 0 (.slice A1_0 l1_0.length c1_0); have hfz15_0 := blk_frozen BK142.out 0) | ((with_reducible refine gate_callee (f := 49) rfl ?_); refine goesL_ (some 9) rfl rfl Try.func49 (by kernel_rfl) rfl #[.slice A0_0 l0_0.length c0_0, .slice A1_0 l1_0.length c1_0] rfl (by (try simp only [List.map_toArray, List.map_cons, List.map_nil]); first | done | rfl | (simp only [List.length_drop, List.length_take]; rfl)) ?_; (with_reducible refine (laws_eqEntryS.calls k _ _ l0_0 _ _ l1_0 false _ ?side1 ?side2 ?side3 ?side4 A3.out).mono ?_); (case side1 => exact y2_ (Kd.C_below HR0_0.out HB.out)); (case side2 => exact HC0_0.out); (case side3 => exact y2_ (Kd.C_below HR1_0.out HB.out)); (case side4 => exact HC1_0.out); rintro e w16 ⟨rfl, hb⟩; refine ⟨_, rfl, ?_⟩; replace BK141 := b3_ BK141 hb; replace BK142 := b3_ BK142 hb; replace HB := A_ (below_step (y1_ HB.out) hb); (try clear hb); (try clear hb2); (try clear hk); (try clear hi)))
 go_ret
 exact ⟨e1_, y1_ HB.out⟩}

/-! ### laws_markInt64S: function 38 -/
def laws_markInt64S.l0 : Nat → List Int → Int → Int → Option (Int × List Int)
  | 0, _, _, _ => none
  | k + 1, x0, x1, x5 => if x5 < (x0.length : Int) then (if 0 ≤ x5 then (laws_markInt64S.l0 k (x0.set (x5 : Int).toNat x1) (wrap64 (x1 + 1)) (wrap64 (x5 + 1))) else (none)) else (some (x1, x0))
def laws_markInt64S.f (k : Nat) (l0 : List Int) (a1 : Int) : Option (Int × List Int) := laws_markInt64S.l0 k l0 a1 0
theorem laws_markInt64S.mono_l : ∀ k, (∀ y0 y1 y2, LeO (laws_markInt64S.l0 k y0 y1 y2) (laws_markInt64S.l0 (k + 1) y0 y1 y2))
  | 0 => fun _ _ _ r h => by simp [laws_markInt64S.l0] at h
  | k + 1 => by
    have ih0 := laws_markInt64S.mono_l k
    · intro y0 y1 y2
      unfold laws_markInt64S.l0
      repeat' first
      | (with_reducible exact ih0 _ _ _)
      | (with_reducible exact LeO.refl _)
      | (with_reducible exact LeO.none _)
      | (with_reducible refine LeO.ite ?_ ?_)
      | (with_reducible refine LeO.bind ?_ (fun _ => ?_))
      | exact ih0 _ _ _
      | exact LeO.none _
      | refine LeO.ite ?_ ?_
      | refine LeO.bind ?_ (fun _ => ?_)
theorem laws_markInt64S.mono : ∀ a0 a1 k, LeO (laws_markInt64S.f k a0 a1) (laws_markInt64S.f (k + 1) a0 a1) := by
  intro a0 a1 k
  have ih0 := laws_markInt64S.mono_l k
  unfold laws_markInt64S.f
  repeat' first
      | (with_reducible exact ih0 _ _ _)
      | (with_reducible exact LeO.refl _)
      | (with_reducible exact LeO.none _)
      | (with_reducible refine LeO.ite ?_ ?_)
      | (with_reducible refine LeO.bind ?_ (fun _ => ?_))
      | exact ih0 _ _ _
      | exact LeO.none _
      | refine LeO.ite ?_ ?_
      | refine LeO.bind ?_ (fun _ => ?_)
set_option maxHeartbeats 8000000 in
set_option maxRecDepth 100000 in
theorem laws_markInt64S.calls (k : Nat) (P0_ : Nat → Prop) (u9000_ : Value) (l0 : List Int) (a1 : Int) (r1 : Int) (r2 : List Int) (w0 w : World) (hB : Below w0.heap.size w0 w) (ho0 : Kd.R (Kd.int .i64) 2 w w0.heap.size P0_ u9000_ l0) (h : laws_markInt64S.f k l0 a1 = some (r1, r2)) :
    Calls Try.prog 38 #[u9000_, .int .i64 a1] w fun e w' => e = .returned (.int .i64 r1) ∧ Kd.R (Kd.int .i64) 2 w' w0.heap.size (fun k_ => (P0_ k_ ∨ w.heap.size ≤ k_)) u9000_ r2 ∧ Below w0.heap.size w0 w' ∧ Kept w w' (fun k_ => P0_ k_) := by
  have HO0 := A_ (show Kd.R (Kd.int .i64) 2 w w0.heap.size (fun k_ => (P0_ k_ ∨ w.heap.size ≤ k_)) u9000_ l0 from Kd.R_mono ho0 (fun k_ hk => (.inl hk)))
  have HK := A_ (Kept.refl w (fun k_ => P0_ k_))
  have HW0 := A_ hB.size
  have HB := A_ hB
  clear hB
  have H : (laws_markInt64S.l0 k l0 a1 0) = some (r1, r2) := h
  clear h
  have H' := A_ H
  clear H
  go_enter Try.func38, Try.ntmps38
  go_wp2
  go_loopg [1, 5] k (fun kq v1 v5 w' => ∃ (x0_1 : List Int) (x1_1 : Int) (x5_1 : Int), v1 = .int .i64 x1_1 ∧ v5 = .int .i64 x5_1 ∧ Aside0 (laws_markInt64S.l0 kq x0_1 x1_1 x5_1 = some (r1, r2)) ∧ Aside0 (kq ≤ k) ∧ Aside0 (Kd.R (Kd.int .i64) 2 w' w0.heap.size (fun k_ => (P0_ k_ ∨ w.heap.size ≤ k_)) u9000_ x0_1) ∧ Aside0 (Kept w w' (fun k_ => P0_ k_)) ∧ Aside0 (Below w0.heap.size w0 w'))
  case atStart => exact ⟨(l0), (a1), (0), (by first | rfl | (simp; done) | (simp [*]; done)), (by first | rfl | (simp; done) | (simp [*]; done)), H', ⟨Nat.le_refl _⟩, ⟨b2_ HO0.out⟩, ⟨by repeat (first | (with_reducible first | exact HK.out | apply Kept.alloc | apply Kept.drewN | apply Kept.drew) | exact HK.out)⟩, ⟨y1_ HB.out⟩⟩
  case round =>
    clear H'
    try clear p2
    obtain ⟨x0_1, x1_1, x5_1, rfl, rfl, HA, HK1, HO_0, HK, HB⟩ := hrel
    cases gk with
    | zero => exact absurd HA.out (by simp [laws_markInt64S.l0])
    | succ k1 =>
      have H := HA.out
      clear HA
      simp only [laws_markInt64S.l0] at H
      by_cases c3 : x5_1 < (x0_1.length : Int)
      · rw [if_pos c3] at H
        have c3b0 : decide (x5_1 < (x0_1.length : Int)) = true := decide_eq_true c3
        clear c3
        by_cases c4 : 0 ≤ x5_1
        · rw [if_pos c4] at H
          have c4b0 : decide (0 ≤ x5_1) = true := decide_eq_true c4
          clear c4
          obtain ⟨y144, hy144⟩ : ∃ y_ : List Int, y_ = (x0_1.set (x5_1 : Int).toNat x1_1) := ⟨_, rfl⟩
          replace H : (laws_markInt64S.l0 k1 y144 (wrap64 (x1_1 + 1)) (wrap64 (x5_1 + 1))) = some (r1, r2) := by first | (rw [hy144]; with_reducible exact H) | (have H2_ := (Option.bind_some _ _).symm.trans H; rw [hy144]; with_reducible exact H2_) | (have H2_ := (Option.bind_some _ _).symm.trans H; with_reducible exact H2_) | with_reducible exact H | (rw [hy144]; exact H) | exact H
          have Ny144 := A_ hy144
          clear hy144
          have H' := A_ H
          clear H
          obtain ⟨Ao6, co6, eo6⟩ := Kd.R_slice HO_0.out
          subst eo6
          have p5 : 0 ≤ (x5_1 : Int) := o1_
          have q5 : (x5_1 : Int) < ((x0_1.length : Int) : Int) := o1_
          obtain ⟨go5, co5, eo5, gb5, gl5, cl5, HG5⟩ := Kd.R_form HO_0.out (by omega)
          (first | cases eo5 | (injection eo5 with ea_ en_ ec_; (first | subst ea_ | (injection ea_ with ea_; subst ea_)); subst ec_; clear en_))
          have GB5 := A_ gb5
          have GG5 := A_ HG5
          clear gb5 gl5 HG5
          have HMgo5 := A_ (show (P0_ go5 ∨ w.heap.size ≤ go5) from (HO_0.out.1 _ rfl))
          obtain ⟨hx5_0, hf5_0⟩ := Kd.R_celln 0 HO_0.out (x5_1 : Int) p5 q5
          replace p5 := eq_true p5
          replace q5 := eq_true q5
          have HP7 := Kd.R_putg HO_0.out (x5_1 : Int) x1_1
          go_wp2_with (first | ((with_reducible refine gate_store (t := 2) (p := 15) rfl ?_); refine store_event (t := 2) (p := 15) (v := ?vo_w8) (w1 := (wr.setCell ⟨go5, (x5_1 : Int).toNat, none⟩ (.int .i64 x1_1))) ?hg ?ho ?hn ?hr ?_; (case ho => rfl); (case hg => rfl); (case hn => rfl); (case hr => first | (go_simp; done) | (go_simp; rfl)); intro w8 hw; have hg : wr.grownBy w8 (some go5) := (by rw [hw]; exact HP7.2); have hp_ : Kd.R (Kd.int .i64) 2 w8 w0.heap.size (fun k_ => (P0_ k_ ∨ w.heap.size ≤ k_)) (.slice (some ⟨go5, 0, none⟩) x0_1.length co6) y144 := (by rw [hw, Ny144.out]; exact HP7.1); clear HP7; have n0_ := A_ (hp_); have n1_ := A_ ((by rw [hw]; exact below_set (HB.out) GB5.out : Below w0.heap.size w0 w8)); have n2_ := A_ (Kept.of_grown (S := (fun k_ => P0_ k_)) hg (by repeat (first | (with_reducible first | exact HK.out | apply Kept.alloc | apply Kept.drewN | apply Kept.drew) | exact HK.out)) (fun k_ e_ => (HO_0.out.1 k_ e_))); clear HO_0; clear HB; clear HK; have HO_0 := n0_; have HB := n1_; have HK := n2_; clear n0_ n1_ n2_; clear hg hw hp_))
          go_roundg k1
          case measure => have := HK1.out; omega
          case rel => exact ⟨(y144), (wrap64 (x1_1 + 1)), (wrap64 (x5_1 + 1)), (by first | rfl | (simp; done) | (simp [*]; done)), (by first | rfl | (simp; done) | (simp [*]; done)), H', ⟨by have := HK1.out; omega⟩, ⟨b2_ HO_0.out⟩, ⟨by repeat (first | (with_reducible first | exact HK.out | apply Kept.alloc | apply Kept.drewN | apply Kept.drew) | exact HK.out)⟩, ⟨y1_ HB.out⟩⟩
        · rw [if_neg c4] at H
          exact absurd H (by simp)
      · rw [if_neg c3] at H
        have c3b0 : decide (x5_1 < (x0_1.length : Int)) = false := decide_eq_false c3
        clear c3
        simp only [Option.some.injEq, Prod.mk.injEq] at H
        obtain ⟨rfl, rfl⟩ := H
        obtain ⟨Ao9, co9, eo9⟩ := Kd.R_slice HO_0.out
        subst eo9
        go_wp2
        go_ret
        exact ⟨e1_, b2_ HO_0.out, y1_ HB.out, by repeat (first | (with_reducible first | exact HK.out | apply Kept.alloc | apply Kept.drewN | apply Kept.drew) | exact HK.out)⟩

/-! ### laws_markText: function 77 -/
def laws_markText.l0 : Nat → Int → ByteArray → Option (ByteArray)
  | 0, _, _ => none
  | k + 1, x0, x3 => if x0 > 0 then ((some (([(wrap64 (48 + (Int.tmod x0 10))) % 256] : List Int) : List Int)).bind fun y145 => (if (strOfNums y145).size + x3.size ≤ 9223372036854775807 then (laws_markText.l0 k (wrap64 (Int.tdiv x0 10)) ((strOfNums y145) ++ x3)) else (none))) else (if 1 + x3.size ≤ 9223372036854775807 then (some ((⟨#[109]⟩ : ByteArray) ++ x3)) else (none))
def laws_markText.f (k : Nat) (a0 : Int) : Option (ByteArray) := if a0 ≤ 0 then (some (⟨#[109, 48]⟩ : ByteArray)) else (laws_markText.l0 k a0 (⟨#[]⟩ : ByteArray))
theorem laws_markText.mono_l : ∀ k, (∀ y0 y1, LeO (laws_markText.l0 k y0 y1) (laws_markText.l0 (k + 1) y0 y1))
  | 0 => fun _ _ r h => by simp [laws_markText.l0] at h
  | k + 1 => by
    have ih0 := laws_markText.mono_l k
    · intro y0 y1
      unfold laws_markText.l0
      repeat' first
      | (with_reducible exact ih0 _ _)
      | (with_reducible exact LeO.refl _)
      | (with_reducible exact LeO.none _)
      | (with_reducible refine LeO.ite ?_ ?_)
      | (with_reducible refine LeO.bind ?_ (fun _ => ?_))
      | exact ih0 _ _
      | exact LeO.none _
      | refine LeO.ite ?_ ?_
      | refine LeO.bind ?_ (fun _ => ?_)
theorem laws_markText.mono : ∀ a0 k, LeO (laws_markText.f k a0) (laws_markText.f (k + 1) a0) := by
  intro a0 k
  have ih0 := laws_markText.mono_l k
  unfold laws_markText.f
  repeat' first
      | (with_reducible exact ih0 _ _)
      | (with_reducible exact LeO.refl _)
      | (with_reducible exact LeO.none _)
      | (with_reducible refine LeO.ite ?_ ?_)
      | (with_reducible refine LeO.bind ?_ (fun _ => ?_))
      | exact ih0 _ _
      | exact LeO.none _
      | refine LeO.ite ?_ ?_
      | refine LeO.bind ?_ (fun _ => ?_)
set_option maxHeartbeats 8000000 in
set_option maxRecDepth 100000 in
theorem laws_markText.calls (k : Nat) (a0 : Int) (r : ByteArray) (w : World) (h : laws_markText.f k a0 = some r) :
    Calls Try.prog 77 #[.int .i64 a0] w fun e w' => e = .returned (.string r) ∧ Below w.heap.size w w' := by
  have HB := A_ (Below.refl w.heap.size w)
  have H : (if a0 ≤ 0 then (some (⟨#[109, 48]⟩ : ByteArray)) else (laws_markText.l0 k a0 (⟨#[]⟩ : ByteArray))) = some r := h
  clear h
  by_cases c2 : a0 ≤ 0
  · rw [if_pos c2] at H
    have c2b0 : decide (a0 ≤ 0) = true := decide_eq_true c2
    clear c2
    obtain rfl := Option.some.inj H
    go_enter Try.func77, Try.ntmps77
    go_wp2
    go_ret
    exact ⟨e1_, y1_ HB.out⟩
  · rw [if_neg c2] at H
    have c2b0 : decide (a0 ≤ 0) = false := decide_eq_false c2
    clear c2
    have H' := A_ H
    clear H
    go_enter Try.func77, Try.ntmps77
    go_wp2
    go_loopg [0, 3] k (fun kq v0 v3 w' => ∃ (x0_1 : Int) (x3_1 : ByteArray), v0 = .int .i64 x0_1 ∧ v3 = .string x3_1 ∧ Aside0 (laws_markText.l0 kq x0_1 x3_1 = some r) ∧ Aside0 (kq ≤ k) ∧ Aside0 (Below w.heap.size w w'))
    case atStart => exact ⟨(a0), ((⟨#[]⟩ : ByteArray)), (by first | rfl | (simp; done) | (simp [*]; done)), (by first | rfl | (simp; done) | (simp [*]; done)), H', ⟨Nat.le_refl _⟩, ⟨y1_ HB.out⟩⟩
    case round =>
      clear H'
      try clear c2
      try clear c2b0
      try clear p2
      obtain ⟨x0_1, x3_1, rfl, rfl, HA, HK1, HB⟩ := hrel
      cases gk with
      | zero => exact absurd HA.out (by simp [laws_markText.l0])
      | succ k1 =>
        have H := HA.out
        clear HA
        simp only [laws_markText.l0] at H
        by_cases c3 : x0_1 > 0
        · rw [if_pos c3] at H
          have c3b0 : decide (0 < x0_1) = true := decide_eq_true c3
          clear c3
          obtain ⟨y145, hy145⟩ : ∃ y_ : List Int, y_ = (([(wrap64 (48 + (Int.tmod x0_1 10))) % 256] : List Int)) := ⟨_, rfl⟩
          replace H : (if (strOfNums y145).size + x3_1.size ≤ 9223372036854775807 then (laws_markText.l0 k1 (wrap64 (Int.tdiv x0_1 10)) ((strOfNums y145) ++ x3_1)) else (none)) = some r := by first | (rw [hy145]; with_reducible exact H) | (have H2_ := (Option.bind_some _ _).symm.trans H; rw [hy145]; with_reducible exact H2_) | (have H2_ := (Option.bind_some _ _).symm.trans H; with_reducible exact H2_) | with_reducible exact H | (rw [hy145]; exact H) | exact H
          have Ny145 := A_ hy145
          clear hy145
          by_cases c4 : (strOfNums y145).size + x3_1.size ≤ 9223372036854775807
          · rw [if_pos c4] at H
            have c4b0 := eq_true c4
            have c4b1 : decide ((strOfNums y145).size + x3_1.size ≤ 9223372036854775807) = true := decide_eq_true c4
            try have c4b2 : (9223372036854775807 < (strOfNums y145).size + x3_1.size) = False := eq_false (Nat.not_lt.2 c4)
            have H' := A_ H
            clear H
            go_wp2_with (first | ((with_reducible refine gate_dst (N := 12) rfl ?_); refine Kd.R_lit (Kd.int .u8) _ 5 ?hg (N := 12) ?hd (xs := ([(wrap64 (48 + (Int.tmod x0_1 10))) % 256] : List Int)) (inner := [.int .u8 ((wrap64 (48 + (Int.tmod x0_1 10))) % 256)]) (ok := fun _ => True) (okp := fun _ => True) ?hr ?hp (fun _ hk => hk) trivial (Below.refl _ _) (Nat.le_refl _) (by simp) ?_; (case hd => rfl); (case hg => rfl); (case hr => first | (go_simp; done) | (go_simp; rfl)); (case hp => exact (Reps.one (show Kd.M (Kd.int .u8) _ _ _ ((wrap64 (48 + (Int.tmod x0_1 10))) % 256) [.int .u8 ((wrap64 (48 + (Int.tmod x0_1 10))) % 256)] from rfl) (Reps.none _ _))); intro v146 w5 ho6 hb hg_ hnew_; clear hg_ hnew_; (first | rw [← Ny145.out] at ho6 | (simp only [Int.reduceToNat] at ho6; rw [← Ny145.out] at ho6)); have HO147 := A_ (Kd.R_lower ho6 (below_size (y1_ HB.out))); replace HB := A_ (below_step (y1_ HB.out) hb); clear hb ho6; have hcv7 := own_string (P := Try.prog) Try.underlying34 Try.underlying5 Try.underlying9 (Kd.own_of_R HO147.out)))
            go_roundg k1
            case measure => have := HK1.out; omega
            case rel => exact ⟨(wrap64 (Int.tdiv x0_1 10)), ((strOfNums y145) ++ x3_1), (by first | rfl | (simp; done) | (simp [*]; done)), (by first | rfl | (simp; done) | (simp [*]; done)), H', ⟨by have := HK1.out; omega⟩, ⟨y1_ HB.out⟩⟩
          · rw [if_neg c4] at H
            exact absurd H (by simp)
        · rw [if_neg c3] at H
          have c3b0 : decide (0 < x0_1) = false := decide_eq_false c3
          clear c3
          by_cases c8 : 1 + x3_1.size ≤ 9223372036854775807
          · rw [if_pos c8] at H
            have c8b0 := eq_true c8
            have c8b1 : decide (1 + x3_1.size ≤ 9223372036854775807) = true := decide_eq_true c8
            try have c8b2 : (9223372036854775807 < 1 + x3_1.size) = False := eq_false (Nat.not_lt.2 c8)
            obtain rfl := Option.some.inj H
            go_wp2
            go_ret
            exact ⟨e1_, y1_ HB.out⟩
          · rw [if_neg c8] at H
            exact absurd H (by simp)

/-! ### laws_markEntryS: function 76 -/
def laws_markEntryS.l0 : Nat → List (S63) → Int → Int → Option (Int × (List (S63)))
  | 0, _, _, _ => none
  | k + 1, x0, x1, x5 => if x5 < (x0.length : Int) then ((laws_markText.f k x1).bind fun t195 => (if 0 ≤ x5 then ((laws_markInt64S.f k ((rd_T63 (x0.set (x5 : Int).toNat (⟨t195, (rd_T63 x0 x5).f1⟩ : S63)) x5).f1) (wrap64 (x1 + 1))).bind fun t198 => (laws_markEntryS.l0 k ((x0.set (x5 : Int).toNat (⟨t195, (rd_T63 x0 x5).f1⟩ : S63)).set (x5 : Int).toNat (⟨(rd_T63 (x0.set (x5 : Int).toNat (⟨t195, (rd_T63 x0 x5).f1⟩ : S63)) x5).f0, t198.2⟩ : S63)) t198.1 (wrap64 (x5 + 1)))) else (none))) else (some (x1, x0))
def laws_markEntryS.f (k : Nat) (l0 : List (S63)) (a1 : Int) : Option (Int × (List (S63))) := laws_markEntryS.l0 k l0 a1 0
theorem laws_markEntryS.mono_l : ∀ k, (∀ y0 y1 y2, LeO (laws_markEntryS.l0 k y0 y1 y2) (laws_markEntryS.l0 (k + 1) y0 y1 y2))
  | 0 => fun _ _ _ r h => by simp [laws_markEntryS.l0] at h
  | k + 1 => by
    have ih0 := laws_markEntryS.mono_l k
    · intro y0 y1 y2
      unfold laws_markEntryS.l0
      repeat' first
      | (with_reducible exact ih0 _ _ _)
      | (with_reducible exact laws_markText.mono _ _)
      | (with_reducible exact laws_markInt64S.mono _ _ _)
      | (with_reducible exact LeO.refl _)
      | (with_reducible exact LeO.none _)
      | (with_reducible refine LeO.ite ?_ ?_)
      | (with_reducible refine LeO.bind ?_ (fun _ => ?_))
      | exact ih0 _ _ _
      | exact laws_markText.mono _ _
      | exact laws_markInt64S.mono _ _ _
      | exact LeO.none _
      | refine LeO.ite ?_ ?_
      | refine LeO.bind ?_ (fun _ => ?_)
theorem laws_markEntryS.mono : ∀ a0 a1 k, LeO (laws_markEntryS.f k a0 a1) (laws_markEntryS.f (k + 1) a0 a1) := by
  intro a0 a1 k
  have ih0 := laws_markEntryS.mono_l k
  unfold laws_markEntryS.f
  repeat' first
      | (with_reducible exact ih0 _ _ _)
      | (with_reducible exact laws_markText.mono _ _)
      | (with_reducible exact laws_markInt64S.mono _ _ _)
      | (with_reducible exact LeO.refl _)
      | (with_reducible exact LeO.none _)
      | (with_reducible refine LeO.ite ?_ ?_)
      | (with_reducible refine LeO.bind ?_ (fun _ => ?_))
      | exact ih0 _ _ _
      | exact laws_markText.mono _ _
      | exact laws_markInt64S.mono _ _ _
      | exact LeO.none _
      | refine LeO.ite ?_ ?_
      | refine LeO.bind ?_ (fun _ => ?_)
set_option maxHeartbeats 8000000 in
set_option maxRecDepth 100000 in
theorem laws_markEntryS.calls (k : Nat) (P0_ : Nat → Prop) (u9000_ : Value) (l0 : List (S63)) (a1 : Int) (r1 : Int) (r2 : List (S63)) (w0 w : World) (hB : Below w0.heap.size w0 w) (ho0 : Kd.S k63 63 w w0.heap.size P0_ u9000_ l0) (h : laws_markEntryS.f k l0 a1 = some (r1, r2)) :
    Calls Try.prog 76 #[u9000_, .int .i64 a1] w fun e w' => e = .returned (.int .i64 r1) ∧ Kd.S k63 63 w' w0.heap.size (fun k_ => (P0_ k_ ∨ w.heap.size ≤ k_)) u9000_ r2 ∧ Below w0.heap.size w0 w' ∧ Kept w w' (fun k_ => P0_ k_) := by
  have HO0 := A_ (show Kd.S k63 63 w w0.heap.size (fun k_ => (P0_ k_ ∨ w.heap.size ≤ k_)) u9000_ l0 from Kd.S_mono ho0 (fun k_ hk => (.inl hk)))
  have HK := A_ (Kept.refl w (fun k_ => P0_ k_))
  have HW0 := A_ hB.size
  have HB := A_ hB
  clear hB
  have H : (laws_markEntryS.l0 k l0 a1 0) = some (r1, r2) := h
  clear h
  have H' := A_ H
  clear H
  go_enter Try.func76, Try.ntmps76
  go_wp2
  go_loopg [1, 5] k (fun kq v1 v5 w' => ∃ (x0_1 : List (S63)) (x1_1 : Int) (x5_1 : Int), v1 = .int .i64 x1_1 ∧ v5 = .int .i64 x5_1 ∧ Aside0 (laws_markEntryS.l0 kq x0_1 x1_1 x5_1 = some (r1, r2)) ∧ Aside0 (kq ≤ k) ∧ Aside0 (Kd.S k63 63 w' w0.heap.size (fun k_ => (P0_ k_ ∨ w.heap.size ≤ k_)) u9000_ x0_1) ∧ Aside0 (Kept w w' (fun k_ => P0_ k_)) ∧ Aside0 (Below w0.heap.size w0 w'))
  case atStart => exact ⟨(l0), (a1), (0), (by first | rfl | (simp; done) | (simp [*]; done)), (by first | rfl | (simp; done) | (simp [*]; done)), H', ⟨Nat.le_refl _⟩, ⟨by (with_reducible repeat (first | apply Kd.S_alloc | apply Kd.S_drewN | apply Kd.S_drew)); exact HO0.out⟩, ⟨by repeat (first | (with_reducible first | exact HK.out | apply Kept.alloc | apply Kept.drewN | apply Kept.drew) | exact HK.out)⟩, ⟨y1_ HB.out⟩⟩
  case round =>
    clear H'
    try clear p2
    obtain ⟨x0_1, x1_1, x5_1, rfl, rfl, HA, HK1, HO_0, HK, HB⟩ := hrel
    cases gk with
    | zero => exact absurd HA.out (by simp [laws_markEntryS.l0])
    | succ k1 =>
      have H := HA.out
      clear HA
      simp only [laws_markEntryS.l0] at H
      by_cases c3 : x5_1 < (x0_1.length : Int)
      · rw [if_pos c3] at H
        have c3b0 : decide (x5_1 < (x0_1.length : Int)) = true := decide_eq_true c3
        clear c3
        replace H := Option.bind_eq_some_iff.mp H
        obtain ⟨t195, A40, H⟩ := H
        replace H : (if 0 ≤ x5_1 then ((laws_markInt64S.f k1 ((rd_T63 (x0_1.set (x5_1 : Int).toNat (⟨t195, (rd_T63 x0_1 x5_1).f1⟩ : S63)) x5_1).f1) (wrap64 (x1_1 + 1))).bind fun t198 => (laws_markEntryS.l0 k1 ((x0_1.set (x5_1 : Int).toNat (⟨t195, (rd_T63 x0_1 x5_1).f1⟩ : S63)).set (x5_1 : Int).toNat (⟨(rd_T63 (x0_1.set (x5_1 : Int).toNat (⟨t195, (rd_T63 x0_1 x5_1).f1⟩ : S63)) x5_1).f0, t198.2⟩ : S63)) t198.1 (wrap64 (x5_1 + 1)))) else (none)) = some (r1, r2) := H
        have A4 := A_ A40
        clear A40
        by_cases c5 : 0 ≤ x5_1
        · rw [if_pos c5] at H
          have c5b0 : decide (0 ≤ x5_1) = true := decide_eq_true c5
          clear c5
          obtain ⟨y196, hy196⟩ : ∃ y_ : List (S63), y_ = (x0_1.set (x5_1 : Int).toNat (⟨t195, (rd_T63 x0_1 x5_1).f1⟩ : S63)) := ⟨_, rfl⟩
          replace H : ((laws_markInt64S.f k1 ((rd_T63 y196 x5_1).f1) (wrap64 (x1_1 + 1))).bind fun t198 => (laws_markEntryS.l0 k1 (y196.set (x5_1 : Int).toNat (⟨(rd_T63 y196 x5_1).f0, t198.2⟩ : S63)) t198.1 (wrap64 (x5_1 + 1)))) = some (r1, r2) := by first | (rw [hy196]; with_reducible exact H) | (have H2_ := (Option.bind_some _ _).symm.trans H; rw [hy196]; with_reducible exact H2_) | (have H2_ := (Option.bind_some _ _).symm.trans H; with_reducible exact H2_) | with_reducible exact H | (rw [hy196]; exact H) | exact H
          have Ny196 := A_ hy196
          clear hy196
          replace H := Option.bind_eq_some_iff.mp H
          obtain ⟨⟨t198, m198⟩, A70, H⟩ := H
          replace H : (laws_markEntryS.l0 k1 (y196.set (x5_1 : Int).toNat (⟨(rd_T63 y196 x5_1).f0, m198⟩ : S63)) t198 (wrap64 (x5_1 + 1))) = some (r1, r2) := H
          have A7 := A_ A70
          clear A70
          have H' := A_ H
          clear H
          obtain ⟨Ao8, co8, eo8⟩ := Kd.S_slice HO_0.out
          subst eo8
          go_wp2_with (first | ((with_reducible refine gate_callee (f := 77) rfl ?_); refine goesL_ (some 15) rfl rfl Try.func77 (by kernel_rfl) rfl #[.int .i64 x1_1] rfl (by (try simp only [List.map_toArray, List.map_cons, List.map_nil]); first | done | rfl | (simp only [List.length_drop, List.length_take]; rfl)) ?_; (with_reducible refine (laws_markText.calls k1 x1_1 t195 _ A4.out).mono ?_); rintro e w9 ⟨rfl, hb⟩; refine ⟨_, rfl, ?_⟩; replace HO_0 := A_ (Kd.S_below (by (with_reducible repeat (first | apply Kd.S_alloc | apply Kd.S_drewN | apply Kd.S_drew)); exact HO_0.out) hb); replace HK := A_ (Kept.below (S := (fun k_ => P0_ k_)) (by repeat (first | (with_reducible first | exact HK.out | apply Kept.alloc | apply Kept.drewN | apply Kept.drew) | exact HK.out)) hb); replace HB := A_ (below_step (y1_ HB.out) hb); (try clear hb); (try clear hb2); (try clear hk); (try clear hi); have p6 : 0 ≤ (x5_1 : Int) := o1_; have q6 : (x5_1 : Int) < ((x0_1.length : Int) : Int) := o1_; obtain ⟨go6, co6, eo6, gb6, gl6, cl6, HG6⟩ := Kd.S_form HO_0.out (by omega); (first | cases eo6 | (injection eo6 with ea_ en_ ec_; (first | subst ea_ | (injection ea_ with ea_; subst ea_)); subst ec_; clear en_)); have GB6 := A_ gb6; have GG6 := A_ HG6; clear gb6 gl6 HG6; have HMgo6 := A_ (show (P0_ go6 ∨ w.heap.size ≤ go6) from ((Kd.S_R HO_0.out).1 _ rfl)); obtain ⟨_, ce6, hcl6, hM6, hcc6, hfr6, _, _⟩ := Kd.S_elem HO_0.out z63 (x5_1 : Int) p6 q6; obtain ⟨ve6_1, rfl, ge6_1⟩ := k63_openM hM6; have hx6_0 : w9.cell? ⟨go6, (x5_1 : Int).toNat * 2, none⟩ = some (.string ((rd_T63 x0_1 x5_1).f0)) := hcc6 0 _ rfl; have hx6_1 : w9.cell? ⟨go6, (x5_1 : Int).toNat * 2 + 1, none⟩ = some (ve6_1) := hcc6 1 _ rfl; have hf6_0 : w9.frozen? ⟨go6, (x5_1 : Int).toNat * 2, none⟩ = false := hfr6 0; have hf6_1 : w9.frozen? ⟨go6, (x5_1 : Int).toNat * 2 + 1, none⟩ = false := hfr6 1; clear hcl6 hcc6 hfr6 hM6; replace p6 := eq_true p6; replace q6 := eq_true q6; have HX10 := A_ (show Kd.S k63 63 w9 w0.heap.size (fun k_ => ((fun k_ => (P0_ k_ ∨ w.heap.size ≤ k_))) k_ ∧ ¬ ((fun _ => False)) k_) (.slice (some ⟨go6, 0, none⟩) x0_1.length co8) x0_1 from (by (with_reducible repeat (first | apply Kd.S_alloc | apply Kd.S_drewN | apply Kd.S_drew)); exact Kd.S_mono HO_0.out (fun k_ hk => ⟨hk, fun e_ => e_⟩))); obtain ⟨oki10, ce10, hcl10, hM10, hcc10, hfr10, hoki10, hH10⟩ := Kd.S_elem HX10.out z63 (x5_1 : Int) (o1_) (by have h_ : (x5_1 : Int) < ((x0_1.length : Int) : Int) := o1_; first | exact h_ | (have e_ := (Kd.S_reads' HO_0.out).1; omega) | simpa using h_); obtain ⟨ve10_1, rfl, ge10_1⟩ := k63_openM hM10; have HP10 := Kd.S_seg hH10 (o1_) (by have h_ : (x5_1 : Int) < ((x0_1.length : Int) : Int) := o1_; first | exact h_ | (have e_ := (Kd.S_reads' HO_0.out).1; omega) | simpa using h_) (seg := [.string t195]) (j := 0) (show 1 ≤ 2 from by decide) (x' := (⟨t195, (rd_T63 x0_1 x5_1).f1⟩ : S63)) (k63_mkM _ _ _ (⟨t195, (rd_T63 x0_1 x5_1).f1⟩ : S63) (Kd.R_mono ge10_1 (fun _ h_ => Or.inl h_))) (fun _ hk => hk) (fun k_ hk_ => hk_.elim); have hx10_0 := hcc10 0 _ rfl; (try simp only [show (k63).sz = 2 from rfl, Nat.mul_one, Nat.add_zero] at hx10_0); have hf10_0 := hfr10 0; (try simp only [show (k63).sz = 2 from rfl, Nat.mul_one, Nat.add_zero] at hf10_0); clear hcl10 hcc10 hfr10 hM10 hoki10 hH10) | ((with_reducible refine gate_store (t := 9) (p := 17) rfl ?_); refine store_event (t := 9) (p := 17) (v := ?vo_w11) (w1 := (w9.setCell ⟨go6, (x5_1 : Int).toNat * 2, none⟩ (.string t195))) ?hg ?ho ?hn ?hr ?_; (case ho => rfl); (case hg => rfl); (case hn => rfl); (case hr => first | (go_simp; done) | (go_simp; rfl)); intro w11 hw; have hg : w9.grownBy w11 (some go6) := (by rw [hw]; exact HP10.2); have hp_ : Kd.S k63 63 w11 w0.heap.size (fun k_ => (P0_ k_ ∨ w.heap.size ≤ k_)) (.slice (some ⟨go6, 0, none⟩) x0_1.length co8) y196 := (by rw [hw, Ny196.out]; exact HP10.1); clear HP10; have n0_ := A_ (hp_); have n1_ := A_ ((by rw [hw]; exact below_set (HB.out) GB6.out : Below w0.heap.size w0 w11)); have n2_ := A_ (Kept.of_grown (S := (fun k_ => P0_ k_)) hg (by repeat (first | (with_reducible first | exact HK.out | apply Kept.alloc | apply Kept.drewN | apply Kept.drew) | exact HK.out)) (fun k_ e_ => ((Kd.S_R HO_0.out).1 k_ e_))); clear HO_0; clear HB; clear HK; have HO_0 := n0_; have HB := n1_; have HK := n2_; clear n0_ n1_ n2_; clear hg hw hp_; have p197 : 0 ≤ (x5_1 : Int) := o1_; have q197 : x5_1 < (y196.length : Int) := (by have h_ : (x5_1 : Int) < ((x0_1.length : Int) : Int) := o1_; first | (have e_ := (Kd.S_reads' HO_0.out).1; omega) | simpa only [Ny196.out, List.length_set] using h_); have ql197 : ((x5_1 : Int) < ((x0_1.length : Int) : Int)) = True := eq_true (o1_); obtain ⟨okE, ceE, hclE, hME, hccE, _, hokE, hHE⟩ := Kd.S_elem HO_0.out z63 (x5_1 : Int) p197 (of_eq_true ql197); obtain ⟨vE, rfl, hRE⟩ := k63_openM hME; obtain ⟨AE, cE, eE⟩ := Kd.R_slice hRE; subst eE; have hxE : w11.cell? ⟨go6, (x5_1 : Int).toNat * 2 + 1, none⟩ = some (.slice AE ((rd_T63 y196 x5_1).f1).length cE) := hccE 1 _ rfl; clear hclE hME hccE; have HHE := A_ hHE; have HRE := A_ (show (Kd.int .i64).R 2 w11 w0.heap.size okE (.slice AE ((rd_T63 y196 x5_1).f1).length cE) ((rd_T63 y196 x5_1).f1) from hRE); have HKE := A_ hokE; clear hHE hRE hokE; replace p197 := eq_true p197; replace q197 := eq_true q197) | ((with_reducible refine gate_callee (f := 38) rfl ?_); refine goesL_ (some 26) rfl rfl Try.func38 (by kernel_rfl) rfl #[.slice AE ((rd_T63 y196 x5_1).f1).length cE, .int .i64 (wrap64 (x1_1 + 1))] rfl (by (try simp only [List.map_toArray, List.map_cons, List.map_nil]); first | done | rfl | (simp only [List.length_drop, List.length_take]; rfl)) ?_; (refine (laws_markInt64S.calls k1 okE (.slice AE ((rd_T63 y196 x5_1).f1).length cE) ((rd_T63 y196 x5_1).f1) (wrap64 (x1_1 + 1)) t198 m198 w0 _ HB.out HRE.out A7.out).mono ?_); rintro e w12 ⟨rfl, ho, hb, hkp⟩; refine ⟨_, rfl, ?_⟩; have hR2 : (Kd.int .i64).R 2 w12 w0.heap.size okE (.slice AE ((rd_T63 y196 x5_1).f1).length cE) m198 := Kd.R_mono (Kd.R_tight rfl ho) (fun k_ hk_ => HRE.out.1 k_ hk_.symm); have hS2 : Kd.S k63 63 w12 w0.heap.size (fun k_ => (P0_ k_ ∨ w.heap.size ≤ k_)) (.slice (some ⟨go6, 0, none⟩) x0_1.length co8) (y196.set (x5_1 : Int).toNat (⟨(rd_T63 y196 x5_1).f0, m198⟩ : S63)) := Kd.H_back (Kd.H_step HHE.out (fun k_ _ hn hlt => hkp.2 k_ hlt hn)) (k63_mkM w12 w0.heap.size okE (⟨(rd_T63 y196 x5_1).f0, m198⟩ : S63) hR2) (fun _ h_ => h_); replace HO_0 := A_ hS2; replace HK := A_ (show Kept w w12 (fun k_ => P0_ k_) from ⟨Nat.le_trans HK.out.1 hkp.1, fun i_ hi_ hn_ => (hkp.2 i_ (Nat.lt_of_lt_of_le hi_ HK.out.1) (fun h_ => (HKE.out i_ h_).1.elim hn_ (fun h2_ => Nat.not_le.2 hi_ h2_))).trans (HK.out.2 i_ hi_ hn_)⟩); replace HB := A_ hb; clear ho hkp hR2 hS2; (try clear hb); (try clear hb2); (try clear hk); (try clear hi)))
          go_roundg k1
          case measure => have := HK1.out; omega
          case rel => exact ⟨(y196.set (x5_1 : Int).toNat (⟨(rd_T63 y196 x5_1).f0, m198⟩ : S63)), (t198), (wrap64 (x5_1 + 1)), (by first | rfl | (simp; done) | (simp [*]; done)), (by first | rfl | (simp; done) | (simp [*]; done)), H', ⟨by have := HK1.out; omega⟩, ⟨by (with_reducible repeat (first | apply Kd.S_alloc | apply Kd.S_drewN | apply Kd.S_drew)); exact HO_0.out⟩, ⟨by repeat (first | (with_reducible first | exact HK.out | apply Kept.alloc | apply Kept.drewN | apply Kept.drew) | exact HK.out)⟩, ⟨y1_ HB.out⟩⟩
        · rw [if_neg c5] at H
          exact absurd H (by simp)
      · rw [if_neg c3] at H
        have c3b0 : decide (x5_1 < (x0_1.length : Int)) = false := decide_eq_false c3
        clear c3
        simp only [Option.some.injEq, Prod.mk.injEq] at H
        obtain ⟨rfl, rfl⟩ := H
        obtain ⟨Ao13, co13, eo13⟩ := Kd.S_slice HO_0.out
        subst eo13
        go_wp2
        go_ret
        exact ⟨e1_, by (with_reducible repeat (first | apply Kd.S_alloc | apply Kd.S_drewN | apply Kd.S_drew)); exact HO_0.out, y1_ HB.out, by repeat (first | (with_reducible first | exact HK.out | apply Kept.alloc | apply Kept.drewN | apply Kept.drew) | exact HK.out)⟩

/-! ### laws_markIndex: function 32 -/
def laws_markIndex.f (k : Nat) (l0_0 : List (S63)) (a1 : Int) : Option (Int) := (laws_markEntryS.f k l0_0 a1).map Prod.fst
theorem laws_markIndex.mono : ∀ a0 a1 k, LeO (laws_markIndex.f k a0 a1) (laws_markIndex.f (k + 1) a0 a1) := fun a0 a1 k r h => by
  obtain ⟨p, hp, hr⟩ := Option.map_eq_some_iff.1 h
  unfold laws_markIndex.f
  rw [laws_markEntryS.mono a0 a1 k p hp]
  exact congrArg some hr
set_option maxHeartbeats 8000000 in
set_option maxRecDepth 100000 in
theorem laws_markIndex.own (k : Nat) (P0_0_ : Nat → Prop) (u9000_ : Value) (l0_0 : List (S63)) (a1 : Int) (r1 : Int) (w0 w : World) (hB : Below w0.heap.size w0 w) (ho0_0 : Kd.S k63 63 w w0.heap.size P0_0_ u9000_ l0_0) (h : laws_markIndex.f k l0_0 a1 = some r1) :
    Calls Try.prog 32 #[.agg #[u9000_], .int .i64 a1] w fun e w' => e = .returned (.int .i64 r1) ∧ (∃ r2, Kd.S k63 63 w' w0.heap.size (fun k_ => (P0_0_ k_ ∨ w.heap.size ≤ k_)) u9000_ r2) ∧ Below w0.heap.size w0 w' ∧ Kept w w' (fun k_ => P0_0_ k_) := by
  have hu29 := Try.underlying29
  obtain ⟨A, c, e0⟩ := Kd.S_slice ho0_0
  subst e0
  have HO := A_ ho0_0
  have HB := A_ hB
  clear hB ho0_0
  obtain ⟨⟨r1', r2⟩, h1, h2⟩ := Option.map_eq_some_iff.1 h
  have h2' : r1' = r1 := h2
  subst h2'
  have HH := A_ h1
  clear h h1 h2
  go_enter Try.func32, Try.ntmps32
  go_wp2_with (first | ((with_reducible refine gate_dst (N := 2) rfl ?_); refine box_event ?hg (N := 2) ?hd (cs := #[.slice A l0_0.length c]) (t := 29) ?hr ?_; (case hd => rfl); (case hg => rfl); (case hr => first | (go_simp; done) | (go_simp; rfl)); intro gb hg w1 hbox hb; have hcz : w1.cell? ⟨gb, 0, none⟩ = some (.slice A l0_0.length c) := (blk_cell hbox 0).trans rfl; have hfz := blk_frozen hbox 0; have HO1 := A_ (Kd.S_below HO.out hb); have HB1 := A_ (below_step HB.out hb); have HBb := A_ hb; clear hb hg hbox) | ((with_reducible refine gate_callee (f := 76) rfl ?_); refine goesL_ (some 8) rfl rfl Try.func76 (by kernel_rfl) rfl #[.slice A l0_0.length c, .int .i64 a1] rfl (by (try simp only [List.map_toArray, List.map_cons, List.map_nil]); first | done | rfl) ?_; (refine (laws_markEntryS.calls k P0_0_ (.slice A l0_0.length c) l0_0 a1 r1' r2 w0 _ HB1.out HO1.out HH.out).mono ?_); rintro e w2 ⟨rfl, ho, hb, hkp⟩; refine ⟨_, rfl, ?_⟩; have HO2 := A_ ho; have HB2 := A_ hb; have HK2 := A_ hkp; clear ho hb hkp))
  go_ret
  exact ⟨rfl, ⟨r2, Kd.S_mono HO2.out (fun k_ hk_ => hk_.imp id (fun h_ => Nat.le_trans HBb.out.size h_))⟩, HB2.out, Nat.le_trans HBb.out.size HK2.out.1, fun i_ hi_ hn_ => (HK2.out.2 i_ (Nat.lt_of_lt_of_le hi_ HBb.out.size) hn_).trans (HBb.out.block i_ hi_)⟩
theorem laws_markIndex.k_row {W w1 : World} {base base' e : Nat} {ok0 ok : Nat → Prop} {α : Type} {d : Kd α} {v : Value} {xs : List α} (hk : Kept W w1 (fun k => ok0 k ∧ base' ≤ k ∧ k < W.heap.size ∧ ∃ q, q ∈ 63 :: (k63 : Kd S63).E ∧ ∃ cells, W.heap[k]? = some (.cells cells q (0, 0)))) (h : d.R e W base ok v xs) (ht : ∀ q, q ∈ e :: d.E → ¬ q ∈ 63 :: (k63 : Kd S63).E) : d.R e w1 base ok v xs :=
  Kd.R_mono (Kd.R_move (Kd.R_bound h) (fun k hq => hk.2 k hq.2.2.1 (fun hP => by
    obtain ⟨_, _, _, q, hq, cells, hc⟩ := hq
    obtain ⟨_, _, _, q', hq', cells', hc'⟩ := hP
    rw [hc] at hc'
    injection hc' with hc'
    injection hc' with _ h2
    subst h2
    exact ht q hq hq'))) (fun _ h => h.1)
theorem laws_markIndex.k_blk {W w1 : World} {base' g t : Nat} {ok0 : Nat → Prop} {cs : Array Value} (hk : Kept W w1 (fun k => ok0 k ∧ base' ≤ k ∧ k < W.heap.size ∧ ∃ q, q ∈ 63 :: (k63 : Kd S63).E ∧ ∃ cells, W.heap[k]? = some (.cells cells q (0, 0)))) (h : W.heap[g]? = some (.cells cs t (0, 0))) (ht : ¬ t ∈ 63 :: (k63 : Kd S63).E) : w1.heap[g]? = some (.cells cs t (0, 0)) :=
  (hk.2 g (Array.getElem?_eq_some_iff.1 h).1 (fun hP => by
    obtain ⟨_, _, _, q', hq', cells', hc'⟩ := hP
    rw [h] at hc'
    injection hc' with hc'
    injection hc' with _ h2
    subst h2
    exact ht hq')).trans h

end Go.Proofs.Ytcnhepjdibbkgaa.QFnExactDropFrom
