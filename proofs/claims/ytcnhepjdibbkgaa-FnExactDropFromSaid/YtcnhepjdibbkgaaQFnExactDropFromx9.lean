-- written by a program of this session, on the lines of the kit's print
import Derived.Test.YtcnhepjdibbkgaaQFnExactDropFromx0
import Derived.Test.YtcnhepjdibbkgaaQFnExactDropFromx2
import Derived.Test.YtcnhepjdibbkgaaQFnExactDropFromx8
namespace Go.Proofs.Ytcnhepjdibbkgaa.QFnExactDropFrom
open Go.RowKit Go.Proofs.YtcnhepjdibbkgaaW.PrintWords Go.Proofs.YtcnhepjdibbkgaaW.PrintLast Go.Proofs.YtcnhepjdibbkgaaW.PrintMore
attribute [local go_sem] max2_int min2_int max_two min_two max_three min_three max_four min_four   -- for this text's walks alone
set_option linter.unusedVariables false
set_option linter.unusedSimpArgs false

/-! ### laws_heldEntryS: function 86 -/
abbrev laws_heldEntryS.T : Bool := true
abbrev laws_heldEntryS.F : Bool := false
abbrev laws_heldEntryS.m0_ : Array Bool := #[F,F,F,F,F,F,F,F]
abbrev laws_heldEntryS.m1_ : Array Bool := #[T,F,F,F,F,F,F,F]
abbrev laws_heldEntryS.m2_ : Array Bool := #[T,T,F,F,F,F,F,F]
abbrev laws_heldEntryS.m3_ : Array Bool := #[T,T,T,F,F,F,F,F]
abbrev laws_heldEntryS.m4_ : Array Bool := #[T,T,T,T,F,F,F,F]
abbrev laws_heldEntryS.m5_ : Array Bool := #[T,T,T,T,F,T,F,F]
abbrev laws_heldEntryS.m6_ : Array Bool := #[T,T,T,T,T,T,F,F]
abbrev laws_heldEntryS.m7_ : Array Bool := #[T,T,T,T,T,T,T,F]
abbrev laws_heldEntryS.m8_ : Array Bool := #[T,T,T,T,T,T,T,T]
def laws_heldEntryS.l0 : Nat → List (S63) → Int → Int → Option (Int)
  | 0, _, _, _ => none
  | k + 1, x0, x1, x5 => if x5 < (x0.length : Int) then (if 0 ≤ x5 then ((laws_markText.f k x1).bind fun t250 => (if ((rd_T63 x0 x5).f0).toList = t250.toList then ((laws_heldInt64S.f k ((rd_T63 x0 x5).f1) (wrap64 (x1 + 1))).bind fun t252 => (if t252 < 0 then (some (-1)) else (laws_heldEntryS.l0 k x0 t252 (wrap64 (x5 + 1))))) else (some (-1)))) else (none)) else (some x1)
def laws_heldEntryS.f (k : Nat) (l0 : List (S63)) (a1 : Int) : Option (Int) := laws_heldEntryS.l0 k l0 a1 0
theorem laws_heldEntryS.mono_l : ∀ k, (∀ y0 y1 y2, LeO (laws_heldEntryS.l0 k y0 y1 y2) (laws_heldEntryS.l0 (k + 1) y0 y1 y2))
  | 0 => fun _ _ _ r h => by simp [laws_heldEntryS.l0] at h
  | k + 1 => by
    have ih0 := laws_heldEntryS.mono_l k
    · intro y0 y1 y2
      unfold laws_heldEntryS.l0
      repeat' first
      | (with_reducible exact ih0 _ _ _)
      | (with_reducible exact laws_heldInt64S.mono _ _ _)
      | (with_reducible exact laws_markText.mono _ _)
      | (with_reducible exact LeO.refl _)
      | (with_reducible exact LeO.none _)
      | (with_reducible refine LeO.ite ?_ ?_)
      | (with_reducible refine LeO.bind ?_ (fun _ => ?_))
      | exact ih0 _ _ _
      | exact laws_heldInt64S.mono _ _ _
      | exact laws_markText.mono _ _
      | exact LeO.none _
      | refine LeO.ite ?_ ?_
      | refine LeO.bind ?_ (fun _ => ?_)
theorem laws_heldEntryS.mono : ∀ a0 a1 k, LeO (laws_heldEntryS.f k a0 a1) (laws_heldEntryS.f (k + 1) a0 a1) := by
  intro a0 a1 k
  have ih0 := laws_heldEntryS.mono_l k
  unfold laws_heldEntryS.f
  repeat' first
      | (with_reducible exact ih0 _ _ _)
      | (with_reducible exact laws_heldInt64S.mono _ _ _)
      | (with_reducible exact laws_markText.mono _ _)
      | (with_reducible exact LeO.refl _)
      | (with_reducible exact LeO.none _)
      | (with_reducible refine LeO.ite ?_ ?_)
      | (with_reducible refine LeO.bind ?_ (fun _ => ?_))
      | exact ih0 _ _ _
      | exact laws_heldInt64S.mono _ _ _
      | exact laws_markText.mono _ _
      | exact LeO.none _
      | refine LeO.ite ?_ ?_
      | refine LeO.bind ?_ (fun _ => ?_)
def laws_heldEntryS.T4 : Bool × List (List Nat × List Nat) := (true, [([], []), ([], []), ([0, 1], [0, 1]), ([2], [2]), ([3], [3]), ([], []), ([5], [5]), ([4, 6], [4, 6])])
def laws_heldEntryS.B4 : List Nat := [0, 0, 3, 7, 15, 0, 32, 127]
theorem laws_heldEntryS.tab4 : rtab .any (opsOf Try.f86 4) = laws_heldEntryS.T4 := by kernel_rfl
theorem laws_heldEntryS.bits4 : waitsOk laws_heldEntryS.T4.2 laws_heldEntryS.B4 = true := by kernel_rfl
set_option maxHeartbeats 8000000 in
set_option maxRecDepth 100000 in
theorem laws_heldEntryS.calls (k : Nat) (A0 : Option Addr) (c0 : Nat) (l0 : List (S63)) (a1 : Int) (r : Int) (w : World) (hr0 : Kd.C k63 w A0 l0.length l0) (hc0 : l0.length ≤ c0) (h : laws_heldEntryS.f k l0 a1 = some r) :
    Calls Try.prog 86 #[.slice A0 l0.length c0, .int .i64 a1] w fun e w' => e = .returned (.int .i64 r) ∧ Below w.heap.size w w' := by
 have HR0 := A_ hr0
 have HC0 := A_ hc0
 clear hr0 hc0
 have HB := A_ (Below.refl w.heap.size w)
 have H : (laws_heldEntryS.l0 k l0 a1 0) = some r := h
 clear h
 have H' := A_ H
 clear H
 go_enter Try.func86, Try.ntmps86
 go_wp2
 go_loopg [1, 5] k (fun kq v1 v5 w' => ∃ (x1_1 : Int) (x5_1 : Int), v1 = .int .i64 x1_1 ∧ v5 = .int .i64 x5_1 ∧ Aside0 (laws_heldEntryS.l0 kq l0 x1_1 x5_1 = some r) ∧ Aside0 (kq ≤ k) ∧ Aside0 (Below w.heap.size w w'))
 case atStart => exact ⟨(a1), (0), s1_, s1_, H', ⟨Nat.le_refl _⟩, ⟨y1_ HB.out⟩⟩
 case round =>
  skip
  {
 clear H'
 try clear p2
 obtain ⟨x1_1, x5_1, rfl, rfl, HA, HK1, HB⟩ := hrel
 cases gk with
 | zero => exact absurd HA.out (by simp [laws_heldEntryS.l0])
 | succ k1 =>
  skip
  {
 have H := HA.out
 clear HA
 simp only [laws_heldEntryS.l0] at H
 by_cases c3 : x5_1 < (l0.length : Int)
 {
 rw [if_pos c3] at H
 have c3b0 : decide (x5_1 < (l0.length : Int)) = true := decide_eq_true c3
 clear c3
 by_cases c4 : 0 ≤ x5_1
 {
 rw [if_pos c4] at H
 have c4b0 : decide (0 ≤ x5_1) = true := decide_eq_true c4
 clear c4
 replace H := Option.bind_eq_some_iff.mp H
 obtain ⟨t250, A50, H⟩ := H
 replace H : (if ((rd_T63 l0 x5_1).f0).toList = t250.toList then ((laws_heldInt64S.f k1 ((rd_T63 l0 x5_1).f1) (wrap64 (x1_1 + 1))).bind fun t252 => (if t252 < 0 then (some (-1)) else (laws_heldEntryS.l0 k1 l0 t252 (wrap64 (x5_1 + 1))))) else (some (-1))) = some r := H
 have A5 := A_ A50
 clear A50
 by_cases c6 : ((rd_T63 l0 x5_1).f0).toList = t250.toList
 {
 rw [if_pos c6] at H
 have c6b0 : (((rd_T63 l0 x5_1).f0).toList == t250.toList) = true := beq_iff_eq.mpr c6
 have c6b1 : (((rd_T63 l0 x5_1).f0).toList != t250.toList) = false := bne_eq_false_iff_eq.mpr c6
 clear c6
 replace H := Option.bind_eq_some_iff.mp H
 obtain ⟨t252, A70, H⟩ := H
 replace H : (if t252 < 0 then (some (-1)) else (laws_heldEntryS.l0 k1 l0 t252 (wrap64 (x5_1 + 1)))) = some r := H
 have A7 := A_ A70
 clear A70
 by_cases c8 : t252 < 0
 {
 rw [if_pos c8] at H
 have c8b0 : decide (t252 < 0) = true := decide_eq_true c8
 clear c8
 obtain rfl := Option.some.inj H
 try go_wp2
 replace HB := A_ (below_drew1 HB.out)
 have p249 : 0 ≤ (x5_1 : Int) := o1_
 have q249 : x5_1 < (l0.length : Int) := o1_
 obtain ⟨ad249, A249_1, c249_1, e249, hx249_0, hx249_1, hl249_1, hi249_1⟩ := at_T63 HR0.out x5_1 p249 q249
 have hw249_1 := hx249_1
 have hw249_0 := hx249_0
 cases e249
 replace hx249_0 := (HB.out.cell (World.block_lt_of_cell? w _ hx249_0)).trans hx249_0
 replace hx249_1 := (HB.out.cell (World.block_lt_of_cell? w _ hx249_1)).trans hx249_1
 have HR249_1 := A_ hi249_1
 have HC249_1 := A_ hl249_1
 clear hi249_1 hl249_1
 replace p249 := eq_true p249
 replace q249 := eq_true q249
 refine start_ (n := 8) (S := fun w' => w'.cell? (ad249.add ((x5_1).toNat * 2)) = some (.string ((rd_T63 l0 x5_1).f0)) ∧ w'.cell? ⟨(ad249.add ((x5_1).toNat * 2)).block, (ad249.add ((x5_1).toNat * 2)).off + 1, none⟩ = some (.slice A249_1 ((rd_T63 l0 x5_1).f1).length c249_1)) (ds := []) m0_ s2_ rfl rfl ⟨((HB.out.cell (World.block_lt_of_cell? w _ hw249_0)).trans hw249_0), ((HB.out.cell (World.block_lt_of_cell? w _ hw249_1)).trans hw249_1)⟩ (fun hHeld => ?_); refine with_tabW laws_heldEntryS.tab4 laws_heldEntryS.bits4 (fun HT_ HW_ => ?_)
 generalize wr.drew = w9 at HB HR249_1 hx249_0 hx249_1 hHeld ⊢
 refine pu_ 0 12 m1_ (any_of HT_.out s2_) ?_
 refine pu_ 1 13 m2_ (any_of HT_.out s2_) ?_
 refine pu_ 2 14 m3_ (any_of HT_.out s2_) ?_
 refine pu_ 3 15 m4_ (any_of HT_.out s2_) ?_
 refine pu_ 5 17 m5_ (any_of HT_.out s2_) ?_
 refine take_ (i := 4) (N := some 16) (v := ?_) (a' := ?_) m6_ rfl rfl (take_ofW HT_.out HW_.out s2_) (fun _ _ _ h => h) (Or.inl ⟨by rfl, ?_⟩) hHeld ?_ ?_
 rotate_left
 {
 rintro w' ⟨s0, s1⟩
 go_simp
 with_reducible rfl}
 rotate_left
 · exact p1_
 refine one_ (i := 6) (N := some 18) m7_ rfl rfl (one_of HT_.out s2_) (by decide) (fun K hK => ?_)
 refine goes_ Try.func77 s2_ rfl #[.int .i64 x1_1] (by rfl) rfl rfl s3_ ?_
 with_reducible refine (laws_markText.calls k1 x1_1 t250 _ A5.out).mono ?_
 rintro e w10 ⟨rfl, hb⟩
 refine ⟨_, rfl, ?_⟩
 replace HB := A_ (below_step (y1_ HB.out) hb)
 (try clear hb)
 (try clear hb2)
 (try clear hk)
 (try clear hi)
 refine hK.out _ _ ⟨((HB.out.cell (World.block_lt_of_cell? w _ hw249_0)).trans hw249_0), ((HB.out.cell (World.block_lt_of_cell? w _ hw249_1)).trans hw249_1)⟩ (fun hHeld => ?_)
 clear hK K
 refine norm_ (a' := ?_) ?_ ?_
 rotate_left
 {
 show Act.put _ (some 18) _ = _
 simp only [Act.put, List.setIfInBounds_toArray, List.set_cons_zero, List.set_cons_succ, i64_w, i32_w]
 rfl}
 refine pu_ 7 19 m8_ (any_of HT_.out s2_) ?_
 refine done_ (done_of HT_.out s2_) ?_
 have p251 : 0 ≤ (x5_1 : Int) := o1_
 have q251 : x5_1 < (l0.length : Int) := o1_
 obtain ⟨ad251, A251_1, c251_1, e251, hx251_0, hx251_1, hl251_1, hi251_1⟩ := at_T63 HR0.out x5_1 p251 q251
 obtain rfl : ad249 = ad251 := (by injection e251)
 obtain ⟨qa_, qc_⟩ : A251_1 = A249_1 ∧ c251_1 = c249_1 := (by have e_ := Option.some.inj (hx251_1.symm.trans hw249_1); injection e_ with q1_ q2_ q3_; exact ⟨q1_, q3_⟩)
 subst qa_
 subst qc_
 replace hx251_0 := (HB.out.cell (World.block_lt_of_cell? w _ hx251_0)).trans hx251_0
 replace hx251_1 := (HB.out.cell (World.block_lt_of_cell? w _ hx251_1)).trans hx251_1
 have HR251_1 := A_ hi251_1
 have HC251_1 := A_ hl251_1
 clear hi251_1 hl251_1
 replace p251 := eq_true p251
 replace q251 := eq_true q251
 try go_wp2_with (first | ((with_reducible refine gate_callee (f := 39) rfl ?_); refine goesL_ (some 28) rfl rfl Try.func39 s2_ rfl #[.slice A251_1 ((rd_T63 l0 x5_1).f1).length c251_1, .int .i64 (wrap64 (x1_1 + 1))] rfl s3_ ?_; (with_reducible refine (laws_heldInt64S.calls k1 _ _ ((rd_T63 l0 x5_1).f1) (wrap64 (x1_1 + 1)) t252 _ ?side1 ?side2 A7.out).mono ?_); (case side1 => repeat (first | exact (Kd.C_below HR251_1.out HB.out) | (with_reducible refine Kd.C_alloc ?_ _) | (with_reducible refine Kd.C_drewN ?_ _) | (with_reducible refine Kd.C_drew ?_))); (case side2 => exact HC251_1.out); rintro e w' ⟨rfl, ⟨nd, rfl⟩⟩; refine ⟨_, rfl, ?_⟩))
 go_ret
 exact ⟨e1_, y1_ HB.out⟩}
 {
 rw [if_neg c8] at H
 have c8b0 : decide (t252 < 0) = false := decide_eq_false c8
 clear c8
 have H' := A_ H
 clear H
 try go_wp2
 replace HB := A_ (below_drew1 HB.out)
 have p249 : 0 ≤ (x5_1 : Int) := o1_
 have q249 : x5_1 < (l0.length : Int) := o1_
 obtain ⟨ad249, A249_1, c249_1, e249, hx249_0, hx249_1, hl249_1, hi249_1⟩ := at_T63 HR0.out x5_1 p249 q249
 have hw249_1 := hx249_1
 have hw249_0 := hx249_0
 cases e249
 replace hx249_0 := (HB.out.cell (World.block_lt_of_cell? w _ hx249_0)).trans hx249_0
 replace hx249_1 := (HB.out.cell (World.block_lt_of_cell? w _ hx249_1)).trans hx249_1
 have HR249_1 := A_ hi249_1
 have HC249_1 := A_ hl249_1
 clear hi249_1 hl249_1
 replace p249 := eq_true p249
 replace q249 := eq_true q249
 refine start_ (n := 8) (S := fun w' => w'.cell? (ad249.add ((x5_1).toNat * 2)) = some (.string ((rd_T63 l0 x5_1).f0)) ∧ w'.cell? ⟨(ad249.add ((x5_1).toNat * 2)).block, (ad249.add ((x5_1).toNat * 2)).off + 1, none⟩ = some (.slice A249_1 ((rd_T63 l0 x5_1).f1).length c249_1)) (ds := []) m0_ s2_ rfl rfl ⟨((HB.out.cell (World.block_lt_of_cell? w _ hw249_0)).trans hw249_0), ((HB.out.cell (World.block_lt_of_cell? w _ hw249_1)).trans hw249_1)⟩ (fun hHeld => ?_); refine with_tabW laws_heldEntryS.tab4 laws_heldEntryS.bits4 (fun HT_ HW_ => ?_)
 generalize wr.drew = w11 at HB HR249_1 hx249_0 hx249_1 hHeld ⊢
 refine pu_ 0 12 m1_ (any_of HT_.out s2_) ?_
 refine pu_ 1 13 m2_ (any_of HT_.out s2_) ?_
 refine pu_ 2 14 m3_ (any_of HT_.out s2_) ?_
 refine pu_ 3 15 m4_ (any_of HT_.out s2_) ?_
 refine pu_ 5 17 m5_ (any_of HT_.out s2_) ?_
 refine take_ (i := 4) (N := some 16) (v := ?_) (a' := ?_) m6_ rfl rfl (take_ofW HT_.out HW_.out s2_) (fun _ _ _ h => h) (Or.inl ⟨by rfl, ?_⟩) hHeld ?_ ?_
 rotate_left
 {
 rintro w' ⟨s0, s1⟩
 go_simp
 with_reducible rfl}
 rotate_left
 · exact p1_
 refine one_ (i := 6) (N := some 18) m7_ rfl rfl (one_of HT_.out s2_) (by decide) (fun K hK => ?_)
 refine goes_ Try.func77 s2_ rfl #[.int .i64 x1_1] (by rfl) rfl rfl s3_ ?_
 with_reducible refine (laws_markText.calls k1 x1_1 t250 _ A5.out).mono ?_
 rintro e w12 ⟨rfl, hb⟩
 refine ⟨_, rfl, ?_⟩
 replace HB := A_ (below_step (y1_ HB.out) hb)
 (try clear hb)
 (try clear hb2)
 (try clear hk)
 (try clear hi)
 refine hK.out _ _ ⟨((HB.out.cell (World.block_lt_of_cell? w _ hw249_0)).trans hw249_0), ((HB.out.cell (World.block_lt_of_cell? w _ hw249_1)).trans hw249_1)⟩ (fun hHeld => ?_)
 clear hK K
 refine norm_ (a' := ?_) ?_ ?_
 rotate_left
 {
 show Act.put _ (some 18) _ = _
 simp only [Act.put, List.setIfInBounds_toArray, List.set_cons_zero, List.set_cons_succ, i64_w, i32_w]
 rfl}
 refine pu_ 7 19 m8_ (any_of HT_.out s2_) ?_
 refine done_ (done_of HT_.out s2_) ?_
 have p251 : 0 ≤ (x5_1 : Int) := o1_
 have q251 : x5_1 < (l0.length : Int) := o1_
 obtain ⟨ad251, A251_1, c251_1, e251, hx251_0, hx251_1, hl251_1, hi251_1⟩ := at_T63 HR0.out x5_1 p251 q251
 obtain rfl : ad249 = ad251 := (by injection e251)
 obtain ⟨qa_, qc_⟩ : A251_1 = A249_1 ∧ c251_1 = c249_1 := (by have e_ := Option.some.inj (hx251_1.symm.trans hw249_1); injection e_ with q1_ q2_ q3_; exact ⟨q1_, q3_⟩)
 subst qa_
 subst qc_
 replace hx251_0 := (HB.out.cell (World.block_lt_of_cell? w _ hx251_0)).trans hx251_0
 replace hx251_1 := (HB.out.cell (World.block_lt_of_cell? w _ hx251_1)).trans hx251_1
 have HR251_1 := A_ hi251_1
 have HC251_1 := A_ hl251_1
 clear hi251_1 hl251_1
 replace p251 := eq_true p251
 replace q251 := eq_true q251
 try go_wp2_with (first | ((with_reducible refine gate_callee (f := 39) rfl ?_); refine goesL_ (some 28) rfl rfl Try.func39 s2_ rfl #[.slice A251_1 ((rd_T63 l0 x5_1).f1).length c251_1, .int .i64 (wrap64 (x1_1 + 1))] rfl s3_ ?_; (with_reducible refine (laws_heldInt64S.calls k1 _ _ ((rd_T63 l0 x5_1).f1) (wrap64 (x1_1 + 1)) t252 _ ?side1 ?side2 A7.out).mono ?_); (case side1 => repeat (first | exact (Kd.C_below HR251_1.out HB.out) | (with_reducible refine Kd.C_alloc ?_ _) | (with_reducible refine Kd.C_drewN ?_ _) | (with_reducible refine Kd.C_drew ?_))); (case side2 => exact HC251_1.out); rintro e w' ⟨rfl, ⟨nd, rfl⟩⟩; refine ⟨_, rfl, ?_⟩))
 go_roundg k1
 case measure => have := HK1.out; omega
 case rel => exact ⟨(t252), (wrap64 (x5_1 + 1)), s1_, s1_, H', ⟨by have := HK1.out; omega⟩, ⟨y1_ HB.out⟩⟩}}
 {
 rw [if_neg c6] at H
 have c6b0 : (((rd_T63 l0 x5_1).f0).toList == t250.toList) = false := beq_eq_false_iff_ne.mpr c6
 have c6b1 : (((rd_T63 l0 x5_1).f0).toList != t250.toList) = true := bne_iff_ne.mpr c6
 obtain rfl := Option.some.inj H
 try go_wp2
 replace HB := A_ (below_drew1 HB.out)
 have p249 : 0 ≤ (x5_1 : Int) := o1_
 have q249 : x5_1 < (l0.length : Int) := o1_
 obtain ⟨ad249, A249_1, c249_1, e249, hx249_0, hx249_1, hl249_1, hi249_1⟩ := at_T63 HR0.out x5_1 p249 q249
 have hw249_1 := hx249_1
 have hw249_0 := hx249_0
 cases e249
 replace hx249_0 := (HB.out.cell (World.block_lt_of_cell? w _ hx249_0)).trans hx249_0
 replace hx249_1 := (HB.out.cell (World.block_lt_of_cell? w _ hx249_1)).trans hx249_1
 have HR249_1 := A_ hi249_1
 have HC249_1 := A_ hl249_1
 clear hi249_1 hl249_1
 replace p249 := eq_true p249
 replace q249 := eq_true q249
 refine start_ (n := 8) (S := fun w' => w'.cell? (ad249.add ((x5_1).toNat * 2)) = some (.string ((rd_T63 l0 x5_1).f0)) ∧ w'.cell? ⟨(ad249.add ((x5_1).toNat * 2)).block, (ad249.add ((x5_1).toNat * 2)).off + 1, none⟩ = some (.slice A249_1 ((rd_T63 l0 x5_1).f1).length c249_1)) (ds := []) m0_ s2_ rfl rfl ⟨((HB.out.cell (World.block_lt_of_cell? w _ hw249_0)).trans hw249_0), ((HB.out.cell (World.block_lt_of_cell? w _ hw249_1)).trans hw249_1)⟩ (fun hHeld => ?_); refine with_tabW laws_heldEntryS.tab4 laws_heldEntryS.bits4 (fun HT_ HW_ => ?_)
 generalize wr.drew = w13 at HB HR249_1 hx249_0 hx249_1 hHeld ⊢
 refine pu_ 0 12 m1_ (any_of HT_.out s2_) ?_
 refine pu_ 1 13 m2_ (any_of HT_.out s2_) ?_
 refine pu_ 2 14 m3_ (any_of HT_.out s2_) ?_
 refine pu_ 3 15 m4_ (any_of HT_.out s2_) ?_
 refine pu_ 5 17 m5_ (any_of HT_.out s2_) ?_
 refine take_ (i := 4) (N := some 16) (v := ?_) (a' := ?_) m6_ rfl rfl (take_ofW HT_.out HW_.out s2_) (fun _ _ _ h => h) (Or.inl ⟨by rfl, ?_⟩) hHeld ?_ ?_
 rotate_left
 {
 rintro w' ⟨s0, s1⟩
 go_simp
 with_reducible rfl}
 rotate_left
 · exact p1_
 refine one_ (i := 6) (N := some 18) m7_ rfl rfl (one_of HT_.out s2_) (by decide) (fun K hK => ?_)
 refine goes_ Try.func77 s2_ rfl #[.int .i64 x1_1] (by rfl) rfl rfl s3_ ?_
 with_reducible refine (laws_markText.calls k1 x1_1 t250 _ A5.out).mono ?_
 rintro e w14 ⟨rfl, hb⟩
 refine ⟨_, rfl, ?_⟩
 replace HB := A_ (below_step (y1_ HB.out) hb)
 (try clear hb)
 (try clear hb2)
 (try clear hk)
 (try clear hi)
 refine hK.out _ _ ⟨((HB.out.cell (World.block_lt_of_cell? w _ hw249_0)).trans hw249_0), ((HB.out.cell (World.block_lt_of_cell? w _ hw249_1)).trans hw249_1)⟩ (fun hHeld => ?_)
 clear hK K
 refine norm_ (a' := ?_) ?_ ?_
 rotate_left
 {
 show Act.put _ (some 18) _ = _
 simp only [Act.put, List.setIfInBounds_toArray, List.set_cons_zero, List.set_cons_succ, i64_w, i32_w]
 rfl}
 refine pu_ 7 19 m8_ (any_of HT_.out s2_) ?_
 refine done_ (done_of HT_.out s2_) ?_
 try go_wp2
 go_ret
 exact ⟨e1_, y1_ HB.out⟩}}
 {
 rw [if_neg c4] at H
 exact absurd H (by simp)}}
 {
 rw [if_neg c3] at H
 have c3b0 : decide (x5_1 < (l0.length : Int)) = false := decide_eq_false c3
 clear c3
 obtain rfl := Option.some.inj H
 go_wp2
 go_ret
 exact ⟨e1_, y1_ HB.out⟩}}}

/-! ### laws_heldIndex: function 42 -/
def laws_heldIndex.f (k : Nat) (l0_0 : List (S63)) (a1 : Int) : Option (Int) := (laws_heldEntryS.f k l0_0 a1).bind fun t254 => (if t254 < 0 then (some (-1)) else (some t254))
theorem laws_heldIndex.mono : ∀ a0 a1 k, LeO (laws_heldIndex.f k a0 a1) (laws_heldIndex.f (k + 1) a0 a1) := by
  intro a0 a1 k
  unfold laws_heldIndex.f
  repeat' first
      | (with_reducible exact laws_heldEntryS.mono _ _ _)
      | (with_reducible exact LeO.refl _)
      | (with_reducible exact LeO.none _)
      | (with_reducible refine LeO.ite ?_ ?_)
      | (with_reducible refine LeO.bind ?_ (fun _ => ?_))
      | exact laws_heldEntryS.mono _ _ _
      | exact LeO.none _
      | refine LeO.ite ?_ ?_
      | refine LeO.bind ?_ (fun _ => ?_)
set_option maxHeartbeats 8000000 in
set_option maxRecDepth 100000 in
theorem laws_heldIndex.calls (k : Nat) (A0_0 : Option Addr) (c0_0 : Nat) (l0_0 : List (S63)) (a1 : Int) (r : Int) (w : World) (hr0_0 : Kd.C k63 w A0_0 l0_0.length l0_0) (hc0_0 : l0_0.length ≤ c0_0) (h : laws_heldIndex.f k l0_0 a1 = some r) :
    Calls Try.prog 42 #[.agg #[.slice A0_0 l0_0.length c0_0], .int .i64 a1] w fun e w' => e = .returned (.int .i64 r) ∧ Below w.heap.size w w' := by
  have hu29 := Try.underlying29
  have HR0_0 := A_ hr0_0
  have HC0_0 := A_ hc0_0
  clear hr0_0 hc0_0
  have HB := A_ (Below.refl w.heap.size w)
  have H : ((laws_heldEntryS.f k l0_0 a1).bind fun t254 => (if t254 < 0 then (some (-1)) else (some t254))) = some r := h
  clear h
  replace H := Option.bind_eq_some_iff.mp H
  obtain ⟨t254, A30, H⟩ := H
  replace H : (if t254 < 0 then (some (-1)) else (some t254)) = some r := H
  have A3 := A_ A30
  clear A30
  by_cases c4 : t254 < 0
  · rw [if_pos c4] at H
    have c4b0 : decide (t254 < 0) = true := decide_eq_true c4
    clear c4
    obtain rfl := Option.some.inj H
    go_enter Try.func42, Try.ntmps42
    go_wp2_with (first | ((with_reducible refine gate_dst (N := 2) rfl ?_); refine box_event ?hg (N := 2) ?hd (cs := #[.slice A0_0 l0_0.length c0_0]) (t := 29) ?hr ?_; (case hd => rfl); (case hg => rfl); (case hr => first | (go_simp; done) | (go_simp; rfl)); intro gb253 hg w5 hbox hb; have GW253 := A_ ((by rw [hg]; exact (below_size (y1_ HB.out)) : w.heap.size ≤ gb253)); have GE253 := A_ ((by rw [hg]; exact (below_size (y1_ HB.out)) : w.heap.size ≤ gb253)); replace HB := A_ (below_step (y1_ HB.out) hb); have BK253 := A_ (hbox); clear hb hbox hg; have hcz6_0 : w5.cell? ⟨gb253, 0, none⟩ = some (.slice A0_0 l0_0.length c0_0) := (blk_cell BK253.out 0).trans rfl; have hfz6_0 := blk_frozen BK253.out 0) | ((with_reducible refine gate_callee (f := 86) rfl ?_); refine goesL_ (some 8) rfl rfl Try.func86 (by kernel_rfl) rfl #[.slice A0_0 l0_0.length c0_0, .int .i64 a1] rfl (by (try simp only [List.map_toArray, List.map_cons, List.map_nil]); first | done | rfl | (simp only [List.length_drop, List.length_take]; rfl)) ?_; (with_reducible refine (laws_heldEntryS.calls k _ _ l0_0 a1 t254 _ ?side1 ?side2 A3.out).mono ?_); (case side1 => repeat (first | exact (Kd.C_below HR0_0.out HB.out) | (with_reducible refine Kd.C_alloc ?_ _) | (with_reducible refine Kd.C_drewN ?_ _) | (with_reducible refine Kd.C_drew ?_))); (case side2 => exact HC0_0.out); rintro e w7 ⟨rfl, hb⟩; refine ⟨_, rfl, ?_⟩; replace BK253 := A_ (blk_below (g := gb253) (o := .cells #[.slice A0_0 l0_0.length c0_0] 29 (0, 0)) (b1_ BK253.out) hb); replace HB := A_ (below_step (y1_ HB.out) hb); (try clear hb); (try clear hb2); (try clear hk); (try clear hi)))
    go_ret
    exact ⟨e1_, y1_ HB.out⟩
  · rw [if_neg c4] at H
    have c4b0 : decide (t254 < 0) = false := decide_eq_false c4
    clear c4
    obtain rfl := Option.some.inj H
    go_enter Try.func42, Try.ntmps42
    go_wp2_with (first | ((with_reducible refine gate_dst (N := 2) rfl ?_); refine box_event ?hg (N := 2) ?hd (cs := #[.slice A0_0 l0_0.length c0_0]) (t := 29) ?hr ?_; (case hd => rfl); (case hg => rfl); (case hr => first | (go_simp; done) | (go_simp; rfl)); intro gb253 hg w8 hbox hb; have GW253 := A_ ((by rw [hg]; exact (below_size (y1_ HB.out)) : w.heap.size ≤ gb253)); have GE253 := A_ ((by rw [hg]; exact (below_size (y1_ HB.out)) : w.heap.size ≤ gb253)); replace HB := A_ (below_step (y1_ HB.out) hb); have BK253 := A_ (hbox); clear hb hbox hg; have hcz9_0 : w8.cell? ⟨gb253, 0, none⟩ = some (.slice A0_0 l0_0.length c0_0) := (blk_cell BK253.out 0).trans rfl; have hfz9_0 := blk_frozen BK253.out 0) | ((with_reducible refine gate_callee (f := 86) rfl ?_); refine goesL_ (some 8) rfl rfl Try.func86 (by kernel_rfl) rfl #[.slice A0_0 l0_0.length c0_0, .int .i64 a1] rfl (by (try simp only [List.map_toArray, List.map_cons, List.map_nil]); first | done | rfl | (simp only [List.length_drop, List.length_take]; rfl)) ?_; (with_reducible refine (laws_heldEntryS.calls k _ _ l0_0 a1 t254 _ ?side1 ?side2 A3.out).mono ?_); (case side1 => repeat (first | exact (Kd.C_below HR0_0.out HB.out) | (with_reducible refine Kd.C_alloc ?_ _) | (with_reducible refine Kd.C_drewN ?_ _) | (with_reducible refine Kd.C_drew ?_))); (case side2 => exact HC0_0.out); rintro e w10 ⟨rfl, hb⟩; refine ⟨_, rfl, ?_⟩; replace BK253 := A_ (blk_below (g := gb253) (o := .cells #[.slice A0_0 l0_0.length c0_0] 29 (0, 0)) (b1_ BK253.out) hb); replace HB := A_ (below_step (y1_ HB.out) hb); (try clear hb); (try clear hb2); (try clear hk); (try clear hi)))
    go_ret
    exact ⟨e1_, y1_ HB.out⟩

-- NOT PRINTED: function 10 (laws_FnExactDropFrom)

end Go.Proofs.Ytcnhepjdibbkgaa.QFnExactDropFrom
