-- written by a program of this session, on the lines of the kit's print
import Derived.Test.YtgmbgpjebpgpkaaDoorQFnExactEventTextx0
import Derived.Test.YtgmbgpjebpgpkaaDoorQFnExactEventTextx2
namespace Go.Proofs.YtgmbgpjebpgpkaaDoor.QFnExactEventText
open Go.RowKit Go.Proofs.YtgmbgpjebpgpkaaDoorW.PrintWords Go.Proofs.YtgmbgpjebpgpkaaDoorW.PrintLast Go.Proofs.YtgmbgpjebpgpkaaDoorW.PrintMore
attribute [local go_sem] max2_int min2_int max_two min_two max_three min_three max_four min_four   -- for this text's walks alone
set_option linter.unusedVariables false
set_option linter.unusedSimpArgs false

/-! ### impl_ValidEvent: function 14 -/
abbrev impl_ValidEvent.T : Bool := true
abbrev impl_ValidEvent.F : Bool := false
theorem impl_ValidEvent.s1_ {P : Prop} (h : P := by first | rfl | (simp; done) | (simp [*]; done)) : P := h
theorem impl_ValidEvent.s2_ {P : Prop} (h : P := by kernel_rfl) : P := h
theorem impl_ValidEvent.s3_ {P : Prop} (h : P := by (try simp only [List.map_toArray, List.map_cons, List.map_nil]); first | done | rfl | (simp only [List.length_drop, List.length_take]; rfl)) : P := h
theorem impl_ValidEvent.b1_ {P Q : Prop} (q : Q) (h : Q → P := by intro q_; (with_reducible repeat (first | refine blk_drewN ?_ _ | refine blk_drew ?_ | refine blk_alloc ?_ _)); exact q_) : P := h q
theorem impl_ValidEvent.y1_ {P Q : Prop} (q : Q) (h : Q → P := by intro q_; repeat (first | (with_reducible first | exact q_ | apply below_alloc | apply pw_below_drewN | apply below_drew1) | exact q_)) : P := h q
theorem impl_ValidEvent.b6_ {w w' W : World} {k : Nat} (hg : k = W.heap.size) (q : Aside0 (Below w.heap.size w w')) (h : Below w.heap.size w w' → Below w.heap.size w W := by intro q_; repeat (first | (with_reducible first | exact q_ | apply below_alloc | apply pw_below_drewN | apply below_drew1) | exact q_)) : Aside0 (w.heap.size ≤ k) := ⟨by rw [hg]; exact below_size (h q.out)⟩
theorem impl_ValidEvent.c1_ {w : World} {g : Nat} {t : TypeId} {cs : Array Value} (q : Aside0 (w.heap[g]? = some (.cells cs t (0, 0)))) (i : Nat) (v : Value) (h : cs[i]? = some v := by rfl) : w.cell? ⟨g, i, none⟩ = some v := (blk_cell q.out i).trans h
theorem impl_ValidEvent.f1_ {w : World} {g : Nat} {t : TypeId} {cs : Array Value} (q : Aside0 (w.heap[g]? = some (.cells cs t (0, 0)))) (i : Nat) : w.frozen? ⟨g, i, none⟩ = false := blk_frozen q.out i
def impl_ValidEvent.j0 : Nat → Bool → Int → Int → Int → Int → ByteArray → Int → Option (Bool)
  | 0, _, _, _, _, _, _, _ => none
  | k + 1, x18, x148000, x148001, x148002, x148003, x148004, x148005 => if x18 = true then (some false) else (if x148000 = 0 then ((impl_isTick.f x148003).bind fun t151 => (if t151 = true then ((impl_IsText.f k x148004).bind fun t152 => (if t152 = true then ((impl_in.f x148005 0 (wrap64 (x148001 - 1))).bind fun t153 => (some t153)) else (some false))) else (some false))) else (if x148000 = 1 then ((impl_IsText.f k x148004).bind fun t154 => (if t154 = true then (if x148003 = 0 then (some (x148005 == 0)) else (some false)) else (some false))) else (if x148003 = 0 then (if x148004.toList = ([] : List UInt8) then (some (x148005 == 0)) else (some false)) else (some false))))
def impl_ValidEvent.f (k : Nat) (a0_0 : Int) (a0_1 : Int) (a0_2 : Int) (a0_3 : Int) (a0_4 : ByteArray) (a0_5 : Int) : Option (Bool) := (impl_in.f a0_0 0 4).bind fun t148 => (if t148 = true then ((impl_in.f a0_1 1 1000000000).bind fun t149 => (if t149 = true then ((impl_isMember.f a0_2).bind fun t150 => (impl_ValidEvent.j0 k (!t150) a0_0 a0_1 a0_2 a0_3 a0_4 a0_5)) else (impl_ValidEvent.j0 k true a0_0 a0_1 a0_2 a0_3 a0_4 a0_5))) else (impl_ValidEvent.j0 k true a0_0 a0_1 a0_2 a0_3 a0_4 a0_5))
theorem impl_ValidEvent.mono_l : ∀ k, (∀ y0 y1 y2 y3 y4 y5 y6, LeO (impl_ValidEvent.j0 k y0 y1 y2 y3 y4 y5 y6) (impl_ValidEvent.j0 (k + 1) y0 y1 y2 y3 y4 y5 y6))
  | 0 => fun _ _ _ _ _ _ _ r h => by simp [impl_ValidEvent.j0] at h
  | k + 1 => by
    have ih0 := impl_ValidEvent.mono_l k
    · intro y0 y1 y2 y3 y4 y5 y6
      unfold impl_ValidEvent.j0
      repeat' first
      | (with_reducible exact ih0 _ _ _ _ _ _ _)
      | (with_reducible exact impl_IsText.mono _ _)
      | (with_reducible exact LeO.refl _)
      | (with_reducible exact LeO.none _)
      | (with_reducible refine LeO.ite ?_ ?_)
      | (with_reducible refine LeO.bind ?_ (fun _ => ?_))
      | exact ih0 _ _ _ _ _ _ _
      | exact impl_IsText.mono _ _
      | exact LeO.none _
      | refine LeO.ite ?_ ?_
      | refine LeO.bind ?_ (fun _ => ?_)
theorem impl_ValidEvent.mono : ∀ a0 a1 a2 a3 a4 a5 k, LeO (impl_ValidEvent.f k a0 a1 a2 a3 a4 a5) (impl_ValidEvent.f (k + 1) a0 a1 a2 a3 a4 a5) := by
  intro a0 a1 a2 a3 a4 a5 k
  have ih0 := impl_ValidEvent.mono_l k
  unfold impl_ValidEvent.f
  repeat' first
      | (with_reducible exact ih0 _ _ _ _ _ _ _)
      | (with_reducible exact impl_IsText.mono _ _)
      | (with_reducible exact LeO.refl _)
      | (with_reducible exact LeO.none _)
      | (with_reducible refine LeO.ite ?_ ?_)
      | (with_reducible refine LeO.bind ?_ (fun _ => ?_))
      | exact ih0 _ _ _ _ _ _ _
      | exact impl_IsText.mono _ _
      | exact LeO.none _
      | refine LeO.ite ?_ ?_
      | refine LeO.bind ?_ (fun _ => ?_)
set_option maxHeartbeats 8000000 in
set_option maxRecDepth 100000 in
theorem impl_ValidEvent.calls (k : Nat) (a0_0 : Int) (a0_1 : Int) (a0_2 : Int) (a0_3 : Int) (a0_4 : ByteArray) (a0_5 : Int) (r : Bool) (w : World) (h : impl_ValidEvent.f k a0_0 a0_1 a0_2 a0_3 a0_4 a0_5 = some r) :
    Calls Tryd.prog 14 #[.agg #[.int .i64 a0_0, .int .i64 a0_1, .int .i64 a0_2, .int .i64 a0_3, .string a0_4, .int .i64 a0_5]] w fun e w' => e = .returned (.bool r) ∧ Below w.heap.size w w' := by
 have hu27 := Tryd.underlying27
 have HB := Aside0.mk (Below.refl w.heap.size w)
 have H : ((impl_in.f a0_0 0 4).bind fun t148 => (if t148 = true then ((impl_in.f a0_1 1 1000000000).bind fun t149 => (if t149 = true then ((impl_isMember.f a0_2).bind fun t150 => (impl_ValidEvent.j0 k (!t150) a0_0 a0_1 a0_2 a0_3 a0_4 a0_5)) else (impl_ValidEvent.j0 k true a0_0 a0_1 a0_2 a0_3 a0_4 a0_5))) else (impl_ValidEvent.j0 k true a0_0 a0_1 a0_2 a0_3 a0_4 a0_5))) = some r := h
 clear h
 have HC2 := Aside0.mk H
 clear H
 go_enter Tryd.func14, Tryd.ntmps14
 go_upto_region 1 with (first | ((with_reducible refine gate_dst (N := 1) rfl ?_); refine box_event ?hg (N := 1) ?hd (cs := #[.int .i64 a0_0, .int .i64 a0_1, .int .i64 a0_2, .int .i64 a0_3, .string a0_4, .int .i64 a0_5]) (t := 27) ?hr ?_; (case hd => rfl); (case hg => rfl); (case hr => first | (go_simp; done) | (go_simp; rfl)); intro gb147 hg w3 hbox hb; have GW147 := b6_ hg HB; have GE147 := b6_ hg HB; replace HB := Aside0.mk (below_step (y1_ HB.out) hb); have BK147 := Aside0.mk (hbox); clear hb hbox hg))
 (try simp only [Act.put, List.setIfInBounds_toArray, List.set_cons_zero, List.set_cons_succ])
 go_cut [18] (fun v18 wc => ∃ (kq : Nat) (x18_1 : Bool), v18 = .bool x18_1 ∧ Aside0 (impl_ValidEvent.j0 kq x18_1 a0_0 a0_1 a0_2 a0_3 a0_4 a0_5 = some r) ∧ Aside0 (kq ≤ k) ∧ Aside0 (wc.heap[gb147]? = some (.cells #[.int .i64 a0_0, .int .i64 a0_1, .int .i64 a0_2, .int .i64 a0_3, .string a0_4, .int .i64 a0_5] 27 (0, 0))) ∧ Aside0 (Below w.heap.size w wc))
 case first =>
  skip
  {
 have H := HC2.out
 clear HC2
 replace H := Option.bind_eq_some_iff.mp H
 obtain ⟨t148, A40, H⟩ := H
 replace H : (if t148 = true then ((impl_in.f a0_1 1 1000000000).bind fun t149 => (if t149 = true then ((impl_isMember.f a0_2).bind fun t150 => (impl_ValidEvent.j0 k (!t150) a0_0 a0_1 a0_2 a0_3 a0_4 a0_5)) else (impl_ValidEvent.j0 k true a0_0 a0_1 a0_2 a0_3 a0_4 a0_5))) else (impl_ValidEvent.j0 k true a0_0 a0_1 a0_2 a0_3 a0_4 a0_5)) = some r := H
 have A4 := Aside0.mk A40
 clear A40
 by_cases c5 : t148 = true
 {
 subst c5
 have H1 : ((impl_in.f a0_1 1 1000000000).bind fun t149 => (if t149 = true then ((impl_isMember.f a0_2).bind fun t150 => (impl_ValidEvent.j0 k (!t150) a0_0 a0_1 a0_2 a0_3 a0_4 a0_5)) else (impl_ValidEvent.j0 k true a0_0 a0_1 a0_2 a0_3 a0_4 a0_5))) = some r := by rw [if_pos rfl] at H; exact H
 clear H
 have H := H1
 clear H1
 replace H := Option.bind_eq_some_iff.mp H
 obtain ⟨t149, A60, H⟩ := H
 replace H : (if t149 = true then ((impl_isMember.f a0_2).bind fun t150 => (impl_ValidEvent.j0 k (!t150) a0_0 a0_1 a0_2 a0_3 a0_4 a0_5)) else (impl_ValidEvent.j0 k true a0_0 a0_1 a0_2 a0_3 a0_4 a0_5)) = some r := H
 have A6 := Aside0.mk A60
 clear A60
 by_cases c7 : t149 = true
 {
 subst c7
 have H1 : ((impl_isMember.f a0_2).bind fun t150 => (impl_ValidEvent.j0 k (!t150) a0_0 a0_1 a0_2 a0_3 a0_4 a0_5)) = some r := by rw [if_pos rfl] at H; exact H
 clear H
 have H := H1
 clear H1
 replace H := Option.bind_eq_some_iff.mp H
 obtain ⟨t150, A80, H⟩ := H
 replace H : (impl_ValidEvent.j0 k (!t150) a0_0 a0_1 a0_2 a0_3 a0_4 a0_5) = some r := H
 have A8 := Aside0.mk A80
 clear A80
 have H' := Aside0.mk H
 clear H
 have hcz9_0 := c1_ BK147 0 (.int .i64 a0_0)
 have hcz9_1 := c1_ BK147 1 (.int .i64 a0_1)
 have hcz9_2 := c1_ BK147 2 (.int .i64 a0_2)
 have hcz9_3 := c1_ BK147 3 (.int .i64 a0_3)
 have hcz9_4 := c1_ BK147 4 (.string a0_4)
 have hcz9_5 := c1_ BK147 5 (.int .i64 a0_5)
 have hfz9_0 := f1_ BK147 0
 have hfz9_1 := f1_ BK147 1
 have hfz9_2 := f1_ BK147 2
 have hfz9_3 := f1_ BK147 3
 have hfz9_4 := f1_ BK147 4
 have hfz9_5 := f1_ BK147 5
 go_wp2_with (first | ((with_reducible refine gate_callee (f := 24) rfl ?_); refine goesL_ (some 5) rfl rfl Tryd.func24 s2_ rfl #[.int .i64 a0_0, .int .i64 0, .int .i64 4] rfl s3_ ?_; (with_reducible refine (impl_in.calls a0_0 0 4 true _ A4.out).mono ?_); rintro e w' ⟨rfl, ⟨nd, rfl⟩⟩; refine ⟨_, rfl, ?_⟩) | (go_at_call 24; (with_reducible refine (impl_in.calls a0_1 1 1000000000 true _ A6.out).mono ?_); rintro e w' ⟨rfl, ⟨nd, rfl⟩⟩) | (go_at_call 25; (with_reducible refine (impl_isMember.calls a0_2 t150 _ A8.out).mono ?_); rintro e w' ⟨rfl, ⟨nd, rfl⟩⟩))
 go_meet
 case rel => exact ⟨_, (!t150), s1_, H', ⟨by first | omega | exact Nat.le_refl _⟩, ⟨b1_ BK147.out⟩, ⟨by repeat (first | (with_reducible first | exact HB.out | apply below_alloc | apply pw_below_drewN | apply below_drew1) | exact HB.out)⟩⟩}
 {
 replace c7 := Bool.eq_false_iff.mpr c7
 subst c7
 have H1 : (impl_ValidEvent.j0 k true a0_0 a0_1 a0_2 a0_3 a0_4 a0_5) = some r := by rw [if_neg (show ¬ (false = true) by decide)] at H; exact H
 clear H
 have H := H1
 clear H1
 have H' := Aside0.mk H
 clear H
 have hcz10_0 := c1_ BK147 0 (.int .i64 a0_0)
 have hcz10_1 := c1_ BK147 1 (.int .i64 a0_1)
 have hcz10_2 := c1_ BK147 2 (.int .i64 a0_2)
 have hcz10_3 := c1_ BK147 3 (.int .i64 a0_3)
 have hcz10_4 := c1_ BK147 4 (.string a0_4)
 have hcz10_5 := c1_ BK147 5 (.int .i64 a0_5)
 have hfz10_0 := f1_ BK147 0
 have hfz10_1 := f1_ BK147 1
 have hfz10_2 := f1_ BK147 2
 have hfz10_3 := f1_ BK147 3
 have hfz10_4 := f1_ BK147 4
 have hfz10_5 := f1_ BK147 5
 go_wp2_with (first | ((with_reducible refine gate_callee (f := 24) rfl ?_); refine goesL_ (some 5) rfl rfl Tryd.func24 s2_ rfl #[.int .i64 a0_0, .int .i64 0, .int .i64 4] rfl s3_ ?_; (with_reducible refine (impl_in.calls a0_0 0 4 true _ A4.out).mono ?_); rintro e w' ⟨rfl, ⟨nd, rfl⟩⟩; refine ⟨_, rfl, ?_⟩) | (go_at_call 24; (with_reducible refine (impl_in.calls a0_1 1 1000000000 false _ A6.out).mono ?_); rintro e w' ⟨rfl, ⟨nd, rfl⟩⟩))
 go_meet
 case rel => exact ⟨_, (true), s1_, H', ⟨by first | omega | exact Nat.le_refl _⟩, ⟨b1_ BK147.out⟩, ⟨by repeat (first | (with_reducible first | exact HB.out | apply below_alloc | apply pw_below_drewN | apply below_drew1) | exact HB.out)⟩⟩}}
 {
 replace c5 := Bool.eq_false_iff.mpr c5
 subst c5
 have H1 : (impl_ValidEvent.j0 k true a0_0 a0_1 a0_2 a0_3 a0_4 a0_5) = some r := by rw [if_neg (show ¬ (false = true) by decide)] at H; exact H
 clear H
 have H := H1
 clear H1
 have H' := Aside0.mk H
 clear H
 have hcz11_0 := c1_ BK147 0 (.int .i64 a0_0)
 have hcz11_1 := c1_ BK147 1 (.int .i64 a0_1)
 have hcz11_2 := c1_ BK147 2 (.int .i64 a0_2)
 have hcz11_3 := c1_ BK147 3 (.int .i64 a0_3)
 have hcz11_4 := c1_ BK147 4 (.string a0_4)
 have hcz11_5 := c1_ BK147 5 (.int .i64 a0_5)
 have hfz11_0 := f1_ BK147 0
 have hfz11_1 := f1_ BK147 1
 have hfz11_2 := f1_ BK147 2
 have hfz11_3 := f1_ BK147 3
 have hfz11_4 := f1_ BK147 4
 have hfz11_5 := f1_ BK147 5
 go_wp2_with (first | ((with_reducible refine gate_callee (f := 24) rfl ?_); refine goesL_ (some 5) rfl rfl Tryd.func24 s2_ rfl #[.int .i64 a0_0, .int .i64 0, .int .i64 4] rfl s3_ ?_; (with_reducible refine (impl_in.calls a0_0 0 4 false _ A4.out).mono ?_); rintro e w' ⟨rfl, ⟨nd, rfl⟩⟩; refine ⟨_, rfl, ?_⟩))
 go_meet
 case rel => exact ⟨_, (true), s1_, H', ⟨by first | omega | exact Nat.le_refl _⟩, ⟨b1_ BK147.out⟩, ⟨by repeat (first | (with_reducible first | exact HB.out | apply below_alloc | apply pw_below_drewN | apply below_drew1) | exact HB.out)⟩⟩}}
 case rest =>
  skip
  {
 clear HC2
 try clear c1
 try clear c2
 try clear p2
 try clear c5
 try clear c7
 try clear hcz10_0
 try clear hcz10_1
 try clear hcz10_2
 try clear hcz10_3
 try clear hcz10_4
 try clear hcz10_5
 try clear hcz11_0
 try clear hcz11_1
 try clear hcz11_2
 try clear hcz11_3
 try clear hcz11_4
 try clear hcz11_5
 try clear hcz9_0
 try clear hcz9_1
 try clear hcz9_2
 try clear hcz9_3
 try clear hcz9_4
 try clear hcz9_5
 try clear hfz10_0
 try clear hfz10_1
 try clear hfz10_2
 try clear hfz10_3
 try clear hfz10_4
 try clear hfz10_5
 try clear hfz11_0
 try clear hfz11_1
 try clear hfz11_2
 try clear hfz11_3
 try clear hfz11_4
 try clear hfz11_5
 try clear hfz9_0
 try clear hfz9_1
 try clear hfz9_2
 try clear hfz9_3
 try clear hfz9_4
 try clear hfz9_5
 obtain ⟨kq, x18_1, rfl, HA, HJ1, BK147, HB⟩ := hcut
 cases kq with
 | zero => exact absurd HA.out (by simp [impl_ValidEvent.j0])
 | succ kj1 =>
  skip
  {
 have H := HA.out
 clear HA
 simp only [impl_ValidEvent.j0] at H
 by_cases c12 : x18_1 = true
 {
 subst c12
 have H1 : (some false) = some r := by rw [if_pos rfl] at H; exact H
 clear H
 have H := H1
 clear H1
 obtain rfl := Option.some.inj H
 go_wp2
 go_ret
 exact ⟨by first | rfl | (simp [errW_none, errW_some] <;> rfl) | (simp [*, errW_none, errW_some] <;> rfl), by repeat (first | (with_reducible first | exact HB.out | apply below_alloc | apply pw_below_drewN | apply below_drew1) | exact HB.out)⟩}
 {
 replace c12 := Bool.eq_false_iff.mpr c12
 subst c12
 have H1 : (if a0_0 = 0 then ((impl_isTick.f a0_3).bind fun t151 => (if t151 = true then ((impl_IsText.f kj1 a0_4).bind fun t152 => (if t152 = true then ((impl_in.f a0_5 0 (wrap64 (a0_1 - 1))).bind fun t153 => (some t153)) else (some false))) else (some false))) else (if a0_0 = 1 then ((impl_IsText.f kj1 a0_4).bind fun t154 => (if t154 = true then (if a0_3 = 0 then (some (a0_5 == 0)) else (some false)) else (some false))) else (if a0_3 = 0 then (if a0_4.toList = ([] : List UInt8) then (some (a0_5 == 0)) else (some false)) else (some false)))) = some r := by rw [if_neg (show ¬ (false = true) by decide)] at H; exact H
 clear H
 have H := H1
 clear H1
 by_cases c13 : a0_0 = 0
 {
 rw [if_pos c13] at H
 have c13b0 : (a0_0 == 0) = true := beq_iff_eq.mpr c13
 have c13b1 : (a0_0 != 0) = false := bne_eq_false_iff_eq.mpr c13
 clear c13
 replace H := Option.bind_eq_some_iff.mp H
 obtain ⟨t151, A140, H⟩ := H
 replace H : (if t151 = true then ((impl_IsText.f kj1 a0_4).bind fun t152 => (if t152 = true then ((impl_in.f a0_5 0 (wrap64 (a0_1 - 1))).bind fun t153 => (some t153)) else (some false))) else (some false)) = some r := H
 have A14 := Aside0.mk A140
 clear A140
 by_cases c15 : t151 = true
 {
 subst c15
 have H1 : ((impl_IsText.f kj1 a0_4).bind fun t152 => (if t152 = true then ((impl_in.f a0_5 0 (wrap64 (a0_1 - 1))).bind fun t153 => (some t153)) else (some false))) = some r := by rw [if_pos rfl] at H; exact H
 clear H
 have H := H1
 clear H1
 replace H := Option.bind_eq_some_iff.mp H
 obtain ⟨t152, A160, H⟩ := H
 replace H : (if t152 = true then ((impl_in.f a0_5 0 (wrap64 (a0_1 - 1))).bind fun t153 => (some t153)) else (some false)) = some r := H
 have A16 := Aside0.mk A160
 clear A160
 by_cases c17 : t152 = true
 {
 subst c17
 have H1 : ((impl_in.f a0_5 0 (wrap64 (a0_1 - 1))).bind fun t153 => (some t153)) = some r := by rw [if_pos rfl] at H; exact H
 clear H
 have H := H1
 clear H1
 replace H := Option.bind_eq_some_iff.mp H
 obtain ⟨t153, A180, H⟩ := H
 replace H : (some t153) = some r := H
 have A18 := Aside0.mk A180
 clear A180
 obtain rfl := Option.some.inj H
 have hcz19_0 := c1_ BK147 0 (.int .i64 a0_0)
 have hcz19_1 := c1_ BK147 1 (.int .i64 a0_1)
 have hcz19_2 := c1_ BK147 2 (.int .i64 a0_2)
 have hcz19_3 := c1_ BK147 3 (.int .i64 a0_3)
 have hcz19_4 := c1_ BK147 4 (.string a0_4)
 have hcz19_5 := c1_ BK147 5 (.int .i64 a0_5)
 have hfz19_0 := f1_ BK147 0
 have hfz19_1 := f1_ BK147 1
 have hfz19_2 := f1_ BK147 2
 have hfz19_3 := f1_ BK147 3
 have hfz19_4 := f1_ BK147 4
 have hfz19_5 := f1_ BK147 5
 go_wp2_with (first | ((with_reducible refine gate_callee (f := 26) rfl ?_); refine goesL_ (some 25) rfl rfl Tryd.func26 s2_ rfl #[.int .i64 a0_3] rfl s3_ ?_; (with_reducible refine (impl_isTick.calls a0_3 true _ A14.out).mono ?_); rintro e w' ⟨rfl, ⟨nd, rfl⟩⟩; refine ⟨_, rfl, ?_⟩) | (go_at_call 27; (with_reducible refine (impl_IsText.calls kj1 a0_4 true _ A16.out).mono ?_); rintro e w' ⟨rfl, ⟨nd, rfl⟩⟩) | (go_at_call 24; (with_reducible refine (impl_in.calls a0_5 0 (wrap64 (a0_1 - 1)) t153 _ A18.out).mono ?_); rintro e w' ⟨rfl, ⟨nd, rfl⟩⟩))
 go_ret
 exact ⟨by first | rfl | (simp [errW_none, errW_some] <;> rfl) | (simp [*, errW_none, errW_some] <;> rfl), by repeat (first | (with_reducible first | exact HB.out | apply below_alloc | apply pw_below_drewN | apply below_drew1) | exact HB.out)⟩}
 {
 replace c17 := Bool.eq_false_iff.mpr c17
 subst c17
 have H1 : (some false) = some r := by rw [if_neg (show ¬ (false = true) by decide)] at H; exact H
 clear H
 have H := H1
 clear H1
 obtain rfl := Option.some.inj H
 have hcz20_0 := c1_ BK147 0 (.int .i64 a0_0)
 have hcz20_1 := c1_ BK147 1 (.int .i64 a0_1)
 have hcz20_2 := c1_ BK147 2 (.int .i64 a0_2)
 have hcz20_3 := c1_ BK147 3 (.int .i64 a0_3)
 have hcz20_4 := c1_ BK147 4 (.string a0_4)
 have hcz20_5 := c1_ BK147 5 (.int .i64 a0_5)
 have hfz20_0 := f1_ BK147 0
 have hfz20_1 := f1_ BK147 1
 have hfz20_2 := f1_ BK147 2
 have hfz20_3 := f1_ BK147 3
 have hfz20_4 := f1_ BK147 4
 have hfz20_5 := f1_ BK147 5
 go_wp2_with (first | ((with_reducible refine gate_callee (f := 26) rfl ?_); refine goesL_ (some 25) rfl rfl Tryd.func26 s2_ rfl #[.int .i64 a0_3] rfl s3_ ?_; (with_reducible refine (impl_isTick.calls a0_3 true _ A14.out).mono ?_); rintro e w' ⟨rfl, ⟨nd, rfl⟩⟩; refine ⟨_, rfl, ?_⟩) | (go_at_call 27; (with_reducible refine (impl_IsText.calls kj1 a0_4 false _ A16.out).mono ?_); rintro e w' ⟨rfl, ⟨nd, rfl⟩⟩))
 go_ret
 exact ⟨by first | rfl | (simp [errW_none, errW_some] <;> rfl) | (simp [*, errW_none, errW_some] <;> rfl), by repeat (first | (with_reducible first | exact HB.out | apply below_alloc | apply pw_below_drewN | apply below_drew1) | exact HB.out)⟩}}
 {
 replace c15 := Bool.eq_false_iff.mpr c15
 subst c15
 have H1 : (some false) = some r := by rw [if_neg (show ¬ (false = true) by decide)] at H; exact H
 clear H
 have H := H1
 clear H1
 obtain rfl := Option.some.inj H
 have hcz21_0 := c1_ BK147 0 (.int .i64 a0_0)
 have hcz21_1 := c1_ BK147 1 (.int .i64 a0_1)
 have hcz21_2 := c1_ BK147 2 (.int .i64 a0_2)
 have hcz21_3 := c1_ BK147 3 (.int .i64 a0_3)
 have hcz21_4 := c1_ BK147 4 (.string a0_4)
 have hcz21_5 := c1_ BK147 5 (.int .i64 a0_5)
 have hfz21_0 := f1_ BK147 0
 have hfz21_1 := f1_ BK147 1
 have hfz21_2 := f1_ BK147 2
 have hfz21_3 := f1_ BK147 3
 have hfz21_4 := f1_ BK147 4
 have hfz21_5 := f1_ BK147 5
 go_wp2_with (first | ((with_reducible refine gate_callee (f := 26) rfl ?_); refine goesL_ (some 25) rfl rfl Tryd.func26 s2_ rfl #[.int .i64 a0_3] rfl s3_ ?_; (with_reducible refine (impl_isTick.calls a0_3 false _ A14.out).mono ?_); rintro e w' ⟨rfl, ⟨nd, rfl⟩⟩; refine ⟨_, rfl, ?_⟩))
 go_ret
 exact ⟨by first | rfl | (simp [errW_none, errW_some] <;> rfl) | (simp [*, errW_none, errW_some] <;> rfl), by repeat (first | (with_reducible first | exact HB.out | apply below_alloc | apply pw_below_drewN | apply below_drew1) | exact HB.out)⟩}}
 {
 rw [if_neg c13] at H
 have c13b0 : (a0_0 == 0) = false := beq_eq_false_iff_ne.mpr c13
 have c13b1 : (a0_0 != 0) = true := bne_iff_ne.mpr c13
 by_cases c22 : a0_0 = 1
 {
 rw [if_pos c22] at H
 have c22b0 : (a0_0 == 1) = true := beq_iff_eq.mpr c22
 have c22b1 : (a0_0 != 1) = false := bne_eq_false_iff_eq.mpr c22
 clear c22
 replace H := Option.bind_eq_some_iff.mp H
 obtain ⟨t154, A230, H⟩ := H
 replace H : (if t154 = true then (if a0_3 = 0 then (some (a0_5 == 0)) else (some false)) else (some false)) = some r := H
 have A23 := Aside0.mk A230
 clear A230
 by_cases c24 : t154 = true
 {
 subst c24
 have H1 : (if a0_3 = 0 then (some (a0_5 == 0)) else (some false)) = some r := by rw [if_pos rfl] at H; exact H
 clear H
 have H := H1
 clear H1
 by_cases c25 : a0_3 = 0
 {
 rw [if_pos c25] at H
 have c25b0 : (a0_3 == 0) = true := beq_iff_eq.mpr c25
 have c25b1 : (a0_3 != 0) = false := bne_eq_false_iff_eq.mpr c25
 clear c25
 obtain rfl := Option.some.inj H
 have hcz26_0 := c1_ BK147 0 (.int .i64 a0_0)
 have hcz26_1 := c1_ BK147 1 (.int .i64 a0_1)
 have hcz26_2 := c1_ BK147 2 (.int .i64 a0_2)
 have hcz26_3 := c1_ BK147 3 (.int .i64 a0_3)
 have hcz26_4 := c1_ BK147 4 (.string a0_4)
 have hcz26_5 := c1_ BK147 5 (.int .i64 a0_5)
 have hfz26_0 := f1_ BK147 0
 have hfz26_1 := f1_ BK147 1
 have hfz26_2 := f1_ BK147 2
 have hfz26_3 := f1_ BK147 3
 have hfz26_4 := f1_ BK147 4
 have hfz26_5 := f1_ BK147 5
 go_wp2_with (first | ((with_reducible refine gate_callee (f := 27) rfl ?_); refine goesL_ (some 43) rfl rfl Tryd.func27 s2_ rfl #[.string a0_4] rfl s3_ ?_; (with_reducible refine (impl_IsText.calls kj1 a0_4 true _ A23.out).mono ?_); rintro e w' ⟨rfl, ⟨nd, rfl⟩⟩; refine ⟨_, rfl, ?_⟩))
 go_ret
 exact ⟨by first | rfl | (simp [errW_none, errW_some] <;> rfl) | (simp [*, errW_none, errW_some] <;> rfl), by repeat (first | (with_reducible first | exact HB.out | apply below_alloc | apply pw_below_drewN | apply below_drew1) | exact HB.out)⟩}
 {
 rw [if_neg c25] at H
 have c25b0 : (a0_3 == 0) = false := beq_eq_false_iff_ne.mpr c25
 have c25b1 : (a0_3 != 0) = true := bne_iff_ne.mpr c25
 obtain rfl := Option.some.inj H
 have hcz27_0 := c1_ BK147 0 (.int .i64 a0_0)
 have hcz27_1 := c1_ BK147 1 (.int .i64 a0_1)
 have hcz27_2 := c1_ BK147 2 (.int .i64 a0_2)
 have hcz27_3 := c1_ BK147 3 (.int .i64 a0_3)
 have hcz27_4 := c1_ BK147 4 (.string a0_4)
 have hcz27_5 := c1_ BK147 5 (.int .i64 a0_5)
 have hfz27_0 := f1_ BK147 0
 have hfz27_1 := f1_ BK147 1
 have hfz27_2 := f1_ BK147 2
 have hfz27_3 := f1_ BK147 3
 have hfz27_4 := f1_ BK147 4
 have hfz27_5 := f1_ BK147 5
 go_wp2_with (first | ((with_reducible refine gate_callee (f := 27) rfl ?_); refine goesL_ (some 43) rfl rfl Tryd.func27 s2_ rfl #[.string a0_4] rfl s3_ ?_; (with_reducible refine (impl_IsText.calls kj1 a0_4 true _ A23.out).mono ?_); rintro e w' ⟨rfl, ⟨nd, rfl⟩⟩; refine ⟨_, rfl, ?_⟩))
 go_ret
 exact ⟨by first | rfl | (simp [errW_none, errW_some] <;> rfl) | (simp [*, errW_none, errW_some] <;> rfl), by repeat (first | (with_reducible first | exact HB.out | apply below_alloc | apply pw_below_drewN | apply below_drew1) | exact HB.out)⟩}}
 {
 replace c24 := Bool.eq_false_iff.mpr c24
 subst c24
 have H1 : (some false) = some r := by rw [if_neg (show ¬ (false = true) by decide)] at H; exact H
 clear H
 have H := H1
 clear H1
 obtain rfl := Option.some.inj H
 have hcz28_0 := c1_ BK147 0 (.int .i64 a0_0)
 have hcz28_1 := c1_ BK147 1 (.int .i64 a0_1)
 have hcz28_2 := c1_ BK147 2 (.int .i64 a0_2)
 have hcz28_3 := c1_ BK147 3 (.int .i64 a0_3)
 have hcz28_4 := c1_ BK147 4 (.string a0_4)
 have hcz28_5 := c1_ BK147 5 (.int .i64 a0_5)
 have hfz28_0 := f1_ BK147 0
 have hfz28_1 := f1_ BK147 1
 have hfz28_2 := f1_ BK147 2
 have hfz28_3 := f1_ BK147 3
 have hfz28_4 := f1_ BK147 4
 have hfz28_5 := f1_ BK147 5
 go_wp2_with (first | ((with_reducible refine gate_callee (f := 27) rfl ?_); refine goesL_ (some 43) rfl rfl Tryd.func27 s2_ rfl #[.string a0_4] rfl s3_ ?_; (with_reducible refine (impl_IsText.calls kj1 a0_4 false _ A23.out).mono ?_); rintro e w' ⟨rfl, ⟨nd, rfl⟩⟩; refine ⟨_, rfl, ?_⟩))
 go_ret
 exact ⟨by first | rfl | (simp [errW_none, errW_some] <;> rfl) | (simp [*, errW_none, errW_some] <;> rfl), by repeat (first | (with_reducible first | exact HB.out | apply below_alloc | apply pw_below_drewN | apply below_drew1) | exact HB.out)⟩}}
 {
 rw [if_neg c22] at H
 have c22b0 : (a0_0 == 1) = false := beq_eq_false_iff_ne.mpr c22
 have c22b1 : (a0_0 != 1) = true := bne_iff_ne.mpr c22
 by_cases c29 : a0_3 = 0
 {
 rw [if_pos c29] at H
 have c29b0 : (a0_3 == 0) = true := beq_iff_eq.mpr c29
 have c29b1 : (a0_3 != 0) = false := bne_eq_false_iff_eq.mpr c29
 clear c29
 by_cases c30 : a0_4.toList = ([] : List UInt8)
 {
 rw [if_pos c30] at H
 have c30b0 : (a0_4.toList == ([] : List UInt8)) = true := beq_iff_eq.mpr c30
 have c30b1 : (a0_4.toList != ([] : List UInt8)) = false := bne_eq_false_iff_eq.mpr c30
 clear c30
 obtain rfl := Option.some.inj H
 have hcz31_0 := c1_ BK147 0 (.int .i64 a0_0)
 have hcz31_1 := c1_ BK147 1 (.int .i64 a0_1)
 have hcz31_2 := c1_ BK147 2 (.int .i64 a0_2)
 have hcz31_3 := c1_ BK147 3 (.int .i64 a0_3)
 have hcz31_4 := c1_ BK147 4 (.string a0_4)
 have hcz31_5 := c1_ BK147 5 (.int .i64 a0_5)
 have hfz31_0 := f1_ BK147 0
 have hfz31_1 := f1_ BK147 1
 have hfz31_2 := f1_ BK147 2
 have hfz31_3 := f1_ BK147 3
 have hfz31_4 := f1_ BK147 4
 have hfz31_5 := f1_ BK147 5
 go_wp2
 go_ret
 exact ⟨by first | rfl | (simp [errW_none, errW_some] <;> rfl) | (simp [*, errW_none, errW_some] <;> rfl), by repeat (first | (with_reducible first | exact HB.out | apply below_alloc | apply pw_below_drewN | apply below_drew1) | exact HB.out)⟩}
 {
 rw [if_neg c30] at H
 have c30b0 : (a0_4.toList == ([] : List UInt8)) = false := beq_eq_false_iff_ne.mpr c30
 have c30b1 : (a0_4.toList != ([] : List UInt8)) = true := bne_iff_ne.mpr c30
 obtain rfl := Option.some.inj H
 have hcz32_0 := c1_ BK147 0 (.int .i64 a0_0)
 have hcz32_1 := c1_ BK147 1 (.int .i64 a0_1)
 have hcz32_2 := c1_ BK147 2 (.int .i64 a0_2)
 have hcz32_3 := c1_ BK147 3 (.int .i64 a0_3)
 have hcz32_4 := c1_ BK147 4 (.string a0_4)
 have hcz32_5 := c1_ BK147 5 (.int .i64 a0_5)
 have hfz32_0 := f1_ BK147 0
 have hfz32_1 := f1_ BK147 1
 have hfz32_2 := f1_ BK147 2
 have hfz32_3 := f1_ BK147 3
 have hfz32_4 := f1_ BK147 4
 have hfz32_5 := f1_ BK147 5
 go_wp2
 go_ret
 exact ⟨by first | rfl | (simp [errW_none, errW_some] <;> rfl) | (simp [*, errW_none, errW_some] <;> rfl), by repeat (first | (with_reducible first | exact HB.out | apply below_alloc | apply pw_below_drewN | apply below_drew1) | exact HB.out)⟩}}
 {
 rw [if_neg c29] at H
 have c29b0 : (a0_3 == 0) = false := beq_eq_false_iff_ne.mpr c29
 have c29b1 : (a0_3 != 0) = true := bne_iff_ne.mpr c29
 obtain rfl := Option.some.inj H
 have hcz33_0 := c1_ BK147 0 (.int .i64 a0_0)
 have hcz33_1 := c1_ BK147 1 (.int .i64 a0_1)
 have hcz33_2 := c1_ BK147 2 (.int .i64 a0_2)
 have hcz33_3 := c1_ BK147 3 (.int .i64 a0_3)
 have hcz33_4 := c1_ BK147 4 (.string a0_4)
 have hcz33_5 := c1_ BK147 5 (.int .i64 a0_5)
 have hfz33_0 := f1_ BK147 0
 have hfz33_1 := f1_ BK147 1
 have hfz33_2 := f1_ BK147 2
 have hfz33_3 := f1_ BK147 3
 have hfz33_4 := f1_ BK147 4
 have hfz33_5 := f1_ BK147 5
 go_wp2
 go_ret
 exact ⟨by first | rfl | (simp [errW_none, errW_some] <;> rfl) | (simp [*, errW_none, errW_some] <;> rfl), by repeat (first | (with_reducible first | exact HB.out | apply below_alloc | apply pw_below_drewN | apply below_drew1) | exact HB.out)⟩}}}}}}

-- NOT PRINTED: function 68 (strconv_numDigits)

-- NOT PRINTED: function 69 (strconv_formatBase10)

-- NOT PRINTED: function 85 (bits_TrailingZeros32)

-- NOT PRINTED: function 86 (bits_TrailingZeros64)

-- NOT PRINTED: function 83 (bits_TrailingZeros)

-- NOT PRINTED: function 70 (strconv_formatBits)

-- NOT PRINTED: function 54 (strconv_FormatInt_54)

/-! ### strconv_FormatInt_41: function 41 -/
section
open Go.Shelf
def strconv_FormatInt_41.lays_ren : Go.Shelf.Ren := ⟨fun | 173 => 41 | 246 => 54 | 283 => 67 | 284 => 68 | 285 => 69 | 286 => 70 | 129 => 80 | 317 => 79 | 318 => 81 | 319 => 82 | 320 => 83 | 337 => 85 | 338 => 86 | n => n, fun | 2 => 2 | 3 => 3 | 9 => 9 | 4 => 4 | 171 => 89 | 0 => 0 | 53 => 82 | 37 => 60 | 5 => 5 | 173 => 92 | 212 => 103 | 51 => 75 | 20 => 20 | 213 => 104 | 46 => 71 | 232 => 115 | 233 => 116 | n => n, fun | 17 => 3 | 18 => 6 | 19 => 7 | n => n⟩
theorem strconv_FormatInt_41.lays : Go.Proofs.LaysM.n173 Tryd.prog strconv_FormatInt_41.lays_ren := {
  mixed := by kernel_rfl
  f129 := Tryd.func80.trans (congrArg some (by kernel_rfl))
  f173 := Tryd.func41.trans (congrArg some (by kernel_rfl))
  f246 := Tryd.func54.trans (congrArg some (by kernel_rfl))
  f283 := Tryd.func67.trans (congrArg some (by kernel_rfl))
  f284 := Tryd.func68.trans (congrArg some (by kernel_rfl))
  f285 := Tryd.func69.trans (congrArg some (by kernel_rfl))
  f286 := Tryd.func70.trans (congrArg some (by kernel_rfl))
  f317 := Tryd.func79.trans (congrArg some (by kernel_rfl))
  f318 := Tryd.func81.trans (congrArg some (by kernel_rfl))
  f319 := Tryd.func82.trans (congrArg some (by kernel_rfl))
  f320 := Tryd.func83.trans (congrArg some (by kernel_rfl))
  f337 := Tryd.func85.trans (congrArg some (by kernel_rfl))
  f338 := Tryd.func86.trans (congrArg some (by kernel_rfl))
  t0 := Tryd.underlying0
  a0 := Tryd.isAgg0
  z0 := Tryd.sizeOf0
  v0 := Tryd.zeroValue0
  t2 := Tryd.underlying2
  a2 := Tryd.isAgg2
  z2 := Tryd.sizeOf2
  v2 := Tryd.zeroValue2
  t3 := Tryd.underlying3
  a3 := Tryd.isAgg3
  z3 := Tryd.sizeOf3
  v3 := Tryd.zeroValue3
  t4 := Tryd.underlying4
  a4 := Tryd.isAgg4
  z4 := Tryd.sizeOf4
  v4 := Tryd.zeroValue4
  t5 := Tryd.underlying5
  a5 := Tryd.isAgg5
  z5 := Tryd.sizeOf5
  v5 := Tryd.zeroValue5
  t9 := Tryd.underlying9
  a9 := Tryd.isAgg9
  z9 := Tryd.sizeOf9
  v9 := Tryd.zeroValue9
  t20 := Tryd.underlying20
  a20 := Tryd.isAgg20
  z20 := Tryd.sizeOf20
  v20 := Tryd.zeroValue20
  t37 := Tryd.underlying60
  a37 := Tryd.isAgg60
  z37 := Tryd.sizeOf60
  v37 := Tryd.zeroValue60
  t46 := Tryd.underlying71
  a46 := Tryd.isAgg71
  z46 := Tryd.sizeOf71
  v46 := Tryd.zeroValue71
  t51 := Tryd.underlying75
  a51 := Tryd.isAgg75
  z51 := Tryd.sizeOf75
  v51 := Tryd.zeroValue75
  t53 := Tryd.underlying82
  a53 := Tryd.isAgg82
  z53 := Tryd.sizeOf82
  v53 := Tryd.zeroValue82
  t171 := Tryd.underlying89
  a171 := Tryd.isAgg89
  z171 := Tryd.sizeOf89
  v171 := Tryd.zeroValue89
  t173 := Tryd.underlying92
  a173 := Tryd.isAgg92
  z173 := Tryd.sizeOf92
  v173 := Tryd.zeroValue92
  t212 := Tryd.underlying103
  a212 := Tryd.isAgg103
  z212 := Tryd.sizeOf103
  v212 := Tryd.zeroValue103
  t213 := Tryd.underlying104
  a213 := Tryd.isAgg104
  z213 := Tryd.sizeOf104
  t232 := Tryd.underlying115
  a232 := Tryd.isAgg115
  z232 := Tryd.sizeOf115
  v232 := Tryd.zeroValue115
  t233 := Tryd.underlying116
  a233 := Tryd.isAgg116
  z233 := Tryd.sizeOf116
  v233 := Tryd.zeroValue116
  g17 := by kernel_rfl
  g18 := by kernel_rfl
  g19 := by kernel_rfl
  i0 := by kernel_rfl
  i2 := by kernel_rfl
  i3 := by kernel_rfl
  i4 := by kernel_rfl
  i5 := by kernel_rfl
  i9 := by kernel_rfl
  i20 := by kernel_rfl
  i37 := by kernel_rfl
  i46 := by kernel_rfl
  i51 := by kernel_rfl
  i53 := by kernel_rfl
  i171 := by kernel_rfl
  i173 := by kernel_rfl
  i212 := by kernel_rfl
  i232 := by kernel_rfl
  i233 := by kernel_rfl
  m17 := by kernel_rfl
  m18 := by kernel_rfl
  m19 := by kernel_rfl }
end
/-- The table that FormatInt reads, in this world. -/
def TG (w : World) : Prop := Lib.TabIs Tryd.prog w "internal/strconv.uint64pow10" .u64 Lib.pow10Tab
theorem TG.on {w w1 : World} (h : TG w) (hb : Below w.heap.size w w1) : TG w1 := Lib.tabBelow_of_tabIs h w1 hb
/-- strconv.FormatInt at base 10. -/
def strconv_FormatInt_41.f (a0 : Int) (a1 : Int) : Option ByteArray := if a1 = 10 ∧ -9223372036854775808 ≤ a0 ∧ a0 ≤ 9223372036854775807 then some ⟨(Lib.itoa a0).toArray⟩ else none
theorem strconv_FormatInt_41.calls (a0 : Int) (a1 : Int) (r : ByteArray) (w : World) (h : strconv_FormatInt_41.f a0 a1 = some r) (hG : TG w) :
    Calls Tryd.prog 41 #[.int .i64 a0, .int .i64 a1] w fun e w' => e = .returned (.string r) ∧ Below w.heap.size w w' := by
  unfold strconv_FormatInt_41.f at h
  split at h
  · rename_i hc
    obtain ⟨rfl, h0, h1⟩ := hc
    obtain rfl := Option.some.inj h
    refine (Any.strconv_FormatInt_10 strconv_FormatInt_41.lays a0 h0 h1 w hG).mono ?_
    rintro e w' ⟨rfl, k, os, rfl⟩
    exact ⟨rfl, Lib.below_grow _ _ (Nat.le_refl _) _ _⟩
  · cases h

/-! ### impl_Decimal: function 34 -/
def impl_Decimal.f (a0 : Int) : Option (ByteArray) := (strconv_FormatInt_41.f a0 10).bind fun t197 => (some t197)
set_option maxHeartbeats 8000000 in
set_option maxRecDepth 100000 in
theorem impl_Decimal.calls (a0 : Int) (r : ByteArray) (w : World) (h : impl_Decimal.f a0 = some r) (hG : TG w) :
    Calls Tryd.prog 34 #[.int .i64 a0] w fun e w' => e = .returned (.string r) ∧ Below w.heap.size w w' := by
  have HB := Aside0.mk (Below.refl w.heap.size w)
  have HTG := Aside0.mk hG
  clear hG
  have H : ((strconv_FormatInt_41.f a0 10).bind fun t197 => (some t197)) = some r := h
  clear h
  replace H := Option.bind_eq_some_iff.mp H
  obtain ⟨t197, A20, H⟩ := H
  replace H : (some t197) = some r := H
  have A2 := Aside0.mk A20
  clear A20
  obtain rfl := Option.some.inj H
  go_enter Tryd.func34, Tryd.ntmps34
  go_wp2_with (first | ((with_reducible refine gate_callee (f := 41) rfl ?_); refine goesL_ (some 4) rfl rfl Tryd.func41 (by kernel_rfl) rfl #[.int .i64 a0, .int .i64 10] rfl (by (try simp only [List.map_toArray, List.map_cons, List.map_nil]); first | done | rfl | (simp only [List.length_drop, List.length_take]; rfl)) ?_; (with_reducible refine (strconv_FormatInt_41.calls a0 10 t197 _ A2.out (HTG.out.on (by repeat (first | (with_reducible first | exact HB.out | apply below_alloc | apply pw_below_drewN | apply below_drew1) | exact HB.out)))).mono ?_); rintro e w3 ⟨rfl, hb⟩; refine ⟨_, rfl, ?_⟩; replace HB := Aside0.mk (below_step (by repeat (first | (with_reducible first | exact HB.out | apply below_alloc | apply pw_below_drewN | apply below_drew1) | exact HB.out)) hb); (try clear hb); (try clear hb2); (try clear hk); (try clear hi)))
  go_ret
  exact ⟨by first | rfl | (simp [errW_none, errW_some] <;> rfl) | (simp [*, errW_none, errW_some] <;> rfl), by repeat (first | (with_reducible first | exact HB.out | apply below_alloc | apply pw_below_drewN | apply below_drew1) | exact HB.out)⟩

-- NOT PRINTED: function 71 (abi_NoEscape)

-- NOT PRINTED: function 55 (strings_Builder_copyCheck)

-- NOT PRINTED: function 72 (bytealg_MakeNoZero)

-- NOT PRINTED: function 56 (strings_Builder_grow)

-- NOT PRINTED: function 42 (strings_Builder_Grow)

-- NOT PRINTED: function 43 (strings_Builder_WriteString)

-- NOT PRINTED: function 44 (strings_Builder_String)

/-! ### strings_Join: function 35 -/
section
open Go.Shelf
def strings_Join.lays_ren : Go.Shelf.Ren := ⟨fun | 156 => 35 | 165 => 42 | 166 => 43 | 169 => 44 | 240 => 55 | 241 => 56 | 276 => 71 | 277 => 72 | n => n, fun | 31 => 47 | 9 => 9 | 3 => 3 | 4 => 4 | 0 => 0 | 20 => 20 | 72 => 64 | 76 => 66 | 70 => 62 | 37 => 60 | 75 => 57 | 127 => 74 | 164 => 94 | 5 => 5 | 80 => 68 | n => n, fun | n => n⟩
theorem strings_Join.lays : Go.Proofs.Lays.n156 Tryd.prog strings_Join.lays_ren := {
  mixed := by kernel_rfl
  f156 := Tryd.func35.trans (congrArg some (by kernel_rfl))
  f165 := Tryd.func42.trans (congrArg some (by kernel_rfl))
  f166 := Tryd.func43.trans (congrArg some (by kernel_rfl))
  f169 := Tryd.func44.trans (congrArg some (by kernel_rfl))
  f240 := Tryd.func55.trans (congrArg some (by kernel_rfl))
  f241 := Tryd.func56.trans (congrArg some (by kernel_rfl))
  f276 := Tryd.func71.trans (congrArg some (by kernel_rfl))
  f277 := Tryd.func72.trans (congrArg some (by kernel_rfl))
  t0 := Tryd.underlying0
  a0 := Tryd.isAgg0
  z0 := Tryd.sizeOf0
  v0 := Tryd.zeroValue0
  t3 := Tryd.underlying3
  a3 := Tryd.isAgg3
  z3 := Tryd.sizeOf3
  v3 := Tryd.zeroValue3
  t4 := Tryd.underlying4
  a4 := Tryd.isAgg4
  z4 := Tryd.sizeOf4
  v4 := Tryd.zeroValue4
  t9 := Tryd.underlying9
  a9 := Tryd.isAgg9
  z9 := Tryd.sizeOf9
  v9 := Tryd.zeroValue9
  t20 := Tryd.underlying20
  a20 := Tryd.isAgg20
  z20 := Tryd.sizeOf20
  v20 := Tryd.zeroValue20
  t31 := Tryd.underlying47
  a31 := Tryd.isAgg47
  z31 := Tryd.sizeOf47
  v31 := Tryd.zeroValue47
  t37 := Tryd.underlying60
  a37 := Tryd.isAgg60
  z37 := Tryd.sizeOf60
  v37 := Tryd.zeroValue60
  t70 := Tryd.underlying62
  a70 := Tryd.isAgg62
  z70 := Tryd.sizeOf62
  v70 := Tryd.zeroValue62
  t72 := Tryd.underlying64
  a72 := Tryd.isAgg64
  z72 := Tryd.sizeOf64
  v72 := Tryd.zeroValue64
  t75 := Tryd.underlying57
  a75 := Tryd.isAgg57
  z75 := Tryd.sizeOf57
  v75 := Tryd.zeroValue57
  t76 := Tryd.underlying66
  a76 := Tryd.isAgg66
  z76 := Tryd.sizeOf66
  v76 := Tryd.zeroValue66
  t127 := Tryd.underlying74
  a127 := Tryd.isAgg74
  z127 := Tryd.sizeOf74
  v127 := Tryd.zeroValue74
  t164 := Tryd.underlying94
  a164 := Tryd.isAgg94
  z164 := Tryd.sizeOf94
  v164 := Tryd.zeroValue94 }
theorem strings_Join.extra : Builder.Extra Tryd.prog strings_Join.lays_ren where
  sizeBuilder := by kernel_rfl
  liesBuilder := by kernel_rfl
  t5 := Tryd.underlying5
  a5 := Tryd.isAgg5
  z5 := Tryd.sizeOf5
  v5 := Tryd.zeroValue5
  infoByte := by kernel_rfl
  cellsByte := by kernel_rfl
  sizeByte := by kernel_rfl
  neB5 := by decide
end
/-- strings.Join: under Go's own limit. -/
def strings_Join.f (l0 : List ByteArray) (a1 : ByteArray) : Option ByteArray := if l0.length ≤ 140737488355328 ∧ (Lib.join (l0.map (·.data.toList)) a1.data.toList).length ≤ 140737488355328 then some ⟨(Lib.join (l0.map (·.data.toList)) a1.data.toList).toArray⟩ else none
theorem strings_Join.calls (A0 : Option Addr) (c0 : Nat) (l0 : List ByteArray) (a1 : ByteArray) (r : ByteArray) (w : World) (hr0 : Kd.C Kd.string w A0 l0.length l0) (hc0 : l0.length ≤ c0) (h : strings_Join.f l0 a1 = some r) :
    Calls Tryd.prog 35 #[.slice A0 l0.length c0, .string a1] w fun e w' => e = .returned (.string r) ∧ Below w.heap.size w w' := by
  unfold strings_Join.f at h
  split at h
  · rename_i hl
    obtain rfl := Option.some.inj h
    rcases Nat.eq_zero_or_pos l0.length with h0 | h0
    · obtain rfl := List.eq_nil_of_length_eq_zero h0
      refine (Any.strings_Join_none strings_Join.lays strings_Join.extra A0 c0 a1 w).mono ?_
      rintro e w' ⟨rfl, rfl⟩
      exact ⟨rfl, Below.refl _ _⟩
    · have hall : ∀ (j : Nat) x, l0[j]? = some x → ∃ ad, A0 = some ad ∧ w.cell? (ad.add j) = some (.string x) := by
        intro j x hx
        have hj : j < l0.length := (List.getElem?_eq_some_iff.1 hx).1
        obtain ⟨ad, he, hcell⟩ := Kd.at_string hr0 (j : Int) (by omega) (by omega)
        refine ⟨ad, he, ?_⟩
        have hr : rdOf ByteArray.empty l0 (j : Int) = x := by simp [rdOf, hx]
        rw [hr] at hcell
        simpa using hcell
      obtain ⟨ad, rfl, hc⟩ := hall 0 l0[0] (List.getElem?_eq_getElem h0)
      obtain ⟨bk, o, sp⟩ := ad
      have hsp : sp = none := by
        rw [Addr.add, if_pos rfl] at hc
        unfold World.cell? at hc
        split at hc
        · split at hc
          · cases hc
          · rename_i hn
            simpa using hn
        · cases hc
      subst hsp
      have hbk : bk < w.heap.size := World.block_lt_of_cell? w _ hc
      refine Any.strings_Join strings_Join.lays strings_Join.extra bk o c0 l0 a1 w (fun j x hx => ?_) hbk hl.1 hc0 hl.2
      obtain ⟨ad', he, hcell⟩ := hall j x hx
      obtain rfl := Option.some.inj he
      rcases Nat.eq_zero_or_pos j with hj | hj
      · subst hj
        simpa [Addr.add] using hcell
      · have : ¬ j = 0 := by omega
        simpa [Addr.add, this] using hcell
  · cases h

/-! ### impl_listText: function 28 -/
abbrev impl_listText.T : Bool := true
abbrev impl_listText.F : Bool := false
theorem impl_listText.b2_ {P Q : Prop} (q : Q) (h : Q → P := by intro q_; (with_reducible repeat (first | apply Kd.R_alloc | apply Kd.R_drewN | apply Kd.R_drew)); exact q_) : P := h q
theorem impl_listText.y1_ {P Q : Prop} (q : Q) (h : Q → P := by intro q_; repeat (first | (with_reducible first | exact q_ | apply below_alloc | apply pw_below_drewN | apply below_drew1) | exact q_)) : P := h q
def impl_listText.l0 : Nat → List ByteArray → List Int → Int → Int → Option (ByteArray)
  | 0, _, _, _, _ => none
  | k + 1, x3, x7, x8, x9 => if x9 < x8 then (if 0 ≤ x9 then (if x9 < (x7.length : Int) then ((impl_Decimal.f (rd x7 x9)).bind fun t202 => (if x3.length < 8796093022208 then (impl_listText.l0 k (x3 ++ [t202]) x7 x8 (wrap64 (x9 + 1))) else (none))) else (none)) else (none)) else (if (x3.length : Int) = 0 then (some (⟨#[110, 111, 110, 101]⟩ : ByteArray)) else ((strings_Join.f x3 (⟨#[44]⟩ : ByteArray)).bind fun t206 => (some t206)))
def impl_listText.f (k : Nat) (l0 : List Int) : Option (ByteArray) := impl_listText.l0 k (([] : List ByteArray)) l0 (l0.length : Int) 0
theorem impl_listText.mono_l : ∀ k, (∀ y0 y1 y2 y3, LeO (impl_listText.l0 k y0 y1 y2 y3) (impl_listText.l0 (k + 1) y0 y1 y2 y3))
  | 0 => fun _ _ _ _ r h => by simp [impl_listText.l0] at h
  | k + 1 => by
    have ih0 := impl_listText.mono_l k
    · intro y0 y1 y2 y3
      unfold impl_listText.l0
      repeat' first
      | (with_reducible exact ih0 _ _ _ _)
      | (with_reducible exact LeO.refl _)
      | (with_reducible exact LeO.none _)
      | (with_reducible refine LeO.ite ?_ ?_)
      | (with_reducible refine LeO.bind ?_ (fun _ => ?_))
      | exact ih0 _ _ _ _
      | exact LeO.none _
      | refine LeO.ite ?_ ?_
      | refine LeO.bind ?_ (fun _ => ?_)
theorem impl_listText.mono : ∀ a0 k, LeO (impl_listText.f k a0) (impl_listText.f (k + 1) a0) := by
  intro a0 k
  have ih0 := impl_listText.mono_l k
  unfold impl_listText.f
  repeat' first
      | (with_reducible exact ih0 _ _ _ _)
      | (with_reducible exact LeO.refl _)
      | (with_reducible exact LeO.none _)
      | (with_reducible refine LeO.ite ?_ ?_)
      | (with_reducible refine LeO.bind ?_ (fun _ => ?_))
      | exact ih0 _ _ _ _
      | exact LeO.none _
      | refine LeO.ite ?_ ?_
      | refine LeO.bind ?_ (fun _ => ?_)
set_option maxHeartbeats 8000000 in
set_option maxRecDepth 100000 in
theorem impl_listText.calls (k : Nat) (A0 : Option Addr) (c0 : Nat) (l0 : List Int) (r : ByteArray) (w : World) (hr0 : Kd.C (Kd.int .i64) w A0 l0.length l0) (hc0 : l0.length ≤ c0) (h : impl_listText.f k l0 = some r) (hG : TG w) :
    Calls Tryd.prog 28 #[.slice A0 l0.length c0] w fun e w' => e = .returned (.string r) ∧ Below w.heap.size w w' := by
 have HR0 := Aside0.mk hr0
 have HC0 := Aside0.mk hc0
 clear hr0 hc0
 have HB := Aside0.mk (Below.refl w.heap.size w)
 have HTG := Aside0.mk hG
 clear hG
 have H : (impl_listText.l0 k (([] : List ByteArray)) l0 (l0.length : Int) 0) = some r := h
 clear h
 obtain ⟨y198, hy198⟩ : ∃ y_ : List ByteArray, y_ = (([] : List ByteArray)) := ⟨_, rfl⟩
 replace H : (impl_listText.l0 k y198 l0 (l0.length : Int) 0) = some r := by first | (rw [hy198]; with_reducible exact H) | (have H2_ := (Option.bind_some _ _).symm.trans H; rw [hy198]; with_reducible exact H2_) | (have H2_ := (Option.bind_some _ _).symm.trans H; with_reducible exact H2_) | with_reducible exact H | (rw [hy198]; exact H) | exact H
 have Ny198 := Aside0.mk hy198
 clear hy198
 have H' := Aside0.mk H
 clear H
 go_enter Tryd.func28, Tryd.ntmps28
 go_wp2_with (first | ((with_reducible refine gate_dst (N := 6) rfl ?_); refine Kd.R_lit Kd.string _ 9 ?hg (N := 6) ?hd (xs := ([] : List ByteArray)) (inner := []) (ok := fun _ => True) (okp := fun _ => True) ?hr ?hp (fun _ hk => hk) trivial (Below.refl _ _) (Nat.le_refl _) (by simp) ?_; (case hd => rfl); (case hg => rfl); (case hr => first | (go_simp; done) | (go_simp; rfl)); (case hp => exact (Reps.none _ _)); intro v199 w2 ho3 hb hg_ hnew_; clear hg_ hnew_; (first | rw [← Ny198.out] at ho3 | (simp only [Int.reduceToNat] at ho3; rw [← Ny198.out] at ho3)); have HO200 := Aside0.mk (Kd.R_lower ho3 (below_size (y1_ HB.out))); replace HB := Aside0.mk (below_step (y1_ HB.out) hb); clear hb ho3))
 go_loopg [3, 9] k (fun kq v3 v9 w' => ∃ (x3_1 : List ByteArray) (x9_1 : Int), v9 = .int .i64 x9_1 ∧ Aside0 (impl_listText.l0 kq x3_1 l0 (l0.length : Int) x9_1 = some r) ∧ Aside0 (kq ≤ k) ∧ Aside0 (Kd.R Kd.string 9 w' w.heap.size (fun _ => True) v3 x3_1) ∧ Aside0 (Below w.heap.size w w'))
 case atStart => exact ⟨(y198), (0), (by first | rfl | (simp; done) | (simp [*]; done)), H', ⟨Nat.le_refl _⟩, ⟨b2_ HO200.out⟩, ⟨by repeat (first | (with_reducible first | exact HB.out | apply below_alloc | apply pw_below_drewN | apply below_drew1) | exact HB.out)⟩⟩
 case round =>
  skip
  {
 clear H'
 try clear c2
 try clear p2
 obtain ⟨x3_1, x9_1, rfl, HA, HK1, HO_3, HB⟩ := hrel
 cases gk with
 | zero => exact absurd HA.out (by simp [impl_listText.l0])
 | succ k1 =>
  skip
  {
 have H := HA.out
 clear HA
 simp only [impl_listText.l0] at H
 by_cases c4 : x9_1 < (l0.length : Int)
 {
 rw [if_pos c4] at H
 have c4b0 : decide (x9_1 < (l0.length : Int)) = true := decide_eq_true c4
 clear c4
 by_cases c5 : 0 ≤ x9_1
 {
 rw [if_pos c5] at H
 have c5b0 : decide (0 ≤ x9_1) = true := decide_eq_true c5
 clear c5
 by_cases c6 : x9_1 < (l0.length : Int)
 {
 rw [if_pos c6] at H
 have c6b0 : decide (x9_1 < (l0.length : Int)) = true := decide_eq_true c6
 clear c6
 replace H := Option.bind_eq_some_iff.mp H
 obtain ⟨t202, A70, H⟩ := H
 replace H : (if x3_1.length < 8796093022208 then (impl_listText.l0 k1 (x3_1 ++ [t202]) l0 (l0.length : Int) (wrap64 (x9_1 + 1))) else (none)) = some r := H
 have A7 := Aside0.mk A70
 clear A70
 by_cases c8 : x3_1.length < 8796093022208
 {
 rw [if_pos c8] at H
 have LMc8 := Aside0.mk c8
 clear c8
 obtain ⟨y203, hy203⟩ : ∃ y_ : List ByteArray, y_ = (x3_1 ++ [t202]) := ⟨_, rfl⟩
 replace H : (impl_listText.l0 k1 y203 l0 (l0.length : Int) (wrap64 (x9_1 + 1))) = some r := by first | (rw [hy203]; with_reducible exact H) | (have H2_ := (Option.bind_some _ _).symm.trans H; rw [hy203]; with_reducible exact H2_) | (have H2_ := (Option.bind_some _ _).symm.trans H; with_reducible exact H2_) | with_reducible exact H | (rw [hy203]; exact H) | exact H
 have Ny203 := Aside0.mk hy203
 clear hy203
 have H' := Aside0.mk H
 clear H
 have p201 : 0 ≤ (x9_1 : Int) := of_decide_eq_true (by first | (with_reducible assumption) | assumption)
 have q201 : x9_1 < (l0.length : Int) := of_decide_eq_true (by first | (with_reducible assumption) | assumption)
 obtain ⟨ad201, e201, hx201_0⟩ := Kd.at_int HR0.out x9_1 p201 q201
 cases e201
 replace hx201_0 := (HB.out.cell (World.block_lt_of_cell? w _ hx201_0)).trans hx201_0
 replace p201 := eq_true p201
 replace q201 := eq_true q201
 go_wp2_with (first | ((with_reducible refine gate_callee (f := 34) rfl ?_); refine goesL_ (some 15) rfl rfl Tryd.func34 (by kernel_rfl) rfl #[.int .i64 (rd l0 x9_1)] rfl (by (try simp only [List.map_toArray, List.map_cons, List.map_nil]); first | done | rfl | (simp only [List.length_drop, List.length_take]; rfl)) ?_; (with_reducible refine (impl_Decimal.calls (rd l0 x9_1) t202 _ A7.out (HTG.out.on (by repeat (first | (with_reducible first | exact HB.out | apply below_alloc | apply pw_below_drewN | apply below_drew1) | exact HB.out)))).mono ?_); rintro e w9 ⟨rfl, hb⟩; refine ⟨_, rfl, ?_⟩; replace HO_3 := Aside0.mk (Kd.R_below (b2_ HO_3.out) hb); replace HB := Aside0.mk (below_step (y1_ HB.out) hb); (try clear hb); (try clear hb2); (try clear hk); (try clear hi)) | ((with_reducible refine gate_builtin (b := .append) (xs := #[.tmp 13, .tmp 16]) rfl ?_); at_builtin; refine Kd.R_append Kd.string (w0 := w) w.heap.size rfl (.tmp 13) (.tmp 16) 47 9 (.string ⟨#[]⟩) 16 rfl Tryd.underlying47 info9 rfl (by decide) (by omega) u3 x3_1 t202 [.string t202] (fun _ => True) (fun _ => False) rfl rfl ?aP (fun _ hk => hk.elim) ?aF ?aO ?aB ?aS ?aL ?_; (case aP => exact rfl); (case aB => exact (y1_ HB.out)); (case aF => exact (fun _ _ => trivial)); (case aO => exact (b2_ HO_3.out)); (case aS => exact (below_size (y1_ HB.out))); (case aL => have := LMc8.out; omega); intro v204 w10 ho hb hg hat; rw [← Ny203.out] at ho; replace HB := Aside0.mk (hb); have HO205 := Aside0.mk (ho); clear HO_3; clear ho hb hg hat))
 go_roundg k1
 case measure => have := HK1.out; omega
 case rel => exact ⟨(y203), (wrap64 (x9_1 + 1)), (by first | rfl | (simp; done) | (simp [*]; done)), H', ⟨by have := HK1.out; omega⟩, ⟨b2_ HO205.out⟩, ⟨by repeat (first | (with_reducible first | exact HB.out | apply below_alloc | apply pw_below_drewN | apply below_drew1) | exact HB.out)⟩⟩}
 {
 rw [if_neg c8] at H
 exact absurd H (by simp)}}
 {
 rw [if_neg c6] at H
 exact absurd H (by simp)}}
 {
 rw [if_neg c5] at H
 exact absurd H (by simp)}}
 {
 rw [if_neg c4] at H
 have c4b0 : decide (x9_1 < (l0.length : Int)) = false := decide_eq_false c4
 clear c4
 by_cases c11 : (x3_1.length : Int) = 0
 {
 rw [if_pos c11] at H
 have c11b0 : ((x3_1.length : Int) == 0) = true := beq_iff_eq.mpr c11
 have c11b1 : ((x3_1.length : Int) != 0) = false := bne_eq_false_iff_eq.mpr c11
 clear c11
 obtain rfl := Option.some.inj H
 obtain ⟨Ao12, co12, eo12⟩ := Kd.R_slice HO_3.out
 subst eo12
 go_wp2
 go_ret
 exact ⟨by first | rfl | (simp [errW_none, errW_some] <;> rfl) | (simp [*, errW_none, errW_some] <;> rfl), by repeat (first | (with_reducible first | exact HB.out | apply below_alloc | apply pw_below_drewN | apply below_drew1) | exact HB.out)⟩}
 {
 rw [if_neg c11] at H
 have c11b0 : ((x3_1.length : Int) == 0) = false := beq_eq_false_iff_ne.mpr c11
 have c11b1 : ((x3_1.length : Int) != 0) = true := bne_iff_ne.mpr c11
 have c11b2 : ¬ (x3_1 = []) := fun h_ => c11 (by rw [h_]; rfl)
 replace H := Option.bind_eq_some_iff.mp H
 obtain ⟨t206, A130, H⟩ := H
 replace H : (some t206) = some r := H
 have A13 := Aside0.mk A130
 clear A130
 obtain rfl := Option.some.inj H
 obtain ⟨Ao14, co14, eo14⟩ := Kd.R_slice HO_3.out
 subst eo14
 go_wp2_with (first | ((with_reducible refine gate_callee (f := 35) rfl ?_); refine goesL_ (some 23) rfl rfl Tryd.func35 (by kernel_rfl) rfl #[.slice Ao14 x3_1.length co14, .string (⟨#[44]⟩ : ByteArray)] rfl (by (try simp only [List.map_toArray, List.map_cons, List.map_nil]); first | done | rfl | (simp only [List.length_drop, List.length_take]; rfl)) ?_; (with_reducible refine (strings_Join.calls _ _ x3_1 (⟨#[44]⟩ : ByteArray) t206 _ ?side1 ?side2 A13.out).mono ?_); (case side1 => repeat (first | exact (Kd.R_reads' HO_3.out).2.2 | (with_reducible refine Kd.C_alloc ?_ _) | (with_reducible refine Kd.C_drewN ?_ _) | (with_reducible refine Kd.C_drew ?_))); (case side2 => exact (Kd.R_reads' HO_3.out).2.1); rintro e w15 ⟨rfl, hb⟩; refine ⟨_, rfl, ?_⟩; replace HO_3 := Aside0.mk (Kd.R_below (b2_ HO_3.out) hb); replace HB := Aside0.mk (below_step (y1_ HB.out) hb); (try clear hb); (try clear hb2); (try clear hk); (try clear hi)))
 go_ret
 exact ⟨by first | rfl | (simp [errW_none, errW_some] <;> rfl) | (simp [*, errW_none, errW_some] <;> rfl), by repeat (first | (with_reducible first | exact HB.out | apply below_alloc | apply pw_below_drewN | apply below_drew1) | exact HB.out)⟩}}}}

end Go.Proofs.YtgmbgpjebpgpkaaDoor.QFnExactEventText
