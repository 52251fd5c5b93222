-- written by a program of this session, on the lines of the kit's print
import Derived.Test.YtjfaepolmllejaaQFnExactBadWordsInx0
import Derived.Test.YtjfaepolmllejaaQFnExactBadWordsInx1
import Derived.Test.YtjfaepolmllejaaQFnExactBadWordsInx3
import Derived.Test.YtjfaepolmllejaaQFnExactBadWordsInx5
namespace Go.Proofs.Ytjfaepolmllejaa.QFnExactBadWordsIn
open Go.RowKit Go.Proofs.YtjfaepolmllejaaW.PrintWords Go.Proofs.YtjfaepolmllejaaW.PrintLast Go.Proofs.YtjfaepolmllejaaW.PrintMore
attribute [local go_sem] max2_int min2_int max_two min_two max_three min_three max_four min_four   -- for this text's walks alone
set_option linter.unusedVariables false
set_option linter.unusedSimpArgs false

/-! ### laws_FnExactBadWordsIn: function 12 -/
abbrev laws_FnExactBadWordsIn.T : Bool := true
abbrev laws_FnExactBadWordsIn.F : Bool := false
theorem laws_FnExactBadWordsIn.s1_ {P : Prop} (h : P := by first | rfl | (simp; done) | (simp [*]; done)) : P := h
theorem laws_FnExactBadWordsIn.s2_ {P : Prop} (h : P := by kernel_rfl) : P := h
theorem laws_FnExactBadWordsIn.s3_ {P : Prop} (h : P := by (try simp only [List.map_toArray, List.map_cons, List.map_nil]); first | done | rfl | (simp only [List.length_drop, List.length_take]; rfl)) : P := h
theorem laws_FnExactBadWordsIn.b2_ {P Q : Prop} (q : Q) (h : Q → P := by intro q_; (with_reducible repeat (first | apply Kd.R_alloc | apply Kd.R_drewN | apply Kd.R_drew)); exact q_) : P := h q
mutual
def laws_FnExactBadWordsIn.j0 : Nat → ByteArray → List ByteArray → List ByteArray → Bool → List ByteArray → List ByteArray → Bool → Bool → Option (Bool)
  | 0, _, _, _, _, _, _, _, _ => none
  | k + 1, x0, x1, x6, x7, x8, x9, x10, x47 => if x47 = true then (some false) else ((laws_toStringS.f k x1).bind fun t330 => ((laws_eqStringS.f k x8 t330).bind fun t333 => (if t333 = true then ((laws_markStringS.f k x8 1).bind fun bt334 => (if bt334.1 < 0 then (laws_FnExactBadWordsIn.j1 k x0 x1 x6 x7 x9 true) else ((laws_eqStringS.f k x9 x6).bind fun t336 => (if t336 = true then (laws_FnExactBadWordsIn.j1 k x0 x1 x6 x7 x9 (x10 != x7)) else (laws_FnExactBadWordsIn.j1 k x0 x1 x6 x7 x9 true))))) else (some false))))
def laws_FnExactBadWordsIn.j1 : Nat → ByteArray → List ByteArray → List ByteArray → Bool → List ByteArray → Bool → Option (Bool)
  | 0, _, _, _, _, _, _ => none
  | k + 1, x0, x1, x6, x7, x9, x68 => if x68 = true then (some false) else ((laws_markStringS.f k x9 1).bind fun bt337 => ((laws_heldStringS.f k bt337.2 1).bind fun t339 => (if t339 < 0 then (some false) else (if t339 = bt337.1 then ((laws_toStringS.f k x1).bind fun t340 => ((impl_BadWordsIn.f k x0 t340).bind fun bt343 => ((laws_eqStringS.f k bt343.1 x6).bind fun t347 => (if t347 = true then (laws_FnExactBadWordsIn.j2 k bt337.2 bt337.1 (bt343.2 != x7)) else (laws_FnExactBadWordsIn.j2 k bt337.2 bt337.1 true))))) else (some false)))))
def laws_FnExactBadWordsIn.j2 : Nat → List ByteArray → Int → Bool → Option (Bool)
  | 0, _, _, _ => none
  | k + 1, x9, x12, x95 => if x95 = true then (some false) else ((laws_heldStringS.f k x9 1).bind fun t348 => (if t348 < 0 then (some false) else (if t348 = x12 then (some true) else (some false))))
end
def laws_FnExactBadWordsIn.f (k : Nat) (a0 : ByteArray) (l1 : List ByteArray) : Option (Bool) := if (a0.size : Int) > 1048576 then (some true) else ((laws_szStringS.f k l1 1048576).bind fun t314 => (if t314 < 0 then (some true) else ((laws_toStringS.f k l1).bind fun t315 => ((spec_BadWordsIn.f k a0 t315).bind fun bt318 => ((laws_toStringS.f k l1).bind fun t322 => ((impl_BadWordsIn.f k a0 t322).bind fun bt325 => ((laws_eqStringS.f k bt325.1 bt318.1).bind fun t329 => (if t329 = true then (laws_FnExactBadWordsIn.j0 k a0 l1 bt318.1 bt318.2 t322 bt325.1 bt325.2 (bt325.2 != bt318.2)) else (laws_FnExactBadWordsIn.j0 k a0 l1 bt318.1 bt318.2 t322 bt325.1 bt325.2 true)))))))))
theorem laws_FnExactBadWordsIn.mono_l : ∀ k, (∀ y0 y1 y2 y3 y4 y5 y6 y7, LeO (laws_FnExactBadWordsIn.j0 k y0 y1 y2 y3 y4 y5 y6 y7) (laws_FnExactBadWordsIn.j0 (k + 1) y0 y1 y2 y3 y4 y5 y6 y7)) ∧ (∀ y0 y1 y2 y3 y4 y5, LeO (laws_FnExactBadWordsIn.j1 k y0 y1 y2 y3 y4 y5) (laws_FnExactBadWordsIn.j1 (k + 1) y0 y1 y2 y3 y4 y5)) ∧ (∀ y0 y1 y2, LeO (laws_FnExactBadWordsIn.j2 k y0 y1 y2) (laws_FnExactBadWordsIn.j2 (k + 1) y0 y1 y2))
  | 0 => ⟨fun _ _ _ _ _ _ _ _ r h => by simp [laws_FnExactBadWordsIn.j0] at h, fun _ _ _ _ _ _ r h => by simp [laws_FnExactBadWordsIn.j1] at h, fun _ _ _ r h => by simp [laws_FnExactBadWordsIn.j2] at h⟩
  | k + 1 => by
    obtain ⟨ih0, ih1, ih2⟩ := laws_FnExactBadWordsIn.mono_l k
    refine ⟨?_, ?_, ?_⟩
    · intro y0 y1 y2 y3 y4 y5 y6 y7
      unfold laws_FnExactBadWordsIn.j0
      repeat' first
      | (with_reducible exact ih0 _ _ _ _ _ _ _ _)
      | (with_reducible exact ih1 _ _ _ _ _ _)
      | (with_reducible exact ih2 _ _ _)
      | (with_reducible exact impl_BadWordsIn.mono _ _ _)
      | (with_reducible exact laws_eqStringS.mono _ _ _)
      | (with_reducible exact laws_heldStringS.mono _ _ _)
      | (with_reducible exact laws_markStringS.mono _ _ _)
      | (with_reducible exact laws_szStringS.mono _ _ _)
      | (with_reducible exact laws_toStringS.mono _ _)
      | (with_reducible exact spec_BadWordsIn.mono _ _ _)
      | (with_reducible exact LeO.refl _)
      | (with_reducible exact LeO.none _)
      | (with_reducible refine LeO.ite ?_ ?_)
      | (with_reducible refine LeO.bind ?_ (fun _ => ?_))
      | exact ih0 _ _ _ _ _ _ _ _
      | exact ih1 _ _ _ _ _ _
      | exact ih2 _ _ _
      | exact impl_BadWordsIn.mono _ _ _
      | exact laws_eqStringS.mono _ _ _
      | exact laws_heldStringS.mono _ _ _
      | exact laws_markStringS.mono _ _ _
      | exact laws_szStringS.mono _ _ _
      | exact laws_toStringS.mono _ _
      | exact spec_BadWordsIn.mono _ _ _
      | exact LeO.none _
      | refine LeO.ite ?_ ?_
      | refine LeO.bind ?_ (fun _ => ?_)
    · intro y0 y1 y2 y3 y4 y5
      unfold laws_FnExactBadWordsIn.j1
      repeat' first
      | (with_reducible exact ih0 _ _ _ _ _ _ _ _)
      | (with_reducible exact ih1 _ _ _ _ _ _)
      | (with_reducible exact ih2 _ _ _)
      | (with_reducible exact impl_BadWordsIn.mono _ _ _)
      | (with_reducible exact laws_eqStringS.mono _ _ _)
      | (with_reducible exact laws_heldStringS.mono _ _ _)
      | (with_reducible exact laws_markStringS.mono _ _ _)
      | (with_reducible exact laws_szStringS.mono _ _ _)
      | (with_reducible exact laws_toStringS.mono _ _)
      | (with_reducible exact spec_BadWordsIn.mono _ _ _)
      | (with_reducible exact LeO.refl _)
      | (with_reducible exact LeO.none _)
      | (with_reducible refine LeO.ite ?_ ?_)
      | (with_reducible refine LeO.bind ?_ (fun _ => ?_))
      | exact ih0 _ _ _ _ _ _ _ _
      | exact ih1 _ _ _ _ _ _
      | exact ih2 _ _ _
      | exact impl_BadWordsIn.mono _ _ _
      | exact laws_eqStringS.mono _ _ _
      | exact laws_heldStringS.mono _ _ _
      | exact laws_markStringS.mono _ _ _
      | exact laws_szStringS.mono _ _ _
      | exact laws_toStringS.mono _ _
      | exact spec_BadWordsIn.mono _ _ _
      | exact LeO.none _
      | refine LeO.ite ?_ ?_
      | refine LeO.bind ?_ (fun _ => ?_)
    · intro y0 y1 y2
      unfold laws_FnExactBadWordsIn.j2
      repeat' first
      | (with_reducible exact ih0 _ _ _ _ _ _ _ _)
      | (with_reducible exact ih1 _ _ _ _ _ _)
      | (with_reducible exact ih2 _ _ _)
      | (with_reducible exact impl_BadWordsIn.mono _ _ _)
      | (with_reducible exact laws_eqStringS.mono _ _ _)
      | (with_reducible exact laws_heldStringS.mono _ _ _)
      | (with_reducible exact laws_markStringS.mono _ _ _)
      | (with_reducible exact laws_szStringS.mono _ _ _)
      | (with_reducible exact laws_toStringS.mono _ _)
      | (with_reducible exact spec_BadWordsIn.mono _ _ _)
      | (with_reducible exact LeO.refl _)
      | (with_reducible exact LeO.none _)
      | (with_reducible refine LeO.ite ?_ ?_)
      | (with_reducible refine LeO.bind ?_ (fun _ => ?_))
      | exact ih0 _ _ _ _ _ _ _ _
      | exact ih1 _ _ _ _ _ _
      | exact ih2 _ _ _
      | exact impl_BadWordsIn.mono _ _ _
      | exact laws_eqStringS.mono _ _ _
      | exact laws_heldStringS.mono _ _ _
      | exact laws_markStringS.mono _ _ _
      | exact laws_szStringS.mono _ _ _
      | exact laws_toStringS.mono _ _
      | exact spec_BadWordsIn.mono _ _ _
      | exact LeO.none _
      | refine LeO.ite ?_ ?_
      | refine LeO.bind ?_ (fun _ => ?_)
theorem laws_FnExactBadWordsIn.mono : ∀ a0 a1 k, LeO (laws_FnExactBadWordsIn.f k a0 a1) (laws_FnExactBadWordsIn.f (k + 1) a0 a1) := by
  intro a0 a1 k
  obtain ⟨ih0, ih1, ih2⟩ := laws_FnExactBadWordsIn.mono_l k
  unfold laws_FnExactBadWordsIn.f
  repeat' first
      | (with_reducible exact ih0 _ _ _ _ _ _ _ _)
      | (with_reducible exact ih1 _ _ _ _ _ _)
      | (with_reducible exact ih2 _ _ _)
      | (with_reducible exact impl_BadWordsIn.mono _ _ _)
      | (with_reducible exact laws_eqStringS.mono _ _ _)
      | (with_reducible exact laws_heldStringS.mono _ _ _)
      | (with_reducible exact laws_markStringS.mono _ _ _)
      | (with_reducible exact laws_szStringS.mono _ _ _)
      | (with_reducible exact laws_toStringS.mono _ _)
      | (with_reducible exact spec_BadWordsIn.mono _ _ _)
      | (with_reducible exact LeO.refl _)
      | (with_reducible exact LeO.none _)
      | (with_reducible refine LeO.ite ?_ ?_)
      | (with_reducible refine LeO.bind ?_ (fun _ => ?_))
      | exact ih0 _ _ _ _ _ _ _ _
      | exact ih1 _ _ _ _ _ _
      | exact ih2 _ _ _
      | exact impl_BadWordsIn.mono _ _ _
      | exact laws_eqStringS.mono _ _ _
      | exact laws_heldStringS.mono _ _ _
      | exact laws_markStringS.mono _ _ _
      | exact laws_szStringS.mono _ _ _
      | exact laws_toStringS.mono _ _
      | exact spec_BadWordsIn.mono _ _ _
      | exact LeO.none _
      | refine LeO.ite ?_ ?_
      | refine LeO.bind ?_ (fun _ => ?_)
set_option maxHeartbeats 8000000 in
set_option maxRecDepth 100000 in
theorem laws_FnExactBadWordsIn.calls (k : Nat) (a0 : ByteArray) (A1 : Option Addr) (c1 : Nat) (l1 : List ByteArray) (r : Bool) (w : World) (hr1 : Kd.C Kd.string w A1 l1.length l1) (hc1 : l1.length ≤ c1) (h : laws_FnExactBadWordsIn.f k a0 l1 = some r) :
    Calls Try.prog 12 #[.string a0, .slice A1 l1.length c1] w fun e w' => e = .returned (.bool r) ∧ Below w.heap.size w w' := by
 have HR1 := Aside0.mk hr1
 have HC1 := Aside0.mk hc1
 clear hr1 hc1
 have HB := Aside0.mk (Below.refl w.heap.size w)
 have H : (if (a0.size : Int) > 1048576 then (some true) else ((laws_szStringS.f k l1 1048576).bind fun t314 => (if t314 < 0 then (some true) else ((laws_toStringS.f k l1).bind fun t315 => ((spec_BadWordsIn.f k a0 t315).bind fun bt318 => ((laws_toStringS.f k l1).bind fun t322 => ((impl_BadWordsIn.f k a0 t322).bind fun bt325 => ((laws_eqStringS.f k bt325.1 bt318.1).bind fun t329 => (if t329 = true then (laws_FnExactBadWordsIn.j0 k a0 l1 bt318.1 bt318.2 t322 bt325.1 bt325.2 (bt325.2 != bt318.2)) else (laws_FnExactBadWordsIn.j0 k a0 l1 bt318.1 bt318.2 t322 bt325.1 bt325.2 true)))))))))) = some r := h
 clear h
 by_cases c3 : (a0.size : Int) > 1048576
 {
 rw [if_pos c3] at H
 have c3b0 : decide (1048576 < (a0.size : Int)) = true := decide_eq_true c3
 have c3b1 : decide (1048576 < a0.size) = true := decide_eq_true (by omega)
 clear c3
 obtain rfl := Option.some.inj H
 go_enter Try.func12, Try.ntmps12
 go_wp2
 go_ret
 exact ⟨by first | rfl | (simp [errW_none, errW_some] <;> rfl) | (simp [*, errW_none, errW_some] <;> rfl), by repeat (first | (with_reducible first | exact HB.out | apply below_alloc | apply pw_below_drewN | apply below_drew1) | exact HB.out)⟩}
 {
 rw [if_neg c3] at H
 have c3b0 : decide (1048576 < (a0.size : Int)) = false := decide_eq_false c3
 have c3b1 : decide (1048576 < a0.size) = false := decide_eq_false (by omega)
 clear c3
 replace H := Option.bind_eq_some_iff.mp H
 obtain ⟨t314, A40, H⟩ := H
 replace H : (if t314 < 0 then (some true) else ((laws_toStringS.f k l1).bind fun t315 => ((spec_BadWordsIn.f k a0 t315).bind fun bt318 => ((laws_toStringS.f k l1).bind fun t322 => ((impl_BadWordsIn.f k a0 t322).bind fun bt325 => ((laws_eqStringS.f k bt325.1 bt318.1).bind fun t329 => (if t329 = true then (laws_FnExactBadWordsIn.j0 k a0 l1 bt318.1 bt318.2 t322 bt325.1 bt325.2 (bt325.2 != bt318.2)) else (laws_FnExactBadWordsIn.j0 k a0 l1 bt318.1 bt318.2 t322 bt325.1 bt325.2 true)))))))) = some r := H
 have A4 := Aside0.mk A40
 clear A40
 by_cases c5 : t314 < 0
 {
 rw [if_pos c5] at H
 have c5b0 : decide (t314 < 0) = true := decide_eq_true c5
 clear c5
 obtain rfl := Option.some.inj H
 go_enter Try.func12, Try.ntmps12
 go_wp2_with (first | ((with_reducible refine gate_callee (f := 13) rfl ?_); refine goesL_ (some 21) rfl rfl Try.func13 s2_ rfl #[.slice A1 l1.length c1, .int .i64 1048576] rfl s3_ ?_; (with_reducible refine (laws_szStringS.calls k _ _ l1 1048576 t314 _ ?side1 ?side2 A4.out).mono ?_); (case side1 => repeat (first | exact HR1.out | (with_reducible refine Kd.C_alloc ?_ _) | (with_reducible refine Kd.C_drewN ?_ _) | (with_reducible refine Kd.C_drew ?_))); (case side2 => exact HC1.out); rintro e w' ⟨rfl, ⟨nd, rfl⟩⟩; refine ⟨_, rfl, ?_⟩))
 go_ret
 exact ⟨by first | rfl | (simp [errW_none, errW_some] <;> rfl) | (simp [*, errW_none, errW_some] <;> rfl), by repeat (first | (with_reducible first | exact HB.out | apply below_alloc | apply pw_below_drewN | apply below_drew1) | exact HB.out)⟩}
 {
 rw [if_neg c5] at H
 have c5b0 : decide (t314 < 0) = false := decide_eq_false c5
 clear c5
 replace H := Option.bind_eq_some_iff.mp H
 obtain ⟨t315, A60, H⟩ := H
 replace H : ((spec_BadWordsIn.f k a0 t315).bind fun bt318 => ((laws_toStringS.f k l1).bind fun t322 => ((impl_BadWordsIn.f k a0 t322).bind fun bt325 => ((laws_eqStringS.f k bt325.1 bt318.1).bind fun t329 => (if t329 = true then (laws_FnExactBadWordsIn.j0 k a0 l1 bt318.1 bt318.2 t322 bt325.1 bt325.2 (bt325.2 != bt318.2)) else (laws_FnExactBadWordsIn.j0 k a0 l1 bt318.1 bt318.2 t322 bt325.1 bt325.2 true)))))) = some r := H
 have A6 := Aside0.mk A60
 clear A60
 replace H := Option.bind_eq_some_iff.mp H
 obtain ⟨⟨t318, t319⟩, A70, H⟩ := H
 replace H : ((laws_toStringS.f k l1).bind fun t322 => ((impl_BadWordsIn.f k a0 t322).bind fun bt325 => ((laws_eqStringS.f k bt325.1 t318).bind fun t329 => (if t329 = true then (laws_FnExactBadWordsIn.j0 k a0 l1 t318 t319 t322 bt325.1 bt325.2 (bt325.2 != t319)) else (laws_FnExactBadWordsIn.j0 k a0 l1 t318 t319 t322 bt325.1 bt325.2 true))))) = some r := H
 have A7 := Aside0.mk A70
 clear A70
 replace H := Option.bind_eq_some_iff.mp H
 obtain ⟨t322, A80, H⟩ := H
 replace H : ((impl_BadWordsIn.f k a0 t322).bind fun bt325 => ((laws_eqStringS.f k bt325.1 t318).bind fun t329 => (if t329 = true then (laws_FnExactBadWordsIn.j0 k a0 l1 t318 t319 t322 bt325.1 bt325.2 (bt325.2 != t319)) else (laws_FnExactBadWordsIn.j0 k a0 l1 t318 t319 t322 bt325.1 bt325.2 true)))) = some r := H
 have A8 := Aside0.mk A80
 clear A80
 replace H := Option.bind_eq_some_iff.mp H
 obtain ⟨⟨t325, t326⟩, A90, H⟩ := H
 replace H : ((laws_eqStringS.f k t325 t318).bind fun t329 => (if t329 = true then (laws_FnExactBadWordsIn.j0 k a0 l1 t318 t319 t322 t325 t326 (t326 != t319)) else (laws_FnExactBadWordsIn.j0 k a0 l1 t318 t319 t322 t325 t326 true))) = some r := H
 have A9 := Aside0.mk A90
 clear A90
 have HC10 := Aside0.mk H
 clear H
 go_enter Try.func12, Try.ntmps12
 go_upto_region 10 with (first | ((with_reducible refine gate_callee (f := 13) rfl ?_); refine goesL_ (some 21) rfl rfl Try.func13 s2_ rfl #[.slice A1 l1.length c1, .int .i64 1048576] rfl s3_ ?_; (with_reducible refine (laws_szStringS.calls k _ _ l1 1048576 t314 _ ?side1 ?side2 A4.out).mono ?_); (case side1 => repeat (first | exact HR1.out | (with_reducible refine Kd.C_alloc ?_ _) | (with_reducible refine Kd.C_drewN ?_ _) | (with_reducible refine Kd.C_drew ?_))); (case side2 => exact HC1.out); rintro e w' ⟨rfl, ⟨nd, rfl⟩⟩; refine ⟨_, rfl, ?_⟩) | ((with_reducible refine gate_callee (f := 15) rfl ?_); refine goesL_ (some 27) rfl rfl Try.func15 s2_ rfl #[.slice A1 l1.length c1] rfl s3_ ?_; (with_reducible refine (laws_toStringS.calls k _ _ l1 t315 _ ?side1 ?side2 A6.out).mono ?_); (case side1 => repeat (first | exact HR1.out | (with_reducible refine Kd.C_alloc ?_ _) | (with_reducible refine Kd.C_drewN ?_ _) | (with_reducible refine Kd.C_drew ?_))); (case side2 => exact HC1.out); rintro e w11 ⟨v316, rfl, ho0, hb⟩; refine ⟨_, rfl, ?_⟩; have n0_ := Aside0.mk (Kd.R_lower ho0 (below_size (by repeat (first | (with_reducible first | exact HB.out | apply below_alloc | apply pw_below_drewN | apply below_drew1) | exact HB.out)))); have n1_ := Aside0.mk (below_step (by repeat (first | (with_reducible first | exact HB.out | apply below_alloc | apply pw_below_drewN | apply below_drew1) | exact HB.out)) hb); clear HB; have HO317 := n0_; have HB := n1_; clear n0_ n1_; (try clear hb); (try clear hb2); (try clear hk); (try clear hi); (try clear ho0); obtain ⟨Ao12, co12, eo12⟩ := Kd.R_slice HO317.out; subst eo12) | ((with_reducible refine gate_callee (f := 53) rfl ?_); refine goesL_ (some 28) rfl rfl Try.func53 s2_ rfl #[.string a0, .slice Ao12 t315.length co12] rfl s3_ ?_; (with_reducible refine (spec_BadWordsIn.calls k a0 _ _ t315 t318 t319 _ ?side1 ?side2 A7.out).mono ?_); (case side1 => repeat (first | exact (Kd.R_reads' HO317.out).2.2 | (with_reducible refine Kd.C_alloc ?_ _) | (with_reducible refine Kd.C_drewN ?_ _) | (with_reducible refine Kd.C_drew ?_))); (case side2 => exact (Kd.R_reads' HO317.out).2.1); rintro e w13 ⟨v320, rfl, ho0, hb⟩; refine ⟨_, rfl, ?_⟩; have n0_ := Aside0.mk (Kd.R_elder' (b2_ HO317.out) (Kd.R_base ho0) hb); have n1_ := Aside0.mk (Kd.R_lower (Kd.R_new' ho0 (Kd.R_lt (b2_ HO317.out))) (below_size (by repeat (first | (with_reducible first | exact HB.out | apply below_alloc | apply pw_below_drewN | apply below_drew1) | exact HB.out)))); have n2_ := Aside0.mk (below_step (by repeat (first | (with_reducible first | exact HB.out | apply below_alloc | apply pw_below_drewN | apply below_drew1) | exact HB.out)) hb); clear HO317; clear HB; have HO317 := n0_; have HO321 := n1_; have HB := n2_; clear n0_ n1_ n2_; (try clear hb); (try clear hb2); (try clear hk); (try clear hi); (try clear ho0)) | ((with_reducible refine gate_callee (f := 15) rfl ?_); refine goesL_ (some 32) rfl rfl Try.func15 s2_ rfl #[.slice A1 l1.length c1] rfl s3_ ?_; (with_reducible refine (laws_toStringS.calls k _ _ l1 t322 _ ?side1 ?side2 A8.out).mono ?_); (case side1 => repeat (first | exact (Kd.C_below HR1.out HB.out) | (with_reducible refine Kd.C_alloc ?_ _) | (with_reducible refine Kd.C_drewN ?_ _) | (with_reducible refine Kd.C_drew ?_))); (case side2 => exact HC1.out); rintro e w14 ⟨v323, rfl, ho0, hb⟩; refine ⟨_, rfl, ?_⟩; have n0_ := Aside0.mk (Kd.R_elder' (b2_ HO317.out) (Kd.R_base ho0) hb); have n1_ := Aside0.mk (Kd.R_elder' (b2_ HO321.out) (Kd.R_base ho0) hb); have n2_ := Aside0.mk (Kd.R_lower (Kd.R_new' (Kd.R_new' ho0 (Kd.R_lt (b2_ HO317.out))) (Kd.R_lt (b2_ HO321.out))) (below_size (by repeat (first | (with_reducible first | exact HB.out | apply below_alloc | apply pw_below_drewN | apply below_drew1) | exact HB.out)))); have n3_ := Aside0.mk (below_step (by repeat (first | (with_reducible first | exact HB.out | apply below_alloc | apply pw_below_drewN | apply below_drew1) | exact HB.out)) hb); clear HO317; clear HO321; clear HB; have HO317 := n0_; have HO321 := n1_; have HO324 := n2_; have HB := n3_; clear n0_ n1_ n2_ n3_; (try clear hb); (try clear hb2); (try clear hk); (try clear hi); (try clear ho0); obtain ⟨Ao15, co15, eo15⟩ := Kd.R_slice HO324.out; subst eo15) | ((with_reducible refine gate_callee (f := 47) rfl ?_); refine goesL_ (some 36) rfl rfl Try.func47 s2_ rfl #[.string a0, .slice Ao15 t322.length co15] rfl s3_ ?_; (with_reducible refine (impl_BadWordsIn.calls k a0 _ _ t322 t325 t326 _ ?side1 ?side2 A9.out).mono ?_); (case side1 => repeat (first | exact (Kd.R_reads' HO324.out).2.2 | (with_reducible refine Kd.C_alloc ?_ _) | (with_reducible refine Kd.C_drewN ?_ _) | (with_reducible refine Kd.C_drew ?_))); (case side2 => exact (Kd.R_reads' HO324.out).2.1); rintro e w16 ⟨v327, rfl, ho0, hb⟩; refine ⟨_, rfl, ?_⟩; have n0_ := Aside0.mk (Kd.R_elder' (b2_ HO317.out) (Kd.R_base ho0) hb); have n1_ := Aside0.mk (Kd.R_elder' (b2_ HO321.out) (Kd.R_base ho0) hb); have n2_ := Aside0.mk (Kd.R_elder' (b2_ HO324.out) (Kd.R_base ho0) hb); have n3_ := Aside0.mk (Kd.R_lower (Kd.R_new' (Kd.R_new' (Kd.R_new' ho0 (Kd.R_lt (b2_ HO317.out))) (Kd.R_lt (b2_ HO321.out))) (Kd.R_lt (b2_ HO324.out))) (below_size (by repeat (first | (with_reducible first | exact HB.out | apply below_alloc | apply pw_below_drewN | apply below_drew1) | exact HB.out)))); have n4_ := Aside0.mk (below_step (by repeat (first | (with_reducible first | exact HB.out | apply below_alloc | apply pw_below_drewN | apply below_drew1) | exact HB.out)) hb); clear HO317; clear HO321; clear HO324; clear HB; have HO317 := n0_; have HO321 := n1_; have HO324 := n2_; have HO328 := n3_; have HB := n4_; clear n0_ n1_ n2_ n3_ n4_; (try clear hb); (try clear hb2); (try clear hk); (try clear hi); (try clear ho0)))
 (try simp only [Act.put, List.setIfInBounds_toArray, List.set_cons_zero, List.set_cons_succ])
 go_cut [47] (fun v47 wc => ∃ (kq : Nat) (x47_9 : Bool), v47 = .bool x47_9 ∧ Aside0 (laws_FnExactBadWordsIn.j0 kq a0 l1 t318 t319 t322 t325 t326 x47_9 = some r) ∧ Aside0 (kq ≤ k) ∧ Aside0 (Kd.R Kd.string 9 wc w.heap.size (fun k_ => some k_ ≠ ((.slice Ao15 t322.length co15) : Value).ownBlock ∧ some k_ ≠ (v327 : Value).ownBlock) v320 t318) ∧ Aside0 (Kd.R Kd.string 9 wc w.heap.size (fun k_ => some k_ ≠ (v320 : Value).ownBlock ∧ some k_ ≠ (v327 : Value).ownBlock) (.slice Ao15 t322.length co15) t322) ∧ Aside0 (Kd.R Kd.string 9 wc w.heap.size (fun k_ => some k_ ≠ (v320 : Value).ownBlock ∧ some k_ ≠ ((.slice Ao15 t322.length co15) : Value).ownBlock) v327 t325) ∧ Aside0 (Below w.heap.size w wc))
 case first =>
  skip
  {
 have H := HC10.out
 clear HC10
 replace H := Option.bind_eq_some_iff.mp H
 obtain ⟨t329, A170, H⟩ := H
 replace H : (if t329 = true then (laws_FnExactBadWordsIn.j0 k a0 l1 t318 t319 t322 t325 t326 (t326 != t319)) else (laws_FnExactBadWordsIn.j0 k a0 l1 t318 t319 t322 t325 t326 true)) = some r := H
 have A17 := Aside0.mk A170
 clear A170
 by_cases c18 : t329 = true
 {
 subst c18
 have H1 : (laws_FnExactBadWordsIn.j0 k a0 l1 t318 t319 t322 t325 t326 (t326 != t319)) = some r := by rw [if_pos rfl] at H; exact H
 clear H
 have H := H1
 clear H1
 have H' := Aside0.mk H
 clear H
 obtain ⟨Ao19, co19, eo19⟩ := Kd.R_slice HO328.out
 subst eo19
 obtain ⟨Ao20, co20, eo20⟩ := Kd.R_slice HO321.out
 subst eo20
 go_wp2_with (first | ((with_reducible refine gate_callee (f := 17) rfl ?_); refine goesL_ (some 41) rfl rfl Try.func17 s2_ rfl #[.slice Ao19 t325.length co19, .slice Ao20 t318.length co20] rfl s3_ ?_; (with_reducible refine (laws_eqStringS.calls k _ _ t325 _ _ t318 true _ ?side1 ?side2 ?side3 ?side4 A17.out).mono ?_); (case side1 => repeat (first | exact (Kd.R_reads' HO328.out).2.2 | (with_reducible refine Kd.C_alloc ?_ _) | (with_reducible refine Kd.C_drewN ?_ _) | (with_reducible refine Kd.C_drew ?_))); (case side2 => exact (Kd.R_reads' HO328.out).2.1); (case side3 => repeat (first | exact (Kd.R_reads' HO321.out).2.2 | (with_reducible refine Kd.C_alloc ?_ _) | (with_reducible refine Kd.C_drewN ?_ _) | (with_reducible refine Kd.C_drew ?_))); (case side4 => exact (Kd.R_reads' HO321.out).2.1); rintro e w' ⟨rfl, ⟨nd, rfl⟩⟩; refine ⟨_, rfl, ?_⟩))
 go_meet
 case rel => exact ⟨_, ((t326 != t319)), s1_, H', ⟨by first | omega | exact Nat.le_refl _⟩, ⟨by (with_reducible repeat (first | apply Kd.R_alloc | apply Kd.R_drewN | apply Kd.R_drew)); exact Kd.R_mono HO321.out (fun _ hk => ⟨hk.1.2, hk.2⟩)⟩, ⟨by (with_reducible repeat (first | apply Kd.R_alloc | apply Kd.R_drewN | apply Kd.R_drew)); exact Kd.R_mono HO324.out (fun _ hk => ⟨hk.1.2, hk.2⟩)⟩, ⟨by (with_reducible repeat (first | apply Kd.R_alloc | apply Kd.R_drewN | apply Kd.R_drew)); exact Kd.R_mono HO328.out (fun _ hk => ⟨hk.1.2, hk.2⟩)⟩, ⟨by repeat (first | (with_reducible first | exact HB.out | apply below_alloc | apply pw_below_drewN | apply below_drew1) | exact HB.out)⟩⟩}
 {
 replace c18 := Bool.eq_false_iff.mpr c18
 subst c18
 have H1 : (laws_FnExactBadWordsIn.j0 k a0 l1 t318 t319 t322 t325 t326 true) = some r := by rw [if_neg (show ¬ (false = true) by decide)] at H; exact H
 clear H
 have H := H1
 clear H1
 have H' := Aside0.mk H
 clear H
 obtain ⟨Ao21, co21, eo21⟩ := Kd.R_slice HO328.out
 subst eo21
 obtain ⟨Ao22, co22, eo22⟩ := Kd.R_slice HO321.out
 subst eo22
 go_wp2_with (first | ((with_reducible refine gate_callee (f := 17) rfl ?_); refine goesL_ (some 41) rfl rfl Try.func17 s2_ rfl #[.slice Ao21 t325.length co21, .slice Ao22 t318.length co22] rfl s3_ ?_; (with_reducible refine (laws_eqStringS.calls k _ _ t325 _ _ t318 false _ ?side1 ?side2 ?side3 ?side4 A17.out).mono ?_); (case side1 => repeat (first | exact (Kd.R_reads' HO328.out).2.2 | (with_reducible refine Kd.C_alloc ?_ _) | (with_reducible refine Kd.C_drewN ?_ _) | (with_reducible refine Kd.C_drew ?_))); (case side2 => exact (Kd.R_reads' HO328.out).2.1); (case side3 => repeat (first | exact (Kd.R_reads' HO321.out).2.2 | (with_reducible refine Kd.C_alloc ?_ _) | (with_reducible refine Kd.C_drewN ?_ _) | (with_reducible refine Kd.C_drew ?_))); (case side4 => exact (Kd.R_reads' HO321.out).2.1); rintro e w' ⟨rfl, ⟨nd, rfl⟩⟩; refine ⟨_, rfl, ?_⟩))
 go_meet
 case rel => exact ⟨_, (true), s1_, H', ⟨by first | omega | exact Nat.le_refl _⟩, ⟨by (with_reducible repeat (first | apply Kd.R_alloc | apply Kd.R_drewN | apply Kd.R_drew)); exact Kd.R_mono HO321.out (fun _ hk => ⟨hk.1.2, hk.2⟩)⟩, ⟨by (with_reducible repeat (first | apply Kd.R_alloc | apply Kd.R_drewN | apply Kd.R_drew)); exact Kd.R_mono HO324.out (fun _ hk => ⟨hk.1.2, hk.2⟩)⟩, ⟨by (with_reducible repeat (first | apply Kd.R_alloc | apply Kd.R_drewN | apply Kd.R_drew)); exact Kd.R_mono HO328.out (fun _ hk => ⟨hk.1.2, hk.2⟩)⟩, ⟨by repeat (first | (with_reducible first | exact HB.out | apply below_alloc | apply pw_below_drewN | apply below_drew1) | exact HB.out)⟩⟩}}
 case rest =>
  skip
  {
 clear HC10
 try clear c1
 try clear p2
 try clear c3
 try clear c3b0
 try clear c3b1
 try clear c4
 try clear c5
 try clear c5b0
 try clear c12
 try clear c13
 try clear c15
 try clear c17
 try clear c18
 obtain ⟨kq, x47_9, rfl, HA, HJ9, HO_6, HO_8, HO_9, HB⟩ := hcut
 cases kq with
 | zero => exact absurd HA.out (by simp [laws_FnExactBadWordsIn.j0])
 | succ kj9 =>
  skip
  {
 have H := HA.out
 clear HA
 simp only [laws_FnExactBadWordsIn.j0] at H
 by_cases c23 : x47_9 = true
 {
 subst c23
 have H1 : (some false) = some r := by rw [if_pos rfl] at H; exact H
 clear H
 have H := H1
 clear H1
 obtain rfl := Option.some.inj H
 go_wp2
 go_ret
 exact ⟨by first | rfl | (simp [errW_none, errW_some] <;> rfl) | (simp [*, errW_none, errW_some] <;> rfl), by repeat (first | (with_reducible first | exact HB.out | apply below_alloc | apply pw_below_drewN | apply below_drew1) | exact HB.out)⟩}
 {
 replace c23 := Bool.eq_false_iff.mpr c23
 subst c23
 have H1 : ((laws_toStringS.f kj9 l1).bind fun t330 => ((laws_eqStringS.f kj9 t322 t330).bind fun t333 => (if t333 = true then ((laws_markStringS.f kj9 t322 1).bind fun bt334 => (if bt334.1 < 0 then (laws_FnExactBadWordsIn.j1 kj9 a0 l1 t318 t319 t325 true) else ((laws_eqStringS.f kj9 t325 t318).bind fun t336 => (if t336 = true then (laws_FnExactBadWordsIn.j1 kj9 a0 l1 t318 t319 t325 (t326 != t319)) else (laws_FnExactBadWordsIn.j1 kj9 a0 l1 t318 t319 t325 true))))) else (some false)))) = some r := by rw [if_neg (show ¬ (false = true) by decide)] at H; exact H
 clear H
 have H := H1
 clear H1
 replace H := Option.bind_eq_some_iff.mp H
 obtain ⟨t330, A240, H⟩ := H
 replace H : ((laws_eqStringS.f kj9 t322 t330).bind fun t333 => (if t333 = true then ((laws_markStringS.f kj9 t322 1).bind fun bt334 => (if bt334.1 < 0 then (laws_FnExactBadWordsIn.j1 kj9 a0 l1 t318 t319 t325 true) else ((laws_eqStringS.f kj9 t325 t318).bind fun t336 => (if t336 = true then (laws_FnExactBadWordsIn.j1 kj9 a0 l1 t318 t319 t325 (t326 != t319)) else (laws_FnExactBadWordsIn.j1 kj9 a0 l1 t318 t319 t325 true))))) else (some false))) = some r := H
 have A24 := Aside0.mk A240
 clear A240
 replace H := Option.bind_eq_some_iff.mp H
 obtain ⟨t333, A250, H⟩ := H
 replace H : (if t333 = true then ((laws_markStringS.f kj9 t322 1).bind fun bt334 => (if bt334.1 < 0 then (laws_FnExactBadWordsIn.j1 kj9 a0 l1 t318 t319 t325 true) else ((laws_eqStringS.f kj9 t325 t318).bind fun t336 => (if t336 = true then (laws_FnExactBadWordsIn.j1 kj9 a0 l1 t318 t319 t325 (t326 != t319)) else (laws_FnExactBadWordsIn.j1 kj9 a0 l1 t318 t319 t325 true))))) else (some false)) = some r := H
 have A25 := Aside0.mk A250
 clear A250
 by_cases c26 : t333 = true
 {
 subst c26
 have H1 : ((laws_markStringS.f kj9 t322 1).bind fun bt334 => (if bt334.1 < 0 then (laws_FnExactBadWordsIn.j1 kj9 a0 l1 t318 t319 t325 true) else ((laws_eqStringS.f kj9 t325 t318).bind fun t336 => (if t336 = true then (laws_FnExactBadWordsIn.j1 kj9 a0 l1 t318 t319 t325 (t326 != t319)) else (laws_FnExactBadWordsIn.j1 kj9 a0 l1 t318 t319 t325 true))))) = some r := by rw [if_pos rfl] at H; exact H
 clear H
 have H := H1
 clear H1
 replace H := Option.bind_eq_some_iff.mp H
 obtain ⟨⟨t334, t335⟩, A270, H⟩ := H
 replace H : (if t334 < 0 then (laws_FnExactBadWordsIn.j1 kj9 a0 l1 t318 t319 t325 true) else ((laws_eqStringS.f kj9 t325 t318).bind fun t336 => (if t336 = true then (laws_FnExactBadWordsIn.j1 kj9 a0 l1 t318 t319 t325 (t326 != t319)) else (laws_FnExactBadWordsIn.j1 kj9 a0 l1 t318 t319 t325 true)))) = some r := H
 have A27 := Aside0.mk A270
 clear A270
 have HC28 := Aside0.mk H
 clear H
 go_upto_region 16 with (first | ((with_reducible refine gate_callee (f := 15) rfl ?_); refine goesL_ (some 50) rfl rfl Try.func15 s2_ rfl #[.slice A1 l1.length c1] rfl s3_ ?_; (with_reducible refine (laws_toStringS.calls kj9 _ _ l1 t330 _ ?side1 ?side2 A24.out).mono ?_); (case side1 => repeat (first | exact (Kd.C_below HR1.out HB.out) | (with_reducible refine Kd.C_alloc ?_ _) | (with_reducible refine Kd.C_drewN ?_ _) | (with_reducible refine Kd.C_drew ?_))); (case side2 => exact HC1.out); rintro e w29 ⟨v331, rfl, ho0, hb⟩; refine ⟨_, rfl, ?_⟩; have n0_ := Aside0.mk (Kd.R_elder' (b2_ HO_6.out) (Kd.R_base ho0) hb); have n1_ := Aside0.mk (Kd.R_elder' (b2_ HO_8.out) (Kd.R_base ho0) hb); have n2_ := Aside0.mk (Kd.R_elder' (b2_ HO_9.out) (Kd.R_base ho0) hb); have n3_ := Aside0.mk (Kd.R_lower (Kd.R_new' (Kd.R_new' (Kd.R_new' ho0 (Kd.R_lt (b2_ HO_6.out))) (Kd.R_lt (b2_ HO_8.out))) (Kd.R_lt (b2_ HO_9.out))) (below_size (by repeat (first | (with_reducible first | exact HB.out | apply below_alloc | apply pw_below_drewN | apply below_drew1) | exact HB.out)))); have n4_ := Aside0.mk (below_step (by repeat (first | (with_reducible first | exact HB.out | apply below_alloc | apply pw_below_drewN | apply below_drew1) | exact HB.out)) hb); clear HO_6; clear HO_8; clear HO_9; clear HB; have HO_6 := n0_; have HO_8 := n1_; have HO_9 := n2_; have HO332 := n3_; have HB := n4_; clear n0_ n1_ n2_ n3_ n4_; (try clear hb); (try clear hb2); (try clear hk); (try clear hi); (try clear ho0); obtain ⟨Ao30, co30, eo30⟩ := Kd.R_slice HO332.out; subst eo30) | ((with_reducible refine gate_callee (f := 17) rfl ?_); refine goesL_ (some 51) rfl rfl Try.func17 s2_ rfl #[.slice Ao15 t322.length co15, .slice Ao30 t330.length co30] rfl s3_ ?_; (with_reducible refine (laws_eqStringS.calls kj9 _ _ t322 _ _ t330 true _ ?side1 ?side2 ?side3 ?side4 A25.out).mono ?_); (case side1 => repeat (first | exact (Kd.R_reads' HO_8.out).2.2 | (with_reducible refine Kd.C_alloc ?_ _) | (with_reducible refine Kd.C_drewN ?_ _) | (with_reducible refine Kd.C_drew ?_))); (case side2 => exact (Kd.R_reads' HO_8.out).2.1); (case side3 => repeat (first | exact (Kd.R_reads' HO332.out).2.2 | (with_reducible refine Kd.C_alloc ?_ _) | (with_reducible refine Kd.C_drewN ?_ _) | (with_reducible refine Kd.C_drew ?_))); (case side4 => exact (Kd.R_reads' HO332.out).2.1); rintro e w' ⟨rfl, ⟨nd, rfl⟩⟩; refine ⟨_, rfl, ?_⟩) | ((with_reducible refine gate_callee (f := 54) rfl ?_); refine goesL_ (some 55) rfl rfl Try.func54 s2_ rfl #[.slice Ao15 t322.length co15, .int .i64 1] rfl s3_ ?_; (with_reducible refine (laws_markStringS.calls kj9 (fun k_ => some k_ = (.slice Ao15 t322.length co15 : Value).ownBlock) (.slice Ao15 t322.length co15) t322 1 t334 t335 w _ ?side1 ?side2 A27.out).mono ?_); (case side1 => repeat (first | (with_reducible first | exact HB.out | apply below_alloc | apply pw_below_drewN | apply below_drew1) | exact HB.out)); (case side2 => exact Kd.R_tight rfl HO_8.out); rintro e w31 ⟨rfl, hy0, hb, hkp⟩; refine ⟨_, rfl, ?_⟩; have n0_ := Aside0.mk (Kd.R_mono (ok' := fun k_ => some k_ ≠ (.slice Ao15 t322.length co15 : Value).ownBlock ∧ some k_ ≠ (v327 : Value).ownBlock ∧ some k_ ≠ (.slice Ao30 t330.length co30 : Value).ownBlock) (Kd.R_keptB (HO_6.out) hkp (fun k_ hk_ hs_ => (hk_.1.1) hs_)) (fun k_ hk_ => ⟨hk_.1.1.1, hk_.1.1.2, hk_.1.2⟩)); have n1_ := Aside0.mk (Kd.R_reok rfl hy0 (fun k_ e_ => HO_8.out.1 k_ e_)); have n2_ := Aside0.mk (Kd.R_mono (ok' := fun k_ => some k_ ≠ (v320 : Value).ownBlock ∧ some k_ ≠ (.slice Ao15 t322.length co15 : Value).ownBlock ∧ some k_ ≠ (.slice Ao30 t330.length co30 : Value).ownBlock) (Kd.R_keptB (HO_9.out) hkp (fun k_ hk_ hs_ => (hk_.1.2) hs_)) (fun k_ hk_ => ⟨hk_.1.1.1, hk_.1.1.2, hk_.1.2⟩)); have n3_ := Aside0.mk (Kd.R_mono (ok' := fun k_ => some k_ ≠ (v320 : Value).ownBlock ∧ some k_ ≠ (.slice Ao15 t322.length co15 : Value).ownBlock ∧ some k_ ≠ (v327 : Value).ownBlock) (Kd.R_keptB (HO332.out) hkp (fun k_ hk_ hs_ => (hk_.1.2) hs_)) (fun k_ hk_ => ⟨hk_.1.1.1.2, hk_.1.1.2, hk_.1.2⟩)); have n4_ := Aside0.mk (hb); clear HO_6; clear HO_8; clear HO_9; clear HO332; clear HB; have HO_6 := n0_; have HO_8 := n1_; have HO_9 := n2_; have HO332 := n3_; have HB := n4_; clear n0_ n1_ n2_ n3_ n4_; (try clear hb); (try clear hkp); (try clear hy0)))
 (try simp only [Act.put, List.setIfInBounds_toArray, List.set_cons_zero, List.set_cons_succ])
 go_cut [68] (fun v68 wc => ∃ (kq : Nat) (x68_27 : Bool), v68 = .bool x68_27 ∧ Aside0 (laws_FnExactBadWordsIn.j1 kq a0 l1 t318 t319 t325 x68_27 = some r) ∧ Aside0 (kq ≤ kj9) ∧ Aside0 (Kd.R Kd.string 9 wc w.heap.size (fun k_ => some k_ ≠ (v327 : Value).ownBlock) v320 t318) ∧ Aside0 (Kd.R Kd.string 9 wc w.heap.size (fun k_ => some k_ ≠ (v320 : Value).ownBlock) v327 t325) ∧ Aside0 (Below w.heap.size w wc))
 case first =>
  skip
  {
 have H := HC28.out
 clear HC28
 by_cases c32 : t334 < 0
 {
 rw [if_pos c32] at H
 have c32b0 : decide (t334 < 0) = true := decide_eq_true c32
 clear c32
 (first | rw [c32b0] | (simp only [i64_w, i32_w]; rw [c32b0]) | skip)
 have H' := Aside0.mk H
 clear H
 go_wp2
 go_meet
 case rel => exact ⟨_, (true), s1_, H', ⟨by have := HJ9.out; first | omega | exact Nat.le_refl _⟩, ⟨by (with_reducible repeat (first | apply Kd.R_alloc | apply Kd.R_drewN | apply Kd.R_drew)); exact Kd.R_mono HO_6.out (fun _ hk => hk.2.1)⟩, ⟨by (with_reducible repeat (first | apply Kd.R_alloc | apply Kd.R_drewN | apply Kd.R_drew)); exact Kd.R_mono HO_9.out (fun _ hk => hk.1)⟩, ⟨by repeat (first | (with_reducible first | exact HB.out | apply below_alloc | apply pw_below_drewN | apply below_drew1) | exact HB.out)⟩⟩}
 {
 rw [if_neg c32] at H
 have c32b0 : decide (t334 < 0) = false := decide_eq_false c32
 clear c32
 (first | rw [c32b0] | (simp only [i64_w, i32_w]; rw [c32b0]) | skip)
 replace H := Option.bind_eq_some_iff.mp H
 obtain ⟨t336, A330, H⟩ := H
 replace H : (if t336 = true then (laws_FnExactBadWordsIn.j1 kj9 a0 l1 t318 t319 t325 (t326 != t319)) else (laws_FnExactBadWordsIn.j1 kj9 a0 l1 t318 t319 t325 true)) = some r := H
 have A33 := Aside0.mk A330
 clear A330
 by_cases c34 : t336 = true
 {
 subst c34
 have H1 : (laws_FnExactBadWordsIn.j1 kj9 a0 l1 t318 t319 t325 (t326 != t319)) = some r := by rw [if_pos rfl] at H; exact H
 clear H
 have H := H1
 clear H1
 have H' := Aside0.mk H
 clear H
 obtain ⟨Ao35, co35, eo35⟩ := Kd.R_slice HO_9.out
 subst eo35
 obtain ⟨Ao36, co36, eo36⟩ := Kd.R_slice HO_6.out
 subst eo36
 go_wp2_with (first | (go_at_call 17; (with_reducible refine (laws_eqStringS.calls kj9 _ _ t325 _ _ t318 true _ ?side1 ?side2 ?side3 ?side4 A33.out).mono ?_); (case side1 => repeat (first | exact (Kd.R_reads' HO_9.out).2.2 | (with_reducible refine Kd.C_alloc ?_ _) | (with_reducible refine Kd.C_drewN ?_ _) | (with_reducible refine Kd.C_drew ?_))); (case side2 => exact (Kd.R_reads' HO_9.out).2.1); (case side3 => repeat (first | exact (Kd.R_reads' HO_6.out).2.2 | (with_reducible refine Kd.C_alloc ?_ _) | (with_reducible refine Kd.C_drewN ?_ _) | (with_reducible refine Kd.C_drew ?_))); (case side4 => exact (Kd.R_reads' HO_6.out).2.1); rintro e w' ⟨rfl, ⟨nd, rfl⟩⟩))
 go_meet
 case rel => exact ⟨_, ((t326 != t319)), s1_, H', ⟨by have := HJ9.out; first | omega | exact Nat.le_refl _⟩, ⟨by (with_reducible repeat (first | apply Kd.R_alloc | apply Kd.R_drewN | apply Kd.R_drew)); exact Kd.R_mono HO_6.out (fun _ hk => hk.2.1)⟩, ⟨by (with_reducible repeat (first | apply Kd.R_alloc | apply Kd.R_drewN | apply Kd.R_drew)); exact Kd.R_mono HO_9.out (fun _ hk => hk.1)⟩, ⟨by repeat (first | (with_reducible first | exact HB.out | apply below_alloc | apply pw_below_drewN | apply below_drew1) | exact HB.out)⟩⟩}
 {
 replace c34 := Bool.eq_false_iff.mpr c34
 subst c34
 have H1 : (laws_FnExactBadWordsIn.j1 kj9 a0 l1 t318 t319 t325 true) = some r := by rw [if_neg (show ¬ (false = true) by decide)] at H; exact H
 clear H
 have H := H1
 clear H1
 have H' := Aside0.mk H
 clear H
 obtain ⟨Ao37, co37, eo37⟩ := Kd.R_slice HO_9.out
 subst eo37
 obtain ⟨Ao38, co38, eo38⟩ := Kd.R_slice HO_6.out
 subst eo38
 go_wp2_with (first | (go_at_call 17; (with_reducible refine (laws_eqStringS.calls kj9 _ _ t325 _ _ t318 false _ ?side1 ?side2 ?side3 ?side4 A33.out).mono ?_); (case side1 => repeat (first | exact (Kd.R_reads' HO_9.out).2.2 | (with_reducible refine Kd.C_alloc ?_ _) | (with_reducible refine Kd.C_drewN ?_ _) | (with_reducible refine Kd.C_drew ?_))); (case side2 => exact (Kd.R_reads' HO_9.out).2.1); (case side3 => repeat (first | exact (Kd.R_reads' HO_6.out).2.2 | (with_reducible refine Kd.C_alloc ?_ _) | (with_reducible refine Kd.C_drewN ?_ _) | (with_reducible refine Kd.C_drew ?_))); (case side4 => exact (Kd.R_reads' HO_6.out).2.1); rintro e w' ⟨rfl, ⟨nd, rfl⟩⟩))
 go_meet
 case rel => exact ⟨_, (true), s1_, H', ⟨by have := HJ9.out; first | omega | exact Nat.le_refl _⟩, ⟨by (with_reducible repeat (first | apply Kd.R_alloc | apply Kd.R_drewN | apply Kd.R_drew)); exact Kd.R_mono HO_6.out (fun _ hk => hk.2.1)⟩, ⟨by (with_reducible repeat (first | apply Kd.R_alloc | apply Kd.R_drewN | apply Kd.R_drew)); exact Kd.R_mono HO_9.out (fun _ hk => hk.1)⟩, ⟨by repeat (first | (with_reducible first | exact HB.out | apply below_alloc | apply pw_below_drewN | apply below_drew1) | exact HB.out)⟩⟩}}}
 case rest =>
  skip
  {
 clear HC28
 try clear c1
 try clear c2
 try clear p2
 try clear c3
 try clear c3b0
 try clear c3b1
 try clear c4
 try clear c5
 try clear c5b0
 try clear c12
 try clear c13
 try clear c15
 try clear c17
 try clear c18
 try clear c23
 try clear c26
 try clear c32
 try clear c32b0
 try clear c34
 try clear p2
 obtain ⟨kq, x68_27, rfl, HA, HJ27, HO_6, HO_9, HB⟩ := hcut
 cases kq with
 | zero => exact absurd HA.out (by simp [laws_FnExactBadWordsIn.j1])
 | succ kj27 =>
  skip
  {
 have H := HA.out
 clear HA
 simp only [laws_FnExactBadWordsIn.j1] at H
 by_cases c39 : x68_27 = true
 {
 subst c39
 have H1 : (some false) = some r := by rw [if_pos rfl] at H; exact H
 clear H
 have H := H1
 clear H1
 obtain rfl := Option.some.inj H
 go_wp2
 go_ret
 exact ⟨by first | rfl | (simp [errW_none, errW_some] <;> rfl) | (simp [*, errW_none, errW_some] <;> rfl), by repeat (first | (with_reducible first | exact HB.out | apply below_alloc | apply pw_below_drewN | apply below_drew1) | exact HB.out)⟩}
 {
 replace c39 := Bool.eq_false_iff.mpr c39
 subst c39
 have H1 : ((laws_markStringS.f kj27 t325 1).bind fun bt337 => ((laws_heldStringS.f kj27 bt337.2 1).bind fun t339 => (if t339 < 0 then (some false) else (if t339 = bt337.1 then ((laws_toStringS.f kj27 l1).bind fun t340 => ((impl_BadWordsIn.f kj27 a0 t340).bind fun bt343 => ((laws_eqStringS.f kj27 bt343.1 t318).bind fun t347 => (if t347 = true then (laws_FnExactBadWordsIn.j2 kj27 bt337.2 bt337.1 (bt343.2 != t319)) else (laws_FnExactBadWordsIn.j2 kj27 bt337.2 bt337.1 true))))) else (some false))))) = some r := by rw [if_neg (show ¬ (false = true) by decide)] at H; exact H
 clear H
 have H := H1
 clear H1
 replace H := Option.bind_eq_some_iff.mp H
 obtain ⟨⟨t337, t338⟩, A400, H⟩ := H
 replace H : ((laws_heldStringS.f kj27 t338 1).bind fun t339 => (if t339 < 0 then (some false) else (if t339 = t337 then ((laws_toStringS.f kj27 l1).bind fun t340 => ((impl_BadWordsIn.f kj27 a0 t340).bind fun bt343 => ((laws_eqStringS.f kj27 bt343.1 t318).bind fun t347 => (if t347 = true then (laws_FnExactBadWordsIn.j2 kj27 t338 t337 (bt343.2 != t319)) else (laws_FnExactBadWordsIn.j2 kj27 t338 t337 true))))) else (some false)))) = some r := H
 have A40 := Aside0.mk A400
 clear A400
 replace H := Option.bind_eq_some_iff.mp H
 obtain ⟨t339, A410, H⟩ := H
 replace H : (if t339 < 0 then (some false) else (if t339 = t337 then ((laws_toStringS.f kj27 l1).bind fun t340 => ((impl_BadWordsIn.f kj27 a0 t340).bind fun bt343 => ((laws_eqStringS.f kj27 bt343.1 t318).bind fun t347 => (if t347 = true then (laws_FnExactBadWordsIn.j2 kj27 t338 t337 (bt343.2 != t319)) else (laws_FnExactBadWordsIn.j2 kj27 t338 t337 true))))) else (some false))) = some r := H
 have A41 := Aside0.mk A410
 clear A410
 by_cases c42 : t339 < 0
 {
 rw [if_pos c42] at H
 have c42b0 : decide (t339 < 0) = true := decide_eq_true c42
 clear c42
 obtain rfl := Option.some.inj H
 obtain ⟨Ao43, co43, eo43⟩ := Kd.R_slice HO_9.out
 subst eo43
 go_wp2_with (first | ((with_reducible refine gate_callee (f := 54) rfl ?_); refine goesL_ (some 71) rfl rfl Try.func54 s2_ rfl #[.slice Ao43 t325.length co43, .int .i64 1] rfl s3_ ?_; (with_reducible refine (laws_markStringS.calls kj27 (fun k_ => some k_ = (.slice Ao43 t325.length co43 : Value).ownBlock) (.slice Ao43 t325.length co43) t325 1 t337 t338 w _ ?side1 ?side2 A40.out).mono ?_); (case side1 => repeat (first | (with_reducible first | exact HB.out | apply below_alloc | apply pw_below_drewN | apply below_drew1) | exact HB.out)); (case side2 => exact Kd.R_tight rfl HO_9.out); rintro e w44 ⟨rfl, hy0, hb, hkp⟩; refine ⟨_, rfl, ?_⟩; have n0_ := Aside0.mk (Kd.R_mono (ok' := fun k_ => some k_ ≠ (.slice Ao43 t325.length co43 : Value).ownBlock) (Kd.R_keptB (HO_6.out) hkp (fun k_ hk_ hs_ => (hk_) hs_)) (fun k_ hk_ => hk_.1)); have n1_ := Aside0.mk (Kd.R_reok rfl hy0 (fun k_ e_ => HO_9.out.1 k_ e_)); have n2_ := Aside0.mk (hb); clear HO_6; clear HO_9; clear HB; have HO_6 := n0_; have HO_9 := n1_; have HB := n2_; clear n0_ n1_ n2_; (try clear hb); (try clear hkp); (try clear hy0)) | ((with_reducible refine gate_callee (f := 55) rfl ?_); refine goesL_ (some 74) rfl rfl Try.func55 s2_ rfl #[.slice Ao43 t338.length co43, .int .i64 1] rfl (by (try simp only [List.map_toArray, List.map_cons, List.map_nil]); first | done | (rw [show t338.length = t325.length from (Kd.R_reads' HO_9.out).1.symm] <;> rfl) | rfl | (simp only [List.length_drop, List.length_take]; rfl)) ?_; (with_reducible refine (laws_heldStringS.calls kj27 _ _ t338 1 t339 _ ?side1 ?side2 A41.out).mono ?_); (case side1 => repeat (first | exact (Kd.R_reads' HO_9.out).2.2 | (with_reducible refine Kd.C_alloc ?_ _) | (with_reducible refine Kd.C_drewN ?_ _) | (with_reducible refine Kd.C_drew ?_))); (case side2 => rw [show t338.length = t325.length from (Kd.R_reads' HO_9.out).1.symm]; exact (Kd.R_reads' HO_9.out).2.1); rintro e w45 ⟨rfl, hb⟩; refine ⟨_, rfl, ?_⟩; have n0_ := Aside0.mk (Kd.R_below (b2_ HO_6.out) hb); have n1_ := Aside0.mk (Kd.R_below (b2_ HO_9.out) hb); have n2_ := Aside0.mk (below_step (by repeat (first | (with_reducible first | exact HB.out | apply below_alloc | apply pw_below_drewN | apply below_drew1) | exact HB.out)) hb); clear HO_6; clear HO_9; clear HB; have HO_6 := n0_; have HO_9 := n1_; have HB := n2_; clear n0_ n1_ n2_; (try clear hb); (try clear hb2); (try clear hk); (try clear hi)))
 go_ret
 exact ⟨by first | rfl | (simp [errW_none, errW_some] <;> rfl) | (simp [*, errW_none, errW_some] <;> rfl), by repeat (first | (with_reducible first | exact HB.out | apply below_alloc | apply pw_below_drewN | apply below_drew1) | exact HB.out)⟩}
 {
 rw [if_neg c42] at H
 have c42b0 : decide (t339 < 0) = false := decide_eq_false c42
 clear c42
 by_cases c46 : t339 = t337
 {
 rw [if_pos c46] at H
 have c46b0 : (t339 == t337) = true := beq_iff_eq.mpr c46
 have c46b1 : (t339 != t337) = false := bne_eq_false_iff_eq.mpr c46
 clear c46
 replace H := Option.bind_eq_some_iff.mp H
 obtain ⟨t340, A470, H⟩ := H
 replace H : ((impl_BadWordsIn.f kj27 a0 t340).bind fun bt343 => ((laws_eqStringS.f kj27 bt343.1 t318).bind fun t347 => (if t347 = true then (laws_FnExactBadWordsIn.j2 kj27 t338 t337 (bt343.2 != t319)) else (laws_FnExactBadWordsIn.j2 kj27 t338 t337 true)))) = some r := H
 have A47 := Aside0.mk A470
 clear A470
 replace H := Option.bind_eq_some_iff.mp H
 obtain ⟨⟨t343, t344⟩, A480, H⟩ := H
 replace H : ((laws_eqStringS.f kj27 t343 t318).bind fun t347 => (if t347 = true then (laws_FnExactBadWordsIn.j2 kj27 t338 t337 (t344 != t319)) else (laws_FnExactBadWordsIn.j2 kj27 t338 t337 true))) = some r := H
 have A48 := Aside0.mk A480
 clear A480
 have HC49 := Aside0.mk H
 clear H
 obtain ⟨Ao50, co50, eo50⟩ := Kd.R_slice HO_9.out
 subst eo50
 go_upto_region 27 with (first | ((with_reducible refine gate_callee (f := 54) rfl ?_); refine goesL_ (some 71) rfl rfl Try.func54 s2_ rfl #[.slice Ao50 t325.length co50, .int .i64 1] rfl s3_ ?_; (with_reducible refine (laws_markStringS.calls kj27 (fun k_ => some k_ = (.slice Ao50 t325.length co50 : Value).ownBlock) (.slice Ao50 t325.length co50) t325 1 t337 t338 w _ ?side1 ?side2 A40.out).mono ?_); (case side1 => repeat (first | (with_reducible first | exact HB.out | apply below_alloc | apply pw_below_drewN | apply below_drew1) | exact HB.out)); (case side2 => exact Kd.R_tight rfl HO_9.out); rintro e w51 ⟨rfl, hy0, hb, hkp⟩; refine ⟨_, rfl, ?_⟩; have n0_ := Aside0.mk (Kd.R_mono (ok' := fun k_ => some k_ ≠ (.slice Ao50 t325.length co50 : Value).ownBlock) (Kd.R_keptB (HO_6.out) hkp (fun k_ hk_ hs_ => (hk_) hs_)) (fun k_ hk_ => hk_.1)); have n1_ := Aside0.mk (Kd.R_reok rfl hy0 (fun k_ e_ => HO_9.out.1 k_ e_)); have n2_ := Aside0.mk (hb); clear HO_6; clear HO_9; clear HB; have HO_6 := n0_; have HO_9 := n1_; have HB := n2_; clear n0_ n1_ n2_; (try clear hb); (try clear hkp); (try clear hy0)) | ((with_reducible refine gate_callee (f := 55) rfl ?_); refine goesL_ (some 74) rfl rfl Try.func55 s2_ rfl #[.slice Ao50 t338.length co50, .int .i64 1] rfl (by (try simp only [List.map_toArray, List.map_cons, List.map_nil]); first | done | (rw [show t338.length = t325.length from (Kd.R_reads' HO_9.out).1.symm] <;> rfl) | rfl | (simp only [List.length_drop, List.length_take]; rfl)) ?_; (with_reducible refine (laws_heldStringS.calls kj27 _ _ t338 1 t339 _ ?side1 ?side2 A41.out).mono ?_); (case side1 => repeat (first | exact (Kd.R_reads' HO_9.out).2.2 | (with_reducible refine Kd.C_alloc ?_ _) | (with_reducible refine Kd.C_drewN ?_ _) | (with_reducible refine Kd.C_drew ?_))); (case side2 => rw [show t338.length = t325.length from (Kd.R_reads' HO_9.out).1.symm]; exact (Kd.R_reads' HO_9.out).2.1); rintro e w52 ⟨rfl, hb⟩; refine ⟨_, rfl, ?_⟩; have n0_ := Aside0.mk (Kd.R_below (b2_ HO_6.out) hb); have n1_ := Aside0.mk (Kd.R_below (b2_ HO_9.out) hb); have n2_ := Aside0.mk (below_step (by repeat (first | (with_reducible first | exact HB.out | apply below_alloc | apply pw_below_drewN | apply below_drew1) | exact HB.out)) hb); clear HO_6; clear HO_9; clear HB; have HO_6 := n0_; have HO_9 := n1_; have HB := n2_; clear n0_ n1_ n2_; (try clear hb); (try clear hb2); (try clear hk); (try clear hi)) | ((with_reducible refine gate_callee (f := 15) rfl ?_); refine goesL_ (some 83) rfl rfl Try.func15 s2_ rfl #[.slice A1 l1.length c1] rfl s3_ ?_; (with_reducible refine (laws_toStringS.calls kj27 _ _ l1 t340 _ ?side1 ?side2 A47.out).mono ?_); (case side1 => repeat (first | exact (Kd.C_below HR1.out HB.out) | (with_reducible refine Kd.C_alloc ?_ _) | (with_reducible refine Kd.C_drewN ?_ _) | (with_reducible refine Kd.C_drew ?_))); (case side2 => exact HC1.out); rintro e w53 ⟨v341, rfl, ho0, hb⟩; refine ⟨_, rfl, ?_⟩; have n0_ := Aside0.mk (Kd.R_elder' (b2_ HO_6.out) (Kd.R_base ho0) hb); have n1_ := Aside0.mk (Kd.R_elder' (b2_ HO_9.out) (Kd.R_base ho0) hb); have n2_ := Aside0.mk (Kd.R_lower (Kd.R_new' (Kd.R_new' ho0 (Kd.R_lt (b2_ HO_6.out))) (Kd.R_lt (b2_ HO_9.out))) (below_size (by repeat (first | (with_reducible first | exact HB.out | apply below_alloc | apply pw_below_drewN | apply below_drew1) | exact HB.out)))); have n3_ := Aside0.mk (below_step (by repeat (first | (with_reducible first | exact HB.out | apply below_alloc | apply pw_below_drewN | apply below_drew1) | exact HB.out)) hb); clear HO_6; clear HO_9; clear HB; have HO_6 := n0_; have HO_9 := n1_; have HO342 := n2_; have HB := n3_; clear n0_ n1_ n2_ n3_; (try clear hb); (try clear hb2); (try clear hk); (try clear hi); (try clear ho0); obtain ⟨Ao54, co54, eo54⟩ := Kd.R_slice HO342.out; subst eo54) | ((with_reducible refine gate_callee (f := 47) rfl ?_); refine goesL_ (some 84) rfl rfl Try.func47 s2_ rfl #[.string a0, .slice Ao54 t340.length co54] rfl s3_ ?_; (with_reducible refine (impl_BadWordsIn.calls kj27 a0 _ _ t340 t343 t344 _ ?side1 ?side2 A48.out).mono ?_); (case side1 => repeat (first | exact (Kd.R_reads' HO342.out).2.2 | (with_reducible refine Kd.C_alloc ?_ _) | (with_reducible refine Kd.C_drewN ?_ _) | (with_reducible refine Kd.C_drew ?_))); (case side2 => exact (Kd.R_reads' HO342.out).2.1); rintro e w55 ⟨v345, rfl, ho0, hb⟩; refine ⟨_, rfl, ?_⟩; have n0_ := Aside0.mk (Kd.R_elder' (b2_ HO_6.out) (Kd.R_base ho0) hb); have n1_ := Aside0.mk (Kd.R_elder' (b2_ HO_9.out) (Kd.R_base ho0) hb); have n2_ := Aside0.mk (Kd.R_elder' (b2_ HO342.out) (Kd.R_base ho0) hb); have n3_ := Aside0.mk (Kd.R_lower (Kd.R_new' (Kd.R_new' (Kd.R_new' ho0 (Kd.R_lt (b2_ HO_6.out))) (Kd.R_lt (b2_ HO_9.out))) (Kd.R_lt (b2_ HO342.out))) (below_size (by repeat (first | (with_reducible first | exact HB.out | apply below_alloc | apply pw_below_drewN | apply below_drew1) | exact HB.out)))); have n4_ := Aside0.mk (below_step (by repeat (first | (with_reducible first | exact HB.out | apply below_alloc | apply pw_below_drewN | apply below_drew1) | exact HB.out)) hb); clear HO_6; clear HO_9; clear HO342; clear HB; have HO_6 := n0_; have HO_9 := n1_; have HO342 := n2_; have HO346 := n3_; have HB := n4_; clear n0_ n1_ n2_ n3_ n4_; (try clear hb); (try clear hb2); (try clear hk); (try clear hi); (try clear ho0)))
 (try simp only [Act.put, List.setIfInBounds_toArray, List.set_cons_zero, List.set_cons_succ])
 go_cut [95] (fun v95 wc => ∃ (kq : Nat) (x95_48 : Bool), v95 = .bool x95_48 ∧ Aside0 (laws_FnExactBadWordsIn.j2 kq t338 t337 x95_48 = some r) ∧ Aside0 (kq ≤ kj27) ∧ Aside0 (Kd.R Kd.string 9 wc w.heap.size (fun _ => True) (.slice Ao50 t325.length co50) t338) ∧ Aside0 (Below w.heap.size w wc))
 case first =>
  skip
  {
 have H := HC49.out
 clear HC49
 replace H := Option.bind_eq_some_iff.mp H
 obtain ⟨t347, A560, H⟩ := H
 replace H : (if t347 = true then (laws_FnExactBadWordsIn.j2 kj27 t338 t337 (t344 != t319)) else (laws_FnExactBadWordsIn.j2 kj27 t338 t337 true)) = some r := H
 have A56 := Aside0.mk A560
 clear A560
 by_cases c57 : t347 = true
 {
 subst c57
 have H1 : (laws_FnExactBadWordsIn.j2 kj27 t338 t337 (t344 != t319)) = some r := by rw [if_pos rfl] at H; exact H
 clear H
 have H := H1
 clear H1
 have H' := Aside0.mk H
 clear H
 obtain ⟨Ao58, co58, eo58⟩ := Kd.R_slice HO346.out
 subst eo58
 obtain ⟨Ao59, co59, eo59⟩ := Kd.R_slice HO_6.out
 subst eo59
 go_wp2_with (first | ((with_reducible refine gate_callee (f := 17) rfl ?_); refine goesL_ (some 89) rfl rfl Try.func17 s2_ rfl #[.slice Ao58 t343.length co58, .slice Ao59 t318.length co59] rfl s3_ ?_; (with_reducible refine (laws_eqStringS.calls kj27 _ _ t343 _ _ t318 true _ ?side1 ?side2 ?side3 ?side4 A56.out).mono ?_); (case side1 => repeat (first | exact (Kd.R_reads' HO346.out).2.2 | (with_reducible refine Kd.C_alloc ?_ _) | (with_reducible refine Kd.C_drewN ?_ _) | (with_reducible refine Kd.C_drew ?_))); (case side2 => exact (Kd.R_reads' HO346.out).2.1); (case side3 => repeat (first | exact (Kd.R_reads' HO_6.out).2.2 | (with_reducible refine Kd.C_alloc ?_ _) | (with_reducible refine Kd.C_drewN ?_ _) | (with_reducible refine Kd.C_drew ?_))); (case side4 => exact (Kd.R_reads' HO_6.out).2.1); rintro e w' ⟨rfl, ⟨nd, rfl⟩⟩; refine ⟨_, rfl, ?_⟩))
 go_meet
 case rel => exact ⟨_, ((t344 != t319)), s1_, H', ⟨by have := HJ9.out; have := HJ27.out; first | omega | exact Nat.le_refl _⟩, ⟨by (with_reducible repeat (first | apply Kd.R_alloc | apply Kd.R_drewN | apply Kd.R_drew)); exact Kd.R_mono HO_9.out (fun _ hk => trivial)⟩, ⟨by repeat (first | (with_reducible first | exact HB.out | apply below_alloc | apply pw_below_drewN | apply below_drew1) | exact HB.out)⟩⟩}
 {
 replace c57 := Bool.eq_false_iff.mpr c57
 subst c57
 have H1 : (laws_FnExactBadWordsIn.j2 kj27 t338 t337 true) = some r := by rw [if_neg (show ¬ (false = true) by decide)] at H; exact H
 clear H
 have H := H1
 clear H1
 have H' := Aside0.mk H
 clear H
 obtain ⟨Ao60, co60, eo60⟩ := Kd.R_slice HO346.out
 subst eo60
 obtain ⟨Ao61, co61, eo61⟩ := Kd.R_slice HO_6.out
 subst eo61
 go_wp2_with (first | ((with_reducible refine gate_callee (f := 17) rfl ?_); refine goesL_ (some 89) rfl rfl Try.func17 s2_ rfl #[.slice Ao60 t343.length co60, .slice Ao61 t318.length co61] rfl s3_ ?_; (with_reducible refine (laws_eqStringS.calls kj27 _ _ t343 _ _ t318 false _ ?side1 ?side2 ?side3 ?side4 A56.out).mono ?_); (case side1 => repeat (first | exact (Kd.R_reads' HO346.out).2.2 | (with_reducible refine Kd.C_alloc ?_ _) | (with_reducible refine Kd.C_drewN ?_ _) | (with_reducible refine Kd.C_drew ?_))); (case side2 => exact (Kd.R_reads' HO346.out).2.1); (case side3 => repeat (first | exact (Kd.R_reads' HO_6.out).2.2 | (with_reducible refine Kd.C_alloc ?_ _) | (with_reducible refine Kd.C_drewN ?_ _) | (with_reducible refine Kd.C_drew ?_))); (case side4 => exact (Kd.R_reads' HO_6.out).2.1); rintro e w' ⟨rfl, ⟨nd, rfl⟩⟩; refine ⟨_, rfl, ?_⟩))
 go_meet
 case rel => exact ⟨_, (true), s1_, H', ⟨by have := HJ9.out; have := HJ27.out; first | omega | exact Nat.le_refl _⟩, ⟨by (with_reducible repeat (first | apply Kd.R_alloc | apply Kd.R_drewN | apply Kd.R_drew)); exact Kd.R_mono HO_9.out (fun _ hk => trivial)⟩, ⟨by repeat (first | (with_reducible first | exact HB.out | apply below_alloc | apply pw_below_drewN | apply below_drew1) | exact HB.out)⟩⟩}}
 case rest =>
  skip
  {
 clear HC49
 try clear c1
 try clear c2
 try clear p2
 try clear c3
 try clear c3b0
 try clear c3b1
 try clear c4
 try clear c5
 try clear c5b0
 try clear c12
 try clear c13
 try clear c15
 try clear c17
 try clear c18
 try clear c23
 try clear c26
 try clear c32
 try clear c32b0
 try clear c34
 try clear c39
 try clear c42
 try clear c42b0
 try clear c46
 try clear c46b0
 try clear c46b1
 try clear c47
 try clear c53
 try clear c54
 try clear c55
 try clear c57
 try clear p2
 obtain ⟨kq, x95_48, rfl, HA, HJ48, HO_9, HB⟩ := hcut
 have hl9_48 := (Kd.R_reads' HO_9.out).1
 rw [hl9_48] at HO_9
 (try simp only [hl9_48])
 cases kq with
 | zero => exact absurd HA.out (by simp [laws_FnExactBadWordsIn.j2])
 | succ kj48 =>
  skip
  {
 have H := HA.out
 clear HA
 simp only [laws_FnExactBadWordsIn.j2] at H
 by_cases c62 : x95_48 = true
 {
 subst c62
 have H1 : (some false) = some r := by rw [if_pos rfl] at H; exact H
 clear H
 have H := H1
 clear H1
 obtain rfl := Option.some.inj H
 go_wp2
 go_ret
 exact ⟨by first | rfl | (simp [errW_none, errW_some] <;> rfl) | (simp [*, errW_none, errW_some] <;> rfl), by repeat (first | (with_reducible first | exact HB.out | apply below_alloc | apply pw_below_drewN | apply below_drew1) | exact HB.out)⟩}
 {
 replace c62 := Bool.eq_false_iff.mpr c62
 subst c62
 have H1 : ((laws_heldStringS.f kj48 t338 1).bind fun t348 => (if t348 < 0 then (some false) else (if t348 = t337 then (some true) else (some false)))) = some r := by rw [if_neg (show ¬ (false = true) by decide)] at H; exact H
 clear H
 have H := H1
 clear H1
 replace H := Option.bind_eq_some_iff.mp H
 obtain ⟨t348, A630, H⟩ := H
 replace H : (if t348 < 0 then (some false) else (if t348 = t337 then (some true) else (some false))) = some r := H
 have A63 := Aside0.mk A630
 clear A630
 by_cases c64 : t348 < 0
 {
 rw [if_pos c64] at H
 have c64b0 : decide (t348 < 0) = true := decide_eq_true c64
 clear c64
 obtain rfl := Option.some.inj H
 go_wp2_with (first | ((with_reducible refine gate_callee (f := 55) rfl ?_); refine goesL_ (some 98) rfl rfl Try.func55 s2_ rfl #[.slice Ao50 t338.length co50, .int .i64 1] rfl s3_ ?_; (with_reducible refine (laws_heldStringS.calls kj48 _ _ t338 1 t348 _ ?side1 ?side2 A63.out).mono ?_); (case side1 => repeat (first | exact (Kd.R_reads' HO_9.out).2.2 | (with_reducible refine Kd.C_alloc ?_ _) | (with_reducible refine Kd.C_drewN ?_ _) | (with_reducible refine Kd.C_drew ?_))); (case side2 => exact (Kd.R_reads' HO_9.out).2.1); rintro e w65 ⟨rfl, hb⟩; refine ⟨_, rfl, ?_⟩; have n0_ := Aside0.mk (Kd.R_below (b2_ HO_9.out) hb); have n1_ := Aside0.mk (below_step (by repeat (first | (with_reducible first | exact HB.out | apply below_alloc | apply pw_below_drewN | apply below_drew1) | exact HB.out)) hb); clear HO_9; clear HB; have HO_9 := n0_; have HB := n1_; clear n0_ n1_; (try clear hb); (try clear hb2); (try clear hk); (try clear hi)))
 go_ret
 exact ⟨by first | rfl | (simp [errW_none, errW_some] <;> rfl) | (simp [*, errW_none, errW_some] <;> rfl), by repeat (first | (with_reducible first | exact HB.out | apply below_alloc | apply pw_below_drewN | apply below_drew1) | exact HB.out)⟩}
 {
 rw [if_neg c64] at H
 have c64b0 : decide (t348 < 0) = false := decide_eq_false c64
 clear c64
 by_cases c66 : t348 = t337
 {
 rw [if_pos c66] at H
 have c66b0 : (t348 == t337) = true := beq_iff_eq.mpr c66
 have c66b1 : (t348 != t337) = false := bne_eq_false_iff_eq.mpr c66
 clear c66
 obtain rfl := Option.some.inj H
 go_wp2_with (first | ((with_reducible refine gate_callee (f := 55) rfl ?_); refine goesL_ (some 98) rfl rfl Try.func55 s2_ rfl #[.slice Ao50 t338.length co50, .int .i64 1] rfl s3_ ?_; (with_reducible refine (laws_heldStringS.calls kj48 _ _ t338 1 t348 _ ?side1 ?side2 A63.out).mono ?_); (case side1 => repeat (first | exact (Kd.R_reads' HO_9.out).2.2 | (with_reducible refine Kd.C_alloc ?_ _) | (with_reducible refine Kd.C_drewN ?_ _) | (with_reducible refine Kd.C_drew ?_))); (case side2 => exact (Kd.R_reads' HO_9.out).2.1); rintro e w67 ⟨rfl, hb⟩; refine ⟨_, rfl, ?_⟩; have n0_ := Aside0.mk (Kd.R_below (b2_ HO_9.out) hb); have n1_ := Aside0.mk (below_step (by repeat (first | (with_reducible first | exact HB.out | apply below_alloc | apply pw_below_drewN | apply below_drew1) | exact HB.out)) hb); clear HO_9; clear HB; have HO_9 := n0_; have HB := n1_; clear n0_ n1_; (try clear hb); (try clear hb2); (try clear hk); (try clear hi)))
 go_ret
 exact ⟨by first | rfl | (simp [errW_none, errW_some] <;> rfl) | (simp [*, errW_none, errW_some] <;> rfl), by repeat (first | (with_reducible first | exact HB.out | apply below_alloc | apply pw_below_drewN | apply below_drew1) | exact HB.out)⟩}
 {
 rw [if_neg c66] at H
 have c66b0 : (t348 == t337) = false := beq_eq_false_iff_ne.mpr c66
 have c66b1 : (t348 != t337) = true := bne_iff_ne.mpr c66
 obtain rfl := Option.some.inj H
 go_wp2_with (first | ((with_reducible refine gate_callee (f := 55) rfl ?_); refine goesL_ (some 98) rfl rfl Try.func55 s2_ rfl #[.slice Ao50 t338.length co50, .int .i64 1] rfl s3_ ?_; (with_reducible refine (laws_heldStringS.calls kj48 _ _ t338 1 t348 _ ?side1 ?side2 A63.out).mono ?_); (case side1 => repeat (first | exact (Kd.R_reads' HO_9.out).2.2 | (with_reducible refine Kd.C_alloc ?_ _) | (with_reducible refine Kd.C_drewN ?_ _) | (with_reducible refine Kd.C_drew ?_))); (case side2 => exact (Kd.R_reads' HO_9.out).2.1); rintro e w68 ⟨rfl, hb⟩; refine ⟨_, rfl, ?_⟩; have n0_ := Aside0.mk (Kd.R_below (b2_ HO_9.out) hb); have n1_ := Aside0.mk (below_step (by repeat (first | (with_reducible first | exact HB.out | apply below_alloc | apply pw_below_drewN | apply below_drew1) | exact HB.out)) hb); clear HO_9; clear HB; have HO_9 := n0_; have HB := n1_; clear n0_ n1_; (try clear hb); (try clear hb2); (try clear hk); (try clear hi)))
 go_ret
 exact ⟨by first | rfl | (simp [errW_none, errW_some] <;> rfl) | (simp [*, errW_none, errW_some] <;> rfl), by repeat (first | (with_reducible first | exact HB.out | apply below_alloc | apply pw_below_drewN | apply below_drew1) | exact HB.out)⟩}}}}}}
 {
 rw [if_neg c46] at H
 have c46b0 : (t339 == t337) = false := beq_eq_false_iff_ne.mpr c46
 have c46b1 : (t339 != t337) = true := bne_iff_ne.mpr c46
 obtain rfl := Option.some.inj H
 obtain ⟨Ao69, co69, eo69⟩ := Kd.R_slice HO_9.out
 subst eo69
 go_wp2_with (first | ((with_reducible refine gate_callee (f := 54) rfl ?_); refine goesL_ (some 71) rfl rfl Try.func54 s2_ rfl #[.slice Ao69 t325.length co69, .int .i64 1] rfl s3_ ?_; (with_reducible refine (laws_markStringS.calls kj27 (fun k_ => some k_ = (.slice Ao69 t325.length co69 : Value).ownBlock) (.slice Ao69 t325.length co69) t325 1 t337 t338 w _ ?side1 ?side2 A40.out).mono ?_); (case side1 => repeat (first | (with_reducible first | exact HB.out | apply below_alloc | apply pw_below_drewN | apply below_drew1) | exact HB.out)); (case side2 => exact Kd.R_tight rfl HO_9.out); rintro e w70 ⟨rfl, hy0, hb, hkp⟩; refine ⟨_, rfl, ?_⟩; have n0_ := Aside0.mk (Kd.R_mono (ok' := fun k_ => some k_ ≠ (.slice Ao69 t325.length co69 : Value).ownBlock) (Kd.R_keptB (HO_6.out) hkp (fun k_ hk_ hs_ => (hk_) hs_)) (fun k_ hk_ => hk_.1)); have n1_ := Aside0.mk (Kd.R_reok rfl hy0 (fun k_ e_ => HO_9.out.1 k_ e_)); have n2_ := Aside0.mk (hb); clear HO_6; clear HO_9; clear HB; have HO_6 := n0_; have HO_9 := n1_; have HB := n2_; clear n0_ n1_ n2_; (try clear hb); (try clear hkp); (try clear hy0)) | ((with_reducible refine gate_callee (f := 55) rfl ?_); refine goesL_ (some 74) rfl rfl Try.func55 s2_ rfl #[.slice Ao69 t338.length co69, .int .i64 1] rfl (by (try simp only [List.map_toArray, List.map_cons, List.map_nil]); first | done | (rw [show t338.length = t325.length from (Kd.R_reads' HO_9.out).1.symm] <;> rfl) | rfl | (simp only [List.length_drop, List.length_take]; rfl)) ?_; (with_reducible refine (laws_heldStringS.calls kj27 _ _ t338 1 t339 _ ?side1 ?side2 A41.out).mono ?_); (case side1 => repeat (first | exact (Kd.R_reads' HO_9.out).2.2 | (with_reducible refine Kd.C_alloc ?_ _) | (with_reducible refine Kd.C_drewN ?_ _) | (with_reducible refine Kd.C_drew ?_))); (case side2 => rw [show t338.length = t325.length from (Kd.R_reads' HO_9.out).1.symm]; exact (Kd.R_reads' HO_9.out).2.1); rintro e w71 ⟨rfl, hb⟩; refine ⟨_, rfl, ?_⟩; have n0_ := Aside0.mk (Kd.R_below (b2_ HO_6.out) hb); have n1_ := Aside0.mk (Kd.R_below (b2_ HO_9.out) hb); have n2_ := Aside0.mk (below_step (by repeat (first | (with_reducible first | exact HB.out | apply below_alloc | apply pw_below_drewN | apply below_drew1) | exact HB.out)) hb); clear HO_6; clear HO_9; clear HB; have HO_6 := n0_; have HO_9 := n1_; have HB := n2_; clear n0_ n1_ n2_; (try clear hb); (try clear hb2); (try clear hk); (try clear hi)))
 go_ret
 exact ⟨by first | rfl | (simp [errW_none, errW_some] <;> rfl) | (simp [*, errW_none, errW_some] <;> rfl), by repeat (first | (with_reducible first | exact HB.out | apply below_alloc | apply pw_below_drewN | apply below_drew1) | exact HB.out)⟩}}}}}}
 {
 replace c26 := Bool.eq_false_iff.mpr c26
 subst c26
 have H1 : (some false) = some r := by rw [if_neg (show ¬ (false = true) by decide)] at H; exact H
 clear H
 have H := H1
 clear H1
 obtain rfl := Option.some.inj H
 go_wp2_with (first | ((with_reducible refine gate_callee (f := 15) rfl ?_); refine goesL_ (some 50) rfl rfl Try.func15 s2_ rfl #[.slice A1 l1.length c1] rfl s3_ ?_; (with_reducible refine (laws_toStringS.calls kj9 _ _ l1 t330 _ ?side1 ?side2 A24.out).mono ?_); (case side1 => repeat (first | exact (Kd.C_below HR1.out HB.out) | (with_reducible refine Kd.C_alloc ?_ _) | (with_reducible refine Kd.C_drewN ?_ _) | (with_reducible refine Kd.C_drew ?_))); (case side2 => exact HC1.out); rintro e w72 ⟨v331, rfl, ho0, hb⟩; refine ⟨_, rfl, ?_⟩; have n0_ := Aside0.mk (Kd.R_elder' (b2_ HO_6.out) (Kd.R_base ho0) hb); have n1_ := Aside0.mk (Kd.R_elder' (b2_ HO_8.out) (Kd.R_base ho0) hb); have n2_ := Aside0.mk (Kd.R_elder' (b2_ HO_9.out) (Kd.R_base ho0) hb); have n3_ := Aside0.mk (Kd.R_lower (Kd.R_new' (Kd.R_new' (Kd.R_new' ho0 (Kd.R_lt (b2_ HO_6.out))) (Kd.R_lt (b2_ HO_8.out))) (Kd.R_lt (b2_ HO_9.out))) (below_size (by repeat (first | (with_reducible first | exact HB.out | apply below_alloc | apply pw_below_drewN | apply below_drew1) | exact HB.out)))); have n4_ := Aside0.mk (below_step (by repeat (first | (with_reducible first | exact HB.out | apply below_alloc | apply pw_below_drewN | apply below_drew1) | exact HB.out)) hb); clear HO_6; clear HO_8; clear HO_9; clear HB; have HO_6 := n0_; have HO_8 := n1_; have HO_9 := n2_; have HO332 := n3_; have HB := n4_; clear n0_ n1_ n2_ n3_ n4_; (try clear hb); (try clear hb2); (try clear hk); (try clear hi); (try clear ho0); obtain ⟨Ao73, co73, eo73⟩ := Kd.R_slice HO332.out; subst eo73) | ((with_reducible refine gate_callee (f := 17) rfl ?_); refine goesL_ (some 51) rfl rfl Try.func17 s2_ rfl #[.slice Ao15 t322.length co15, .slice Ao73 t330.length co73] rfl s3_ ?_; (with_reducible refine (laws_eqStringS.calls kj9 _ _ t322 _ _ t330 false _ ?side1 ?side2 ?side3 ?side4 A25.out).mono ?_); (case side1 => repeat (first | exact (Kd.R_reads' HO_8.out).2.2 | (with_reducible refine Kd.C_alloc ?_ _) | (with_reducible refine Kd.C_drewN ?_ _) | (with_reducible refine Kd.C_drew ?_))); (case side2 => exact (Kd.R_reads' HO_8.out).2.1); (case side3 => repeat (first | exact (Kd.R_reads' HO332.out).2.2 | (with_reducible refine Kd.C_alloc ?_ _) | (with_reducible refine Kd.C_drewN ?_ _) | (with_reducible refine Kd.C_drew ?_))); (case side4 => exact (Kd.R_reads' HO332.out).2.1); rintro e w' ⟨rfl, ⟨nd, rfl⟩⟩; refine ⟨_, rfl, ?_⟩))
 go_ret
 exact ⟨by first | rfl | (simp [errW_none, errW_some] <;> rfl) | (simp [*, errW_none, errW_some] <;> rfl), by repeat (first | (with_reducible first | exact HB.out | apply below_alloc | apply pw_below_drewN | apply below_drew1) | exact HB.out)⟩}}}}}}

/-- THE ONE PURE STATEMENT of laws_FnExactBadWordsIn: yours. -/
def laws_FnExactBadWordsIn.Pure : Prop := ∀ (a0 : ByteArray) (l1 : List ByteArray), (a0.size ≤ 140737488351232) → (l1.length ≤ maxLen ∧ l1.length * 16 ≤ 140737488351232 ∧ ∀ y0_ ∈ l1, y0_.size ≤ 140737488351232) → ∃ k, laws_FnExactBadWordsIn.f k a0 l1 = some true
theorem laws_FnExactBadWordsIn.walk (P : laws_FnExactBadWordsIn.Pure) (a0 : ByteArray) (A1 : Option Addr) (c1 : Nat) (l1 : List ByteArray) (w : World) (hr1 : Kd.C Kd.string w A1 l1.length l1) (hc1 : l1.length ≤ c1) (F0 : a0.size ≤ 140737488351232) (F1 : l1.length ≤ maxLen ∧ l1.length * 16 ≤ 140737488351232 ∧ ∀ y0_ ∈ l1, y0_.size ≤ 140737488351232) :
    Calls Try.prog 12 #[.string a0, .slice A1 l1.length c1] w fun e w' => e = .returned (.bool true) ∧ Below w.heap.size w w' := by
  obtain ⟨k, h⟩ := P a0 l1 F0 F1
  refine (laws_FnExactBadWordsIn.calls k a0 A1 c1 l1 true w hr1 hc1 h).mono ?_
  rintro e w' ⟨rfl, hd⟩
  exact ⟨rfl, hd⟩

end Go.Proofs.Ytjfaepolmllejaa.QFnExactBadWordsIn
