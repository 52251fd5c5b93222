-- written by a program of this session, on the lines of the kit's print
import Derived.Test.YtgmbgpjebpgpkaaQFnExactCompactEventsx0
import Derived.Test.YtgmbgpjebpgpkaaQFnExactCompactEventsx1
import Derived.Test.YtgmbgpjebpgpkaaQFnExactCompactEventsx4
import Derived.Test.YtgmbgpjebpgpkaaQFnExactCompactEventsx7
import Derived.Test.YtgmbgpjebpgpkaaQFnExactCompactEventsx8
import Derived.Test.YtgmbgpjebpgpkaaQFnExactCompactEventsx9
namespace Go.Proofs.Ytgmbgpjebpgpkaa.QFnExactCompactEvents
open Go.RowKit Go.Proofs.YtgmbgpjebpgpkaaW.PrintWords Go.Proofs.YtgmbgpjebpgpkaaW.PrintLast Go.Proofs.YtgmbgpjebpgpkaaW.PrintMore
attribute [local go_sem] max2_int min2_int max_two min_two max_three min_three max_four min_four   -- for this text's walks alone
set_option linter.unusedVariables false
set_option linter.unusedSimpArgs false

/-! ### laws_FnExactCompactEvents: function 6 -/
abbrev laws_FnExactCompactEvents.T : Bool := true
abbrev laws_FnExactCompactEvents.F : Bool := false
theorem laws_FnExactCompactEvents.s1_ {P : Prop} (h : P := by first | rfl | (simp; done) | (simp [*]; done)) : P := h
theorem laws_FnExactCompactEvents.s2_ {P : Prop} (h : P := by kernel_rfl) : P := h
theorem laws_FnExactCompactEvents.s3_ {P : Prop} (h : P := by (try simp only [List.map_toArray, List.map_cons, List.map_nil]); first | done | rfl | (simp only [List.length_drop, List.length_take]; rfl)) : P := h
theorem laws_FnExactCompactEvents.b2_ {P Q : Prop} (q : Q) (h : Q → P := by intro q_; (with_reducible repeat (first | apply Kd.R_alloc | apply Kd.R_drewN | apply Kd.R_drew)); exact q_) : P := h q
mutual
def laws_FnExactCompactEvents.j0 : Nat → List (S23) → List (S26) → Bool → List (S26) → List (S26) → Bool → Bool → Option (Bool)
  | 0, _, _, _, _, _, _, _ => none
  | k + 1, x0, x4, x5, x6, x7, x8, x40 => if x40 = true then (some false) else ((laws_toEventS.f k x0).bind fun t260 => ((laws_eqEventS.f k x6 t260).bind fun t263 => (if t263 = true then ((laws_markEventS.f k x6 1).bind fun bt264 => (if bt264.1 < 0 then (laws_FnExactCompactEvents.j1 k x0 x4 x5 x7 true) else ((laws_eqEventS.f k x7 x4).bind fun t266 => (if t266 = true then (laws_FnExactCompactEvents.j1 k x0 x4 x5 x7 (x8 != x5)) else (laws_FnExactCompactEvents.j1 k x0 x4 x5 x7 true))))) else (some false))))
def laws_FnExactCompactEvents.j1 : Nat → List (S23) → List (S26) → Bool → List (S26) → Bool → Option (Bool)
  | 0, _, _, _, _, _ => none
  | k + 1, x0, x4, x5, x7, x61 => if x61 = true then (some false) else ((laws_markEventS.f k x7 1).bind fun bt267 => ((laws_heldEventS.f k bt267.2 1).bind fun t269 => (if t269 < 0 then (some false) else (if t269 = bt267.1 then ((laws_toEventS.f k x0).bind fun t270 => ((impl_CompactEvents.f k t270).bind fun bt273 => ((laws_eqEventS.f k bt273.1 x4).bind fun t277 => (if t277 = true then (laws_FnExactCompactEvents.j2 k bt267.2 bt267.1 (bt273.2 != x5)) else (laws_FnExactCompactEvents.j2 k bt267.2 bt267.1 true))))) else (some false)))))
def laws_FnExactCompactEvents.j2 : Nat → List (S26) → Int → Bool → Option (Bool)
  | 0, _, _, _ => none
  | k + 1, x7, x10, x87 => if x87 = true then (some false) else ((laws_heldEventS.f k x7 1).bind fun t278 => (if t278 < 0 then (some false) else (if t278 = x10 then (some true) else (some false))))
end
def laws_FnExactCompactEvents.f (k : Nat) (l0 : List (S23)) : Option (Bool) := (laws_szEventS.f k l0 1048576).bind fun t244 => (if t244 < 0 then (some true) else ((laws_toEventS.f k l0).bind fun t245 => ((spec_CompactEvents.f k t245).bind fun bt248 => ((laws_toEventS.f k l0).bind fun t252 => ((impl_CompactEvents.f k t252).bind fun bt255 => ((laws_eqEventS.f k bt255.1 bt248.1).bind fun t259 => (if t259 = true then (laws_FnExactCompactEvents.j0 k l0 bt248.1 bt248.2 t252 bt255.1 bt255.2 (bt255.2 != bt248.2)) else (laws_FnExactCompactEvents.j0 k l0 bt248.1 bt248.2 t252 bt255.1 bt255.2 true))))))))
theorem laws_FnExactCompactEvents.mono_l : ∀ k, (∀ y0 y1 y2 y3 y4 y5 y6, LeO (laws_FnExactCompactEvents.j0 k y0 y1 y2 y3 y4 y5 y6) (laws_FnExactCompactEvents.j0 (k + 1) y0 y1 y2 y3 y4 y5 y6)) ∧ (∀ y0 y1 y2 y3 y4, LeO (laws_FnExactCompactEvents.j1 k y0 y1 y2 y3 y4) (laws_FnExactCompactEvents.j1 (k + 1) y0 y1 y2 y3 y4)) ∧ (∀ y0 y1 y2, LeO (laws_FnExactCompactEvents.j2 k y0 y1 y2) (laws_FnExactCompactEvents.j2 (k + 1) y0 y1 y2))
  | 0 => ⟨fun _ _ _ _ _ _ _ r h => by simp [laws_FnExactCompactEvents.j0] at h, fun _ _ _ _ _ r h => by simp [laws_FnExactCompactEvents.j1] at h, fun _ _ _ r h => by simp [laws_FnExactCompactEvents.j2] at h⟩
  | k + 1 => by
    obtain ⟨ih0, ih1, ih2⟩ := laws_FnExactCompactEvents.mono_l k
    refine ⟨?_, ?_, ?_⟩
    · intro y0 y1 y2 y3 y4 y5 y6
      unfold laws_FnExactCompactEvents.j0
      repeat' first
      | (with_reducible exact ih0 _ _ _ _ _ _ _)
      | (with_reducible exact ih1 _ _ _ _ _)
      | (with_reducible exact ih2 _ _ _)
      | (with_reducible exact impl_CompactEvents.mono _ _)
      | (with_reducible exact laws_eqEventS.mono _ _ _)
      | (with_reducible exact laws_heldEventS.mono _ _ _)
      | (with_reducible exact laws_markEventS.mono _ _ _)
      | (with_reducible exact laws_szEventS.mono _ _ _)
      | (with_reducible exact laws_toEventS.mono _ _)
      | (with_reducible exact spec_CompactEvents.mono _ _)
      | (with_reducible exact LeO.refl _)
      | (with_reducible exact LeO.none _)
      | (with_reducible refine LeO.ite ?_ ?_)
      | (with_reducible refine LeO.bind ?_ (fun _ => ?_))
      | exact ih0 _ _ _ _ _ _ _
      | exact ih1 _ _ _ _ _
      | exact ih2 _ _ _
      | exact impl_CompactEvents.mono _ _
      | exact laws_eqEventS.mono _ _ _
      | exact laws_heldEventS.mono _ _ _
      | exact laws_markEventS.mono _ _ _
      | exact laws_szEventS.mono _ _ _
      | exact laws_toEventS.mono _ _
      | exact spec_CompactEvents.mono _ _
      | exact LeO.none _
      | refine LeO.ite ?_ ?_
      | refine LeO.bind ?_ (fun _ => ?_)
    · intro y0 y1 y2 y3 y4
      unfold laws_FnExactCompactEvents.j1
      repeat' first
      | (with_reducible exact ih0 _ _ _ _ _ _ _)
      | (with_reducible exact ih1 _ _ _ _ _)
      | (with_reducible exact ih2 _ _ _)
      | (with_reducible exact impl_CompactEvents.mono _ _)
      | (with_reducible exact laws_eqEventS.mono _ _ _)
      | (with_reducible exact laws_heldEventS.mono _ _ _)
      | (with_reducible exact laws_markEventS.mono _ _ _)
      | (with_reducible exact laws_szEventS.mono _ _ _)
      | (with_reducible exact laws_toEventS.mono _ _)
      | (with_reducible exact spec_CompactEvents.mono _ _)
      | (with_reducible exact LeO.refl _)
      | (with_reducible exact LeO.none _)
      | (with_reducible refine LeO.ite ?_ ?_)
      | (with_reducible refine LeO.bind ?_ (fun _ => ?_))
      | exact ih0 _ _ _ _ _ _ _
      | exact ih1 _ _ _ _ _
      | exact ih2 _ _ _
      | exact impl_CompactEvents.mono _ _
      | exact laws_eqEventS.mono _ _ _
      | exact laws_heldEventS.mono _ _ _
      | exact laws_markEventS.mono _ _ _
      | exact laws_szEventS.mono _ _ _
      | exact laws_toEventS.mono _ _
      | exact spec_CompactEvents.mono _ _
      | exact LeO.none _
      | refine LeO.ite ?_ ?_
      | refine LeO.bind ?_ (fun _ => ?_)
    · intro y0 y1 y2
      unfold laws_FnExactCompactEvents.j2
      repeat' first
      | (with_reducible exact ih0 _ _ _ _ _ _ _)
      | (with_reducible exact ih1 _ _ _ _ _)
      | (with_reducible exact ih2 _ _ _)
      | (with_reducible exact impl_CompactEvents.mono _ _)
      | (with_reducible exact laws_eqEventS.mono _ _ _)
      | (with_reducible exact laws_heldEventS.mono _ _ _)
      | (with_reducible exact laws_markEventS.mono _ _ _)
      | (with_reducible exact laws_szEventS.mono _ _ _)
      | (with_reducible exact laws_toEventS.mono _ _)
      | (with_reducible exact spec_CompactEvents.mono _ _)
      | (with_reducible exact LeO.refl _)
      | (with_reducible exact LeO.none _)
      | (with_reducible refine LeO.ite ?_ ?_)
      | (with_reducible refine LeO.bind ?_ (fun _ => ?_))
      | exact ih0 _ _ _ _ _ _ _
      | exact ih1 _ _ _ _ _
      | exact ih2 _ _ _
      | exact impl_CompactEvents.mono _ _
      | exact laws_eqEventS.mono _ _ _
      | exact laws_heldEventS.mono _ _ _
      | exact laws_markEventS.mono _ _ _
      | exact laws_szEventS.mono _ _ _
      | exact laws_toEventS.mono _ _
      | exact spec_CompactEvents.mono _ _
      | exact LeO.none _
      | refine LeO.ite ?_ ?_
      | refine LeO.bind ?_ (fun _ => ?_)
theorem laws_FnExactCompactEvents.mono : ∀ a0 k, LeO (laws_FnExactCompactEvents.f k a0) (laws_FnExactCompactEvents.f (k + 1) a0) := by
  intro a0 k
  obtain ⟨ih0, ih1, ih2⟩ := laws_FnExactCompactEvents.mono_l k
  unfold laws_FnExactCompactEvents.f
  repeat' first
      | (with_reducible exact ih0 _ _ _ _ _ _ _)
      | (with_reducible exact ih1 _ _ _ _ _)
      | (with_reducible exact ih2 _ _ _)
      | (with_reducible exact impl_CompactEvents.mono _ _)
      | (with_reducible exact laws_eqEventS.mono _ _ _)
      | (with_reducible exact laws_heldEventS.mono _ _ _)
      | (with_reducible exact laws_markEventS.mono _ _ _)
      | (with_reducible exact laws_szEventS.mono _ _ _)
      | (with_reducible exact laws_toEventS.mono _ _)
      | (with_reducible exact spec_CompactEvents.mono _ _)
      | (with_reducible exact LeO.refl _)
      | (with_reducible exact LeO.none _)
      | (with_reducible refine LeO.ite ?_ ?_)
      | (with_reducible refine LeO.bind ?_ (fun _ => ?_))
      | exact ih0 _ _ _ _ _ _ _
      | exact ih1 _ _ _ _ _
      | exact ih2 _ _ _
      | exact impl_CompactEvents.mono _ _
      | exact laws_eqEventS.mono _ _ _
      | exact laws_heldEventS.mono _ _ _
      | exact laws_markEventS.mono _ _ _
      | exact laws_szEventS.mono _ _ _
      | exact laws_toEventS.mono _ _
      | exact spec_CompactEvents.mono _ _
      | exact LeO.none _
      | refine LeO.ite ?_ ?_
      | refine LeO.bind ?_ (fun _ => ?_)
set_option maxHeartbeats 8000000 in
set_option maxRecDepth 100000 in
theorem laws_FnExactCompactEvents.calls (k : Nat) (A0 : Option Addr) (c0 : Nat) (l0 : List (S23)) (r : Bool) (w : World) (hr0 : Kd.C k23 w A0 l0.length l0) (hc0 : l0.length ≤ c0) (h : laws_FnExactCompactEvents.f k l0 = some r) :
    Calls Try.prog 6 #[.slice A0 l0.length c0] w fun e w' => e = .returned (.bool r) ∧ Below w.heap.size w w' := by
 have HR0 := Aside0.mk hr0
 have HC0 := Aside0.mk hc0
 clear hr0 hc0
 have HB := Aside0.mk (Below.refl w.heap.size w)
 have H : ((laws_szEventS.f k l0 1048576).bind fun t244 => (if t244 < 0 then (some true) else ((laws_toEventS.f k l0).bind fun t245 => ((spec_CompactEvents.f k t245).bind fun bt248 => ((laws_toEventS.f k l0).bind fun t252 => ((impl_CompactEvents.f k t252).bind fun bt255 => ((laws_eqEventS.f k bt255.1 bt248.1).bind fun t259 => (if t259 = true then (laws_FnExactCompactEvents.j0 k l0 bt248.1 bt248.2 t252 bt255.1 bt255.2 (bt255.2 != bt248.2)) else (laws_FnExactCompactEvents.j0 k l0 bt248.1 bt248.2 t252 bt255.1 bt255.2 true))))))))) = some r := h
 clear h
 replace H := Option.bind_eq_some_iff.mp H
 obtain ⟨t244, A20, H⟩ := H
 replace H : (if t244 < 0 then (some true) else ((laws_toEventS.f k l0).bind fun t245 => ((spec_CompactEvents.f k t245).bind fun bt248 => ((laws_toEventS.f k l0).bind fun t252 => ((impl_CompactEvents.f k t252).bind fun bt255 => ((laws_eqEventS.f k bt255.1 bt248.1).bind fun t259 => (if t259 = true then (laws_FnExactCompactEvents.j0 k l0 bt248.1 bt248.2 t252 bt255.1 bt255.2 (bt255.2 != bt248.2)) else (laws_FnExactCompactEvents.j0 k l0 bt248.1 bt248.2 t252 bt255.1 bt255.2 true)))))))) = some r := H
 have A2 := Aside0.mk A20
 clear A20
 by_cases c3 : t244 < 0
 {
 rw [if_pos c3] at H
 have c3b0 : decide (t244 < 0) = true := decide_eq_true c3
 clear c3
 obtain rfl := Option.some.inj H
 go_enter Try.func6, Try.ntmps6
 go_wp2_with (first | ((with_reducible refine gate_callee (f := 19) rfl ?_); refine goesL_ (some 16) rfl rfl Try.func19 s2_ rfl #[.slice A0 l0.length c0, .int .i64 1048576] rfl s3_ ?_; (with_reducible refine (laws_szEventS.calls k _ _ l0 1048576 t244 _ ?side1 ?side2 A2.out).mono ?_); (case side1 => repeat (first | exact HR0.out | (with_reducible refine Kd.C_alloc ?_ _) | (with_reducible refine Kd.C_drewN ?_ _) | (with_reducible refine Kd.C_drew ?_))); (case side2 => exact HC0.out); rintro e w4 ⟨rfl, hb⟩; refine ⟨_, rfl, ?_⟩; have n0_ := Aside0.mk (below_step (by repeat (first | (with_reducible first | exact HB.out | apply below_alloc | apply pw_below_drewN | apply below_drew1) | exact HB.out)) hb); clear HB; have HB := n0_; clear n0_; (try clear hb); (try clear hb2); (try clear hk); (try clear hi)))
 go_ret
 exact ⟨by first | rfl | (simp [errW_none, errW_some] <;> rfl) | (simp [*, errW_none, errW_some] <;> rfl), by repeat (first | (with_reducible first | exact HB.out | apply below_alloc | apply pw_below_drewN | apply below_drew1) | exact HB.out)⟩}
 {
 rw [if_neg c3] at H
 have c3b0 : decide (t244 < 0) = false := decide_eq_false c3
 clear c3
 replace H := Option.bind_eq_some_iff.mp H
 obtain ⟨t245, A50, H⟩ := H
 replace H : ((spec_CompactEvents.f k t245).bind fun bt248 => ((laws_toEventS.f k l0).bind fun t252 => ((impl_CompactEvents.f k t252).bind fun bt255 => ((laws_eqEventS.f k bt255.1 bt248.1).bind fun t259 => (if t259 = true then (laws_FnExactCompactEvents.j0 k l0 bt248.1 bt248.2 t252 bt255.1 bt255.2 (bt255.2 != bt248.2)) else (laws_FnExactCompactEvents.j0 k l0 bt248.1 bt248.2 t252 bt255.1 bt255.2 true)))))) = some r := H
 have A5 := Aside0.mk A50
 clear A50
 replace H := Option.bind_eq_some_iff.mp H
 obtain ⟨⟨t248, t249⟩, A60, H⟩ := H
 replace H : ((laws_toEventS.f k l0).bind fun t252 => ((impl_CompactEvents.f k t252).bind fun bt255 => ((laws_eqEventS.f k bt255.1 t248).bind fun t259 => (if t259 = true then (laws_FnExactCompactEvents.j0 k l0 t248 t249 t252 bt255.1 bt255.2 (bt255.2 != t249)) else (laws_FnExactCompactEvents.j0 k l0 t248 t249 t252 bt255.1 bt255.2 true))))) = some r := H
 have A6 := Aside0.mk A60
 clear A60
 replace H := Option.bind_eq_some_iff.mp H
 obtain ⟨t252, A70, H⟩ := H
 replace H : ((impl_CompactEvents.f k t252).bind fun bt255 => ((laws_eqEventS.f k bt255.1 t248).bind fun t259 => (if t259 = true then (laws_FnExactCompactEvents.j0 k l0 t248 t249 t252 bt255.1 bt255.2 (bt255.2 != t249)) else (laws_FnExactCompactEvents.j0 k l0 t248 t249 t252 bt255.1 bt255.2 true)))) = some r := H
 have A7 := Aside0.mk A70
 clear A70
 replace H := Option.bind_eq_some_iff.mp H
 obtain ⟨⟨t255, t256⟩, A80, H⟩ := H
 replace H : ((laws_eqEventS.f k t255 t248).bind fun t259 => (if t259 = true then (laws_FnExactCompactEvents.j0 k l0 t248 t249 t252 t255 t256 (t256 != t249)) else (laws_FnExactCompactEvents.j0 k l0 t248 t249 t252 t255 t256 true))) = some r := H
 have A8 := Aside0.mk A80
 clear A80
 have HC9 := Aside0.mk H
 clear H
 go_enter Try.func6, Try.ntmps6
 go_upto_region 8 with (first | ((with_reducible refine gate_callee (f := 19) rfl ?_); refine goesL_ (some 16) rfl rfl Try.func19 s2_ rfl #[.slice A0 l0.length c0, .int .i64 1048576] rfl s3_ ?_; (with_reducible refine (laws_szEventS.calls k _ _ l0 1048576 t244 _ ?side1 ?side2 A2.out).mono ?_); (case side1 => repeat (first | exact HR0.out | (with_reducible refine Kd.C_alloc ?_ _) | (with_reducible refine Kd.C_drewN ?_ _) | (with_reducible refine Kd.C_drew ?_))); (case side2 => exact HC0.out); rintro e w10 ⟨rfl, hb⟩; refine ⟨_, rfl, ?_⟩; have n0_ := Aside0.mk (below_step (by repeat (first | (with_reducible first | exact HB.out | apply below_alloc | apply pw_below_drewN | apply below_drew1) | exact HB.out)) hb); clear HB; have HB := n0_; clear n0_; (try clear hb); (try clear hb2); (try clear hk); (try clear hi)) | ((with_reducible refine gate_callee (f := 21) rfl ?_); refine goesL_ (some 21) rfl rfl Try.func21 s2_ rfl #[.slice A0 l0.length c0] rfl s3_ ?_; (with_reducible refine (laws_toEventS.calls k _ _ l0 t245 _ ?side1 ?side2 A5.out).mono ?_); (case side1 => repeat (first | exact (Kd.C_below HR0.out HB.out) | (with_reducible refine Kd.C_alloc ?_ _) | (with_reducible refine Kd.C_drewN ?_ _) | (with_reducible refine Kd.C_drew ?_))); (case side2 => exact HC0.out); rintro e w11 ⟨v246, rfl, ho0, hb⟩; refine ⟨_, rfl, ?_⟩; have n0_ := Aside0.mk (Kd.R_lower ho0 (below_size (by repeat (first | (with_reducible first | exact HB.out | apply below_alloc | apply pw_below_drewN | apply below_drew1) | exact HB.out)))); have n1_ := Aside0.mk (below_step (by repeat (first | (with_reducible first | exact HB.out | apply below_alloc | apply pw_below_drewN | apply below_drew1) | exact HB.out)) hb); clear HB; have HO247 := n0_; have HB := n1_; clear n0_ n1_; (try clear hb); (try clear hb2); (try clear hk); (try clear hi); (try clear ho0); obtain ⟨Ao12, co12, eo12⟩ := Kd.R_slice HO247.out; subst eo12) | ((with_reducible refine gate_callee (f := 20) rfl ?_); refine goesL_ (some 22) rfl rfl Try.func20 s2_ rfl #[.slice Ao12 t245.length co12] rfl s3_ ?_; (with_reducible refine (spec_CompactEvents.calls k _ _ t245 t248 t249 _ ?side1 ?side2 A6.out).mono ?_); (case side1 => repeat (first | exact (Kd.R_reads' HO247.out).2.2 | (with_reducible refine Kd.C_alloc ?_ _) | (with_reducible refine Kd.C_drewN ?_ _) | (with_reducible refine Kd.C_drew ?_))); (case side2 => exact (Kd.R_reads' HO247.out).2.1); rintro e w13 ⟨v250, rfl, ho0, hb⟩; refine ⟨_, rfl, ?_⟩; have n0_ := Aside0.mk (Kd.R_elder' (b2_ HO247.out) (Kd.R_base ho0) hb); have n1_ := Aside0.mk (Kd.R_lower (Kd.R_new' ho0 (Kd.R_lt (b2_ HO247.out))) (below_size (by repeat (first | (with_reducible first | exact HB.out | apply below_alloc | apply pw_below_drewN | apply below_drew1) | exact HB.out)))); have n2_ := Aside0.mk (below_step (by repeat (first | (with_reducible first | exact HB.out | apply below_alloc | apply pw_below_drewN | apply below_drew1) | exact HB.out)) hb); clear HO247; clear HB; have HO247 := n0_; have HO251 := n1_; have HB := n2_; clear n0_ n1_ n2_; (try clear hb); (try clear hb2); (try clear hk); (try clear hi); (try clear ho0)) | ((with_reducible refine gate_callee (f := 21) rfl ?_); refine goesL_ (some 26) rfl rfl Try.func21 s2_ rfl #[.slice A0 l0.length c0] rfl s3_ ?_; (with_reducible refine (laws_toEventS.calls k _ _ l0 t252 _ ?side1 ?side2 A7.out).mono ?_); (case side1 => repeat (first | exact (Kd.C_below HR0.out HB.out) | (with_reducible refine Kd.C_alloc ?_ _) | (with_reducible refine Kd.C_drewN ?_ _) | (with_reducible refine Kd.C_drew ?_))); (case side2 => exact HC0.out); rintro e w14 ⟨v253, rfl, ho0, hb⟩; refine ⟨_, rfl, ?_⟩; have n0_ := Aside0.mk (Kd.R_elder' (b2_ HO247.out) (Kd.R_base ho0) hb); have n1_ := Aside0.mk (Kd.R_elder' (b2_ HO251.out) (Kd.R_base ho0) hb); have n2_ := Aside0.mk (Kd.R_lower (Kd.R_new' (Kd.R_new' ho0 (Kd.R_lt (b2_ HO247.out))) (Kd.R_lt (b2_ HO251.out))) (below_size (by repeat (first | (with_reducible first | exact HB.out | apply below_alloc | apply pw_below_drewN | apply below_drew1) | exact HB.out)))); have n3_ := Aside0.mk (below_step (by repeat (first | (with_reducible first | exact HB.out | apply below_alloc | apply pw_below_drewN | apply below_drew1) | exact HB.out)) hb); clear HO247; clear HO251; clear HB; have HO247 := n0_; have HO251 := n1_; have HO254 := n2_; have HB := n3_; clear n0_ n1_ n2_ n3_; (try clear hb); (try clear hb2); (try clear hk); (try clear hi); (try clear ho0); obtain ⟨Ao15, co15, eo15⟩ := Kd.R_slice HO254.out; subst eo15) | ((with_reducible refine gate_callee (f := 22) rfl ?_); refine goesL_ (some 29) rfl rfl Try.func22 s2_ rfl #[.slice Ao15 t252.length co15] rfl s3_ ?_; (with_reducible refine (impl_CompactEvents.calls k _ _ t252 t255 t256 _ ?side1 ?side2 A8.out).mono ?_); (case side1 => repeat (first | exact (Kd.R_reads' HO254.out).2.2 | (with_reducible refine Kd.C_alloc ?_ _) | (with_reducible refine Kd.C_drewN ?_ _) | (with_reducible refine Kd.C_drew ?_))); (case side2 => exact (Kd.R_reads' HO254.out).2.1); rintro e w16 ⟨v257, rfl, ho0, hb⟩; refine ⟨_, rfl, ?_⟩; have n0_ := Aside0.mk (Kd.R_elder' (b2_ HO247.out) (Kd.R_base ho0) hb); have n1_ := Aside0.mk (Kd.R_elder' (b2_ HO251.out) (Kd.R_base ho0) hb); have n2_ := Aside0.mk (Kd.R_elder' (b2_ HO254.out) (Kd.R_base ho0) hb); have n3_ := Aside0.mk (Kd.R_lower (Kd.R_new' (Kd.R_new' (Kd.R_new' ho0 (Kd.R_lt (b2_ HO247.out))) (Kd.R_lt (b2_ HO251.out))) (Kd.R_lt (b2_ HO254.out))) (below_size (by repeat (first | (with_reducible first | exact HB.out | apply below_alloc | apply pw_below_drewN | apply below_drew1) | exact HB.out)))); have n4_ := Aside0.mk (below_step (by repeat (first | (with_reducible first | exact HB.out | apply below_alloc | apply pw_below_drewN | apply below_drew1) | exact HB.out)) hb); clear HO247; clear HO251; clear HO254; clear HB; have HO247 := n0_; have HO251 := n1_; have HO254 := n2_; have HO258 := n3_; have HB := n4_; clear n0_ n1_ n2_ n3_ n4_; (try clear hb); (try clear hb2); (try clear hk); (try clear hi); (try clear ho0)))
 (try simp only [Act.put, List.setIfInBounds_toArray, List.set_cons_zero, List.set_cons_succ])
 go_cut [40] (fun v40 wc => ∃ (kq : Nat) (x40_8 : Bool), v40 = .bool x40_8 ∧ Aside0 (laws_FnExactCompactEvents.j0 kq l0 t248 t249 t252 t255 t256 x40_8 = some r) ∧ Aside0 (kq ≤ k) ∧ Aside0 (Kd.R k26 26 wc w.heap.size (fun k_ => some k_ ≠ ((.slice Ao15 t252.length co15) : Value).ownBlock ∧ some k_ ≠ (v257 : Value).ownBlock) v250 t248) ∧ Aside0 (Kd.R k26 26 wc w.heap.size (fun k_ => some k_ ≠ (v250 : Value).ownBlock ∧ some k_ ≠ (v257 : Value).ownBlock) (.slice Ao15 t252.length co15) t252) ∧ Aside0 (Kd.R k26 26 wc w.heap.size (fun k_ => some k_ ≠ (v250 : Value).ownBlock ∧ some k_ ≠ ((.slice Ao15 t252.length co15) : Value).ownBlock) v257 t255) ∧ Aside0 (Below w.heap.size w wc))
 case first =>
  skip
  {
 have H := HC9.out
 clear HC9
 replace H := Option.bind_eq_some_iff.mp H
 obtain ⟨t259, A170, H⟩ := H
 replace H : (if t259 = true then (laws_FnExactCompactEvents.j0 k l0 t248 t249 t252 t255 t256 (t256 != t249)) else (laws_FnExactCompactEvents.j0 k l0 t248 t249 t252 t255 t256 true)) = some r := H
 have A17 := Aside0.mk A170
 clear A170
 by_cases c18 : t259 = true
 {
 subst c18
 have H1 : (laws_FnExactCompactEvents.j0 k l0 t248 t249 t252 t255 t256 (t256 != t249)) = some r := by rw [if_pos rfl] at H; exact H
 clear H
 have H := H1
 clear H1
 have H' := Aside0.mk H
 clear H
 obtain ⟨Ao19, co19, eo19⟩ := Kd.R_slice HO258.out
 subst eo19
 obtain ⟨Ao20, co20, eo20⟩ := Kd.R_slice HO251.out
 subst eo20
 go_wp2_with (first | ((with_reducible refine gate_callee (f := 23) rfl ?_); refine goesL_ (some 34) rfl rfl Try.func23 s2_ rfl #[.slice Ao19 t255.length co19, .slice Ao20 t248.length co20] rfl s3_ ?_; (with_reducible refine (laws_eqEventS.calls k _ _ t255 _ _ t248 true _ ?side1 ?side2 ?side3 ?side4 A17.out).mono ?_); (case side1 => repeat (first | exact (Kd.R_reads' HO258.out).2.2 | (with_reducible refine Kd.C_alloc ?_ _) | (with_reducible refine Kd.C_drewN ?_ _) | (with_reducible refine Kd.C_drew ?_))); (case side2 => exact (Kd.R_reads' HO258.out).2.1); (case side3 => repeat (first | exact (Kd.R_reads' HO251.out).2.2 | (with_reducible refine Kd.C_alloc ?_ _) | (with_reducible refine Kd.C_drewN ?_ _) | (with_reducible refine Kd.C_drew ?_))); (case side4 => exact (Kd.R_reads' HO251.out).2.1); rintro e w21 ⟨rfl, hb⟩; refine ⟨_, rfl, ?_⟩; have n0_ := Aside0.mk (Kd.R_below (b2_ HO247.out) hb); have n1_ := Aside0.mk (Kd.R_below (b2_ HO251.out) hb); have n2_ := Aside0.mk (Kd.R_below (b2_ HO254.out) hb); have n3_ := Aside0.mk (Kd.R_below (b2_ HO258.out) hb); have n4_ := Aside0.mk (below_step (by repeat (first | (with_reducible first | exact HB.out | apply below_alloc | apply pw_below_drewN | apply below_drew1) | exact HB.out)) hb); clear HO247; clear HO251; clear HO254; clear HO258; clear HB; have HO247 := n0_; have HO251 := n1_; have HO254 := n2_; have HO258 := n3_; have HB := n4_; clear n0_ n1_ n2_ n3_ n4_; (try clear hb); (try clear hb2); (try clear hk); (try clear hi)))
 go_meet
 case rel => exact ⟨_, ((t256 != t249)), s1_, H', ⟨by first | omega | exact Nat.le_refl _⟩, ⟨by (with_reducible repeat (first | apply Kd.R_alloc | apply Kd.R_drewN | apply Kd.R_drew)); exact Kd.R_mono HO251.out (fun _ hk => ⟨hk.1.2, hk.2⟩)⟩, ⟨by (with_reducible repeat (first | apply Kd.R_alloc | apply Kd.R_drewN | apply Kd.R_drew)); exact Kd.R_mono HO254.out (fun _ hk => ⟨hk.1.2, hk.2⟩)⟩, ⟨by (with_reducible repeat (first | apply Kd.R_alloc | apply Kd.R_drewN | apply Kd.R_drew)); exact Kd.R_mono HO258.out (fun _ hk => ⟨hk.1.2, hk.2⟩)⟩, ⟨by repeat (first | (with_reducible first | exact HB.out | apply below_alloc | apply pw_below_drewN | apply below_drew1) | exact HB.out)⟩⟩}
 {
 replace c18 := Bool.eq_false_iff.mpr c18
 subst c18
 have H1 : (laws_FnExactCompactEvents.j0 k l0 t248 t249 t252 t255 t256 true) = some r := by rw [if_neg (show ¬ (false = true) by decide)] at H; exact H
 clear H
 have H := H1
 clear H1
 have H' := Aside0.mk H
 clear H
 obtain ⟨Ao22, co22, eo22⟩ := Kd.R_slice HO258.out
 subst eo22
 obtain ⟨Ao23, co23, eo23⟩ := Kd.R_slice HO251.out
 subst eo23
 go_wp2_with (first | ((with_reducible refine gate_callee (f := 23) rfl ?_); refine goesL_ (some 34) rfl rfl Try.func23 s2_ rfl #[.slice Ao22 t255.length co22, .slice Ao23 t248.length co23] rfl s3_ ?_; (with_reducible refine (laws_eqEventS.calls k _ _ t255 _ _ t248 false _ ?side1 ?side2 ?side3 ?side4 A17.out).mono ?_); (case side1 => repeat (first | exact (Kd.R_reads' HO258.out).2.2 | (with_reducible refine Kd.C_alloc ?_ _) | (with_reducible refine Kd.C_drewN ?_ _) | (with_reducible refine Kd.C_drew ?_))); (case side2 => exact (Kd.R_reads' HO258.out).2.1); (case side3 => repeat (first | exact (Kd.R_reads' HO251.out).2.2 | (with_reducible refine Kd.C_alloc ?_ _) | (with_reducible refine Kd.C_drewN ?_ _) | (with_reducible refine Kd.C_drew ?_))); (case side4 => exact (Kd.R_reads' HO251.out).2.1); rintro e w24 ⟨rfl, hb⟩; refine ⟨_, rfl, ?_⟩; have n0_ := Aside0.mk (Kd.R_below (b2_ HO247.out) hb); have n1_ := Aside0.mk (Kd.R_below (b2_ HO251.out) hb); have n2_ := Aside0.mk (Kd.R_below (b2_ HO254.out) hb); have n3_ := Aside0.mk (Kd.R_below (b2_ HO258.out) hb); have n4_ := Aside0.mk (below_step (by repeat (first | (with_reducible first | exact HB.out | apply below_alloc | apply pw_below_drewN | apply below_drew1) | exact HB.out)) hb); clear HO247; clear HO251; clear HO254; clear HO258; clear HB; have HO247 := n0_; have HO251 := n1_; have HO254 := n2_; have HO258 := n3_; have HB := n4_; clear n0_ n1_ n2_ n3_ n4_; (try clear hb); (try clear hb2); (try clear hk); (try clear hi)))
 go_meet
 case rel => exact ⟨_, (true), s1_, H', ⟨by first | omega | exact Nat.le_refl _⟩, ⟨by (with_reducible repeat (first | apply Kd.R_alloc | apply Kd.R_drewN | apply Kd.R_drew)); exact Kd.R_mono HO251.out (fun _ hk => ⟨hk.1.2, hk.2⟩)⟩, ⟨by (with_reducible repeat (first | apply Kd.R_alloc | apply Kd.R_drewN | apply Kd.R_drew)); exact Kd.R_mono HO254.out (fun _ hk => ⟨hk.1.2, hk.2⟩)⟩, ⟨by (with_reducible repeat (first | apply Kd.R_alloc | apply Kd.R_drewN | apply Kd.R_drew)); exact Kd.R_mono HO258.out (fun _ hk => ⟨hk.1.2, hk.2⟩)⟩, ⟨by repeat (first | (with_reducible first | exact HB.out | apply below_alloc | apply pw_below_drewN | apply below_drew1) | exact HB.out)⟩⟩}}
 case rest =>
  skip
  {
 clear HC9
 try clear c1
 try clear c2
 try clear p2
 try clear c3
 try clear c3b0
 try clear c6
 try clear c18
 try clear c19
 try clear c20
 try clear c21
 try clear c22
 try clear c23
 obtain ⟨kq, x40_8, rfl, HA, HJ8, HO_4, HO_6, HO_7, HB⟩ := hcut
 cases kq with
 | zero => exact absurd HA.out (by simp [laws_FnExactCompactEvents.j0])
 | succ kj8 =>
  skip
  {
 have H := HA.out
 clear HA
 simp only [laws_FnExactCompactEvents.j0] at H
 by_cases c25 : x40_8 = true
 {
 subst c25
 have H1 : (some false) = some r := by rw [if_pos rfl] at H; exact H
 clear H
 have H := H1
 clear H1
 obtain rfl := Option.some.inj H
 go_wp2
 go_ret
 exact ⟨by first | rfl | (simp [errW_none, errW_some] <;> rfl) | (simp [*, errW_none, errW_some] <;> rfl), by repeat (first | (with_reducible first | exact HB.out | apply below_alloc | apply pw_below_drewN | apply below_drew1) | exact HB.out)⟩}
 {
 replace c25 := Bool.eq_false_iff.mpr c25
 subst c25
 have H1 : ((laws_toEventS.f kj8 l0).bind fun t260 => ((laws_eqEventS.f kj8 t252 t260).bind fun t263 => (if t263 = true then ((laws_markEventS.f kj8 t252 1).bind fun bt264 => (if bt264.1 < 0 then (laws_FnExactCompactEvents.j1 kj8 l0 t248 t249 t255 true) else ((laws_eqEventS.f kj8 t255 t248).bind fun t266 => (if t266 = true then (laws_FnExactCompactEvents.j1 kj8 l0 t248 t249 t255 (t256 != t249)) else (laws_FnExactCompactEvents.j1 kj8 l0 t248 t249 t255 true))))) else (some false)))) = some r := by rw [if_neg (show ¬ (false = true) by decide)] at H; exact H
 clear H
 have H := H1
 clear H1
 replace H := Option.bind_eq_some_iff.mp H
 obtain ⟨t260, A260, H⟩ := H
 replace H : ((laws_eqEventS.f kj8 t252 t260).bind fun t263 => (if t263 = true then ((laws_markEventS.f kj8 t252 1).bind fun bt264 => (if bt264.1 < 0 then (laws_FnExactCompactEvents.j1 kj8 l0 t248 t249 t255 true) else ((laws_eqEventS.f kj8 t255 t248).bind fun t266 => (if t266 = true then (laws_FnExactCompactEvents.j1 kj8 l0 t248 t249 t255 (t256 != t249)) else (laws_FnExactCompactEvents.j1 kj8 l0 t248 t249 t255 true))))) else (some false))) = some r := H
 have A26 := Aside0.mk A260
 clear A260
 replace H := Option.bind_eq_some_iff.mp H
 obtain ⟨t263, A270, H⟩ := H
 replace H : (if t263 = true then ((laws_markEventS.f kj8 t252 1).bind fun bt264 => (if bt264.1 < 0 then (laws_FnExactCompactEvents.j1 kj8 l0 t248 t249 t255 true) else ((laws_eqEventS.f kj8 t255 t248).bind fun t266 => (if t266 = true then (laws_FnExactCompactEvents.j1 kj8 l0 t248 t249 t255 (t256 != t249)) else (laws_FnExactCompactEvents.j1 kj8 l0 t248 t249 t255 true))))) else (some false)) = some r := H
 have A27 := Aside0.mk A270
 clear A270
 by_cases c28 : t263 = true
 {
 subst c28
 have H1 : ((laws_markEventS.f kj8 t252 1).bind fun bt264 => (if bt264.1 < 0 then (laws_FnExactCompactEvents.j1 kj8 l0 t248 t249 t255 true) else ((laws_eqEventS.f kj8 t255 t248).bind fun t266 => (if t266 = true then (laws_FnExactCompactEvents.j1 kj8 l0 t248 t249 t255 (t256 != t249)) else (laws_FnExactCompactEvents.j1 kj8 l0 t248 t249 t255 true))))) = some r := by rw [if_pos rfl] at H; exact H
 clear H
 have H := H1
 clear H1
 replace H := Option.bind_eq_some_iff.mp H
 obtain ⟨⟨t264, t265⟩, A290, H⟩ := H
 replace H : (if t264 < 0 then (laws_FnExactCompactEvents.j1 kj8 l0 t248 t249 t255 true) else ((laws_eqEventS.f kj8 t255 t248).bind fun t266 => (if t266 = true then (laws_FnExactCompactEvents.j1 kj8 l0 t248 t249 t255 (t256 != t249)) else (laws_FnExactCompactEvents.j1 kj8 l0 t248 t249 t255 true)))) = some r := H
 have A29 := Aside0.mk A290
 clear A290
 have HC30 := Aside0.mk H
 clear H
 go_upto_region 14 with (first | ((with_reducible refine gate_callee (f := 21) rfl ?_); refine goesL_ (some 43) rfl rfl Try.func21 s2_ rfl #[.slice A0 l0.length c0] rfl s3_ ?_; (with_reducible refine (laws_toEventS.calls kj8 _ _ l0 t260 _ ?side1 ?side2 A26.out).mono ?_); (case side1 => repeat (first | exact (Kd.C_below HR0.out HB.out) | (with_reducible refine Kd.C_alloc ?_ _) | (with_reducible refine Kd.C_drewN ?_ _) | (with_reducible refine Kd.C_drew ?_))); (case side2 => exact HC0.out); rintro e w31 ⟨v261, rfl, ho0, hb⟩; refine ⟨_, rfl, ?_⟩; have n0_ := Aside0.mk (Kd.R_elder' (b2_ HO_4.out) (Kd.R_base ho0) hb); have n1_ := Aside0.mk (Kd.R_elder' (b2_ HO_6.out) (Kd.R_base ho0) hb); have n2_ := Aside0.mk (Kd.R_elder' (b2_ HO_7.out) (Kd.R_base ho0) hb); have n3_ := Aside0.mk (Kd.R_lower (Kd.R_new' (Kd.R_new' (Kd.R_new' ho0 (Kd.R_lt (b2_ HO_4.out))) (Kd.R_lt (b2_ HO_6.out))) (Kd.R_lt (b2_ HO_7.out))) (below_size (by repeat (first | (with_reducible first | exact HB.out | apply below_alloc | apply pw_below_drewN | apply below_drew1) | exact HB.out)))); have n4_ := Aside0.mk (below_step (by repeat (first | (with_reducible first | exact HB.out | apply below_alloc | apply pw_below_drewN | apply below_drew1) | exact HB.out)) hb); clear HO_4; clear HO_6; clear HO_7; clear HB; have HO_4 := n0_; have HO_6 := n1_; have HO_7 := n2_; have HO262 := n3_; have HB := n4_; clear n0_ n1_ n2_ n3_ n4_; (try clear hb); (try clear hb2); (try clear hk); (try clear hi); (try clear ho0); obtain ⟨Ao32, co32, eo32⟩ := Kd.R_slice HO262.out; subst eo32) | ((with_reducible refine gate_callee (f := 23) rfl ?_); refine goesL_ (some 44) rfl rfl Try.func23 s2_ rfl #[.slice Ao15 t252.length co15, .slice Ao32 t260.length co32] rfl s3_ ?_; (with_reducible refine (laws_eqEventS.calls kj8 _ _ t252 _ _ t260 true _ ?side1 ?side2 ?side3 ?side4 A27.out).mono ?_); (case side1 => repeat (first | exact (Kd.R_reads' HO_6.out).2.2 | (with_reducible refine Kd.C_alloc ?_ _) | (with_reducible refine Kd.C_drewN ?_ _) | (with_reducible refine Kd.C_drew ?_))); (case side2 => exact (Kd.R_reads' HO_6.out).2.1); (case side3 => repeat (first | exact (Kd.R_reads' HO262.out).2.2 | (with_reducible refine Kd.C_alloc ?_ _) | (with_reducible refine Kd.C_drewN ?_ _) | (with_reducible refine Kd.C_drew ?_))); (case side4 => exact (Kd.R_reads' HO262.out).2.1); rintro e w33 ⟨rfl, hb⟩; refine ⟨_, rfl, ?_⟩; have n0_ := Aside0.mk (Kd.R_below (b2_ HO_4.out) hb); have n1_ := Aside0.mk (Kd.R_below (b2_ HO_6.out) hb); have n2_ := Aside0.mk (Kd.R_below (b2_ HO_7.out) hb); have n3_ := Aside0.mk (Kd.R_below (b2_ HO262.out) hb); have n4_ := Aside0.mk (below_step (by repeat (first | (with_reducible first | exact HB.out | apply below_alloc | apply pw_below_drewN | apply below_drew1) | exact HB.out)) hb); clear HO_4; clear HO_6; clear HO_7; clear HO262; clear HB; have HO_4 := n0_; have HO_6 := n1_; have HO_7 := n2_; have HO262 := n3_; have HB := n4_; clear n0_ n1_ n2_ n3_ n4_; (try clear hb); (try clear hb2); (try clear hk); (try clear hi)) | ((with_reducible refine gate_callee (f := 24) rfl ?_); refine goesL_ (some 48) rfl rfl Try.func24 s2_ rfl #[.slice Ao15 t252.length co15, .int .i64 1] rfl s3_ ?_; (with_reducible refine (laws_markEventS.calls kj8 (fun k_ => some k_ = (.slice Ao15 t252.length co15 : Value).ownBlock) (.slice Ao15 t252.length co15) t252 1 t264 t265 w _ ?side1 ?side2 A29.out).mono ?_); (case side1 => repeat (first | (with_reducible first | exact HB.out | apply below_alloc | apply pw_below_drewN | apply below_drew1) | exact HB.out)); (case side2 => exact Kd.R_tight rfl HO_6.out); rintro e w34 ⟨rfl, hy0, hb, hkp⟩; refine ⟨_, rfl, ?_⟩; have n0_ := Aside0.mk (Kd.R_mono (ok' := fun k_ => some k_ ≠ (.slice Ao15 t252.length co15 : Value).ownBlock ∧ some k_ ≠ (v257 : Value).ownBlock ∧ some k_ ≠ (.slice Ao32 t260.length co32 : Value).ownBlock) (Kd.R_keptB (HO_4.out) hkp (fun k_ hk_ hs_ => (hk_.1.1) hs_)) (fun k_ hk_ => ⟨hk_.1.1.1, hk_.1.1.2, hk_.1.2⟩)); have n1_ := Aside0.mk (Kd.R_reok rfl hy0 (fun k_ e_ => HO_6.out.1 k_ e_)); have n2_ := Aside0.mk (Kd.R_mono (ok' := fun k_ => some k_ ≠ (v250 : Value).ownBlock ∧ some k_ ≠ (.slice Ao15 t252.length co15 : Value).ownBlock ∧ some k_ ≠ (.slice Ao32 t260.length co32 : Value).ownBlock) (Kd.R_keptB (HO_7.out) hkp (fun k_ hk_ hs_ => (hk_.1.2) hs_)) (fun k_ hk_ => ⟨hk_.1.1.1, hk_.1.1.2, hk_.1.2⟩)); have n3_ := Aside0.mk (Kd.R_mono (ok' := fun k_ => some k_ ≠ (v250 : Value).ownBlock ∧ some k_ ≠ (.slice Ao15 t252.length co15 : Value).ownBlock ∧ some k_ ≠ (v257 : Value).ownBlock) (Kd.R_keptB (HO262.out) hkp (fun k_ hk_ hs_ => (hk_.1.2) hs_)) (fun k_ hk_ => ⟨hk_.1.1.1.2, hk_.1.1.2, hk_.1.2⟩)); have n4_ := Aside0.mk (hb); clear HO_4; clear HO_6; clear HO_7; clear HO262; clear HB; have HO_4 := n0_; have HO_6 := n1_; have HO_7 := n2_; have HO262 := n3_; have HB := n4_; clear n0_ n1_ n2_ n3_ n4_; (try clear hb); (try clear hkp); (try clear hy0)))
 (try simp only [Act.put, List.setIfInBounds_toArray, List.set_cons_zero, List.set_cons_succ])
 go_cut [61] (fun v61 wc => ∃ (kq : Nat) (x61_29 : Bool), v61 = .bool x61_29 ∧ Aside0 (laws_FnExactCompactEvents.j1 kq l0 t248 t249 t255 x61_29 = some r) ∧ Aside0 (kq ≤ kj8) ∧ Aside0 (Kd.R k26 26 wc w.heap.size (fun k_ => some k_ ≠ (v257 : Value).ownBlock) v250 t248) ∧ Aside0 (Kd.R k26 26 wc w.heap.size (fun k_ => some k_ ≠ (v250 : Value).ownBlock) v257 t255) ∧ Aside0 (Below w.heap.size w wc))
 case first =>
  skip
  {
 have H := HC30.out
 clear HC30
 by_cases c35 : t264 < 0
 {
 rw [if_pos c35] at H
 have c35b0 : decide (t264 < 0) = true := decide_eq_true c35
 clear c35
 (first | rw [c35b0] | (simp only [i64_w, i32_w]; rw [c35b0]) | skip)
 have H' := Aside0.mk H
 clear H
 go_wp2
 go_meet
 case rel => exact ⟨_, (true), s1_, H', ⟨by have := HJ8.out; first | omega | exact Nat.le_refl _⟩, ⟨by (with_reducible repeat (first | apply Kd.R_alloc | apply Kd.R_drewN | apply Kd.R_drew)); exact Kd.R_mono HO_4.out (fun _ hk => hk.2.1)⟩, ⟨by (with_reducible repeat (first | apply Kd.R_alloc | apply Kd.R_drewN | apply Kd.R_drew)); exact Kd.R_mono HO_7.out (fun _ hk => hk.1)⟩, ⟨by repeat (first | (with_reducible first | exact HB.out | apply below_alloc | apply pw_below_drewN | apply below_drew1) | exact HB.out)⟩⟩}
 {
 rw [if_neg c35] at H
 have c35b0 : decide (t264 < 0) = false := decide_eq_false c35
 clear c35
 (first | rw [c35b0] | (simp only [i64_w, i32_w]; rw [c35b0]) | skip)
 replace H := Option.bind_eq_some_iff.mp H
 obtain ⟨t266, A360, H⟩ := H
 replace H : (if t266 = true then (laws_FnExactCompactEvents.j1 kj8 l0 t248 t249 t255 (t256 != t249)) else (laws_FnExactCompactEvents.j1 kj8 l0 t248 t249 t255 true)) = some r := H
 have A36 := Aside0.mk A360
 clear A360
 by_cases c37 : t266 = true
 {
 subst c37
 have H1 : (laws_FnExactCompactEvents.j1 kj8 l0 t248 t249 t255 (t256 != t249)) = some r := by rw [if_pos rfl] at H; exact H
 clear H
 have H := H1
 clear H1
 have H' := Aside0.mk H
 clear H
 obtain ⟨Ao38, co38, eo38⟩ := Kd.R_slice HO_7.out
 subst eo38
 obtain ⟨Ao39, co39, eo39⟩ := Kd.R_slice HO_4.out
 subst eo39
 go_wp2_with (first | (go_at_call 23; (with_reducible refine (laws_eqEventS.calls kj8 _ _ t255 _ _ t248 true _ ?side1 ?side2 ?side3 ?side4 A36.out).mono ?_); (case side1 => repeat (first | exact (Kd.R_reads' HO_7.out).2.2 | (with_reducible refine Kd.C_alloc ?_ _) | (with_reducible refine Kd.C_drewN ?_ _) | (with_reducible refine Kd.C_drew ?_))); (case side2 => exact (Kd.R_reads' HO_7.out).2.1); (case side3 => repeat (first | exact (Kd.R_reads' HO_4.out).2.2 | (with_reducible refine Kd.C_alloc ?_ _) | (with_reducible refine Kd.C_drewN ?_ _) | (with_reducible refine Kd.C_drew ?_))); (case side4 => exact (Kd.R_reads' HO_4.out).2.1); rintro e w40 ⟨rfl, hb⟩; have n0_ := Aside0.mk (Kd.R_below (b2_ HO_4.out) hb); have n1_ := Aside0.mk (Kd.R_below (b2_ HO_6.out) hb); have n2_ := Aside0.mk (Kd.R_below (b2_ HO_7.out) hb); have n3_ := Aside0.mk (Kd.R_below (b2_ HO262.out) hb); have n4_ := Aside0.mk (below_step (by repeat (first | (with_reducible first | exact HB.out | apply below_alloc | apply pw_below_drewN | apply below_drew1) | exact HB.out)) hb); clear HO_4; clear HO_6; clear HO_7; clear HO262; clear HB; have HO_4 := n0_; have HO_6 := n1_; have HO_7 := n2_; have HO262 := n3_; have HB := n4_; clear n0_ n1_ n2_ n3_ n4_; (try clear hb); (try clear hb2); (try clear hk); (try clear hi)))
 go_meet
 case rel => exact ⟨_, ((t256 != t249)), s1_, H', ⟨by have := HJ8.out; first | omega | exact Nat.le_refl _⟩, ⟨by (with_reducible repeat (first | apply Kd.R_alloc | apply Kd.R_drewN | apply Kd.R_drew)); exact Kd.R_mono HO_4.out (fun _ hk => hk.2.1)⟩, ⟨by (with_reducible repeat (first | apply Kd.R_alloc | apply Kd.R_drewN | apply Kd.R_drew)); exact Kd.R_mono HO_7.out (fun _ hk => hk.1)⟩, ⟨by repeat (first | (with_reducible first | exact HB.out | apply below_alloc | apply pw_below_drewN | apply below_drew1) | exact HB.out)⟩⟩}
 {
 replace c37 := Bool.eq_false_iff.mpr c37
 subst c37
 have H1 : (laws_FnExactCompactEvents.j1 kj8 l0 t248 t249 t255 true) = some r := by rw [if_neg (show ¬ (false = true) by decide)] at H; exact H
 clear H
 have H := H1
 clear H1
 have H' := Aside0.mk H
 clear H
 obtain ⟨Ao41, co41, eo41⟩ := Kd.R_slice HO_7.out
 subst eo41
 obtain ⟨Ao42, co42, eo42⟩ := Kd.R_slice HO_4.out
 subst eo42
 go_wp2_with (first | (go_at_call 23; (with_reducible refine (laws_eqEventS.calls kj8 _ _ t255 _ _ t248 false _ ?side1 ?side2 ?side3 ?side4 A36.out).mono ?_); (case side1 => repeat (first | exact (Kd.R_reads' HO_7.out).2.2 | (with_reducible refine Kd.C_alloc ?_ _) | (with_reducible refine Kd.C_drewN ?_ _) | (with_reducible refine Kd.C_drew ?_))); (case side2 => exact (Kd.R_reads' HO_7.out).2.1); (case side3 => repeat (first | exact (Kd.R_reads' HO_4.out).2.2 | (with_reducible refine Kd.C_alloc ?_ _) | (with_reducible refine Kd.C_drewN ?_ _) | (with_reducible refine Kd.C_drew ?_))); (case side4 => exact (Kd.R_reads' HO_4.out).2.1); rintro e w43 ⟨rfl, hb⟩; have n0_ := Aside0.mk (Kd.R_below (b2_ HO_4.out) hb); have n1_ := Aside0.mk (Kd.R_below (b2_ HO_6.out) hb); have n2_ := Aside0.mk (Kd.R_below (b2_ HO_7.out) hb); have n3_ := Aside0.mk (Kd.R_below (b2_ HO262.out) hb); have n4_ := Aside0.mk (below_step (by repeat (first | (with_reducible first | exact HB.out | apply below_alloc | apply pw_below_drewN | apply below_drew1) | exact HB.out)) hb); clear HO_4; clear HO_6; clear HO_7; clear HO262; clear HB; have HO_4 := n0_; have HO_6 := n1_; have HO_7 := n2_; have HO262 := n3_; have HB := n4_; clear n0_ n1_ n2_ n3_ n4_; (try clear hb); (try clear hb2); (try clear hk); (try clear hi)))
 go_meet
 case rel => exact ⟨_, (true), s1_, H', ⟨by have := HJ8.out; first | omega | exact Nat.le_refl _⟩, ⟨by (with_reducible repeat (first | apply Kd.R_alloc | apply Kd.R_drewN | apply Kd.R_drew)); exact Kd.R_mono HO_4.out (fun _ hk => hk.2.1)⟩, ⟨by (with_reducible repeat (first | apply Kd.R_alloc | apply Kd.R_drewN | apply Kd.R_drew)); exact Kd.R_mono HO_7.out (fun _ hk => hk.1)⟩, ⟨by repeat (first | (with_reducible first | exact HB.out | apply below_alloc | apply pw_below_drewN | apply below_drew1) | exact HB.out)⟩⟩}}}
 case rest =>
  skip
  {
 clear HC30
 try clear c1
 try clear c2
 try clear p2
 try clear c3
 try clear c3b0
 try clear c6
 try clear c18
 try clear c19
 try clear c20
 try clear c21
 try clear c22
 try clear c23
 try clear c24
 try clear c25
 try clear c28
 try clear c35
 try clear c35b0
 try clear c37
 try clear p2
 obtain ⟨kq, x61_29, rfl, HA, HJ29, HO_4, HO_7, HB⟩ := hcut
 cases kq with
 | zero => exact absurd HA.out (by simp [laws_FnExactCompactEvents.j1])
 | succ kj29 =>
  skip
  {
 have H := HA.out
 clear HA
 simp only [laws_FnExactCompactEvents.j1] at H
 by_cases c44 : x61_29 = true
 {
 subst c44
 have H1 : (some false) = some r := by rw [if_pos rfl] at H; exact H
 clear H
 have H := H1
 clear H1
 obtain rfl := Option.some.inj H
 go_wp2
 go_ret
 exact ⟨by first | rfl | (simp [errW_none, errW_some] <;> rfl) | (simp [*, errW_none, errW_some] <;> rfl), by repeat (first | (with_reducible first | exact HB.out | apply below_alloc | apply pw_below_drewN | apply below_drew1) | exact HB.out)⟩}
 {
 replace c44 := Bool.eq_false_iff.mpr c44
 subst c44
 have H1 : ((laws_markEventS.f kj29 t255 1).bind fun bt267 => ((laws_heldEventS.f kj29 bt267.2 1).bind fun t269 => (if t269 < 0 then (some false) else (if t269 = bt267.1 then ((laws_toEventS.f kj29 l0).bind fun t270 => ((impl_CompactEvents.f kj29 t270).bind fun bt273 => ((laws_eqEventS.f kj29 bt273.1 t248).bind fun t277 => (if t277 = true then (laws_FnExactCompactEvents.j2 kj29 bt267.2 bt267.1 (bt273.2 != t249)) else (laws_FnExactCompactEvents.j2 kj29 bt267.2 bt267.1 true))))) else (some false))))) = some r := by rw [if_neg (show ¬ (false = true) by decide)] at H; exact H
 clear H
 have H := H1
 clear H1
 replace H := Option.bind_eq_some_iff.mp H
 obtain ⟨⟨t267, t268⟩, A450, H⟩ := H
 replace H : ((laws_heldEventS.f kj29 t268 1).bind fun t269 => (if t269 < 0 then (some false) else (if t269 = t267 then ((laws_toEventS.f kj29 l0).bind fun t270 => ((impl_CompactEvents.f kj29 t270).bind fun bt273 => ((laws_eqEventS.f kj29 bt273.1 t248).bind fun t277 => (if t277 = true then (laws_FnExactCompactEvents.j2 kj29 t268 t267 (bt273.2 != t249)) else (laws_FnExactCompactEvents.j2 kj29 t268 t267 true))))) else (some false)))) = some r := H
 have A45 := Aside0.mk A450
 clear A450
 replace H := Option.bind_eq_some_iff.mp H
 obtain ⟨t269, A460, H⟩ := H
 replace H : (if t269 < 0 then (some false) else (if t269 = t267 then ((laws_toEventS.f kj29 l0).bind fun t270 => ((impl_CompactEvents.f kj29 t270).bind fun bt273 => ((laws_eqEventS.f kj29 bt273.1 t248).bind fun t277 => (if t277 = true then (laws_FnExactCompactEvents.j2 kj29 t268 t267 (bt273.2 != t249)) else (laws_FnExactCompactEvents.j2 kj29 t268 t267 true))))) else (some false))) = some r := H
 have A46 := Aside0.mk A460
 clear A460
 by_cases c47 : t269 < 0
 {
 rw [if_pos c47] at H
 have c47b0 : decide (t269 < 0) = true := decide_eq_true c47
 clear c47
 obtain rfl := Option.some.inj H
 obtain ⟨Ao48, co48, eo48⟩ := Kd.R_slice HO_7.out
 subst eo48
 go_wp2_with (first | ((with_reducible refine gate_callee (f := 24) rfl ?_); refine goesL_ (some 64) rfl rfl Try.func24 s2_ rfl #[.slice Ao48 t255.length co48, .int .i64 1] rfl s3_ ?_; (with_reducible refine (laws_markEventS.calls kj29 (fun k_ => some k_ = (.slice Ao48 t255.length co48 : Value).ownBlock) (.slice Ao48 t255.length co48) t255 1 t267 t268 w _ ?side1 ?side2 A45.out).mono ?_); (case side1 => repeat (first | (with_reducible first | exact HB.out | apply below_alloc | apply pw_below_drewN | apply below_drew1) | exact HB.out)); (case side2 => exact Kd.R_tight rfl HO_7.out); rintro e w49 ⟨rfl, hy0, hb, hkp⟩; refine ⟨_, rfl, ?_⟩; have n0_ := Aside0.mk (Kd.R_mono (ok' := fun k_ => some k_ ≠ (.slice Ao48 t255.length co48 : Value).ownBlock) (Kd.R_keptB (HO_4.out) hkp (fun k_ hk_ hs_ => (hk_) hs_)) (fun k_ hk_ => hk_.1)); have n1_ := Aside0.mk (Kd.R_reok rfl hy0 (fun k_ e_ => HO_7.out.1 k_ e_)); have n2_ := Aside0.mk (hb); clear HO_4; clear HO_7; clear HB; have HO_4 := n0_; have HO_7 := n1_; have HB := n2_; clear n0_ n1_ n2_; (try clear hb); (try clear hkp); (try clear hy0)) | ((with_reducible refine gate_callee (f := 25) rfl ?_); refine goesL_ (some 67) rfl rfl Try.func25 s2_ rfl #[.slice Ao48 t268.length co48, .int .i64 1] rfl (by (try simp only [List.map_toArray, List.map_cons, List.map_nil]); first | done | (rw [show t268.length = t255.length from (Kd.R_reads' HO_7.out).1.symm] <;> rfl) | rfl | (simp only [List.length_drop, List.length_take]; rfl)) ?_; (with_reducible refine (laws_heldEventS.calls kj29 _ _ t268 1 t269 _ ?side1 ?side2 A46.out).mono ?_); (case side1 => repeat (first | exact (Kd.R_reads' HO_7.out).2.2 | (with_reducible refine Kd.C_alloc ?_ _) | (with_reducible refine Kd.C_drewN ?_ _) | (with_reducible refine Kd.C_drew ?_))); (case side2 => rw [show t268.length = t255.length from (Kd.R_reads' HO_7.out).1.symm]; exact (Kd.R_reads' HO_7.out).2.1); rintro e w50 ⟨rfl, hb⟩; refine ⟨_, rfl, ?_⟩; have n0_ := Aside0.mk (Kd.R_below (b2_ HO_4.out) hb); have n1_ := Aside0.mk (Kd.R_below (b2_ HO_7.out) hb); have n2_ := Aside0.mk (below_step (by repeat (first | (with_reducible first | exact HB.out | apply below_alloc | apply pw_below_drewN | apply below_drew1) | exact HB.out)) hb); clear HO_4; clear HO_7; clear HB; have HO_4 := n0_; have HO_7 := n1_; have HB := n2_; clear n0_ n1_ n2_; (try clear hb); (try clear hb2); (try clear hk); (try clear hi)))
 go_ret
 exact ⟨by first | rfl | (simp [errW_none, errW_some] <;> rfl) | (simp [*, errW_none, errW_some] <;> rfl), by repeat (first | (with_reducible first | exact HB.out | apply below_alloc | apply pw_below_drewN | apply below_drew1) | exact HB.out)⟩}
 {
 rw [if_neg c47] at H
 have c47b0 : decide (t269 < 0) = false := decide_eq_false c47
 clear c47
 by_cases c51 : t269 = t267
 {
 rw [if_pos c51] at H
 have c51b0 : (t269 == t267) = true := beq_iff_eq.mpr c51
 have c51b1 : (t269 != t267) = false := bne_eq_false_iff_eq.mpr c51
 clear c51
 replace H := Option.bind_eq_some_iff.mp H
 obtain ⟨t270, A520, H⟩ := H
 replace H : ((impl_CompactEvents.f kj29 t270).bind fun bt273 => ((laws_eqEventS.f kj29 bt273.1 t248).bind fun t277 => (if t277 = true then (laws_FnExactCompactEvents.j2 kj29 t268 t267 (bt273.2 != t249)) else (laws_FnExactCompactEvents.j2 kj29 t268 t267 true)))) = some r := H
 have A52 := Aside0.mk A520
 clear A520
 replace H := Option.bind_eq_some_iff.mp H
 obtain ⟨⟨t273, t274⟩, A530, H⟩ := H
 replace H : ((laws_eqEventS.f kj29 t273 t248).bind fun t277 => (if t277 = true then (laws_FnExactCompactEvents.j2 kj29 t268 t267 (t274 != t249)) else (laws_FnExactCompactEvents.j2 kj29 t268 t267 true))) = some r := H
 have A53 := Aside0.mk A530
 clear A530
 have HC54 := Aside0.mk H
 clear H
 obtain ⟨Ao55, co55, eo55⟩ := Kd.R_slice HO_7.out
 subst eo55
 go_upto_region 25 with (first | ((with_reducible refine gate_callee (f := 24) rfl ?_); refine goesL_ (some 64) rfl rfl Try.func24 s2_ rfl #[.slice Ao55 t255.length co55, .int .i64 1] rfl s3_ ?_; (with_reducible refine (laws_markEventS.calls kj29 (fun k_ => some k_ = (.slice Ao55 t255.length co55 : Value).ownBlock) (.slice Ao55 t255.length co55) t255 1 t267 t268 w _ ?side1 ?side2 A45.out).mono ?_); (case side1 => repeat (first | (with_reducible first | exact HB.out | apply below_alloc | apply pw_below_drewN | apply below_drew1) | exact HB.out)); (case side2 => exact Kd.R_tight rfl HO_7.out); rintro e w56 ⟨rfl, hy0, hb, hkp⟩; refine ⟨_, rfl, ?_⟩; have n0_ := Aside0.mk (Kd.R_mono (ok' := fun k_ => some k_ ≠ (.slice Ao55 t255.length co55 : Value).ownBlock) (Kd.R_keptB (HO_4.out) hkp (fun k_ hk_ hs_ => (hk_) hs_)) (fun k_ hk_ => hk_.1)); have n1_ := Aside0.mk (Kd.R_reok rfl hy0 (fun k_ e_ => HO_7.out.1 k_ e_)); have n2_ := Aside0.mk (hb); clear HO_4; clear HO_7; clear HB; have HO_4 := n0_; have HO_7 := n1_; have HB := n2_; clear n0_ n1_ n2_; (try clear hb); (try clear hkp); (try clear hy0)) | ((with_reducible refine gate_callee (f := 25) rfl ?_); refine goesL_ (some 67) rfl rfl Try.func25 s2_ rfl #[.slice Ao55 t268.length co55, .int .i64 1] rfl (by (try simp only [List.map_toArray, List.map_cons, List.map_nil]); first | done | (rw [show t268.length = t255.length from (Kd.R_reads' HO_7.out).1.symm] <;> rfl) | rfl | (simp only [List.length_drop, List.length_take]; rfl)) ?_; (with_reducible refine (laws_heldEventS.calls kj29 _ _ t268 1 t269 _ ?side1 ?side2 A46.out).mono ?_); (case side1 => repeat (first | exact (Kd.R_reads' HO_7.out).2.2 | (with_reducible refine Kd.C_alloc ?_ _) | (with_reducible refine Kd.C_drewN ?_ _) | (with_reducible refine Kd.C_drew ?_))); (case side2 => rw [show t268.length = t255.length from (Kd.R_reads' HO_7.out).1.symm]; exact (Kd.R_reads' HO_7.out).2.1); rintro e w57 ⟨rfl, hb⟩; refine ⟨_, rfl, ?_⟩; have n0_ := Aside0.mk (Kd.R_below (b2_ HO_4.out) hb); have n1_ := Aside0.mk (Kd.R_below (b2_ HO_7.out) hb); have n2_ := Aside0.mk (below_step (by repeat (first | (with_reducible first | exact HB.out | apply below_alloc | apply pw_below_drewN | apply below_drew1) | exact HB.out)) hb); clear HO_4; clear HO_7; clear HB; have HO_4 := n0_; have HO_7 := n1_; have HB := n2_; clear n0_ n1_ n2_; (try clear hb); (try clear hb2); (try clear hk); (try clear hi)) | ((with_reducible refine gate_callee (f := 21) rfl ?_); refine goesL_ (some 75) rfl rfl Try.func21 s2_ rfl #[.slice A0 l0.length c0] rfl s3_ ?_; (with_reducible refine (laws_toEventS.calls kj29 _ _ l0 t270 _ ?side1 ?side2 A52.out).mono ?_); (case side1 => repeat (first | exact (Kd.C_below HR0.out HB.out) | (with_reducible refine Kd.C_alloc ?_ _) | (with_reducible refine Kd.C_drewN ?_ _) | (with_reducible refine Kd.C_drew ?_))); (case side2 => exact HC0.out); rintro e w58 ⟨v271, rfl, ho0, hb⟩; refine ⟨_, rfl, ?_⟩; have n0_ := Aside0.mk (Kd.R_elder' (b2_ HO_4.out) (Kd.R_base ho0) hb); have n1_ := Aside0.mk (Kd.R_elder' (b2_ HO_7.out) (Kd.R_base ho0) hb); have n2_ := Aside0.mk (Kd.R_lower (Kd.R_new' (Kd.R_new' ho0 (Kd.R_lt (b2_ HO_4.out))) (Kd.R_lt (b2_ HO_7.out))) (below_size (by repeat (first | (with_reducible first | exact HB.out | apply below_alloc | apply pw_below_drewN | apply below_drew1) | exact HB.out)))); have n3_ := Aside0.mk (below_step (by repeat (first | (with_reducible first | exact HB.out | apply below_alloc | apply pw_below_drewN | apply below_drew1) | exact HB.out)) hb); clear HO_4; clear HO_7; clear HB; have HO_4 := n0_; have HO_7 := n1_; have HO272 := n2_; have HB := n3_; clear n0_ n1_ n2_ n3_; (try clear hb); (try clear hb2); (try clear hk); (try clear hi); (try clear ho0); obtain ⟨Ao59, co59, eo59⟩ := Kd.R_slice HO272.out; subst eo59) | ((with_reducible refine gate_callee (f := 22) rfl ?_); refine goesL_ (some 76) rfl rfl Try.func22 s2_ rfl #[.slice Ao59 t270.length co59] rfl s3_ ?_; (with_reducible refine (impl_CompactEvents.calls kj29 _ _ t270 t273 t274 _ ?side1 ?side2 A53.out).mono ?_); (case side1 => repeat (first | exact (Kd.R_reads' HO272.out).2.2 | (with_reducible refine Kd.C_alloc ?_ _) | (with_reducible refine Kd.C_drewN ?_ _) | (with_reducible refine Kd.C_drew ?_))); (case side2 => exact (Kd.R_reads' HO272.out).2.1); rintro e w60 ⟨v275, rfl, ho0, hb⟩; refine ⟨_, rfl, ?_⟩; have n0_ := Aside0.mk (Kd.R_elder' (b2_ HO_4.out) (Kd.R_base ho0) hb); have n1_ := Aside0.mk (Kd.R_elder' (b2_ HO_7.out) (Kd.R_base ho0) hb); have n2_ := Aside0.mk (Kd.R_elder' (b2_ HO272.out) (Kd.R_base ho0) hb); have n3_ := Aside0.mk (Kd.R_lower (Kd.R_new' (Kd.R_new' (Kd.R_new' ho0 (Kd.R_lt (b2_ HO_4.out))) (Kd.R_lt (b2_ HO_7.out))) (Kd.R_lt (b2_ HO272.out))) (below_size (by repeat (first | (with_reducible first | exact HB.out | apply below_alloc | apply pw_below_drewN | apply below_drew1) | exact HB.out)))); have n4_ := Aside0.mk (below_step (by repeat (first | (with_reducible first | exact HB.out | apply below_alloc | apply pw_below_drewN | apply below_drew1) | exact HB.out)) hb); clear HO_4; clear HO_7; clear HO272; clear HB; have HO_4 := n0_; have HO_7 := n1_; have HO272 := n2_; have HO276 := n3_; have HB := n4_; clear n0_ n1_ n2_ n3_ n4_; (try clear hb); (try clear hb2); (try clear hk); (try clear hi); (try clear ho0)))
 (try simp only [Act.put, List.setIfInBounds_toArray, List.set_cons_zero, List.set_cons_succ])
 go_cut [87] (fun v87 wc => ∃ (kq : Nat) (x87_53 : Bool), v87 = .bool x87_53 ∧ Aside0 (laws_FnExactCompactEvents.j2 kq t268 t267 x87_53 = some r) ∧ Aside0 (kq ≤ kj29) ∧ Aside0 (Kd.R k26 26 wc w.heap.size (fun _ => True) (.slice Ao55 t255.length co55) t268) ∧ Aside0 (Below w.heap.size w wc))
 case first =>
  skip
  {
 have H := HC54.out
 clear HC54
 replace H := Option.bind_eq_some_iff.mp H
 obtain ⟨t277, A610, H⟩ := H
 replace H : (if t277 = true then (laws_FnExactCompactEvents.j2 kj29 t268 t267 (t274 != t249)) else (laws_FnExactCompactEvents.j2 kj29 t268 t267 true)) = some r := H
 have A61 := Aside0.mk A610
 clear A610
 by_cases c62 : t277 = true
 {
 subst c62
 have H1 : (laws_FnExactCompactEvents.j2 kj29 t268 t267 (t274 != t249)) = some r := by rw [if_pos rfl] at H; exact H
 clear H
 have H := H1
 clear H1
 have H' := Aside0.mk H
 clear H
 obtain ⟨Ao63, co63, eo63⟩ := Kd.R_slice HO276.out
 subst eo63
 obtain ⟨Ao64, co64, eo64⟩ := Kd.R_slice HO_4.out
 subst eo64
 go_wp2_with (first | ((with_reducible refine gate_callee (f := 23) rfl ?_); refine goesL_ (some 81) rfl rfl Try.func23 s2_ rfl #[.slice Ao63 t273.length co63, .slice Ao64 t248.length co64] rfl s3_ ?_; (with_reducible refine (laws_eqEventS.calls kj29 _ _ t273 _ _ t248 true _ ?side1 ?side2 ?side3 ?side4 A61.out).mono ?_); (case side1 => repeat (first | exact (Kd.R_reads' HO276.out).2.2 | (with_reducible refine Kd.C_alloc ?_ _) | (with_reducible refine Kd.C_drewN ?_ _) | (with_reducible refine Kd.C_drew ?_))); (case side2 => exact (Kd.R_reads' HO276.out).2.1); (case side3 => repeat (first | exact (Kd.R_reads' HO_4.out).2.2 | (with_reducible refine Kd.C_alloc ?_ _) | (with_reducible refine Kd.C_drewN ?_ _) | (with_reducible refine Kd.C_drew ?_))); (case side4 => exact (Kd.R_reads' HO_4.out).2.1); rintro e w65 ⟨rfl, hb⟩; refine ⟨_, rfl, ?_⟩; have n0_ := Aside0.mk (Kd.R_below (b2_ HO_4.out) hb); have n1_ := Aside0.mk (Kd.R_below (b2_ HO_7.out) hb); have n2_ := Aside0.mk (Kd.R_below (b2_ HO272.out) hb); have n3_ := Aside0.mk (Kd.R_below (b2_ HO276.out) hb); have n4_ := Aside0.mk (below_step (by repeat (first | (with_reducible first | exact HB.out | apply below_alloc | apply pw_below_drewN | apply below_drew1) | exact HB.out)) hb); clear HO_4; clear HO_7; clear HO272; clear HO276; clear HB; have HO_4 := n0_; have HO_7 := n1_; have HO272 := n2_; have HO276 := n3_; have HB := n4_; clear n0_ n1_ n2_ n3_ n4_; (try clear hb); (try clear hb2); (try clear hk); (try clear hi)))
 go_meet
 case rel => exact ⟨_, ((t274 != t249)), s1_, H', ⟨by have := HJ8.out; have := HJ29.out; first | omega | exact Nat.le_refl _⟩, ⟨by (with_reducible repeat (first | apply Kd.R_alloc | apply Kd.R_drewN | apply Kd.R_drew)); exact Kd.R_mono HO_7.out (fun _ hk => trivial)⟩, ⟨by repeat (first | (with_reducible first | exact HB.out | apply below_alloc | apply pw_below_drewN | apply below_drew1) | exact HB.out)⟩⟩}
 {
 replace c62 := Bool.eq_false_iff.mpr c62
 subst c62
 have H1 : (laws_FnExactCompactEvents.j2 kj29 t268 t267 true) = some r := by rw [if_neg (show ¬ (false = true) by decide)] at H; exact H
 clear H
 have H := H1
 clear H1
 have H' := Aside0.mk H
 clear H
 obtain ⟨Ao66, co66, eo66⟩ := Kd.R_slice HO276.out
 subst eo66
 obtain ⟨Ao67, co67, eo67⟩ := Kd.R_slice HO_4.out
 subst eo67
 go_wp2_with (first | ((with_reducible refine gate_callee (f := 23) rfl ?_); refine goesL_ (some 81) rfl rfl Try.func23 s2_ rfl #[.slice Ao66 t273.length co66, .slice Ao67 t248.length co67] rfl s3_ ?_; (with_reducible refine (laws_eqEventS.calls kj29 _ _ t273 _ _ t248 false _ ?side1 ?side2 ?side3 ?side4 A61.out).mono ?_); (case side1 => repeat (first | exact (Kd.R_reads' HO276.out).2.2 | (with_reducible refine Kd.C_alloc ?_ _) | (with_reducible refine Kd.C_drewN ?_ _) | (with_reducible refine Kd.C_drew ?_))); (case side2 => exact (Kd.R_reads' HO276.out).2.1); (case side3 => repeat (first | exact (Kd.R_reads' HO_4.out).2.2 | (with_reducible refine Kd.C_alloc ?_ _) | (with_reducible refine Kd.C_drewN ?_ _) | (with_reducible refine Kd.C_drew ?_))); (case side4 => exact (Kd.R_reads' HO_4.out).2.1); rintro e w68 ⟨rfl, hb⟩; refine ⟨_, rfl, ?_⟩; have n0_ := Aside0.mk (Kd.R_below (b2_ HO_4.out) hb); have n1_ := Aside0.mk (Kd.R_below (b2_ HO_7.out) hb); have n2_ := Aside0.mk (Kd.R_below (b2_ HO272.out) hb); have n3_ := Aside0.mk (Kd.R_below (b2_ HO276.out) hb); have n4_ := Aside0.mk (below_step (by repeat (first | (with_reducible first | exact HB.out | apply below_alloc | apply pw_below_drewN | apply below_drew1) | exact HB.out)) hb); clear HO_4; clear HO_7; clear HO272; clear HO276; clear HB; have HO_4 := n0_; have HO_7 := n1_; have HO272 := n2_; have HO276 := n3_; have HB := n4_; clear n0_ n1_ n2_ n3_ n4_; (try clear hb); (try clear hb2); (try clear hk); (try clear hi)))
 go_meet
 case rel => exact ⟨_, (true), s1_, H', ⟨by have := HJ8.out; have := HJ29.out; first | omega | exact Nat.le_refl _⟩, ⟨by (with_reducible repeat (first | apply Kd.R_alloc | apply Kd.R_drewN | apply Kd.R_drew)); exact Kd.R_mono HO_7.out (fun _ hk => trivial)⟩, ⟨by repeat (first | (with_reducible first | exact HB.out | apply below_alloc | apply pw_below_drewN | apply below_drew1) | exact HB.out)⟩⟩}}
 case rest =>
  skip
  {
 clear HC54
 try clear c1
 try clear c2
 try clear p2
 try clear c3
 try clear c3b0
 try clear c4
 try clear c5
 try clear c6
 try clear c18
 try clear c19
 try clear c20
 try clear c21
 try clear c22
 try clear c23
 try clear c24
 try clear c25
 try clear c28
 try clear c35
 try clear c35b0
 try clear c37
 try clear c44
 try clear c47
 try clear c47b0
 try clear c51
 try clear c51b0
 try clear c51b1
 try clear c62
 try clear p2
 obtain ⟨kq, x87_53, rfl, HA, HJ53, HO_7, HB⟩ := hcut
 have hl7_53 := (Kd.R_reads' HO_7.out).1
 rw [hl7_53] at HO_7
 (try simp only [hl7_53])
 cases kq with
 | zero => exact absurd HA.out (by simp [laws_FnExactCompactEvents.j2])
 | succ kj53 =>
  skip
  {
 have H := HA.out
 clear HA
 simp only [laws_FnExactCompactEvents.j2] at H
 by_cases c69 : x87_53 = true
 {
 subst c69
 have H1 : (some false) = some r := by rw [if_pos rfl] at H; exact H
 clear H
 have H := H1
 clear H1
 obtain rfl := Option.some.inj H
 go_wp2
 go_ret
 exact ⟨by first | rfl | (simp [errW_none, errW_some] <;> rfl) | (simp [*, errW_none, errW_some] <;> rfl), by repeat (first | (with_reducible first | exact HB.out | apply below_alloc | apply pw_below_drewN | apply below_drew1) | exact HB.out)⟩}
 {
 replace c69 := Bool.eq_false_iff.mpr c69
 subst c69
 have H1 : ((laws_heldEventS.f kj53 t268 1).bind fun t278 => (if t278 < 0 then (some false) else (if t278 = t267 then (some true) else (some false)))) = some r := by rw [if_neg (show ¬ (false = true) by decide)] at H; exact H
 clear H
 have H := H1
 clear H1
 replace H := Option.bind_eq_some_iff.mp H
 obtain ⟨t278, A700, H⟩ := H
 replace H : (if t278 < 0 then (some false) else (if t278 = t267 then (some true) else (some false))) = some r := H
 have A70 := Aside0.mk A700
 clear A700
 by_cases c71 : t278 < 0
 {
 rw [if_pos c71] at H
 have c71b0 : decide (t278 < 0) = true := decide_eq_true c71
 clear c71
 obtain rfl := Option.some.inj H
 go_wp2_with (first | ((with_reducible refine gate_callee (f := 25) rfl ?_); refine goesL_ (some 90) rfl rfl Try.func25 s2_ rfl #[.slice Ao55 t268.length co55, .int .i64 1] rfl s3_ ?_; (with_reducible refine (laws_heldEventS.calls kj53 _ _ t268 1 t278 _ ?side1 ?side2 A70.out).mono ?_); (case side1 => repeat (first | exact (Kd.R_reads' HO_7.out).2.2 | (with_reducible refine Kd.C_alloc ?_ _) | (with_reducible refine Kd.C_drewN ?_ _) | (with_reducible refine Kd.C_drew ?_))); (case side2 => exact (Kd.R_reads' HO_7.out).2.1); rintro e w72 ⟨rfl, hb⟩; refine ⟨_, rfl, ?_⟩; have n0_ := Aside0.mk (Kd.R_below (b2_ HO_7.out) hb); have n1_ := Aside0.mk (below_step (by repeat (first | (with_reducible first | exact HB.out | apply below_alloc | apply pw_below_drewN | apply below_drew1) | exact HB.out)) hb); clear HO_7; clear HB; have HO_7 := n0_; have HB := n1_; clear n0_ n1_; (try clear hb); (try clear hb2); (try clear hk); (try clear hi)))
 go_ret
 exact ⟨by first | rfl | (simp [errW_none, errW_some] <;> rfl) | (simp [*, errW_none, errW_some] <;> rfl), by repeat (first | (with_reducible first | exact HB.out | apply below_alloc | apply pw_below_drewN | apply below_drew1) | exact HB.out)⟩}
 {
 rw [if_neg c71] at H
 have c71b0 : decide (t278 < 0) = false := decide_eq_false c71
 clear c71
 by_cases c73 : t278 = t267
 {
 rw [if_pos c73] at H
 have c73b0 : (t278 == t267) = true := beq_iff_eq.mpr c73
 have c73b1 : (t278 != t267) = false := bne_eq_false_iff_eq.mpr c73
 clear c73
 obtain rfl := Option.some.inj H
 go_wp2_with (first | ((with_reducible refine gate_callee (f := 25) rfl ?_); refine goesL_ (some 90) rfl rfl Try.func25 s2_ rfl #[.slice Ao55 t268.length co55, .int .i64 1] rfl s3_ ?_; (with_reducible refine (laws_heldEventS.calls kj53 _ _ t268 1 t278 _ ?side1 ?side2 A70.out).mono ?_); (case side1 => repeat (first | exact (Kd.R_reads' HO_7.out).2.2 | (with_reducible refine Kd.C_alloc ?_ _) | (with_reducible refine Kd.C_drewN ?_ _) | (with_reducible refine Kd.C_drew ?_))); (case side2 => exact (Kd.R_reads' HO_7.out).2.1); rintro e w74 ⟨rfl, hb⟩; refine ⟨_, rfl, ?_⟩; have n0_ := Aside0.mk (Kd.R_below (b2_ HO_7.out) hb); have n1_ := Aside0.mk (below_step (by repeat (first | (with_reducible first | exact HB.out | apply below_alloc | apply pw_below_drewN | apply below_drew1) | exact HB.out)) hb); clear HO_7; clear HB; have HO_7 := n0_; have HB := n1_; clear n0_ n1_; (try clear hb); (try clear hb2); (try clear hk); (try clear hi)))
 go_ret
 exact ⟨by first | rfl | (simp [errW_none, errW_some] <;> rfl) | (simp [*, errW_none, errW_some] <;> rfl), by repeat (first | (with_reducible first | exact HB.out | apply below_alloc | apply pw_below_drewN | apply below_drew1) | exact HB.out)⟩}
 {
 rw [if_neg c73] at H
 have c73b0 : (t278 == t267) = false := beq_eq_false_iff_ne.mpr c73
 have c73b1 : (t278 != t267) = true := bne_iff_ne.mpr c73
 obtain rfl := Option.some.inj H
 go_wp2_with (first | ((with_reducible refine gate_callee (f := 25) rfl ?_); refine goesL_ (some 90) rfl rfl Try.func25 s2_ rfl #[.slice Ao55 t268.length co55, .int .i64 1] rfl s3_ ?_; (with_reducible refine (laws_heldEventS.calls kj53 _ _ t268 1 t278 _ ?side1 ?side2 A70.out).mono ?_); (case side1 => repeat (first | exact (Kd.R_reads' HO_7.out).2.2 | (with_reducible refine Kd.C_alloc ?_ _) | (with_reducible refine Kd.C_drewN ?_ _) | (with_reducible refine Kd.C_drew ?_))); (case side2 => exact (Kd.R_reads' HO_7.out).2.1); rintro e w75 ⟨rfl, hb⟩; refine ⟨_, rfl, ?_⟩; have n0_ := Aside0.mk (Kd.R_below (b2_ HO_7.out) hb); have n1_ := Aside0.mk (below_step (by repeat (first | (with_reducible first | exact HB.out | apply below_alloc | apply pw_below_drewN | apply below_drew1) | exact HB.out)) hb); clear HO_7; clear HB; have HO_7 := n0_; have HB := n1_; clear n0_ n1_; (try clear hb); (try clear hb2); (try clear hk); (try clear hi)))
 go_ret
 exact ⟨by first | rfl | (simp [errW_none, errW_some] <;> rfl) | (simp [*, errW_none, errW_some] <;> rfl), by repeat (first | (with_reducible first | exact HB.out | apply below_alloc | apply pw_below_drewN | apply below_drew1) | exact HB.out)⟩}}}}}}
 {
 rw [if_neg c51] at H
 have c51b0 : (t269 == t267) = false := beq_eq_false_iff_ne.mpr c51
 have c51b1 : (t269 != t267) = true := bne_iff_ne.mpr c51
 obtain rfl := Option.some.inj H
 obtain ⟨Ao76, co76, eo76⟩ := Kd.R_slice HO_7.out
 subst eo76
 go_wp2_with (first | ((with_reducible refine gate_callee (f := 24) rfl ?_); refine goesL_ (some 64) rfl rfl Try.func24 s2_ rfl #[.slice Ao76 t255.length co76, .int .i64 1] rfl s3_ ?_; (with_reducible refine (laws_markEventS.calls kj29 (fun k_ => some k_ = (.slice Ao76 t255.length co76 : Value).ownBlock) (.slice Ao76 t255.length co76) t255 1 t267 t268 w _ ?side1 ?side2 A45.out).mono ?_); (case side1 => repeat (first | (with_reducible first | exact HB.out | apply below_alloc | apply pw_below_drewN | apply below_drew1) | exact HB.out)); (case side2 => exact Kd.R_tight rfl HO_7.out); rintro e w77 ⟨rfl, hy0, hb, hkp⟩; refine ⟨_, rfl, ?_⟩; have n0_ := Aside0.mk (Kd.R_mono (ok' := fun k_ => some k_ ≠ (.slice Ao76 t255.length co76 : Value).ownBlock) (Kd.R_keptB (HO_4.out) hkp (fun k_ hk_ hs_ => (hk_) hs_)) (fun k_ hk_ => hk_.1)); have n1_ := Aside0.mk (Kd.R_reok rfl hy0 (fun k_ e_ => HO_7.out.1 k_ e_)); have n2_ := Aside0.mk (hb); clear HO_4; clear HO_7; clear HB; have HO_4 := n0_; have HO_7 := n1_; have HB := n2_; clear n0_ n1_ n2_; (try clear hb); (try clear hkp); (try clear hy0)) | ((with_reducible refine gate_callee (f := 25) rfl ?_); refine goesL_ (some 67) rfl rfl Try.func25 s2_ rfl #[.slice Ao76 t268.length co76, .int .i64 1] rfl (by (try simp only [List.map_toArray, List.map_cons, List.map_nil]); first | done | (rw [show t268.length = t255.length from (Kd.R_reads' HO_7.out).1.symm] <;> rfl) | rfl | (simp only [List.length_drop, List.length_take]; rfl)) ?_; (with_reducible refine (laws_heldEventS.calls kj29 _ _ t268 1 t269 _ ?side1 ?side2 A46.out).mono ?_); (case side1 => repeat (first | exact (Kd.R_reads' HO_7.out).2.2 | (with_reducible refine Kd.C_alloc ?_ _) | (with_reducible refine Kd.C_drewN ?_ _) | (with_reducible refine Kd.C_drew ?_))); (case side2 => rw [show t268.length = t255.length from (Kd.R_reads' HO_7.out).1.symm]; exact (Kd.R_reads' HO_7.out).2.1); rintro e w78 ⟨rfl, hb⟩; refine ⟨_, rfl, ?_⟩; have n0_ := Aside0.mk (Kd.R_below (b2_ HO_4.out) hb); have n1_ := Aside0.mk (Kd.R_below (b2_ HO_7.out) hb); have n2_ := Aside0.mk (below_step (by repeat (first | (with_reducible first | exact HB.out | apply below_alloc | apply pw_below_drewN | apply below_drew1) | exact HB.out)) hb); clear HO_4; clear HO_7; clear HB; have HO_4 := n0_; have HO_7 := n1_; have HB := n2_; clear n0_ n1_ n2_; (try clear hb); (try clear hb2); (try clear hk); (try clear hi)))
 go_ret
 exact ⟨by first | rfl | (simp [errW_none, errW_some] <;> rfl) | (simp [*, errW_none, errW_some] <;> rfl), by repeat (first | (with_reducible first | exact HB.out | apply below_alloc | apply pw_below_drewN | apply below_drew1) | exact HB.out)⟩}}}}}}
 {
 replace c28 := Bool.eq_false_iff.mpr c28
 subst c28
 have H1 : (some false) = some r := by rw [if_neg (show ¬ (false = true) by decide)] at H; exact H
 clear H
 have H := H1
 clear H1
 obtain rfl := Option.some.inj H
 go_wp2_with (first | ((with_reducible refine gate_callee (f := 21) rfl ?_); refine goesL_ (some 43) rfl rfl Try.func21 s2_ rfl #[.slice A0 l0.length c0] rfl s3_ ?_; (with_reducible refine (laws_toEventS.calls kj8 _ _ l0 t260 _ ?side1 ?side2 A26.out).mono ?_); (case side1 => repeat (first | exact (Kd.C_below HR0.out HB.out) | (with_reducible refine Kd.C_alloc ?_ _) | (with_reducible refine Kd.C_drewN ?_ _) | (with_reducible refine Kd.C_drew ?_))); (case side2 => exact HC0.out); rintro e w79 ⟨v261, rfl, ho0, hb⟩; refine ⟨_, rfl, ?_⟩; have n0_ := Aside0.mk (Kd.R_elder' (b2_ HO_4.out) (Kd.R_base ho0) hb); have n1_ := Aside0.mk (Kd.R_elder' (b2_ HO_6.out) (Kd.R_base ho0) hb); have n2_ := Aside0.mk (Kd.R_elder' (b2_ HO_7.out) (Kd.R_base ho0) hb); have n3_ := Aside0.mk (Kd.R_lower (Kd.R_new' (Kd.R_new' (Kd.R_new' ho0 (Kd.R_lt (b2_ HO_4.out))) (Kd.R_lt (b2_ HO_6.out))) (Kd.R_lt (b2_ HO_7.out))) (below_size (by repeat (first | (with_reducible first | exact HB.out | apply below_alloc | apply pw_below_drewN | apply below_drew1) | exact HB.out)))); have n4_ := Aside0.mk (below_step (by repeat (first | (with_reducible first | exact HB.out | apply below_alloc | apply pw_below_drewN | apply below_drew1) | exact HB.out)) hb); clear HO_4; clear HO_6; clear HO_7; clear HB; have HO_4 := n0_; have HO_6 := n1_; have HO_7 := n2_; have HO262 := n3_; have HB := n4_; clear n0_ n1_ n2_ n3_ n4_; (try clear hb); (try clear hb2); (try clear hk); (try clear hi); (try clear ho0); obtain ⟨Ao80, co80, eo80⟩ := Kd.R_slice HO262.out; subst eo80) | ((with_reducible refine gate_callee (f := 23) rfl ?_); refine goesL_ (some 44) rfl rfl Try.func23 s2_ rfl #[.slice Ao15 t252.length co15, .slice Ao80 t260.length co80] rfl s3_ ?_; (with_reducible refine (laws_eqEventS.calls kj8 _ _ t252 _ _ t260 false _ ?side1 ?side2 ?side3 ?side4 A27.out).mono ?_); (case side1 => repeat (first | exact (Kd.R_reads' HO_6.out).2.2 | (with_reducible refine Kd.C_alloc ?_ _) | (with_reducible refine Kd.C_drewN ?_ _) | (with_reducible refine Kd.C_drew ?_))); (case side2 => exact (Kd.R_reads' HO_6.out).2.1); (case side3 => repeat (first | exact (Kd.R_reads' HO262.out).2.2 | (with_reducible refine Kd.C_alloc ?_ _) | (with_reducible refine Kd.C_drewN ?_ _) | (with_reducible refine Kd.C_drew ?_))); (case side4 => exact (Kd.R_reads' HO262.out).2.1); rintro e w81 ⟨rfl, hb⟩; refine ⟨_, rfl, ?_⟩; have n0_ := Aside0.mk (Kd.R_below (b2_ HO_4.out) hb); have n1_ := Aside0.mk (Kd.R_below (b2_ HO_6.out) hb); have n2_ := Aside0.mk (Kd.R_below (b2_ HO_7.out) hb); have n3_ := Aside0.mk (Kd.R_below (b2_ HO262.out) hb); have n4_ := Aside0.mk (below_step (by repeat (first | (with_reducible first | exact HB.out | apply below_alloc | apply pw_below_drewN | apply below_drew1) | exact HB.out)) hb); clear HO_4; clear HO_6; clear HO_7; clear HO262; clear HB; have HO_4 := n0_; have HO_6 := n1_; have HO_7 := n2_; have HO262 := n3_; have HB := n4_; clear n0_ n1_ n2_ n3_ n4_; (try clear hb); (try clear hb2); (try clear hk); (try clear hi)))
 go_ret
 exact ⟨by first | rfl | (simp [errW_none, errW_some] <;> rfl) | (simp [*, errW_none, errW_some] <;> rfl), by repeat (first | (with_reducible first | exact HB.out | apply below_alloc | apply pw_below_drewN | apply below_drew1) | exact HB.out)⟩}}}}}

/-- THE ONE PURE STATEMENT of laws_FnExactCompactEvents: yours. -/
def laws_FnExactCompactEvents.Pure : Prop := ∀ (l0 : List (S23)), (l0.length ≤ maxLen ∧ l0.length * 56 ≤ 140737488351232 ∧ ∀ y0_ ∈ l0, fit23 y0_) → ∃ k, laws_FnExactCompactEvents.f k l0 = some true
theorem laws_FnExactCompactEvents.walk (P : laws_FnExactCompactEvents.Pure) (A0 : Option Addr) (c0 : Nat) (l0 : List (S23)) (w : World) (hr0 : Kd.C k23 w A0 l0.length l0) (hc0 : l0.length ≤ c0) (F0 : l0.length ≤ maxLen ∧ l0.length * 56 ≤ 140737488351232 ∧ ∀ y0_ ∈ l0, fit23 y0_) :
    Calls Try.prog 6 #[.slice A0 l0.length c0] w fun e w' => e = .returned (.bool true) ∧ Below w.heap.size w w' := by
  obtain ⟨k, h⟩ := P l0 F0
  refine (laws_FnExactCompactEvents.calls k A0 c0 l0 true w hr0 hc0 h).mono ?_
  rintro e w' ⟨rfl, hd⟩
  exact ⟨rfl, hd⟩

end Go.Proofs.Ytgmbgpjebpgpkaa.QFnExactCompactEvents
