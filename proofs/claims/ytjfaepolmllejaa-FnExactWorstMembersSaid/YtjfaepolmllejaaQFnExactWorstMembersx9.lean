-- written by a program of this session, on the lines of the kit's print
import Derived.Test.YtjfaepolmllejaaQFnExactWorstMembersx0
import Derived.Test.YtjfaepolmllejaaQFnExactWorstMembersx1
import Derived.Test.YtjfaepolmllejaaQFnExactWorstMembersx2
import Derived.Test.YtjfaepolmllejaaQFnExactWorstMembersx5
import Derived.Test.YtjfaepolmllejaaQFnExactWorstMembersx8
namespace Go.Proofs.Ytjfaepolmllejaa.QFnExactWorstMembers
open Go.RowKit Go.Proofs.YtjfaepolmllejaaW.PrintWords Go.Proofs.YtjfaepolmllejaaW.PrintLast Go.Proofs.YtjfaepolmllejaaW.PrintMore
attribute [local go_sem] max2_int min2_int max_two min_two max_three min_three max_four min_four   -- for this text's walks alone
set_option linter.unusedVariables false
set_option linter.unusedSimpArgs false

/-! ### laws_FnExactWorstMembers: function 11 -/
abbrev laws_FnExactWorstMembers.T : Bool := true
abbrev laws_FnExactWorstMembers.F : Bool := false
theorem laws_FnExactWorstMembers.s1_ {P : Prop} (h : P := by first | rfl | (simp; done) | (simp [*]; done)) : P := h
theorem laws_FnExactWorstMembers.s2_ {P : Prop} (h : P := by kernel_rfl) : P := h
theorem laws_FnExactWorstMembers.s3_ {P : Prop} (h : P := by (try simp only [List.map_toArray, List.map_cons, List.map_nil]); first | done | rfl | (simp only [List.length_drop, List.length_take]; rfl)) : P := h
theorem laws_FnExactWorstMembers.b2_ {P Q : Prop} (q : Q) (h : Q → P := by intro q_; (with_reducible repeat (first | apply Kd.R_alloc | apply Kd.R_drewN | apply Kd.R_drew)); exact q_) : P := h q
theorem laws_FnExactWorstMembers.y1_ {P Q : Prop} (q : Q) (h : Q → P := by intro q_; repeat (first | (with_reducible first | exact q_ | apply below_alloc | apply pw_below_drewN | apply below_drew1) | exact q_)) : P := h q
theorem laws_FnExactWorstMembers.y2_ {P Q : Prop} (q : Q) (h : Q → P := by intro q_; repeat (first | exact q_ | (with_reducible refine Kd.C_alloc ?_ _) | (with_reducible refine Kd.C_drewN ?_ _) | (with_reducible refine Kd.C_drew ?_))) : P := h q
theorem laws_FnExactWorstMembers.r1_ {α : Type} {d : Kd α} {e base : Nat} {ok : Nat → Prop} {v : Value} {xs : List α} {w W w1 : World} (q : Aside0 (d.R e w base ok v xs)) (hb : Below W.heap.size W w1) (h : d.R e w base ok v xs → d.R e W base ok v xs := by intro q_; (with_reducible repeat (first | apply Kd.R_alloc | apply Kd.R_drewN | apply Kd.R_drew)); exact q_) : Aside0 (d.R e w1 base ok v xs) := ⟨Kd.R_below (h q.out) hb⟩
mutual
def laws_FnExactWorstMembers.j0 : Nat → List (S39) → Int → Int → Int → List Int → Bool → List (S45) → List Int → Bool → Bool → Option (Bool)
  | 0, _, _, _, _, _, _, _, _, _, _ => none
  | k + 1, x0, x1, x2, x3, x10, x11, x12, x13, x14, x52 => if x52 = true then (some false) else ((laws_toStrikeS.f k x0).bind fun t213 => ((laws_eqStrikeS.f k x12 t213).bind fun t216 => (if t216 = true then ((laws_markStrikeS.f k x12 1).bind fun bt217 => (if bt217.1 < 0 then (laws_FnExactWorstMembers.j1 k x0 x1 x2 x3 x10 x11 x13 true) else ((laws_eqInt64S.f k x13 x10).bind fun t219 => (if t219 = true then (laws_FnExactWorstMembers.j1 k x0 x1 x2 x3 x10 x11 x13 (x14 != x11)) else (laws_FnExactWorstMembers.j1 k x0 x1 x2 x3 x10 x11 x13 true))))) else (some false))))
def laws_FnExactWorstMembers.j1 : Nat → List (S39) → Int → Int → Int → List Int → Bool → List Int → Bool → Option (Bool)
  | 0, _, _, _, _, _, _, _, _ => none
  | k + 1, x0, x1, x2, x3, x10, x11, x13, x73 => if x73 = true then (some false) else ((laws_markInt64S.f k x13 1).bind fun bt220 => ((laws_heldInt64S.f k bt220.2 1).bind fun t222 => (if t222 < 0 then (some false) else (if t222 = bt220.1 then ((laws_toStrikeS.f k x0).bind fun t223 => ((impl_WorstMembers.f k t223 x1 x2 x3).bind fun bt226 => ((laws_eqInt64S.f k bt226.1 x10).bind fun t230 => (if t230 = true then (laws_FnExactWorstMembers.j2 k bt220.2 bt220.1 (bt226.2 != x11)) else (laws_FnExactWorstMembers.j2 k bt220.2 bt220.1 true))))) else (some false)))))
def laws_FnExactWorstMembers.j2 : Nat → List Int → Int → Bool → Option (Bool)
  | 0, _, _, _ => none
  | k + 1, x13, x16, x102 => if x102 = true then (some false) else ((laws_heldInt64S.f k x13 1).bind fun t231 => (if t231 < 0 then (some false) else (if t231 = x16 then (some true) else (some false))))
end
def laws_FnExactWorstMembers.f (k : Nat) (l0 : List (S39)) (a1 : Int) (a2 : Int) (a3 : Int) : Option (Bool) := (laws_szStrikeS.f l0 1048576).bind fun t197 => (if t197 < 0 then (some true) else ((laws_toStrikeS.f k l0).bind fun t198 => ((spec_WorstMembers.f k t198 a1 a2 a3).bind fun bt201 => ((laws_toStrikeS.f k l0).bind fun t205 => ((impl_WorstMembers.f k t205 a1 a2 a3).bind fun bt208 => ((laws_eqInt64S.f k bt208.1 bt201.1).bind fun t212 => (if t212 = true then (laws_FnExactWorstMembers.j0 k l0 a1 a2 a3 bt201.1 bt201.2 t205 bt208.1 bt208.2 (bt208.2 != bt201.2)) else (laws_FnExactWorstMembers.j0 k l0 a1 a2 a3 bt201.1 bt201.2 t205 bt208.1 bt208.2 true))))))))
theorem laws_FnExactWorstMembers.mono_l : ∀ k, (∀ y0 y1 y2 y3 y4 y5 y6 y7 y8 y9, LeO (laws_FnExactWorstMembers.j0 k y0 y1 y2 y3 y4 y5 y6 y7 y8 y9) (laws_FnExactWorstMembers.j0 (k + 1) y0 y1 y2 y3 y4 y5 y6 y7 y8 y9)) ∧ (∀ y0 y1 y2 y3 y4 y5 y6 y7, LeO (laws_FnExactWorstMembers.j1 k y0 y1 y2 y3 y4 y5 y6 y7) (laws_FnExactWorstMembers.j1 (k + 1) y0 y1 y2 y3 y4 y5 y6 y7)) ∧ (∀ y0 y1 y2, LeO (laws_FnExactWorstMembers.j2 k y0 y1 y2) (laws_FnExactWorstMembers.j2 (k + 1) y0 y1 y2))
  | 0 => ⟨fun _ _ _ _ _ _ _ _ _ _ r h => by simp [laws_FnExactWorstMembers.j0] at h, fun _ _ _ _ _ _ _ _ r h => by simp [laws_FnExactWorstMembers.j1] at h, fun _ _ _ r h => by simp [laws_FnExactWorstMembers.j2] at h⟩
  | k + 1 => by
    obtain ⟨ih0, ih1, ih2⟩ := laws_FnExactWorstMembers.mono_l k
    refine ⟨?_, ?_, ?_⟩
    · intro y0 y1 y2 y3 y4 y5 y6 y7 y8 y9
      unfold laws_FnExactWorstMembers.j0
      repeat' first
      | (with_reducible exact ih0 _ _ _ _ _ _ _ _ _ _)
      | (with_reducible exact ih1 _ _ _ _ _ _ _ _)
      | (with_reducible exact ih2 _ _ _)
      | (with_reducible exact impl_WorstMembers.mono _ _ _ _ _)
      | (with_reducible exact laws_eqInt64S.mono _ _ _)
      | (with_reducible exact laws_eqStrikeS.mono _ _ _)
      | (with_reducible exact laws_heldInt64S.mono _ _ _)
      | (with_reducible exact laws_markInt64S.mono _ _ _)
      | (with_reducible exact laws_markStrikeS.mono _ _ _)
      | (with_reducible exact laws_toStrikeS.mono _ _)
      | (with_reducible exact spec_WorstMembers.mono _ _ _ _ _)
      | (with_reducible exact LeO.refl _)
      | (with_reducible exact LeO.none _)
      | (with_reducible refine LeO.ite ?_ ?_)
      | (with_reducible refine LeO.bind ?_ (fun _ => ?_))
      | exact ih0 _ _ _ _ _ _ _ _ _ _
      | exact ih1 _ _ _ _ _ _ _ _
      | exact ih2 _ _ _
      | exact impl_WorstMembers.mono _ _ _ _ _
      | exact laws_eqInt64S.mono _ _ _
      | exact laws_eqStrikeS.mono _ _ _
      | exact laws_heldInt64S.mono _ _ _
      | exact laws_markInt64S.mono _ _ _
      | exact laws_markStrikeS.mono _ _ _
      | exact laws_toStrikeS.mono _ _
      | exact spec_WorstMembers.mono _ _ _ _ _
      | exact LeO.none _
      | refine LeO.ite ?_ ?_
      | refine LeO.bind ?_ (fun _ => ?_)
    · intro y0 y1 y2 y3 y4 y5 y6 y7
      unfold laws_FnExactWorstMembers.j1
      repeat' first
      | (with_reducible exact ih0 _ _ _ _ _ _ _ _ _ _)
      | (with_reducible exact ih1 _ _ _ _ _ _ _ _)
      | (with_reducible exact ih2 _ _ _)
      | (with_reducible exact impl_WorstMembers.mono _ _ _ _ _)
      | (with_reducible exact laws_eqInt64S.mono _ _ _)
      | (with_reducible exact laws_eqStrikeS.mono _ _ _)
      | (with_reducible exact laws_heldInt64S.mono _ _ _)
      | (with_reducible exact laws_markInt64S.mono _ _ _)
      | (with_reducible exact laws_markStrikeS.mono _ _ _)
      | (with_reducible exact laws_toStrikeS.mono _ _)
      | (with_reducible exact spec_WorstMembers.mono _ _ _ _ _)
      | (with_reducible exact LeO.refl _)
      | (with_reducible exact LeO.none _)
      | (with_reducible refine LeO.ite ?_ ?_)
      | (with_reducible refine LeO.bind ?_ (fun _ => ?_))
      | exact ih0 _ _ _ _ _ _ _ _ _ _
      | exact ih1 _ _ _ _ _ _ _ _
      | exact ih2 _ _ _
      | exact impl_WorstMembers.mono _ _ _ _ _
      | exact laws_eqInt64S.mono _ _ _
      | exact laws_eqStrikeS.mono _ _ _
      | exact laws_heldInt64S.mono _ _ _
      | exact laws_markInt64S.mono _ _ _
      | exact laws_markStrikeS.mono _ _ _
      | exact laws_toStrikeS.mono _ _
      | exact spec_WorstMembers.mono _ _ _ _ _
      | exact LeO.none _
      | refine LeO.ite ?_ ?_
      | refine LeO.bind ?_ (fun _ => ?_)
    · intro y0 y1 y2
      unfold laws_FnExactWorstMembers.j2
      repeat' first
      | (with_reducible exact ih0 _ _ _ _ _ _ _ _ _ _)
      | (with_reducible exact ih1 _ _ _ _ _ _ _ _)
      | (with_reducible exact ih2 _ _ _)
      | (with_reducible exact impl_WorstMembers.mono _ _ _ _ _)
      | (with_reducible exact laws_eqInt64S.mono _ _ _)
      | (with_reducible exact laws_eqStrikeS.mono _ _ _)
      | (with_reducible exact laws_heldInt64S.mono _ _ _)
      | (with_reducible exact laws_markInt64S.mono _ _ _)
      | (with_reducible exact laws_markStrikeS.mono _ _ _)
      | (with_reducible exact laws_toStrikeS.mono _ _)
      | (with_reducible exact spec_WorstMembers.mono _ _ _ _ _)
      | (with_reducible exact LeO.refl _)
      | (with_reducible exact LeO.none _)
      | (with_reducible refine LeO.ite ?_ ?_)
      | (with_reducible refine LeO.bind ?_ (fun _ => ?_))
      | exact ih0 _ _ _ _ _ _ _ _ _ _
      | exact ih1 _ _ _ _ _ _ _ _
      | exact ih2 _ _ _
      | exact impl_WorstMembers.mono _ _ _ _ _
      | exact laws_eqInt64S.mono _ _ _
      | exact laws_eqStrikeS.mono _ _ _
      | exact laws_heldInt64S.mono _ _ _
      | exact laws_markInt64S.mono _ _ _
      | exact laws_markStrikeS.mono _ _ _
      | exact laws_toStrikeS.mono _ _
      | exact spec_WorstMembers.mono _ _ _ _ _
      | exact LeO.none _
      | refine LeO.ite ?_ ?_
      | refine LeO.bind ?_ (fun _ => ?_)
theorem laws_FnExactWorstMembers.mono : ∀ a0 a1 a2 a3 k, LeO (laws_FnExactWorstMembers.f k a0 a1 a2 a3) (laws_FnExactWorstMembers.f (k + 1) a0 a1 a2 a3) := by
  intro a0 a1 a2 a3 k
  obtain ⟨ih0, ih1, ih2⟩ := laws_FnExactWorstMembers.mono_l k
  unfold laws_FnExactWorstMembers.f
  repeat' first
      | (with_reducible exact ih0 _ _ _ _ _ _ _ _ _ _)
      | (with_reducible exact ih1 _ _ _ _ _ _ _ _)
      | (with_reducible exact ih2 _ _ _)
      | (with_reducible exact impl_WorstMembers.mono _ _ _ _ _)
      | (with_reducible exact laws_eqInt64S.mono _ _ _)
      | (with_reducible exact laws_eqStrikeS.mono _ _ _)
      | (with_reducible exact laws_heldInt64S.mono _ _ _)
      | (with_reducible exact laws_markInt64S.mono _ _ _)
      | (with_reducible exact laws_markStrikeS.mono _ _ _)
      | (with_reducible exact laws_toStrikeS.mono _ _)
      | (with_reducible exact spec_WorstMembers.mono _ _ _ _ _)
      | (with_reducible exact LeO.refl _)
      | (with_reducible exact LeO.none _)
      | (with_reducible refine LeO.ite ?_ ?_)
      | (with_reducible refine LeO.bind ?_ (fun _ => ?_))
      | exact ih0 _ _ _ _ _ _ _ _ _ _
      | exact ih1 _ _ _ _ _ _ _ _
      | exact ih2 _ _ _
      | exact impl_WorstMembers.mono _ _ _ _ _
      | exact laws_eqInt64S.mono _ _ _
      | exact laws_eqStrikeS.mono _ _ _
      | exact laws_heldInt64S.mono _ _ _
      | exact laws_markInt64S.mono _ _ _
      | exact laws_markStrikeS.mono _ _ _
      | exact laws_toStrikeS.mono _ _
      | exact spec_WorstMembers.mono _ _ _ _ _
      | exact LeO.none _
      | refine LeO.ite ?_ ?_
      | refine LeO.bind ?_ (fun _ => ?_)
set_option maxHeartbeats 8000000 in
set_option maxRecDepth 100000 in
theorem laws_FnExactWorstMembers.calls (k : Nat) (A0 : Option Addr) (c0 : Nat) (l0 : List (S39)) (a1 : Int) (a2 : Int) (a3 : Int) (r : Bool) (w : World) (hr0 : Kd.C k39 w A0 l0.length l0) (hc0 : l0.length ≤ c0) (h : laws_FnExactWorstMembers.f k l0 a1 a2 a3 = some r) :
    Calls Try.prog 11 #[.slice A0 l0.length c0, .int .i64 a1, .int .i64 a2, .int .i64 a3] w fun e w' => e = .returned (.bool r) ∧ Below w.heap.size w w' := by
 have HR0 := Aside0.mk hr0
 have HC0 := Aside0.mk hc0
 clear hr0 hc0
 have HB := Aside0.mk (Below.refl w.heap.size w)
 have H : ((laws_szStrikeS.f l0 1048576).bind fun t197 => (if t197 < 0 then (some true) else ((laws_toStrikeS.f k l0).bind fun t198 => ((spec_WorstMembers.f k t198 a1 a2 a3).bind fun bt201 => ((laws_toStrikeS.f k l0).bind fun t205 => ((impl_WorstMembers.f k t205 a1 a2 a3).bind fun bt208 => ((laws_eqInt64S.f k bt208.1 bt201.1).bind fun t212 => (if t212 = true then (laws_FnExactWorstMembers.j0 k l0 a1 a2 a3 bt201.1 bt201.2 t205 bt208.1 bt208.2 (bt208.2 != bt201.2)) else (laws_FnExactWorstMembers.j0 k l0 a1 a2 a3 bt201.1 bt201.2 t205 bt208.1 bt208.2 true))))))))) = some r := h
 clear h
 replace H := Option.bind_eq_some_iff.mp H
 obtain ⟨t197, A50, H⟩ := H
 replace H : (if t197 < 0 then (some true) else ((laws_toStrikeS.f k l0).bind fun t198 => ((spec_WorstMembers.f k t198 a1 a2 a3).bind fun bt201 => ((laws_toStrikeS.f k l0).bind fun t205 => ((impl_WorstMembers.f k t205 a1 a2 a3).bind fun bt208 => ((laws_eqInt64S.f k bt208.1 bt201.1).bind fun t212 => (if t212 = true then (laws_FnExactWorstMembers.j0 k l0 a1 a2 a3 bt201.1 bt201.2 t205 bt208.1 bt208.2 (bt208.2 != bt201.2)) else (laws_FnExactWorstMembers.j0 k l0 a1 a2 a3 bt201.1 bt201.2 t205 bt208.1 bt208.2 true)))))))) = some r := H
 have A5 := Aside0.mk A50
 clear A50
 by_cases c6 : t197 < 0
 {
 rw [if_pos c6] at H
 have c6b0 : decide (t197 < 0) = true := decide_eq_true c6
 clear c6
 obtain rfl := Option.some.inj H
 go_enter Try.func11, Try.ntmps11
 go_wp2_with (first | ((with_reducible refine gate_callee (f := 26) rfl ?_); refine goesL_ (some 22) rfl rfl Try.func26 s2_ rfl #[.slice A0 l0.length c0, .int .i64 1048576] rfl s3_ ?_; (with_reducible refine (laws_szStrikeS.calls _ _ l0 1048576 t197 _ ?side1 ?side2 A5.out).mono ?_); (case side1 => repeat (first | exact HR0.out | (with_reducible refine Kd.C_alloc ?_ _) | (with_reducible refine Kd.C_drewN ?_ _) | (with_reducible refine Kd.C_drew ?_))); (case side2 => exact HC0.out); rintro e w' ⟨rfl, ⟨nd, rfl⟩⟩; refine ⟨_, rfl, ?_⟩))
 go_ret
 exact ⟨by first | rfl | (simp [errW_none, errW_some] <;> rfl) | (simp [*, errW_none, errW_some] <;> rfl), by repeat (first | (with_reducible first | exact HB.out | apply below_alloc | apply pw_below_drewN | apply below_drew1) | exact HB.out)⟩}
 {
 rw [if_neg c6] at H
 have c6b0 : decide (t197 < 0) = false := decide_eq_false c6
 clear c6
 replace H := Option.bind_eq_some_iff.mp H
 obtain ⟨t198, A70, H⟩ := H
 replace H : ((spec_WorstMembers.f k t198 a1 a2 a3).bind fun bt201 => ((laws_toStrikeS.f k l0).bind fun t205 => ((impl_WorstMembers.f k t205 a1 a2 a3).bind fun bt208 => ((laws_eqInt64S.f k bt208.1 bt201.1).bind fun t212 => (if t212 = true then (laws_FnExactWorstMembers.j0 k l0 a1 a2 a3 bt201.1 bt201.2 t205 bt208.1 bt208.2 (bt208.2 != bt201.2)) else (laws_FnExactWorstMembers.j0 k l0 a1 a2 a3 bt201.1 bt201.2 t205 bt208.1 bt208.2 true)))))) = some r := H
 have A7 := Aside0.mk A70
 clear A70
 replace H := Option.bind_eq_some_iff.mp H
 obtain ⟨⟨t201, t202⟩, A80, H⟩ := H
 replace H : ((laws_toStrikeS.f k l0).bind fun t205 => ((impl_WorstMembers.f k t205 a1 a2 a3).bind fun bt208 => ((laws_eqInt64S.f k bt208.1 t201).bind fun t212 => (if t212 = true then (laws_FnExactWorstMembers.j0 k l0 a1 a2 a3 t201 t202 t205 bt208.1 bt208.2 (bt208.2 != t202)) else (laws_FnExactWorstMembers.j0 k l0 a1 a2 a3 t201 t202 t205 bt208.1 bt208.2 true))))) = some r := H
 have A8 := Aside0.mk A80
 clear A80
 replace H := Option.bind_eq_some_iff.mp H
 obtain ⟨t205, A90, H⟩ := H
 replace H : ((impl_WorstMembers.f k t205 a1 a2 a3).bind fun bt208 => ((laws_eqInt64S.f k bt208.1 t201).bind fun t212 => (if t212 = true then (laws_FnExactWorstMembers.j0 k l0 a1 a2 a3 t201 t202 t205 bt208.1 bt208.2 (bt208.2 != t202)) else (laws_FnExactWorstMembers.j0 k l0 a1 a2 a3 t201 t202 t205 bt208.1 bt208.2 true)))) = some r := H
 have A9 := Aside0.mk A90
 clear A90
 replace H := Option.bind_eq_some_iff.mp H
 obtain ⟨⟨t208, t209⟩, A100, H⟩ := H
 replace H : ((laws_eqInt64S.f k t208 t201).bind fun t212 => (if t212 = true then (laws_FnExactWorstMembers.j0 k l0 a1 a2 a3 t201 t202 t205 t208 t209 (t209 != t202)) else (laws_FnExactWorstMembers.j0 k l0 a1 a2 a3 t201 t202 t205 t208 t209 true))) = some r := H
 have A10 := Aside0.mk A100
 clear A100
 have HC11 := Aside0.mk H
 clear H
 go_enter Try.func11, Try.ntmps11
 go_upto_region 8 with (first | ((with_reducible refine gate_callee (f := 26) rfl ?_); refine goesL_ (some 22) rfl rfl Try.func26 s2_ rfl #[.slice A0 l0.length c0, .int .i64 1048576] rfl s3_ ?_; (with_reducible refine (laws_szStrikeS.calls _ _ l0 1048576 t197 _ ?side1 ?side2 A5.out).mono ?_); (case side1 => repeat (first | exact HR0.out | (with_reducible refine Kd.C_alloc ?_ _) | (with_reducible refine Kd.C_drewN ?_ _) | (with_reducible refine Kd.C_drew ?_))); (case side2 => exact HC0.out); rintro e w' ⟨rfl, ⟨nd, rfl⟩⟩; refine ⟨_, rfl, ?_⟩) | ((with_reducible refine gate_callee (f := 28) rfl ?_); refine goesL_ (some 27) rfl rfl Try.func28 s2_ rfl #[.slice A0 l0.length c0] rfl s3_ ?_; (with_reducible refine (laws_toStrikeS.calls k _ _ l0 t198 _ ?side1 ?side2 A7.out).mono ?_); (case side1 => repeat (first | exact HR0.out | (with_reducible refine Kd.C_alloc ?_ _) | (with_reducible refine Kd.C_drewN ?_ _) | (with_reducible refine Kd.C_drew ?_))); (case side2 => exact HC0.out); rintro e w12 ⟨v199, rfl, ho0, hb⟩; refine ⟨_, rfl, ?_⟩; have HO200 := Aside0.mk (Kd.R_lower ho0 (below_size (y1_ HB.out))); replace HB := Aside0.mk (below_step (y1_ HB.out) hb); (try clear hb); (try clear hb2); (try clear hk); (try clear hi); (try clear ho0); obtain ⟨Ao13, co13, eo13⟩ := Kd.R_slice HO200.out; subst eo13) | ((with_reducible refine gate_callee (f := 51) rfl ?_); refine goesL_ (some 31) rfl rfl Try.func51 s2_ rfl #[.slice Ao13 t198.length co13, .int .i64 a1, .int .i64 a2, .int .i64 a3] rfl s3_ ?_; (with_reducible refine (spec_WorstMembers.calls k _ _ t198 a1 a2 a3 t201 t202 _ ?side1 ?side2 A8.out).mono ?_); (case side1 => exact y2_ (Kd.R_reads' HO200.out).2.2); (case side2 => exact (Kd.R_reads' HO200.out).2.1); rintro e w14 ⟨v203, rfl, ho0, hb⟩; refine ⟨_, rfl, ?_⟩; replace HO200 := r1_ HO200 hb; have HO204 := Aside0.mk (Kd.R_lower ho0 (below_size (y1_ HB.out))); replace HB := Aside0.mk (below_step (y1_ HB.out) hb); (try clear hb); (try clear hb2); (try clear hk); (try clear hi); (try clear ho0)) | ((with_reducible refine gate_callee (f := 28) rfl ?_); refine goesL_ (some 35) rfl rfl Try.func28 s2_ rfl #[.slice A0 l0.length c0] rfl s3_ ?_; (with_reducible refine (laws_toStrikeS.calls k _ _ l0 t205 _ ?side1 ?side2 A9.out).mono ?_); (case side1 => exact y2_ (Kd.C_below HR0.out HB.out)); (case side2 => exact HC0.out); rintro e w15 ⟨v206, rfl, ho0, hb⟩; refine ⟨_, rfl, ?_⟩; have n0_ := Aside0.mk (Kd.R_elder' (b2_ HO200.out) (Kd.R_base ho0) hb); have n1_ := r1_ HO204 hb; have n2_ := Aside0.mk (Kd.R_lower (Kd.R_new' ho0 (Kd.R_lt (b2_ HO200.out))) (below_size (y1_ HB.out))); have n3_ := Aside0.mk (below_step (y1_ HB.out) hb); clear HO200; clear HO204; clear HB; have HO200 := n0_; have HO204 := n1_; have HO207 := n2_; have HB := n3_; clear n0_ n1_ n2_ n3_; (try clear hb); (try clear hb2); (try clear hk); (try clear hi); (try clear ho0); obtain ⟨Ao16, co16, eo16⟩ := Kd.R_slice HO207.out; subst eo16) | ((with_reducible refine gate_callee (f := 41) rfl ?_); refine goesL_ (some 41) rfl rfl Try.func41 s2_ rfl #[.slice Ao16 t205.length co16, .int .i64 a1, .int .i64 a2, .int .i64 a3] rfl s3_ ?_; (with_reducible refine (impl_WorstMembers.calls k _ _ t205 a1 a2 a3 t208 t209 _ ?side1 ?side2 A10.out).mono ?_); (case side1 => exact y2_ (Kd.R_reads' HO207.out).2.2); (case side2 => exact (Kd.R_reads' HO207.out).2.1); rintro e w17 ⟨v210, rfl, ho0, hb⟩; refine ⟨_, rfl, ?_⟩; have n0_ := r1_ HO200 hb; have n1_ := Aside0.mk (Kd.R_elder' (b2_ HO204.out) (Kd.R_base ho0) hb); have n2_ := r1_ HO207 hb; have n3_ := Aside0.mk (Kd.R_lower (Kd.R_new' ho0 (Kd.R_lt (b2_ HO204.out))) (below_size (y1_ HB.out))); have n4_ := Aside0.mk (below_step (y1_ HB.out) hb); clear HO200; clear HO204; clear HO207; clear HB; have HO200 := n0_; have HO204 := n1_; have HO207 := n2_; have HO211 := n3_; have HB := n4_; clear n0_ n1_ n2_ n3_ n4_; (try clear hb); (try clear hb2); (try clear hk); (try clear hi); (try clear ho0)))
 (try simp only [Act.put, List.setIfInBounds_toArray, List.set_cons_zero, List.set_cons_succ])
 go_cut [52] (fun v52 wc => ∃ (kq : Nat) (x52_10 : Bool), v52 = .bool x52_10 ∧ Aside0 (laws_FnExactWorstMembers.j0 kq l0 a1 a2 a3 t201 t202 t205 t208 t209 x52_10 = some r) ∧ Aside0 (kq ≤ k) ∧ Aside0 (Kd.R (Kd.int .i64) 2 wc w.heap.size (fun k_ => some k_ ≠ (v210 : Value).ownBlock) v203 t201) ∧ Aside0 (Kd.R k45 45 wc w.heap.size (fun _ => True) (.slice Ao16 t205.length co16) t205) ∧ Aside0 (Kd.R (Kd.int .i64) 2 wc w.heap.size (fun k_ => some k_ ≠ (v203 : Value).ownBlock) v210 t208) ∧ Aside0 (Below w.heap.size w wc))
 case first =>
  skip
  {
 have H := HC11.out
 clear HC11
 replace H := Option.bind_eq_some_iff.mp H
 obtain ⟨t212, A180, H⟩ := H
 replace H : (if t212 = true then (laws_FnExactWorstMembers.j0 k l0 a1 a2 a3 t201 t202 t205 t208 t209 (t209 != t202)) else (laws_FnExactWorstMembers.j0 k l0 a1 a2 a3 t201 t202 t205 t208 t209 true)) = some r := H
 have A18 := Aside0.mk A180
 clear A180
 by_cases c19 : t212 = true
 {
 subst c19
 have H1 : (laws_FnExactWorstMembers.j0 k l0 a1 a2 a3 t201 t202 t205 t208 t209 (t209 != t202)) = some r := by rw [if_pos rfl] at H; exact H
 clear H
 have H := H1
 clear H1
 have H' := Aside0.mk H
 clear H
 obtain ⟨Ao20, co20, eo20⟩ := Kd.R_slice HO211.out
 subst eo20
 obtain ⟨Ao21, co21, eo21⟩ := Kd.R_slice HO204.out
 subst eo21
 go_wp2_with (first | ((with_reducible refine gate_callee (f := 22) rfl ?_); refine goesL_ (some 46) rfl rfl Try.func22 s2_ rfl #[.slice Ao20 t208.length co20, .slice Ao21 t201.length co21] rfl s3_ ?_; (with_reducible refine (laws_eqInt64S.calls k _ _ t208 _ _ t201 true _ ?side1 ?side2 ?side3 ?side4 A18.out).mono ?_); (case side1 => exact y2_ (Kd.R_reads' HO211.out).2.2); (case side2 => exact (Kd.R_reads' HO211.out).2.1); (case side3 => exact y2_ (Kd.R_reads' HO204.out).2.2); (case side4 => exact (Kd.R_reads' HO204.out).2.1); rintro e w' ⟨rfl, ⟨nd, rfl⟩⟩; refine ⟨_, rfl, ?_⟩))
 go_meet
 case rel => exact ⟨_, ((t209 != t202)), s1_, H', ⟨by first | omega | exact Nat.le_refl _⟩, ⟨by (with_reducible repeat (first | apply Kd.R_alloc | apply Kd.R_drewN | apply Kd.R_drew)); exact Kd.R_mono HO204.out (fun _ hk => hk.2)⟩, ⟨by (with_reducible repeat (first | apply Kd.R_alloc | apply Kd.R_drewN | apply Kd.R_drew)); exact Kd.R_mono HO207.out (fun _ hk => trivial)⟩, ⟨by (with_reducible repeat (first | apply Kd.R_alloc | apply Kd.R_drewN | apply Kd.R_drew)); exact Kd.R_mono HO211.out (fun _ hk => hk.2)⟩, ⟨by repeat (first | (with_reducible first | exact HB.out | apply below_alloc | apply pw_below_drewN | apply below_drew1) | exact HB.out)⟩⟩}
 {
 replace c19 := Bool.eq_false_iff.mpr c19
 subst c19
 have H1 : (laws_FnExactWorstMembers.j0 k l0 a1 a2 a3 t201 t202 t205 t208 t209 true) = some r := by rw [if_neg (show ¬ (false = true) by decide)] at H; exact H
 clear H
 have H := H1
 clear H1
 have H' := Aside0.mk H
 clear H
 obtain ⟨Ao22, co22, eo22⟩ := Kd.R_slice HO211.out
 subst eo22
 obtain ⟨Ao23, co23, eo23⟩ := Kd.R_slice HO204.out
 subst eo23
 go_wp2_with (first | ((with_reducible refine gate_callee (f := 22) rfl ?_); refine goesL_ (some 46) rfl rfl Try.func22 s2_ rfl #[.slice Ao22 t208.length co22, .slice Ao23 t201.length co23] rfl s3_ ?_; (with_reducible refine (laws_eqInt64S.calls k _ _ t208 _ _ t201 false _ ?side1 ?side2 ?side3 ?side4 A18.out).mono ?_); (case side1 => exact y2_ (Kd.R_reads' HO211.out).2.2); (case side2 => exact (Kd.R_reads' HO211.out).2.1); (case side3 => exact y2_ (Kd.R_reads' HO204.out).2.2); (case side4 => exact (Kd.R_reads' HO204.out).2.1); rintro e w' ⟨rfl, ⟨nd, rfl⟩⟩; refine ⟨_, rfl, ?_⟩))
 go_meet
 case rel => exact ⟨_, (true), s1_, H', ⟨by first | omega | exact Nat.le_refl _⟩, ⟨by (with_reducible repeat (first | apply Kd.R_alloc | apply Kd.R_drewN | apply Kd.R_drew)); exact Kd.R_mono HO204.out (fun _ hk => hk.2)⟩, ⟨by (with_reducible repeat (first | apply Kd.R_alloc | apply Kd.R_drewN | apply Kd.R_drew)); exact Kd.R_mono HO207.out (fun _ hk => trivial)⟩, ⟨by (with_reducible repeat (first | apply Kd.R_alloc | apply Kd.R_drewN | apply Kd.R_drew)); exact Kd.R_mono HO211.out (fun _ hk => hk.2)⟩, ⟨by repeat (first | (with_reducible first | exact HB.out | apply below_alloc | apply pw_below_drewN | apply below_drew1) | exact HB.out)⟩⟩}}
 case rest =>
  skip
  {
 clear HC11
 try clear c1
 try clear c2
 try clear p2
 try clear c4
 try clear c5
 try clear c6
 try clear c6b0
 try clear c11
 try clear c19
 try clear c22
 obtain ⟨kq, x52_10, rfl, HA, HJ10, HO_10, HO_12, HO_13, HB⟩ := hcut
 cases kq with
 | zero => exact absurd HA.out (by simp [laws_FnExactWorstMembers.j0])
 | succ kj10 =>
  skip
  {
 have H := HA.out
 clear HA
 simp only [laws_FnExactWorstMembers.j0] at H
 by_cases c24 : x52_10 = true
 {
 subst c24
 have H1 : (some false) = some r := by rw [if_pos rfl] at H; exact H
 clear H
 have H := H1
 clear H1
 obtain rfl := Option.some.inj H
 go_wp2
 go_ret
 exact ⟨by first | rfl | (simp [errW_none, errW_some] <;> rfl) | (simp [*, errW_none, errW_some] <;> rfl), by repeat (first | (with_reducible first | exact HB.out | apply below_alloc | apply pw_below_drewN | apply below_drew1) | exact HB.out)⟩}
 {
 replace c24 := Bool.eq_false_iff.mpr c24
 subst c24
 have H1 : ((laws_toStrikeS.f kj10 l0).bind fun t213 => ((laws_eqStrikeS.f kj10 t205 t213).bind fun t216 => (if t216 = true then ((laws_markStrikeS.f kj10 t205 1).bind fun bt217 => (if bt217.1 < 0 then (laws_FnExactWorstMembers.j1 kj10 l0 a1 a2 a3 t201 t202 t208 true) else ((laws_eqInt64S.f kj10 t208 t201).bind fun t219 => (if t219 = true then (laws_FnExactWorstMembers.j1 kj10 l0 a1 a2 a3 t201 t202 t208 (t209 != t202)) else (laws_FnExactWorstMembers.j1 kj10 l0 a1 a2 a3 t201 t202 t208 true))))) else (some false)))) = some r := by rw [if_neg (show ¬ (false = true) by decide)] at H; exact H
 clear H
 have H := H1
 clear H1
 replace H := Option.bind_eq_some_iff.mp H
 obtain ⟨t213, A250, H⟩ := H
 replace H : ((laws_eqStrikeS.f kj10 t205 t213).bind fun t216 => (if t216 = true then ((laws_markStrikeS.f kj10 t205 1).bind fun bt217 => (if bt217.1 < 0 then (laws_FnExactWorstMembers.j1 kj10 l0 a1 a2 a3 t201 t202 t208 true) else ((laws_eqInt64S.f kj10 t208 t201).bind fun t219 => (if t219 = true then (laws_FnExactWorstMembers.j1 kj10 l0 a1 a2 a3 t201 t202 t208 (t209 != t202)) else (laws_FnExactWorstMembers.j1 kj10 l0 a1 a2 a3 t201 t202 t208 true))))) else (some false))) = some r := H
 have A25 := Aside0.mk A250
 clear A250
 replace H := Option.bind_eq_some_iff.mp H
 obtain ⟨t216, A260, H⟩ := H
 replace H : (if t216 = true then ((laws_markStrikeS.f kj10 t205 1).bind fun bt217 => (if bt217.1 < 0 then (laws_FnExactWorstMembers.j1 kj10 l0 a1 a2 a3 t201 t202 t208 true) else ((laws_eqInt64S.f kj10 t208 t201).bind fun t219 => (if t219 = true then (laws_FnExactWorstMembers.j1 kj10 l0 a1 a2 a3 t201 t202 t208 (t209 != t202)) else (laws_FnExactWorstMembers.j1 kj10 l0 a1 a2 a3 t201 t202 t208 true))))) else (some false)) = some r := H
 have A26 := Aside0.mk A260
 clear A260
 by_cases c27 : t216 = true
 {
 subst c27
 have H1 : ((laws_markStrikeS.f kj10 t205 1).bind fun bt217 => (if bt217.1 < 0 then (laws_FnExactWorstMembers.j1 kj10 l0 a1 a2 a3 t201 t202 t208 true) else ((laws_eqInt64S.f kj10 t208 t201).bind fun t219 => (if t219 = true then (laws_FnExactWorstMembers.j1 kj10 l0 a1 a2 a3 t201 t202 t208 (t209 != t202)) else (laws_FnExactWorstMembers.j1 kj10 l0 a1 a2 a3 t201 t202 t208 true))))) = some r := by rw [if_pos rfl] at H; exact H
 clear H
 have H := H1
 clear H1
 replace H := Option.bind_eq_some_iff.mp H
 obtain ⟨⟨t217, t218⟩, A280, H⟩ := H
 replace H : (if t217 < 0 then (laws_FnExactWorstMembers.j1 kj10 l0 a1 a2 a3 t201 t202 t208 true) else ((laws_eqInt64S.f kj10 t208 t201).bind fun t219 => (if t219 = true then (laws_FnExactWorstMembers.j1 kj10 l0 a1 a2 a3 t201 t202 t208 (t209 != t202)) else (laws_FnExactWorstMembers.j1 kj10 l0 a1 a2 a3 t201 t202 t208 true)))) = some r := H
 have A28 := Aside0.mk A280
 clear A280
 have HC29 := Aside0.mk H
 clear H
 go_upto_region 14 with (first | ((with_reducible refine gate_callee (f := 28) rfl ?_); refine goesL_ (some 55) rfl rfl Try.func28 s2_ rfl #[.slice A0 l0.length c0] rfl s3_ ?_; (with_reducible refine (laws_toStrikeS.calls kj10 _ _ l0 t213 _ ?side1 ?side2 A25.out).mono ?_); (case side1 => exact y2_ (Kd.C_below HR0.out HB.out)); (case side2 => exact HC0.out); rintro e w30 ⟨v214, rfl, ho0, hb⟩; refine ⟨_, rfl, ?_⟩; have n0_ := r1_ HO_10 hb; have n1_ := Aside0.mk (Kd.R_elder' (b2_ HO_12.out) (Kd.R_base ho0) hb); have n2_ := r1_ HO_13 hb; have n3_ := Aside0.mk (Kd.R_lower (Kd.R_new' ho0 (Kd.R_lt (b2_ HO_12.out))) (below_size (y1_ HB.out))); have n4_ := Aside0.mk (below_step (y1_ HB.out) hb); clear HO_10; clear HO_12; clear HO_13; clear HB; have HO_10 := n0_; have HO_12 := n1_; have HO_13 := n2_; have HO215 := n3_; have HB := n4_; clear n0_ n1_ n2_ n3_ n4_; (try clear hb); (try clear hb2); (try clear hk); (try clear hi); (try clear ho0); obtain ⟨Ao31, co31, eo31⟩ := Kd.R_slice HO215.out; subst eo31) | ((with_reducible refine gate_callee (f := 31) rfl ?_); refine goesL_ (some 56) rfl rfl Try.func31 s2_ rfl #[.slice Ao16 t205.length co16, .slice Ao31 t213.length co31] rfl s3_ ?_; (with_reducible refine (laws_eqStrikeS.calls kj10 _ _ t205 _ _ t213 true _ ?side1 ?side2 ?side3 ?side4 A26.out).mono ?_); (case side1 => exact y2_ (Kd.R_reads' HO_12.out).2.2); (case side2 => exact (Kd.R_reads' HO_12.out).2.1); (case side3 => exact y2_ (Kd.R_reads' HO215.out).2.2); (case side4 => exact (Kd.R_reads' HO215.out).2.1); rintro e w32 ⟨rfl, hb⟩; refine ⟨_, rfl, ?_⟩; replace HO_10 := r1_ HO_10 hb; replace HO_12 := r1_ HO_12 hb; replace HO_13 := r1_ HO_13 hb; replace HO215 := r1_ HO215 hb; replace HB := Aside0.mk (below_step (y1_ HB.out) hb); (try clear hb); (try clear hb2); (try clear hk); (try clear hi)) | ((with_reducible refine gate_callee (f := 32) rfl ?_); refine goesL_ (some 60) rfl rfl Try.func32 s2_ rfl #[.slice Ao16 t205.length co16, .int .i64 1] rfl s3_ ?_; (with_reducible refine (laws_markStrikeS.calls kj10 (fun k_ => some k_ = (.slice Ao16 t205.length co16 : Value).ownBlock) (.slice Ao16 t205.length co16) t205 1 t217 t218 w _ ?side1 ?side2 A28.out).mono ?_); (case side1 => repeat (first | (with_reducible first | exact HB.out | apply below_alloc | apply pw_below_drewN | apply below_drew1) | exact HB.out)); (case side2 => exact Kd.R_tight rfl HO_12.out); rintro e w33 ⟨rfl, hy0, hb, hkp⟩; refine ⟨_, rfl, ?_⟩; have n0_ := Aside0.mk (Kd.R_mono (ok' := fun k_ => some k_ ≠ (v210 : Value).ownBlock) (Kd.R_keptB ((Kd.R_apart' HO_10.out (Kd.R_typed HO_12.out) (by decide))) hkp (fun k_ hk_ hs_ => (hk_.2) hs_)) (fun k_ hk_ => hk_.1.1)); have n1_ := Aside0.mk (Kd.R_reok rfl hy0 (fun k_ e_ => HO_12.out.1 k_ e_)); have n2_ := Aside0.mk (Kd.R_mono (ok' := fun k_ => some k_ ≠ (v203 : Value).ownBlock) (Kd.R_keptB ((Kd.R_apart' HO_13.out (Kd.R_typed HO_12.out) (by decide))) hkp (fun k_ hk_ hs_ => (hk_.2) hs_)) (fun k_ hk_ => hk_.1.1)); have n3_ := Aside0.mk (Kd.R_mono (ok' := fun k_ => some k_ ≠ (.slice Ao16 t205.length co16 : Value).ownBlock) (Kd.R_keptB (HO215.out) hkp (fun k_ hk_ hs_ => (hk_.2) hs_)) (fun k_ hk_ => hk_.1.2)); have n4_ := Aside0.mk (hb); clear HO_10; clear HO_12; clear HO_13; clear HO215; clear HB; have HO_10 := n0_; have HO_12 := n1_; have HO_13 := n2_; have HO215 := n3_; have HB := n4_; clear n0_ n1_ n2_ n3_ n4_; (try clear hb); (try clear hkp); (try clear hy0)))
 (try simp only [Act.put, List.setIfInBounds_toArray, List.set_cons_zero, List.set_cons_succ])
 go_cut [73] (fun v73 wc => ∃ (kq : Nat) (x73_28 : Bool), v73 = .bool x73_28 ∧ Aside0 (laws_FnExactWorstMembers.j1 kq l0 a1 a2 a3 t201 t202 t208 x73_28 = some r) ∧ Aside0 (kq ≤ kj10) ∧ Aside0 (Kd.R (Kd.int .i64) 2 wc w.heap.size (fun k_ => some k_ ≠ (v210 : Value).ownBlock) v203 t201) ∧ Aside0 (Kd.R (Kd.int .i64) 2 wc w.heap.size (fun k_ => some k_ ≠ (v203 : Value).ownBlock) v210 t208) ∧ Aside0 (Below w.heap.size w wc))
 case first =>
  skip
  {
 have H := HC29.out
 clear HC29
 by_cases c34 : t217 < 0
 {
 rw [if_pos c34] at H
 have c34b0 : decide (t217 < 0) = true := decide_eq_true c34
 clear c34
 (first | rw [c34b0] | (simp only [i64_w, i32_w]; rw [c34b0]) | skip)
 have H' := Aside0.mk H
 clear H
 go_wp2
 go_meet
 case rel => exact ⟨_, (true), s1_, H', ⟨by have := HJ10.out; first | omega | exact Nat.le_refl _⟩, ⟨b2_ HO_10.out⟩, ⟨b2_ HO_13.out⟩, ⟨by repeat (first | (with_reducible first | exact HB.out | apply below_alloc | apply pw_below_drewN | apply below_drew1) | exact HB.out)⟩⟩}
 {
 rw [if_neg c34] at H
 have c34b0 : decide (t217 < 0) = false := decide_eq_false c34
 clear c34
 (first | rw [c34b0] | (simp only [i64_w, i32_w]; rw [c34b0]) | skip)
 replace H := Option.bind_eq_some_iff.mp H
 obtain ⟨t219, A350, H⟩ := H
 replace H : (if t219 = true then (laws_FnExactWorstMembers.j1 kj10 l0 a1 a2 a3 t201 t202 t208 (t209 != t202)) else (laws_FnExactWorstMembers.j1 kj10 l0 a1 a2 a3 t201 t202 t208 true)) = some r := H
 have A35 := Aside0.mk A350
 clear A350
 by_cases c36 : t219 = true
 {
 subst c36
 have H1 : (laws_FnExactWorstMembers.j1 kj10 l0 a1 a2 a3 t201 t202 t208 (t209 != t202)) = some r := by rw [if_pos rfl] at H; exact H
 clear H
 have H := H1
 clear H1
 have H' := Aside0.mk H
 clear H
 obtain ⟨Ao37, co37, eo37⟩ := Kd.R_slice HO_13.out
 subst eo37
 obtain ⟨Ao38, co38, eo38⟩ := Kd.R_slice HO_10.out
 subst eo38
 go_wp2_with (first | (go_at_call 22; (with_reducible refine (laws_eqInt64S.calls kj10 _ _ t208 _ _ t201 true _ ?side1 ?side2 ?side3 ?side4 A35.out).mono ?_); (case side1 => exact y2_ (Kd.R_reads' HO_13.out).2.2); (case side2 => exact (Kd.R_reads' HO_13.out).2.1); (case side3 => exact y2_ (Kd.R_reads' HO_10.out).2.2); (case side4 => exact (Kd.R_reads' HO_10.out).2.1); rintro e w' ⟨rfl, ⟨nd, rfl⟩⟩))
 go_meet
 case rel => exact ⟨_, ((t209 != t202)), s1_, H', ⟨by have := HJ10.out; first | omega | exact Nat.le_refl _⟩, ⟨b2_ HO_10.out⟩, ⟨b2_ HO_13.out⟩, ⟨by repeat (first | (with_reducible first | exact HB.out | apply below_alloc | apply pw_below_drewN | apply below_drew1) | exact HB.out)⟩⟩}
 {
 replace c36 := Bool.eq_false_iff.mpr c36
 subst c36
 have H1 : (laws_FnExactWorstMembers.j1 kj10 l0 a1 a2 a3 t201 t202 t208 true) = some r := by rw [if_neg (show ¬ (false = true) by decide)] at H; exact H
 clear H
 have H := H1
 clear H1
 have H' := Aside0.mk H
 clear H
 obtain ⟨Ao39, co39, eo39⟩ := Kd.R_slice HO_13.out
 subst eo39
 obtain ⟨Ao40, co40, eo40⟩ := Kd.R_slice HO_10.out
 subst eo40
 go_wp2_with (first | (go_at_call 22; (with_reducible refine (laws_eqInt64S.calls kj10 _ _ t208 _ _ t201 false _ ?side1 ?side2 ?side3 ?side4 A35.out).mono ?_); (case side1 => exact y2_ (Kd.R_reads' HO_13.out).2.2); (case side2 => exact (Kd.R_reads' HO_13.out).2.1); (case side3 => exact y2_ (Kd.R_reads' HO_10.out).2.2); (case side4 => exact (Kd.R_reads' HO_10.out).2.1); rintro e w' ⟨rfl, ⟨nd, rfl⟩⟩))
 go_meet
 case rel => exact ⟨_, (true), s1_, H', ⟨by have := HJ10.out; first | omega | exact Nat.le_refl _⟩, ⟨b2_ HO_10.out⟩, ⟨b2_ HO_13.out⟩, ⟨by repeat (first | (with_reducible first | exact HB.out | apply below_alloc | apply pw_below_drewN | apply below_drew1) | exact HB.out)⟩⟩}}}
 case rest =>
  skip
  {
 clear HC29
 try clear c1
 try clear c2
 try clear p2
 try clear c3
 try clear c4
 try clear c5
 try clear c6
 try clear c6b0
 try clear c11
 try clear c19
 try clear c22
 try clear c24
 try clear c26
 try clear c27
 try clear c28
 try clear c31
 try clear c32
 try clear c34
 try clear c34b0
 try clear c36
 try clear p2
 obtain ⟨kq, x73_28, rfl, HA, HJ28, HO_10, HO_13, HB⟩ := hcut
 cases kq with
 | zero => exact absurd HA.out (by simp [laws_FnExactWorstMembers.j1])
 | succ kj28 =>
  skip
  {
 have H := HA.out
 clear HA
 simp only [laws_FnExactWorstMembers.j1] at H
 by_cases c41 : x73_28 = true
 {
 subst c41
 have H1 : (some false) = some r := by rw [if_pos rfl] at H; exact H
 clear H
 have H := H1
 clear H1
 obtain rfl := Option.some.inj H
 go_wp2
 go_ret
 exact ⟨by first | rfl | (simp [errW_none, errW_some] <;> rfl) | (simp [*, errW_none, errW_some] <;> rfl), by repeat (first | (with_reducible first | exact HB.out | apply below_alloc | apply pw_below_drewN | apply below_drew1) | exact HB.out)⟩}
 {
 replace c41 := Bool.eq_false_iff.mpr c41
 subst c41
 have H1 : ((laws_markInt64S.f kj28 t208 1).bind fun bt220 => ((laws_heldInt64S.f kj28 bt220.2 1).bind fun t222 => (if t222 < 0 then (some false) else (if t222 = bt220.1 then ((laws_toStrikeS.f kj28 l0).bind fun t223 => ((impl_WorstMembers.f kj28 t223 a1 a2 a3).bind fun bt226 => ((laws_eqInt64S.f kj28 bt226.1 t201).bind fun t230 => (if t230 = true then (laws_FnExactWorstMembers.j2 kj28 bt220.2 bt220.1 (bt226.2 != t202)) else (laws_FnExactWorstMembers.j2 kj28 bt220.2 bt220.1 true))))) else (some false))))) = some r := by rw [if_neg (show ¬ (false = true) by decide)] at H; exact H
 clear H
 have H := H1
 clear H1
 replace H := Option.bind_eq_some_iff.mp H
 obtain ⟨⟨t220, t221⟩, A420, H⟩ := H
 replace H : ((laws_heldInt64S.f kj28 t221 1).bind fun t222 => (if t222 < 0 then (some false) else (if t222 = t220 then ((laws_toStrikeS.f kj28 l0).bind fun t223 => ((impl_WorstMembers.f kj28 t223 a1 a2 a3).bind fun bt226 => ((laws_eqInt64S.f kj28 bt226.1 t201).bind fun t230 => (if t230 = true then (laws_FnExactWorstMembers.j2 kj28 t221 t220 (bt226.2 != t202)) else (laws_FnExactWorstMembers.j2 kj28 t221 t220 true))))) else (some false)))) = some r := H
 have A42 := Aside0.mk A420
 clear A420
 replace H := Option.bind_eq_some_iff.mp H
 obtain ⟨t222, A430, H⟩ := H
 replace H : (if t222 < 0 then (some false) else (if t222 = t220 then ((laws_toStrikeS.f kj28 l0).bind fun t223 => ((impl_WorstMembers.f kj28 t223 a1 a2 a3).bind fun bt226 => ((laws_eqInt64S.f kj28 bt226.1 t201).bind fun t230 => (if t230 = true then (laws_FnExactWorstMembers.j2 kj28 t221 t220 (bt226.2 != t202)) else (laws_FnExactWorstMembers.j2 kj28 t221 t220 true))))) else (some false))) = some r := H
 have A43 := Aside0.mk A430
 clear A430
 by_cases c44 : t222 < 0
 {
 rw [if_pos c44] at H
 have c44b0 : decide (t222 < 0) = true := decide_eq_true c44
 clear c44
 obtain rfl := Option.some.inj H
 obtain ⟨Ao45, co45, eo45⟩ := Kd.R_slice HO_13.out
 subst eo45
 go_wp2_with (first | ((with_reducible refine gate_callee (f := 23) rfl ?_); refine goesL_ (some 76) rfl rfl Try.func23 s2_ rfl #[.slice Ao45 t208.length co45, .int .i64 1] rfl s3_ ?_; (with_reducible refine (laws_markInt64S.calls kj28 (fun k_ => some k_ = (.slice Ao45 t208.length co45 : Value).ownBlock) (.slice Ao45 t208.length co45) t208 1 t220 t221 w _ ?side1 ?side2 A42.out).mono ?_); (case side1 => repeat (first | (with_reducible first | exact HB.out | apply below_alloc | apply pw_below_drewN | apply below_drew1) | exact HB.out)); (case side2 => exact Kd.R_tight rfl HO_13.out); rintro e w46 ⟨rfl, hy0, hb, hkp⟩; refine ⟨_, rfl, ?_⟩; replace HO_10 := Aside0.mk (Kd.R_mono (ok' := fun k_ => some k_ ≠ (.slice Ao45 t208.length co45 : Value).ownBlock) (Kd.R_keptB (HO_10.out) hkp (fun k_ hk_ hs_ => (hk_) hs_)) (fun k_ hk_ => hk_.1)); replace HO_13 := Aside0.mk (Kd.R_reok rfl hy0 (fun k_ e_ => HO_13.out.1 k_ e_)); replace HB := Aside0.mk (hb); (try clear hb); (try clear hkp); (try clear hy0)) | ((with_reducible refine gate_callee (f := 52) rfl ?_); refine goesL_ (some 79) rfl rfl Try.func52 s2_ rfl #[.slice Ao45 t221.length co45, .int .i64 1] rfl (by (try simp only [List.map_toArray, List.map_cons, List.map_nil]); first | done | (rw [show t221.length = t208.length from (Kd.R_reads' HO_13.out).1.symm] <;> rfl) | rfl | (simp only [List.length_drop, List.length_take]; rfl)) ?_; (with_reducible refine (laws_heldInt64S.calls kj28 _ _ t221 1 t222 _ ?side1 ?side2 A43.out).mono ?_); (case side1 => exact y2_ (Kd.R_reads' HO_13.out).2.2); (case side2 => rw [show t221.length = t208.length from (Kd.R_reads' HO_13.out).1.symm]; exact (Kd.R_reads' HO_13.out).2.1); rintro e w' ⟨rfl, ⟨nd, rfl⟩⟩; refine ⟨_, rfl, ?_⟩))
 go_ret
 exact ⟨by first | rfl | (simp [errW_none, errW_some] <;> rfl) | (simp [*, errW_none, errW_some] <;> rfl), by repeat (first | (with_reducible first | exact HB.out | apply below_alloc | apply pw_below_drewN | apply below_drew1) | exact HB.out)⟩}
 {
 rw [if_neg c44] at H
 have c44b0 : decide (t222 < 0) = false := decide_eq_false c44
 clear c44
 by_cases c47 : t222 = t220
 {
 rw [if_pos c47] at H
 have c47b0 : (t222 == t220) = true := beq_iff_eq.mpr c47
 have c47b1 : (t222 != t220) = false := bne_eq_false_iff_eq.mpr c47
 clear c47
 replace H := Option.bind_eq_some_iff.mp H
 obtain ⟨t223, A480, H⟩ := H
 replace H : ((impl_WorstMembers.f kj28 t223 a1 a2 a3).bind fun bt226 => ((laws_eqInt64S.f kj28 bt226.1 t201).bind fun t230 => (if t230 = true then (laws_FnExactWorstMembers.j2 kj28 t221 t220 (bt226.2 != t202)) else (laws_FnExactWorstMembers.j2 kj28 t221 t220 true)))) = some r := H
 have A48 := Aside0.mk A480
 clear A480
 replace H := Option.bind_eq_some_iff.mp H
 obtain ⟨⟨t226, t227⟩, A490, H⟩ := H
 replace H : ((laws_eqInt64S.f kj28 t226 t201).bind fun t230 => (if t230 = true then (laws_FnExactWorstMembers.j2 kj28 t221 t220 (t227 != t202)) else (laws_FnExactWorstMembers.j2 kj28 t221 t220 true))) = some r := H
 have A49 := Aside0.mk A490
 clear A490
 have HC50 := Aside0.mk H
 clear H
 obtain ⟨Ao51, co51, eo51⟩ := Kd.R_slice HO_13.out
 subst eo51
 go_upto_region 25 with (first | ((with_reducible refine gate_callee (f := 23) rfl ?_); refine goesL_ (some 76) rfl rfl Try.func23 s2_ rfl #[.slice Ao51 t208.length co51, .int .i64 1] rfl s3_ ?_; (with_reducible refine (laws_markInt64S.calls kj28 (fun k_ => some k_ = (.slice Ao51 t208.length co51 : Value).ownBlock) (.slice Ao51 t208.length co51) t208 1 t220 t221 w _ ?side1 ?side2 A42.out).mono ?_); (case side1 => repeat (first | (with_reducible first | exact HB.out | apply below_alloc | apply pw_below_drewN | apply below_drew1) | exact HB.out)); (case side2 => exact Kd.R_tight rfl HO_13.out); rintro e w52 ⟨rfl, hy0, hb, hkp⟩; refine ⟨_, rfl, ?_⟩; replace HO_10 := Aside0.mk (Kd.R_mono (ok' := fun k_ => some k_ ≠ (.slice Ao51 t208.length co51 : Value).ownBlock) (Kd.R_keptB (HO_10.out) hkp (fun k_ hk_ hs_ => (hk_) hs_)) (fun k_ hk_ => hk_.1)); replace HO_13 := Aside0.mk (Kd.R_reok rfl hy0 (fun k_ e_ => HO_13.out.1 k_ e_)); replace HB := Aside0.mk (hb); (try clear hb); (try clear hkp); (try clear hy0)) | ((with_reducible refine gate_callee (f := 52) rfl ?_); refine goesL_ (some 79) rfl rfl Try.func52 s2_ rfl #[.slice Ao51 t221.length co51, .int .i64 1] rfl (by (try simp only [List.map_toArray, List.map_cons, List.map_nil]); first | done | (rw [show t221.length = t208.length from (Kd.R_reads' HO_13.out).1.symm] <;> rfl) | rfl | (simp only [List.length_drop, List.length_take]; rfl)) ?_; (with_reducible refine (laws_heldInt64S.calls kj28 _ _ t221 1 t222 _ ?side1 ?side2 A43.out).mono ?_); (case side1 => exact y2_ (Kd.R_reads' HO_13.out).2.2); (case side2 => rw [show t221.length = t208.length from (Kd.R_reads' HO_13.out).1.symm]; exact (Kd.R_reads' HO_13.out).2.1); rintro e w' ⟨rfl, ⟨nd, rfl⟩⟩; refine ⟨_, rfl, ?_⟩) | ((with_reducible refine gate_callee (f := 28) rfl ?_); refine goesL_ (some 87) rfl rfl Try.func28 s2_ rfl #[.slice A0 l0.length c0] rfl s3_ ?_; (with_reducible refine (laws_toStrikeS.calls kj28 _ _ l0 t223 _ ?side1 ?side2 A48.out).mono ?_); (case side1 => exact y2_ (Kd.C_below HR0.out (y1_ HB.out))); (case side2 => exact HC0.out); rintro e w53 ⟨v224, rfl, ho0, hb⟩; refine ⟨_, rfl, ?_⟩; replace HO_10 := r1_ HO_10 hb; replace HO_13 := r1_ HO_13 hb; have HO225 := Aside0.mk (Kd.R_lower ho0 (below_size (y1_ HB.out))); replace HB := Aside0.mk (below_step (y1_ HB.out) hb); (try clear hb); (try clear hb2); (try clear hk); (try clear hi); (try clear ho0); obtain ⟨Ao54, co54, eo54⟩ := Kd.R_slice HO225.out; subst eo54) | ((with_reducible refine gate_callee (f := 41) rfl ?_); refine goesL_ (some 91) rfl rfl Try.func41 s2_ rfl #[.slice Ao54 t223.length co54, .int .i64 a1, .int .i64 a2, .int .i64 a3] rfl s3_ ?_; (with_reducible refine (impl_WorstMembers.calls kj28 _ _ t223 a1 a2 a3 t226 t227 _ ?side1 ?side2 A49.out).mono ?_); (case side1 => exact y2_ (Kd.R_reads' HO225.out).2.2); (case side2 => exact (Kd.R_reads' HO225.out).2.1); rintro e w55 ⟨v228, rfl, ho0, hb⟩; refine ⟨_, rfl, ?_⟩; have n0_ := Aside0.mk (Kd.R_elder' (b2_ HO_10.out) (Kd.R_base ho0) hb); have n1_ := Aside0.mk (Kd.R_elder' (b2_ HO_13.out) (Kd.R_base ho0) hb); have n2_ := r1_ HO225 hb; have n3_ := Aside0.mk (Kd.R_lower (Kd.R_new' (Kd.R_new' ho0 (Kd.R_lt (b2_ HO_10.out))) (Kd.R_lt (b2_ HO_13.out))) (below_size (y1_ HB.out))); have n4_ := Aside0.mk (below_step (y1_ HB.out) hb); clear HO_10; clear HO_13; clear HO225; clear HB; have HO_10 := n0_; have HO_13 := n1_; have HO225 := n2_; have HO229 := n3_; have HB := n4_; clear n0_ n1_ n2_ n3_ n4_; (try clear hb); (try clear hb2); (try clear hk); (try clear hi); (try clear ho0)))
 (try simp only [Act.put, List.setIfInBounds_toArray, List.set_cons_zero, List.set_cons_succ])
 go_cut [102] (fun v102 wc => ∃ (kq : Nat) (x102_49 : Bool), v102 = .bool x102_49 ∧ Aside0 (laws_FnExactWorstMembers.j2 kq t221 t220 x102_49 = some r) ∧ Aside0 (kq ≤ kj28) ∧ Aside0 (Kd.R (Kd.int .i64) 2 wc w.heap.size (fun _ => True) (.slice Ao51 t208.length co51) t221) ∧ Aside0 (Below w.heap.size w wc))
 case first =>
  skip
  {
 have H := HC50.out
 clear HC50
 replace H := Option.bind_eq_some_iff.mp H
 obtain ⟨t230, A560, H⟩ := H
 replace H : (if t230 = true then (laws_FnExactWorstMembers.j2 kj28 t221 t220 (t227 != t202)) else (laws_FnExactWorstMembers.j2 kj28 t221 t220 true)) = some r := H
 have A56 := Aside0.mk A560
 clear A560
 by_cases c57 : t230 = true
 {
 subst c57
 have H1 : (laws_FnExactWorstMembers.j2 kj28 t221 t220 (t227 != t202)) = some r := by rw [if_pos rfl] at H; exact H
 clear H
 have H := H1
 clear H1
 have H' := Aside0.mk H
 clear H
 obtain ⟨Ao58, co58, eo58⟩ := Kd.R_slice HO229.out
 subst eo58
 obtain ⟨Ao59, co59, eo59⟩ := Kd.R_slice HO_10.out
 subst eo59
 go_wp2_with (first | ((with_reducible refine gate_callee (f := 22) rfl ?_); refine goesL_ (some 96) rfl rfl Try.func22 s2_ rfl #[.slice Ao58 t226.length co58, .slice Ao59 t201.length co59] rfl s3_ ?_; (with_reducible refine (laws_eqInt64S.calls kj28 _ _ t226 _ _ t201 true _ ?side1 ?side2 ?side3 ?side4 A56.out).mono ?_); (case side1 => exact y2_ (Kd.R_reads' HO229.out).2.2); (case side2 => exact (Kd.R_reads' HO229.out).2.1); (case side3 => exact y2_ (Kd.R_reads' HO_10.out).2.2); (case side4 => exact (Kd.R_reads' HO_10.out).2.1); rintro e w' ⟨rfl, ⟨nd, rfl⟩⟩; refine ⟨_, rfl, ?_⟩))
 go_meet
 case rel => exact ⟨_, ((t227 != t202)), s1_, H', ⟨by have := HJ10.out; have := HJ28.out; first | omega | exact Nat.le_refl _⟩, ⟨by (with_reducible repeat (first | apply Kd.R_alloc | apply Kd.R_drewN | apply Kd.R_drew)); exact Kd.R_mono HO_13.out (fun _ hk => trivial)⟩, ⟨by repeat (first | (with_reducible first | exact HB.out | apply below_alloc | apply pw_below_drewN | apply below_drew1) | exact HB.out)⟩⟩}
 {
 replace c57 := Bool.eq_false_iff.mpr c57
 subst c57
 have H1 : (laws_FnExactWorstMembers.j2 kj28 t221 t220 true) = some r := by rw [if_neg (show ¬ (false = true) by decide)] at H; exact H
 clear H
 have H := H1
 clear H1
 have H' := Aside0.mk H
 clear H
 obtain ⟨Ao60, co60, eo60⟩ := Kd.R_slice HO229.out
 subst eo60
 obtain ⟨Ao61, co61, eo61⟩ := Kd.R_slice HO_10.out
 subst eo61
 go_wp2_with (first | ((with_reducible refine gate_callee (f := 22) rfl ?_); refine goesL_ (some 96) rfl rfl Try.func22 s2_ rfl #[.slice Ao60 t226.length co60, .slice Ao61 t201.length co61] rfl s3_ ?_; (with_reducible refine (laws_eqInt64S.calls kj28 _ _ t226 _ _ t201 false _ ?side1 ?side2 ?side3 ?side4 A56.out).mono ?_); (case side1 => exact y2_ (Kd.R_reads' HO229.out).2.2); (case side2 => exact (Kd.R_reads' HO229.out).2.1); (case side3 => exact y2_ (Kd.R_reads' HO_10.out).2.2); (case side4 => exact (Kd.R_reads' HO_10.out).2.1); rintro e w' ⟨rfl, ⟨nd, rfl⟩⟩; refine ⟨_, rfl, ?_⟩))
 go_meet
 case rel => exact ⟨_, (true), s1_, H', ⟨by have := HJ10.out; have := HJ28.out; first | omega | exact Nat.le_refl _⟩, ⟨by (with_reducible repeat (first | apply Kd.R_alloc | apply Kd.R_drewN | apply Kd.R_drew)); exact Kd.R_mono HO_13.out (fun _ hk => trivial)⟩, ⟨by repeat (first | (with_reducible first | exact HB.out | apply below_alloc | apply pw_below_drewN | apply below_drew1) | exact HB.out)⟩⟩}}
 case rest =>
  skip
  {
 clear HC50
 try clear c1
 try clear c2
 try clear p2
 try clear c3
 try clear c4
 try clear c5
 try clear c6
 try clear c6b0
 try clear c11
 try clear c19
 try clear c22
 try clear c23
 try clear c24
 try clear c26
 try clear c27
 try clear c28
 try clear c31
 try clear c32
 try clear c34
 try clear c34b0
 try clear c36
 try clear c41
 try clear c44
 try clear c44b0
 try clear c47
 try clear c47b0
 try clear c47b1
 try clear c51
 try clear c52
 try clear c57
 try clear p2
 obtain ⟨kq, x102_49, rfl, HA, HJ49, HO_13, HB⟩ := hcut
 have hl13_49 := (Kd.R_reads' HO_13.out).1
 rw [hl13_49] at HO_13
 (try simp only [hl13_49])
 cases kq with
 | zero => exact absurd HA.out (by simp [laws_FnExactWorstMembers.j2])
 | succ kj49 =>
  skip
  {
 have H := HA.out
 clear HA
 simp only [laws_FnExactWorstMembers.j2] at H
 by_cases c62 : x102_49 = true
 {
 subst c62
 have H1 : (some false) = some r := by rw [if_pos rfl] at H; exact H
 clear H
 have H := H1
 clear H1
 obtain rfl := Option.some.inj H
 go_wp2
 go_ret
 exact ⟨by first | rfl | (simp [errW_none, errW_some] <;> rfl) | (simp [*, errW_none, errW_some] <;> rfl), by repeat (first | (with_reducible first | exact HB.out | apply below_alloc | apply pw_below_drewN | apply below_drew1) | exact HB.out)⟩}
 {
 replace c62 := Bool.eq_false_iff.mpr c62
 subst c62
 have H1 : ((laws_heldInt64S.f kj49 t221 1).bind fun t231 => (if t231 < 0 then (some false) else (if t231 = t220 then (some true) else (some false)))) = some r := by rw [if_neg (show ¬ (false = true) by decide)] at H; exact H
 clear H
 have H := H1
 clear H1
 replace H := Option.bind_eq_some_iff.mp H
 obtain ⟨t231, A630, H⟩ := H
 replace H : (if t231 < 0 then (some false) else (if t231 = t220 then (some true) else (some false))) = some r := H
 have A63 := Aside0.mk A630
 clear A630
 by_cases c64 : t231 < 0
 {
 rw [if_pos c64] at H
 have c64b0 : decide (t231 < 0) = true := decide_eq_true c64
 clear c64
 obtain rfl := Option.some.inj H
 go_wp2_with (first | ((with_reducible refine gate_callee (f := 52) rfl ?_); refine goesL_ (some 105) rfl rfl Try.func52 s2_ rfl #[.slice Ao51 t221.length co51, .int .i64 1] rfl s3_ ?_; (with_reducible refine (laws_heldInt64S.calls kj49 _ _ t221 1 t231 _ ?side1 ?side2 A63.out).mono ?_); (case side1 => exact y2_ (Kd.R_reads' HO_13.out).2.2); (case side2 => exact (Kd.R_reads' HO_13.out).2.1); rintro e w' ⟨rfl, ⟨nd, rfl⟩⟩; refine ⟨_, rfl, ?_⟩))
 go_ret
 exact ⟨by first | rfl | (simp [errW_none, errW_some] <;> rfl) | (simp [*, errW_none, errW_some] <;> rfl), by repeat (first | (with_reducible first | exact HB.out | apply below_alloc | apply pw_below_drewN | apply below_drew1) | exact HB.out)⟩}
 {
 rw [if_neg c64] at H
 have c64b0 : decide (t231 < 0) = false := decide_eq_false c64
 clear c64
 by_cases c65 : t231 = t220
 {
 rw [if_pos c65] at H
 have c65b0 : (t231 == t220) = true := beq_iff_eq.mpr c65
 have c65b1 : (t231 != t220) = false := bne_eq_false_iff_eq.mpr c65
 clear c65
 obtain rfl := Option.some.inj H
 go_wp2_with (first | ((with_reducible refine gate_callee (f := 52) rfl ?_); refine goesL_ (some 105) rfl rfl Try.func52 s2_ rfl #[.slice Ao51 t221.length co51, .int .i64 1] rfl s3_ ?_; (with_reducible refine (laws_heldInt64S.calls kj49 _ _ t221 1 t231 _ ?side1 ?side2 A63.out).mono ?_); (case side1 => exact y2_ (Kd.R_reads' HO_13.out).2.2); (case side2 => exact (Kd.R_reads' HO_13.out).2.1); rintro e w' ⟨rfl, ⟨nd, rfl⟩⟩; refine ⟨_, rfl, ?_⟩))
 go_ret
 exact ⟨by first | rfl | (simp [errW_none, errW_some] <;> rfl) | (simp [*, errW_none, errW_some] <;> rfl), by repeat (first | (with_reducible first | exact HB.out | apply below_alloc | apply pw_below_drewN | apply below_drew1) | exact HB.out)⟩}
 {
 rw [if_neg c65] at H
 have c65b0 : (t231 == t220) = false := beq_eq_false_iff_ne.mpr c65
 have c65b1 : (t231 != t220) = true := bne_iff_ne.mpr c65
 obtain rfl := Option.some.inj H
 go_wp2_with (first | ((with_reducible refine gate_callee (f := 52) rfl ?_); refine goesL_ (some 105) rfl rfl Try.func52 s2_ rfl #[.slice Ao51 t221.length co51, .int .i64 1] rfl s3_ ?_; (with_reducible refine (laws_heldInt64S.calls kj49 _ _ t221 1 t231 _ ?side1 ?side2 A63.out).mono ?_); (case side1 => exact y2_ (Kd.R_reads' HO_13.out).2.2); (case side2 => exact (Kd.R_reads' HO_13.out).2.1); rintro e w' ⟨rfl, ⟨nd, rfl⟩⟩; refine ⟨_, rfl, ?_⟩))
 go_ret
 exact ⟨by first | rfl | (simp [errW_none, errW_some] <;> rfl) | (simp [*, errW_none, errW_some] <;> rfl), by repeat (first | (with_reducible first | exact HB.out | apply below_alloc | apply pw_below_drewN | apply below_drew1) | exact HB.out)⟩}}}}}}
 {
 rw [if_neg c47] at H
 have c47b0 : (t222 == t220) = false := beq_eq_false_iff_ne.mpr c47
 have c47b1 : (t222 != t220) = true := bne_iff_ne.mpr c47
 obtain rfl := Option.some.inj H
 obtain ⟨Ao66, co66, eo66⟩ := Kd.R_slice HO_13.out
 subst eo66
 go_wp2_with (first | ((with_reducible refine gate_callee (f := 23) rfl ?_); refine goesL_ (some 76) rfl rfl Try.func23 s2_ rfl #[.slice Ao66 t208.length co66, .int .i64 1] rfl s3_ ?_; (with_reducible refine (laws_markInt64S.calls kj28 (fun k_ => some k_ = (.slice Ao66 t208.length co66 : Value).ownBlock) (.slice Ao66 t208.length co66) t208 1 t220 t221 w _ ?side1 ?side2 A42.out).mono ?_); (case side1 => repeat (first | (with_reducible first | exact HB.out | apply below_alloc | apply pw_below_drewN | apply below_drew1) | exact HB.out)); (case side2 => exact Kd.R_tight rfl HO_13.out); rintro e w67 ⟨rfl, hy0, hb, hkp⟩; refine ⟨_, rfl, ?_⟩; replace HO_10 := Aside0.mk (Kd.R_mono (ok' := fun k_ => some k_ ≠ (.slice Ao66 t208.length co66 : Value).ownBlock) (Kd.R_keptB (HO_10.out) hkp (fun k_ hk_ hs_ => (hk_) hs_)) (fun k_ hk_ => hk_.1)); replace HO_13 := Aside0.mk (Kd.R_reok rfl hy0 (fun k_ e_ => HO_13.out.1 k_ e_)); replace HB := Aside0.mk (hb); (try clear hb); (try clear hkp); (try clear hy0)) | ((with_reducible refine gate_callee (f := 52) rfl ?_); refine goesL_ (some 79) rfl rfl Try.func52 s2_ rfl #[.slice Ao66 t221.length co66, .int .i64 1] rfl (by (try simp only [List.map_toArray, List.map_cons, List.map_nil]); first | done | (rw [show t221.length = t208.length from (Kd.R_reads' HO_13.out).1.symm] <;> rfl) | rfl | (simp only [List.length_drop, List.length_take]; rfl)) ?_; (with_reducible refine (laws_heldInt64S.calls kj28 _ _ t221 1 t222 _ ?side1 ?side2 A43.out).mono ?_); (case side1 => exact y2_ (Kd.R_reads' HO_13.out).2.2); (case side2 => rw [show t221.length = t208.length from (Kd.R_reads' HO_13.out).1.symm]; exact (Kd.R_reads' HO_13.out).2.1); rintro e w' ⟨rfl, ⟨nd, rfl⟩⟩; refine ⟨_, rfl, ?_⟩))
 go_ret
 exact ⟨by first | rfl | (simp [errW_none, errW_some] <;> rfl) | (simp [*, errW_none, errW_some] <;> rfl), by repeat (first | (with_reducible first | exact HB.out | apply below_alloc | apply pw_below_drewN | apply below_drew1) | exact HB.out)⟩}}}}}}
 {
 replace c27 := Bool.eq_false_iff.mpr c27
 subst c27
 have H1 : (some false) = some r := by rw [if_neg (show ¬ (false = true) by decide)] at H; exact H
 clear H
 have H := H1
 clear H1
 obtain rfl := Option.some.inj H
 go_wp2_with (first | ((with_reducible refine gate_callee (f := 28) rfl ?_); refine goesL_ (some 55) rfl rfl Try.func28 s2_ rfl #[.slice A0 l0.length c0] rfl s3_ ?_; (with_reducible refine (laws_toStrikeS.calls kj10 _ _ l0 t213 _ ?side1 ?side2 A25.out).mono ?_); (case side1 => exact y2_ (Kd.C_below HR0.out HB.out)); (case side2 => exact HC0.out); rintro e w68 ⟨v214, rfl, ho0, hb⟩; refine ⟨_, rfl, ?_⟩; have n0_ := r1_ HO_10 hb; have n1_ := Aside0.mk (Kd.R_elder' (b2_ HO_12.out) (Kd.R_base ho0) hb); have n2_ := r1_ HO_13 hb; have n3_ := Aside0.mk (Kd.R_lower (Kd.R_new' ho0 (Kd.R_lt (b2_ HO_12.out))) (below_size (y1_ HB.out))); have n4_ := Aside0.mk (below_step (y1_ HB.out) hb); clear HO_10; clear HO_12; clear HO_13; clear HB; have HO_10 := n0_; have HO_12 := n1_; have HO_13 := n2_; have HO215 := n3_; have HB := n4_; clear n0_ n1_ n2_ n3_ n4_; (try clear hb); (try clear hb2); (try clear hk); (try clear hi); (try clear ho0); obtain ⟨Ao69, co69, eo69⟩ := Kd.R_slice HO215.out; subst eo69) | ((with_reducible refine gate_callee (f := 31) rfl ?_); refine goesL_ (some 56) rfl rfl Try.func31 s2_ rfl #[.slice Ao16 t205.length co16, .slice Ao69 t213.length co69] rfl s3_ ?_; (with_reducible refine (laws_eqStrikeS.calls kj10 _ _ t205 _ _ t213 false _ ?side1 ?side2 ?side3 ?side4 A26.out).mono ?_); (case side1 => exact y2_ (Kd.R_reads' HO_12.out).2.2); (case side2 => exact (Kd.R_reads' HO_12.out).2.1); (case side3 => exact y2_ (Kd.R_reads' HO215.out).2.2); (case side4 => exact (Kd.R_reads' HO215.out).2.1); rintro e w70 ⟨rfl, hb⟩; refine ⟨_, rfl, ?_⟩; replace HO_10 := r1_ HO_10 hb; replace HO_12 := r1_ HO_12 hb; replace HO_13 := r1_ HO_13 hb; replace HO215 := r1_ HO215 hb; replace HB := Aside0.mk (below_step (y1_ HB.out) hb); (try clear hb); (try clear hb2); (try clear hk); (try clear hi)))
 go_ret
 exact ⟨by first | rfl | (simp [errW_none, errW_some] <;> rfl) | (simp [*, errW_none, errW_some] <;> rfl), by repeat (first | (with_reducible first | exact HB.out | apply below_alloc | apply pw_below_drewN | apply below_drew1) | exact HB.out)⟩}}}}}

/-- THE ONE PURE STATEMENT of laws_FnExactWorstMembers: yours. -/
def laws_FnExactWorstMembers.Pure : Prop := ∀ (l0 : List (S39)) (a1 : Int) (a2 : Int) (a3 : Int), (l0.length ≤ maxLen ∧ l0.length * 24 ≤ 140737488351232 ∧ ∀ y0_ ∈ l0, fit39 y0_) → ((Lit.int .i64 a1).wf = true) → ((Lit.int .i64 a2).wf = true) → ((Lit.int .i64 a3).wf = true) → ∃ k, laws_FnExactWorstMembers.f k l0 a1 a2 a3 = some true
theorem laws_FnExactWorstMembers.walk (P : laws_FnExactWorstMembers.Pure) (A0 : Option Addr) (c0 : Nat) (l0 : List (S39)) (a1 : Int) (a2 : Int) (a3 : Int) (w : World) (hr0 : Kd.C k39 w A0 l0.length l0) (hc0 : l0.length ≤ c0) (F0 : l0.length ≤ maxLen ∧ l0.length * 24 ≤ 140737488351232 ∧ ∀ y0_ ∈ l0, fit39 y0_) (F1 : (Lit.int .i64 a1).wf = true) (F2 : (Lit.int .i64 a2).wf = true) (F3 : (Lit.int .i64 a3).wf = true) :
    Calls Try.prog 11 #[.slice A0 l0.length c0, .int .i64 a1, .int .i64 a2, .int .i64 a3] w fun e w' => e = .returned (.bool true) ∧ Below w.heap.size w w' := by
  obtain ⟨k, h⟩ := P l0 a1 a2 a3 F0 F1 F2 F3
  refine (laws_FnExactWorstMembers.calls k A0 c0 l0 a1 a2 a3 true w hr0 hc0 h).mono ?_
  rintro e w' ⟨rfl, hd⟩
  exact ⟨rfl, hd⟩

end Go.Proofs.Ytjfaepolmllejaa.QFnExactWorstMembers
