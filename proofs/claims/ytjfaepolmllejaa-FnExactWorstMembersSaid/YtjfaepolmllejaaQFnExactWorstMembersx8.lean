-- written by a program of this session, on the lines of the kit's print
import Derived.Test.YtjfaepolmllejaaQFnExactWorstMembersx0
import Derived.Test.YtjfaepolmllejaaQFnExactWorstMembersx5
import Derived.Test.YtjfaepolmllejaaQFnExactWorstMembersx6
import Derived.Test.YtjfaepolmllejaaQFnExactWorstMembersx7
namespace Go.Proofs.Ytjfaepolmllejaa.QFnExactWorstMembers
open Go.RowKit Go.Proofs.YtjfaepolmllejaaW.PrintWords Go.Proofs.YtjfaepolmllejaaW.PrintLast Go.Proofs.YtjfaepolmllejaaW.PrintMore
attribute [local go_sem] max2_int min2_int max_two min_two max_three min_three max_four min_four   -- for this text's walks alone
set_option linter.unusedVariables false
set_option linter.unusedSimpArgs false

/-! ### spec_WorstMembers: function 51 -/
abbrev spec_WorstMembers.T : Bool := true
abbrev spec_WorstMembers.F : Bool := false
theorem spec_WorstMembers.s1_ {P : Prop} (h : P := by first | rfl | (simp; done) | (simp [*]; done)) : P := h
theorem spec_WorstMembers.s2_ {P : Prop} (h : P := by kernel_rfl) : P := h
theorem spec_WorstMembers.s3_ {P : Prop} (h : P := by (try simp only [List.map_toArray, List.map_cons, List.map_nil]); first | done | rfl | (simp only [List.length_drop, List.length_take]; rfl)) : P := h
theorem spec_WorstMembers.b2_ {P Q : Prop} (q : Q) (h : Q → P := by intro q_; (with_reducible repeat (first | apply Kd.R_alloc | apply Kd.R_drewN | apply Kd.R_drew)); exact q_) : P := h q
theorem spec_WorstMembers.y1_ {P Q : Prop} (q : Q) (h : Q → P := by intro q_; repeat (first | (with_reducible first | exact q_ | apply below_alloc | apply pw_below_drewN | apply below_drew1) | exact q_)) : P := h q
theorem spec_WorstMembers.y2_ {P Q : Prop} (q : Q) (h : Q → P := by intro q_; repeat (first | exact q_ | (with_reducible refine Kd.C_alloc ?_ _) | (with_reducible refine Kd.C_drewN ?_ _) | (with_reducible refine Kd.C_drew ?_))) : P := h q
theorem spec_WorstMembers.r1_ {α : Type} {d : Kd α} {e base : Nat} {ok : Nat → Prop} {v : Value} {xs : List α} {w W w1 : World} (q : Aside0 (d.R e w base ok v xs)) (hb : Below W.heap.size W w1) (h : d.R e w base ok v xs → d.R e W base ok v xs := by intro q_; (with_reducible repeat (first | apply Kd.R_alloc | apply Kd.R_drewN | apply Kd.R_drew)); exact q_) : Aside0 (d.R e w1 base ok v xs) := ⟨Kd.R_below (h q.out) hb⟩
mutual
def spec_WorstMembers.j0 : Nat → List (S45) → Int → Int → Int → Bool → Option (List Int × Bool)
  | 0, _, _, _, _, _ => none
  | k + 1, x0, x1, x2, x3, x34 => if x34 = true then (some (([] : List Int), false)) else (spec_WorstMembers.l0 k x0 x1 x2 x3 (([] : List Int)) 0)
def spec_WorstMembers.l0 : Nat → List (S45) → Int → Int → Int → List Int → Int → Option (List Int × Bool)
  | 0, _, _, _, _, _, _ => none
  | k + 1, x0, x1, x2, x3, x10, x11 => if x11 < (x0.length : Int) then (if 0 ≤ x11 then ((spec_l00Put.f k x10 ((rd_T45 x0 x11).f0)).bind fun t182 => (spec_WorstMembers.l0 k x0 x1 x2 x3 t182 (wrap64 (x11 + 1)))) else (none)) else (spec_WorstMembers.l1 k x0 x1 x2 x3 x10 (([] : List Int)))
def spec_WorstMembers.l1 : Nat → List (S45) → Int → Int → Int → List Int → List Int → Option (List Int × Bool)
  | 0, _, _, _, _, _, _ => none
  | k + 1, x0, x1, x2, x3, x10, x12 => if (x12.length : Int) < x3 then (spec_WorstMembers.l2 k x0 x1 x2 x3 x10 x12 0 0 0) else (some (x12, true))
def spec_WorstMembers.l2 : Nat → List (S45) → Int → Int → Int → List Int → List Int → Int → Int → Int → Option (List Int × Bool)
  | 0, _, _, _, _, _, _, _, _, _ => none
  | k + 1, x0, x1, x2, x3, x10, x12, x13, x14, x15 => if x15 < (x10.length : Int) then (if 0 ≤ x15 then ((spec_l06Points.f k x0 (rd x10 x15) x1 x2).bind fun t192 => (if t192 > x14 then ((spec_l00Has.f k x12 (rd x10 x15)).bind fun t194 => (if t194 = true then (spec_WorstMembers.l2 k x0 x1 x2 x3 x10 x12 x13 x14 (wrap64 (x15 + 1))) else (spec_WorstMembers.l2 k x0 x1 x2 x3 x10 x12 (rd x10 x15) t192 (wrap64 (x15 + 1))))) else (spec_WorstMembers.l2 k x0 x1 x2 x3 x10 x12 x13 x14 (wrap64 (x15 + 1))))) else (none)) else (if x14 = 0 then (some (x12, true)) else (if x12.length < 17592186044416 then (spec_WorstMembers.l1 k x0 x1 x2 x3 x10 (x12 ++ [x13])) else (none)))
end
def spec_WorstMembers.f (k : Nat) (l0 : List (S45)) (a1 : Int) (a2 : Int) (a3 : Int) : Option (List Int × Bool) := (spec_l06Strikes.f k l0).bind fun t174 => (if t174 = true then ((spec_l02Tick.f a1).bind fun t175 => (if t175 = true then ((spec_l00In.f a2 1 1000000).bind fun t176 => (if t176 = true then ((spec_l00In.f a3 0 64).bind fun t177 => (spec_WorstMembers.j0 k l0 a1 a2 a3 (!t177))) else (spec_WorstMembers.j0 k l0 a1 a2 a3 true))) else (spec_WorstMembers.j0 k l0 a1 a2 a3 true))) else (spec_WorstMembers.j0 k l0 a1 a2 a3 true))
theorem spec_WorstMembers.mono_l : ∀ k, (∀ y0 y1 y2 y3 y4, LeO (spec_WorstMembers.j0 k y0 y1 y2 y3 y4) (spec_WorstMembers.j0 (k + 1) y0 y1 y2 y3 y4)) ∧ (∀ y0 y1 y2 y3 y4 y5, LeO (spec_WorstMembers.l0 k y0 y1 y2 y3 y4 y5) (spec_WorstMembers.l0 (k + 1) y0 y1 y2 y3 y4 y5)) ∧ (∀ y0 y1 y2 y3 y4 y5, LeO (spec_WorstMembers.l1 k y0 y1 y2 y3 y4 y5) (spec_WorstMembers.l1 (k + 1) y0 y1 y2 y3 y4 y5)) ∧ (∀ y0 y1 y2 y3 y4 y5 y6 y7 y8, LeO (spec_WorstMembers.l2 k y0 y1 y2 y3 y4 y5 y6 y7 y8) (spec_WorstMembers.l2 (k + 1) y0 y1 y2 y3 y4 y5 y6 y7 y8))
  | 0 => ⟨fun _ _ _ _ _ r h => by simp [spec_WorstMembers.j0] at h, fun _ _ _ _ _ _ r h => by simp [spec_WorstMembers.l0] at h, fun _ _ _ _ _ _ r h => by simp [spec_WorstMembers.l1] at h, fun _ _ _ _ _ _ _ _ _ r h => by simp [spec_WorstMembers.l2] at h⟩
  | k + 1 => by
    obtain ⟨ih0, ih1, ih2, ih3⟩ := spec_WorstMembers.mono_l k
    refine ⟨?_, ?_, ?_, ?_⟩
    · intro y0 y1 y2 y3 y4
      unfold spec_WorstMembers.j0
      repeat' first
      | (with_reducible exact ih0 _ _ _ _ _)
      | (with_reducible exact ih1 _ _ _ _ _ _)
      | (with_reducible exact ih2 _ _ _ _ _ _)
      | (with_reducible exact ih3 _ _ _ _ _ _ _ _ _)
      | (with_reducible exact spec_l00Has.mono _ _ _)
      | (with_reducible exact spec_l00Put.mono _ _ _)
      | (with_reducible exact spec_l06Points.mono _ _ _ _ _)
      | (with_reducible exact spec_l06Strikes.mono _ _)
      | (with_reducible exact LeO.refl _)
      | (with_reducible exact LeO.none _)
      | (with_reducible refine LeO.ite ?_ ?_)
      | (with_reducible refine LeO.bind ?_ (fun _ => ?_))
      | exact ih0 _ _ _ _ _
      | exact ih1 _ _ _ _ _ _
      | exact ih2 _ _ _ _ _ _
      | exact ih3 _ _ _ _ _ _ _ _ _
      | exact spec_l00Has.mono _ _ _
      | exact spec_l00Put.mono _ _ _
      | exact spec_l06Points.mono _ _ _ _ _
      | exact spec_l06Strikes.mono _ _
      | exact LeO.none _
      | refine LeO.ite ?_ ?_
      | refine LeO.bind ?_ (fun _ => ?_)
    · intro y0 y1 y2 y3 y4 y5
      unfold spec_WorstMembers.l0
      repeat' first
      | (with_reducible exact ih0 _ _ _ _ _)
      | (with_reducible exact ih1 _ _ _ _ _ _)
      | (with_reducible exact ih2 _ _ _ _ _ _)
      | (with_reducible exact ih3 _ _ _ _ _ _ _ _ _)
      | (with_reducible exact spec_l00Has.mono _ _ _)
      | (with_reducible exact spec_l00Put.mono _ _ _)
      | (with_reducible exact spec_l06Points.mono _ _ _ _ _)
      | (with_reducible exact spec_l06Strikes.mono _ _)
      | (with_reducible exact LeO.refl _)
      | (with_reducible exact LeO.none _)
      | (with_reducible refine LeO.ite ?_ ?_)
      | (with_reducible refine LeO.bind ?_ (fun _ => ?_))
      | exact ih0 _ _ _ _ _
      | exact ih1 _ _ _ _ _ _
      | exact ih2 _ _ _ _ _ _
      | exact ih3 _ _ _ _ _ _ _ _ _
      | exact spec_l00Has.mono _ _ _
      | exact spec_l00Put.mono _ _ _
      | exact spec_l06Points.mono _ _ _ _ _
      | exact spec_l06Strikes.mono _ _
      | exact LeO.none _
      | refine LeO.ite ?_ ?_
      | refine LeO.bind ?_ (fun _ => ?_)
    · intro y0 y1 y2 y3 y4 y5
      unfold spec_WorstMembers.l1
      repeat' first
      | (with_reducible exact ih0 _ _ _ _ _)
      | (with_reducible exact ih1 _ _ _ _ _ _)
      | (with_reducible exact ih2 _ _ _ _ _ _)
      | (with_reducible exact ih3 _ _ _ _ _ _ _ _ _)
      | (with_reducible exact spec_l00Has.mono _ _ _)
      | (with_reducible exact spec_l00Put.mono _ _ _)
      | (with_reducible exact spec_l06Points.mono _ _ _ _ _)
      | (with_reducible exact spec_l06Strikes.mono _ _)
      | (with_reducible exact LeO.refl _)
      | (with_reducible exact LeO.none _)
      | (with_reducible refine LeO.ite ?_ ?_)
      | (with_reducible refine LeO.bind ?_ (fun _ => ?_))
      | exact ih0 _ _ _ _ _
      | exact ih1 _ _ _ _ _ _
      | exact ih2 _ _ _ _ _ _
      | exact ih3 _ _ _ _ _ _ _ _ _
      | exact spec_l00Has.mono _ _ _
      | exact spec_l00Put.mono _ _ _
      | exact spec_l06Points.mono _ _ _ _ _
      | exact spec_l06Strikes.mono _ _
      | exact LeO.none _
      | refine LeO.ite ?_ ?_
      | refine LeO.bind ?_ (fun _ => ?_)
    · intro y0 y1 y2 y3 y4 y5 y6 y7 y8
      unfold spec_WorstMembers.l2
      repeat' first
      | (with_reducible exact ih0 _ _ _ _ _)
      | (with_reducible exact ih1 _ _ _ _ _ _)
      | (with_reducible exact ih2 _ _ _ _ _ _)
      | (with_reducible exact ih3 _ _ _ _ _ _ _ _ _)
      | (with_reducible exact spec_l00Has.mono _ _ _)
      | (with_reducible exact spec_l00Put.mono _ _ _)
      | (with_reducible exact spec_l06Points.mono _ _ _ _ _)
      | (with_reducible exact spec_l06Strikes.mono _ _)
      | (with_reducible exact LeO.refl _)
      | (with_reducible exact LeO.none _)
      | (with_reducible refine LeO.ite ?_ ?_)
      | (with_reducible refine LeO.bind ?_ (fun _ => ?_))
      | exact ih0 _ _ _ _ _
      | exact ih1 _ _ _ _ _ _
      | exact ih2 _ _ _ _ _ _
      | exact ih3 _ _ _ _ _ _ _ _ _
      | exact spec_l00Has.mono _ _ _
      | exact spec_l00Put.mono _ _ _
      | exact spec_l06Points.mono _ _ _ _ _
      | exact spec_l06Strikes.mono _ _
      | exact LeO.none _
      | refine LeO.ite ?_ ?_
      | refine LeO.bind ?_ (fun _ => ?_)
theorem spec_WorstMembers.mono : ∀ a0 a1 a2 a3 k, LeO (spec_WorstMembers.f k a0 a1 a2 a3) (spec_WorstMembers.f (k + 1) a0 a1 a2 a3) := by
  intro a0 a1 a2 a3 k
  obtain ⟨ih0, ih1, ih2, ih3⟩ := spec_WorstMembers.mono_l k
  unfold spec_WorstMembers.f
  repeat' first
      | (with_reducible exact ih0 _ _ _ _ _)
      | (with_reducible exact ih1 _ _ _ _ _ _)
      | (with_reducible exact ih2 _ _ _ _ _ _)
      | (with_reducible exact ih3 _ _ _ _ _ _ _ _ _)
      | (with_reducible exact spec_l00Has.mono _ _ _)
      | (with_reducible exact spec_l00Put.mono _ _ _)
      | (with_reducible exact spec_l06Points.mono _ _ _ _ _)
      | (with_reducible exact spec_l06Strikes.mono _ _)
      | (with_reducible exact LeO.refl _)
      | (with_reducible exact LeO.none _)
      | (with_reducible refine LeO.ite ?_ ?_)
      | (with_reducible refine LeO.bind ?_ (fun _ => ?_))
      | exact ih0 _ _ _ _ _
      | exact ih1 _ _ _ _ _ _
      | exact ih2 _ _ _ _ _ _
      | exact ih3 _ _ _ _ _ _ _ _ _
      | exact spec_l00Has.mono _ _ _
      | exact spec_l00Put.mono _ _ _
      | exact spec_l06Points.mono _ _ _ _ _
      | exact spec_l06Strikes.mono _ _
      | exact LeO.none _
      | refine LeO.ite ?_ ?_
      | refine LeO.bind ?_ (fun _ => ?_)
set_option maxHeartbeats 8000000 in
set_option maxRecDepth 100000 in
theorem spec_WorstMembers.calls (k : Nat) (A0 : Option Addr) (c0 : Nat) (l0 : List (S45)) (a1 : Int) (a2 : Int) (a3 : Int) (r1 : List Int) (r2 : Bool) (w : World) (hr0 : Kd.C k45 w A0 l0.length l0) (hc0 : l0.length ≤ c0) (h : spec_WorstMembers.f k l0 a1 a2 a3 = some (r1, r2)) :
    Calls Try.prog 51 #[.slice A0 l0.length c0, .int .i64 a1, .int .i64 a2, .int .i64 a3] w fun e w' => ∃ v0_ : Value, e = .returned (.tuple #[v0_, .bool r2]) ∧ Kd.R (Kd.int .i64) 2 w' w.heap.size (fun _ => True) v0_ r1 ∧ Below w.heap.size w w' := by
 have HR0 := Aside0.mk hr0
 have HC0 := Aside0.mk hc0
 clear hr0 hc0
 have HB := Aside0.mk (Below.refl w.heap.size w)
 have H : ((spec_l06Strikes.f k l0).bind fun t174 => (if t174 = true then ((spec_l02Tick.f a1).bind fun t175 => (if t175 = true then ((spec_l00In.f a2 1 1000000).bind fun t176 => (if t176 = true then ((spec_l00In.f a3 0 64).bind fun t177 => (spec_WorstMembers.j0 k l0 a1 a2 a3 (!t177))) else (spec_WorstMembers.j0 k l0 a1 a2 a3 true))) else (spec_WorstMembers.j0 k l0 a1 a2 a3 true))) else (spec_WorstMembers.j0 k l0 a1 a2 a3 true))) = some (r1, r2) := h
 clear h
 have HC5 := Aside0.mk H
 clear H
 go_enter Try.func51, Try.ntmps51
 go_upto_region 1 with (fail)
 go_cut [34] (fun v34 wc => ∃ (kq : Nat) (x34_4 : Bool), v34 = .bool x34_4 ∧ Aside0 (spec_WorstMembers.j0 kq l0 a1 a2 a3 x34_4 = some (r1, r2)) ∧ Aside0 (kq ≤ k) ∧ Aside0 (Below w.heap.size w wc))
 case first =>
  skip
  {
 have H := HC5.out
 clear HC5
 replace H := Option.bind_eq_some_iff.mp H
 obtain ⟨t174, A60, H⟩ := H
 replace H : (if t174 = true then ((spec_l02Tick.f a1).bind fun t175 => (if t175 = true then ((spec_l00In.f a2 1 1000000).bind fun t176 => (if t176 = true then ((spec_l00In.f a3 0 64).bind fun t177 => (spec_WorstMembers.j0 k l0 a1 a2 a3 (!t177))) else (spec_WorstMembers.j0 k l0 a1 a2 a3 true))) else (spec_WorstMembers.j0 k l0 a1 a2 a3 true))) else (spec_WorstMembers.j0 k l0 a1 a2 a3 true)) = some (r1, r2) := H
 have A6 := Aside0.mk A60
 clear A60
 by_cases c7 : t174 = true
 {
 subst c7
 have H1 : ((spec_l02Tick.f a1).bind fun t175 => (if t175 = true then ((spec_l00In.f a2 1 1000000).bind fun t176 => (if t176 = true then ((spec_l00In.f a3 0 64).bind fun t177 => (spec_WorstMembers.j0 k l0 a1 a2 a3 (!t177))) else (spec_WorstMembers.j0 k l0 a1 a2 a3 true))) else (spec_WorstMembers.j0 k l0 a1 a2 a3 true))) = some (r1, r2) := by rw [if_pos rfl] at H; exact H
 clear H
 have H := H1
 clear H1
 replace H := Option.bind_eq_some_iff.mp H
 obtain ⟨t175, A80, H⟩ := H
 replace H : (if t175 = true then ((spec_l00In.f a2 1 1000000).bind fun t176 => (if t176 = true then ((spec_l00In.f a3 0 64).bind fun t177 => (spec_WorstMembers.j0 k l0 a1 a2 a3 (!t177))) else (spec_WorstMembers.j0 k l0 a1 a2 a3 true))) else (spec_WorstMembers.j0 k l0 a1 a2 a3 true)) = some (r1, r2) := H
 have A8 := Aside0.mk A80
 clear A80
 by_cases c9 : t175 = true
 {
 subst c9
 have H1 : ((spec_l00In.f a2 1 1000000).bind fun t176 => (if t176 = true then ((spec_l00In.f a3 0 64).bind fun t177 => (spec_WorstMembers.j0 k l0 a1 a2 a3 (!t177))) else (spec_WorstMembers.j0 k l0 a1 a2 a3 true))) = some (r1, r2) := by rw [if_pos rfl] at H; exact H
 clear H
 have H := H1
 clear H1
 replace H := Option.bind_eq_some_iff.mp H
 obtain ⟨t176, A100, H⟩ := H
 replace H : (if t176 = true then ((spec_l00In.f a3 0 64).bind fun t177 => (spec_WorstMembers.j0 k l0 a1 a2 a3 (!t177))) else (spec_WorstMembers.j0 k l0 a1 a2 a3 true)) = some (r1, r2) := H
 have A10 := Aside0.mk A100
 clear A100
 by_cases c11 : t176 = true
 {
 subst c11
 have H1 : ((spec_l00In.f a3 0 64).bind fun t177 => (spec_WorstMembers.j0 k l0 a1 a2 a3 (!t177))) = some (r1, r2) := by rw [if_pos rfl] at H; exact H
 clear H
 have H := H1
 clear H1
 replace H := Option.bind_eq_some_iff.mp H
 obtain ⟨t177, A120, H⟩ := H
 replace H : (spec_WorstMembers.j0 k l0 a1 a2 a3 (!t177)) = some (r1, r2) := H
 have A12 := Aside0.mk A120
 clear A120
 have H' := Aside0.mk H
 clear H
 go_wp2_with (first | ((with_reducible refine gate_callee (f := 63) rfl ?_); refine goesL_ (some 18) rfl rfl Try.func63 s2_ rfl #[.slice A0 l0.length c0] rfl s3_ ?_; (with_reducible refine (spec_l06Strikes.calls k _ _ l0 true _ ?side1 ?side2 A6.out).mono ?_); (case side1 => exact y2_ (Kd.C_below HR0.out HB.out)); (case side2 => exact HC0.out); rintro e w13 ⟨rfl, hb⟩; refine ⟨_, rfl, ?_⟩; replace HB := Aside0.mk (below_step (y1_ HB.out) hb); (try clear hb); (try clear hb2); (try clear hk); (try clear hi)) | (go_at_call 66; (with_reducible refine (spec_l02Tick.calls a1 true _ A8.out).mono ?_); rintro e w' ⟨rfl, ⟨nd, rfl⟩⟩) | (go_at_call 59; (with_reducible refine (spec_l00In.calls a2 1 1000000 true _ A10.out).mono ?_); rintro e w' ⟨rfl, ⟨nd, rfl⟩⟩) | (go_at_call 59; (with_reducible refine (spec_l00In.calls a3 0 64 t177 _ A12.out).mono ?_); rintro e w' ⟨rfl, ⟨nd, rfl⟩⟩))
 go_meet
 case rel => exact ⟨_, (!t177), s1_, H', ⟨by first | omega | exact Nat.le_refl _⟩, ⟨by repeat (first | (with_reducible first | exact HB.out | apply below_alloc | apply pw_below_drewN | apply below_drew1) | exact HB.out)⟩⟩}
 {
 replace c11 := Bool.eq_false_iff.mpr c11
 subst c11
 have H1 : (spec_WorstMembers.j0 k l0 a1 a2 a3 true) = some (r1, r2) := by rw [if_neg (show ¬ (false = true) by decide)] at H; exact H
 clear H
 have H := H1
 clear H1
 have H' := Aside0.mk H
 clear H
 go_wp2_with (first | ((with_reducible refine gate_callee (f := 63) rfl ?_); refine goesL_ (some 18) rfl rfl Try.func63 s2_ rfl #[.slice A0 l0.length c0] rfl s3_ ?_; (with_reducible refine (spec_l06Strikes.calls k _ _ l0 true _ ?side1 ?side2 A6.out).mono ?_); (case side1 => exact y2_ (Kd.C_below HR0.out HB.out)); (case side2 => exact HC0.out); rintro e w14 ⟨rfl, hb⟩; refine ⟨_, rfl, ?_⟩; replace HB := Aside0.mk (below_step (y1_ HB.out) hb); (try clear hb); (try clear hb2); (try clear hk); (try clear hi)) | (go_at_call 66; (with_reducible refine (spec_l02Tick.calls a1 true _ A8.out).mono ?_); rintro e w' ⟨rfl, ⟨nd, rfl⟩⟩) | (go_at_call 59; (with_reducible refine (spec_l00In.calls a2 1 1000000 false _ A10.out).mono ?_); rintro e w' ⟨rfl, ⟨nd, rfl⟩⟩))
 go_meet
 case rel => exact ⟨_, (true), s1_, H', ⟨by first | omega | exact Nat.le_refl _⟩, ⟨by repeat (first | (with_reducible first | exact HB.out | apply below_alloc | apply pw_below_drewN | apply below_drew1) | exact HB.out)⟩⟩}}
 {
 replace c9 := Bool.eq_false_iff.mpr c9
 subst c9
 have H1 : (spec_WorstMembers.j0 k l0 a1 a2 a3 true) = some (r1, r2) := by rw [if_neg (show ¬ (false = true) by decide)] at H; exact H
 clear H
 have H := H1
 clear H1
 have H' := Aside0.mk H
 clear H
 go_wp2_with (first | ((with_reducible refine gate_callee (f := 63) rfl ?_); refine goesL_ (some 18) rfl rfl Try.func63 s2_ rfl #[.slice A0 l0.length c0] rfl s3_ ?_; (with_reducible refine (spec_l06Strikes.calls k _ _ l0 true _ ?side1 ?side2 A6.out).mono ?_); (case side1 => exact y2_ (Kd.C_below HR0.out HB.out)); (case side2 => exact HC0.out); rintro e w15 ⟨rfl, hb⟩; refine ⟨_, rfl, ?_⟩; replace HB := Aside0.mk (below_step (y1_ HB.out) hb); (try clear hb); (try clear hb2); (try clear hk); (try clear hi)) | (go_at_call 66; (with_reducible refine (spec_l02Tick.calls a1 false _ A8.out).mono ?_); rintro e w' ⟨rfl, ⟨nd, rfl⟩⟩))
 go_meet
 case rel => exact ⟨_, (true), s1_, H', ⟨by first | omega | exact Nat.le_refl _⟩, ⟨by repeat (first | (with_reducible first | exact HB.out | apply below_alloc | apply pw_below_drewN | apply below_drew1) | exact HB.out)⟩⟩}}
 {
 replace c7 := Bool.eq_false_iff.mpr c7
 subst c7
 have H1 : (spec_WorstMembers.j0 k l0 a1 a2 a3 true) = some (r1, r2) := by rw [if_neg (show ¬ (false = true) by decide)] at H; exact H
 clear H
 have H := H1
 clear H1
 have H' := Aside0.mk H
 clear H
 go_wp2_with (first | ((with_reducible refine gate_callee (f := 63) rfl ?_); refine goesL_ (some 18) rfl rfl Try.func63 s2_ rfl #[.slice A0 l0.length c0] rfl s3_ ?_; (with_reducible refine (spec_l06Strikes.calls k _ _ l0 false _ ?side1 ?side2 A6.out).mono ?_); (case side1 => exact y2_ (Kd.C_below HR0.out HB.out)); (case side2 => exact HC0.out); rintro e w16 ⟨rfl, hb⟩; refine ⟨_, rfl, ?_⟩; replace HB := Aside0.mk (below_step (y1_ HB.out) hb); (try clear hb); (try clear hb2); (try clear hk); (try clear hi)))
 go_meet
 case rel => exact ⟨_, (true), s1_, H', ⟨by first | omega | exact Nat.le_refl _⟩, ⟨by repeat (first | (with_reducible first | exact HB.out | apply below_alloc | apply pw_below_drewN | apply below_drew1) | exact HB.out)⟩⟩}}
 case rest =>
  skip
  {
 clear HC5
 try clear c1
 try clear p2
 try clear c5
 try clear c6
 try clear c7
 try clear c9
 try clear c11
 obtain ⟨kq, x34_4, rfl, HA, HJ4, HB⟩ := hcut
 cases kq with
 | zero => exact absurd HA.out (by simp [spec_WorstMembers.j0])
 | succ kj4 =>
  skip
  {
 have H := HA.out
 clear HA
 simp only [spec_WorstMembers.j0] at H
 by_cases c17 : x34_4 = true
 {
 subst c17
 have H1 : (some (([] : List Int), false)) = some (r1, r2) := by rw [if_pos rfl] at H; exact H
 clear H
 have H := H1
 clear H1
 simp only [Option.some.injEq, Prod.mk.injEq] at H
 obtain ⟨rfl, rfl⟩ := H
 go_wp2
 go_ret2
 exact ⟨_, by first | rfl | (simp [errW_none, errW_some] <;> rfl) | (simp [*, errW_none, errW_some] <;> rfl), by first | exact Kd.R_nil _ _ _ _ _ | exact Kd.N_nil _ _ _ _ _ | exact Kd.V_nil _ _ _ _ _ | exact Kd.Q_nil _ _ _ _ _ | exact Kd.S_nil _ _ _ _ _, by repeat (first | (with_reducible first | exact HB.out | apply below_alloc | apply pw_below_drewN | apply below_drew1) | exact HB.out)⟩}
 {
 replace c17 := Bool.eq_false_iff.mpr c17
 subst c17
 have H1 : (spec_WorstMembers.l0 kj4 l0 a1 a2 a3 (([] : List Int)) 0) = some (r1, r2) := by rw [if_neg (show ¬ (false = true) by decide)] at H; exact H
 clear H
 have H := H1
 clear H1
 obtain ⟨y178, hy178⟩ : ∃ y_ : List Int, y_ = (([] : List Int)) := ⟨_, rfl⟩
 replace H : (spec_WorstMembers.l0 kj4 l0 a1 a2 a3 y178 0) = some (r1, r2) := by first | (rw [hy178]; with_reducible exact H) | (have H2_ := (Option.bind_some _ _).symm.trans H; rw [hy178]; with_reducible exact H2_) | (have H2_ := (Option.bind_some _ _).symm.trans H; with_reducible exact H2_) | with_reducible exact H | (rw [hy178]; exact H) | exact H
 have Ny178 := Aside0.mk hy178
 clear hy178
 have H' := Aside0.mk H
 clear H
 go_wp2_with (first | ((with_reducible refine gate_dst (N := 35) rfl ?_); refine Kd.R_lit (Kd.int .i64) _ 2 ?hg (N := 35) ?hd (xs := ([] : List Int)) (inner := []) (ok := fun _ => True) (okp := fun _ => True) ?hr ?hp (fun _ hk => hk) trivial (Below.refl _ _) (Nat.le_refl _) (by simp) ?_; (case hd => rfl); (case hg => rfl); (case hr => first | (go_simp; done) | (go_simp; rfl)); (case hp => exact (Reps.none _ _)); intro v179 w18 ho19 hb hg_ hnew_; clear hg_ hnew_; (first | rw [← Ny178.out] at ho19 | (simp only [Int.reduceToNat] at ho19; rw [← Ny178.out] at ho19)); have HO180 := Aside0.mk (Kd.R_lower ho19 (below_size (y1_ HB.out))); replace HB := Aside0.mk (below_step (y1_ HB.out) hb); clear hb ho19))
 go_loopg [10, 11] kj4 (fun kq v10 v11 w' => ∃ (x10_2 : List Int) (x11_2 : Int), v11 = .int .i64 x11_2 ∧ Aside0 (spec_WorstMembers.l0 kq l0 a1 a2 a3 x10_2 x11_2 = some (r1, r2)) ∧ Aside0 (kq ≤ kj4) ∧ Aside0 (Kd.R (Kd.int .i64) 2 w' w.heap.size (fun _ => True) v10 x10_2) ∧ Aside0 (Below w.heap.size w w'))
 case atStart => exact ⟨(y178), (0), s1_, H', ⟨Nat.le_refl _⟩, ⟨b2_ HO180.out⟩, ⟨by repeat (first | (with_reducible first | exact HB.out | apply below_alloc | apply pw_below_drewN | apply below_drew1) | exact HB.out)⟩⟩
 case round =>
  skip
  {
 clear H'
 try clear c1
 try clear p2
 try clear c5
 try clear c6
 try clear c7
 try clear c9
 try clear c11
 try clear c17
 try clear p2
 obtain ⟨x10_2, x11_2, rfl, HA, HK2, HO_10, HB⟩ := hrel
 cases gk with
 | zero => exact absurd HA.out (by simp [spec_WorstMembers.l0])
 | succ k2 =>
  skip
  {
 have H := HA.out
 clear HA
 simp only [spec_WorstMembers.l0] at H
 by_cases c20 : x11_2 < (l0.length : Int)
 {
 rw [if_pos c20] at H
 have c20b0 : decide (x11_2 < (l0.length : Int)) = true := decide_eq_true c20
 clear c20
 by_cases c21 : 0 ≤ x11_2
 {
 rw [if_pos c21] at H
 have c21b0 : decide (0 ≤ x11_2) = true := decide_eq_true c21
 clear c21
 replace H := Option.bind_eq_some_iff.mp H
 obtain ⟨t182, A220, H⟩ := H
 replace H : (spec_WorstMembers.l0 k2 l0 a1 a2 a3 t182 (wrap64 (x11_2 + 1))) = some (r1, r2) := H
 have A22 := Aside0.mk A220
 clear A220
 have H' := Aside0.mk H
 clear H
 have p181 : 0 ≤ (x11_2 : Int) := of_decide_eq_true (by first | (with_reducible assumption) | assumption)
 have q181 : x11_2 < (l0.length : Int) := of_decide_eq_true (by first | (with_reducible assumption) | assumption)
 obtain ⟨ad181, e181, hx181_0, hx181_1, hx181_2⟩ := at_T45 HR0.out x11_2 p181 q181
 cases e181
 replace hx181_0 := (HB.out.cell (World.block_lt_of_cell? w _ hx181_0)).trans hx181_0
 replace hx181_1 := (HB.out.cell (World.block_lt_of_cell? w _ hx181_1)).trans hx181_1
 replace hx181_2 := (HB.out.cell (World.block_lt_of_cell? w _ hx181_2)).trans hx181_2
 replace p181 := eq_true p181
 replace q181 := eq_true q181
 obtain ⟨Ao23, co23, eo23⟩ := Kd.R_slice HO_10.out
 subst eo23
 go_wp2_with (first | ((with_reducible refine gate_callee (f := 92) rfl ?_); refine goesL_ (some 48) rfl rfl Try.func92 s2_ rfl #[.slice Ao23 x10_2.length co23, .int .i64 ((rd_T45 l0 x11_2).f0)] rfl s3_ ?_; (with_reducible refine (spec_l00Put.calls k2 _ _ x10_2 ((rd_T45 l0 x11_2).f0) t182 _ ?side1 ?side2 A22.out).mono ?_); (case side1 => exact y2_ (Kd.R_reads' HO_10.out).2.2); (case side2 => exact (Kd.R_reads' HO_10.out).2.1); rintro e w24 ⟨v183, rfl, ho0, hb⟩; refine ⟨_, rfl, ?_⟩; have n0_ := Aside0.mk (Kd.R_elder' (b2_ HO_10.out) (Kd.R_base ho0) hb); have n1_ := Aside0.mk (Kd.R_lower (Kd.R_new' ho0 (Kd.R_lt (b2_ HO_10.out))) (below_size (y1_ HB.out))); have n2_ := Aside0.mk (below_step (y1_ HB.out) hb); clear HO_10; clear HB; have HO_10 := n0_; have HO184 := n1_; have HB := n2_; clear n0_ n1_ n2_; (try clear hb); (try clear hb2); (try clear hk); (try clear hi); (try clear ho0)))
 go_roundg k2
 case measure => have := HJ4.out; have := HK2.out; omega
 case rel => exact ⟨(t182), (wrap64 (x11_2 + 1)), s1_, H', ⟨by have := HJ4.out; have := HK2.out; omega⟩, ⟨by (with_reducible repeat (first | apply Kd.R_alloc | apply Kd.R_drewN | apply Kd.R_drew)); exact Kd.R_mono HO184.out (fun _ hk => trivial)⟩, ⟨by repeat (first | (with_reducible first | exact HB.out | apply below_alloc | apply pw_below_drewN | apply below_drew1) | exact HB.out)⟩⟩}
 {
 rw [if_neg c21] at H
 exact absurd H (by simp)}}
 {
 rw [if_neg c20] at H
 have c20b0 : decide (x11_2 < (l0.length : Int)) = false := decide_eq_false c20
 clear c20
 obtain ⟨y185, hy185⟩ : ∃ y_ : List Int, y_ = (([] : List Int)) := ⟨_, rfl⟩
 replace H : (spec_WorstMembers.l1 k2 l0 a1 a2 a3 x10_2 y185) = some (r1, r2) := by first | (rw [hy185]; with_reducible exact H) | (have H2_ := (Option.bind_some _ _).symm.trans H; rw [hy185]; with_reducible exact H2_) | (have H2_ := (Option.bind_some _ _).symm.trans H; with_reducible exact H2_) | with_reducible exact H | (rw [hy185]; exact H) | exact H
 have Ny185 := Aside0.mk hy185
 clear hy185
 have H' := Aside0.mk H
 clear H
 go_wp2_with (first | ((with_reducible refine gate_dst (N := 49) rfl ?_); refine Kd.R_lit (Kd.int .i64) _ 2 ?hg (N := 49) ?hd (xs := ([] : List Int)) (inner := []) (ok := fun _ => True) (okp := fun _ => True) ?hr ?hp (fun _ hk => hk) trivial (Below.refl _ _) (Nat.le_refl _) (by simp) ?_; (case hd => rfl); (case hg => rfl); (case hr => first | (go_simp; done) | (go_simp; rfl)); (case hp => exact (Reps.none _ _)); intro v186 w25 ho26 hb hg_ hnew_; clear hg_ hnew_; (first | rw [← Ny185.out] at ho26 | (simp only [Int.reduceToNat] at ho26; rw [← Ny185.out] at ho26)); have n0_ := Aside0.mk (Kd.R_elder' (b2_ HO_10.out) (Kd.R_base ho26) hb); have n1_ := Aside0.mk (Kd.R_lower (Kd.R_new' ho26 (Kd.R_lt (b2_ HO_10.out))) (below_size (y1_ HB.out))); have n2_ := Aside0.mk (below_step (y1_ HB.out) hb); clear HO_10; clear HB; have HO_10 := n0_; have HO187 := n1_; have HB := n2_; clear n0_ n1_ n2_; clear hb ho26))
 go_loopg [12] k2 (fun kq v12 w' => ∃ (x12_3 : List Int), Aside0 (spec_WorstMembers.l1 kq l0 a1 a2 a3 x10_2 x12_3 = some (r1, r2)) ∧ Aside0 (kq ≤ k2) ∧ Aside0 (Kd.R (Kd.int .i64) 2 w' w.heap.size (fun k_ => some k_ ≠ (v12 : Value).ownBlock) u10 x10_2) ∧ Aside0 (Kd.R (Kd.int .i64) 2 w' w.heap.size (fun k_ => some k_ ≠ (u10 : Value).ownBlock) v12 x12_3) ∧ Aside0 (Below w.heap.size w w'))
 case atStart => exact ⟨(y185), H', ⟨Nat.le_refl _⟩, ⟨by (with_reducible repeat (first | apply Kd.R_alloc | apply Kd.R_drewN | apply Kd.R_drew)); exact Kd.R_mono HO_10.out (fun _ hk => hk.2)⟩, ⟨by (with_reducible repeat (first | apply Kd.R_alloc | apply Kd.R_drewN | apply Kd.R_drew)); exact Kd.R_mono HO187.out (fun _ hk => hk.2)⟩, ⟨by repeat (first | (with_reducible first | exact HB.out | apply below_alloc | apply pw_below_drewN | apply below_drew1) | exact HB.out)⟩⟩
 case round =>
  skip
  {
 clear H'
 try clear c1
 try clear p1
 try clear q1
 try clear hx1
 try clear c2
 try clear p2
 try clear c5
 try clear c6
 try clear p6
 try clear c7
 try clear c9
 try clear c11
 try clear c17
 try clear p18
 try clear q18
 try clear hx18
 try clear c20
 try clear c20b0
 try clear c21
 try clear c21b0
 try clear hx181_0
 try clear hx181_1
 try clear hx181_2
 try clear p181
 try clear p2
 try clear q181
 obtain ⟨x12_3, HA, HK3, HO_10, HO_12, HB⟩ := hrel
 cases gk with
 | zero => exact absurd HA.out (by simp [spec_WorstMembers.l1])
 | succ k3 =>
  skip
  {
 have H := HA.out
 clear HA
 simp only [spec_WorstMembers.l1] at H
 by_cases c27 : (x12_3.length : Int) < a3
 {
 rw [if_pos c27] at H
 have c27b0 : decide ((x12_3.length : Int) < a3) = true := decide_eq_true c27
 clear c27
 have H' := Aside0.mk H
 clear H
 obtain ⟨Ao28, co28, eo28⟩ := Kd.R_slice HO_12.out
 subst eo28
 go_wp2
 go_loopg [13, 14, 15] k3 (fun kq v13 v14 v15 w' => ∃ (x13_4 : Int) (x14_4 : Int) (x15_4 : Int), v13 = .int .i64 x13_4 ∧ v14 = .int .i64 x14_4 ∧ v15 = .int .i64 x15_4 ∧ Aside0 (spec_WorstMembers.l2 kq l0 a1 a2 a3 x10_2 x12_3 x13_4 x14_4 x15_4 = some (r1, r2)) ∧ Aside0 (kq ≤ k3) ∧ Aside0 (Kd.R (Kd.int .i64) 2 w' w.heap.size (fun k_ => some k_ ≠ ((.slice Ao28 x12_3.length co28) : Value).ownBlock) u10 x10_2) ∧ Aside0 (Kd.R (Kd.int .i64) 2 w' w.heap.size (fun k_ => some k_ ≠ (u10 : Value).ownBlock) (.slice Ao28 x12_3.length co28) x12_3) ∧ Aside0 (Below w.heap.size w w'))
 case atStart => exact ⟨(0), (0), (0), s1_, s1_, s1_, H', ⟨Nat.le_refl _⟩, ⟨b2_ HO_10.out⟩, ⟨b2_ HO_12.out⟩, ⟨by repeat (first | (with_reducible first | exact HB.out | apply below_alloc | apply pw_below_drewN | apply below_drew1) | exact HB.out)⟩⟩
 case round =>
  skip
  {
 clear H'
 try clear c1
 try clear p1
 try clear q1
 try clear hx1
 try clear c2
 try clear p2
 try clear c5
 try clear c6
 try clear p6
 try clear c7
 try clear c9
 try clear c11
 try clear c17
 try clear p18
 try clear q18
 try clear hx18
 try clear c20
 try clear c20b0
 try clear c21
 try clear c21b0
 try clear c27
 try clear c27b0
 try clear hx181_0
 try clear hx181_1
 try clear hx181_2
 try clear p1
 try clear p18
 try clear p181
 try clear p2
 try clear p6
 try clear q1
 try clear q18
 try clear q181
 obtain ⟨x13_4, x14_4, x15_4, rfl, rfl, rfl, HA, HK4, HO_10, HO_12, HB⟩ := hrel
 cases gk with
 | zero => exact absurd HA.out (by simp [spec_WorstMembers.l2])
 | succ k4 =>
  skip
  {
 have H := HA.out
 clear HA
 simp only [spec_WorstMembers.l2] at H
 by_cases c29 : x15_4 < (x10_2.length : Int)
 {
 rw [if_pos c29] at H
 have c29b0 : decide (x15_4 < (x10_2.length : Int)) = true := decide_eq_true c29
 clear c29
 by_cases c30 : 0 ≤ x15_4
 {
 rw [if_pos c30] at H
 have c30b0 : decide (0 ≤ x15_4) = true := decide_eq_true c30
 clear c30
 replace H := Option.bind_eq_some_iff.mp H
 obtain ⟨t192, A310, H⟩ := H
 replace H : (if t192 > x14_4 then ((spec_l00Has.f k4 x12_3 (rd x10_2 x15_4)).bind fun t194 => (if t194 = true then (spec_WorstMembers.l2 k4 l0 a1 a2 a3 x10_2 x12_3 x13_4 x14_4 (wrap64 (x15_4 + 1))) else (spec_WorstMembers.l2 k4 l0 a1 a2 a3 x10_2 x12_3 (rd x10_2 x15_4) t192 (wrap64 (x15_4 + 1))))) else (spec_WorstMembers.l2 k4 l0 a1 a2 a3 x10_2 x12_3 x13_4 x14_4 (wrap64 (x15_4 + 1)))) = some (r1, r2) := H
 have A31 := Aside0.mk A310
 clear A310
 by_cases c32 : t192 > x14_4
 {
 rw [if_pos c32] at H
 have c32b0 : decide (x14_4 < t192) = true := decide_eq_true c32
 clear c32
 replace H := Option.bind_eq_some_iff.mp H
 obtain ⟨t194, A330, H⟩ := H
 replace H : (if t194 = true then (spec_WorstMembers.l2 k4 l0 a1 a2 a3 x10_2 x12_3 x13_4 x14_4 (wrap64 (x15_4 + 1))) else (spec_WorstMembers.l2 k4 l0 a1 a2 a3 x10_2 x12_3 (rd x10_2 x15_4) t192 (wrap64 (x15_4 + 1)))) = some (r1, r2) := H
 have A33 := Aside0.mk A330
 clear A330
 by_cases c34 : t194 = true
 {
 subst c34
 have H1 : (spec_WorstMembers.l2 k4 l0 a1 a2 a3 x10_2 x12_3 x13_4 x14_4 (wrap64 (x15_4 + 1))) = some (r1, r2) := by rw [if_pos rfl] at H; exact H
 clear H
 have H := H1
 clear H1
 have H' := Aside0.mk H
 clear H
 obtain ⟨Ao35, co35, eo35⟩ := Kd.R_slice HO_10.out
 subst eo35
 have p191 : 0 ≤ (x15_4 : Int) := of_decide_eq_true (by first | (with_reducible assumption) | assumption)
 have q191 : x15_4 < (x10_2.length : Int) := of_decide_eq_true (by first | (with_reducible assumption) | assumption)
 obtain ⟨ad191, e191, hx191_0⟩ := Kd.at_int (Kd.R_reads' HO_10.out).2.2 x15_4 p191 q191
 cases e191
 replace p191 := eq_true p191
 replace q191 := eq_true q191
 go_wp2_with (first | ((with_reducible refine gate_callee (f := 93) rfl ?_); refine goesL_ (some 67) rfl rfl Try.func93 s2_ rfl #[.slice A0 l0.length c0, .int .i64 (rd x10_2 x15_4), .int .i64 a1, .int .i64 a2] rfl s3_ ?_; (with_reducible refine (spec_l06Points.calls k4 _ _ l0 (rd x10_2 x15_4) a1 a2 t192 _ ?side1 ?side2 A31.out).mono ?_); (case side1 => exact y2_ (Kd.C_below HR0.out HB.out)); (case side2 => exact HC0.out); rintro e w36 ⟨rfl, hb⟩; refine ⟨_, rfl, ?_⟩; replace HO_10 := r1_ HO_10 hb; replace HO_12 := r1_ HO_12 hb; replace HB := Aside0.mk (below_step (y1_ HB.out) hb); (try clear hb); (try clear hb2); (try clear hk); (try clear hi); have p193 : 0 ≤ (x15_4 : Int) := of_decide_eq_true (by first | (with_reducible assumption) | assumption); have q193 : x15_4 < (x10_2.length : Int) := of_decide_eq_true (by first | (with_reducible assumption) | assumption); obtain ⟨ad193, e193, hx193_0⟩ := Kd.at_int (Kd.R_reads' HO_10.out).2.2 x15_4 p193 q193; obtain rfl : ad191 = ad193 := (by injection e193); replace p193 := eq_true p193; replace q193 := eq_true q193) | (go_at_call 94; (with_reducible refine (spec_l00Has.calls k4 _ _ x12_3 (rd x10_2 x15_4) true _ ?side1 ?side2 A33.out).mono ?_); (case side1 => exact y2_ (Kd.R_reads' HO_12.out).2.2); (case side2 => exact (Kd.R_reads' HO_12.out).2.1); rintro e w' ⟨rfl, ⟨nd, rfl⟩⟩))
 go_roundg k4
 case measure => have := HJ4.out; have := HK2.out; have := HK3.out; have := HK4.out; omega
 case rel => exact ⟨(x13_4), (x14_4), (wrap64 (x15_4 + 1)), s1_, s1_, s1_, H', ⟨by have := HJ4.out; have := HK2.out; have := HK3.out; have := HK4.out; omega⟩, ⟨b2_ HO_10.out⟩, ⟨b2_ HO_12.out⟩, ⟨by repeat (first | (with_reducible first | exact HB.out | apply below_alloc | apply pw_below_drewN | apply below_drew1) | exact HB.out)⟩⟩}
 {
 replace c34 := Bool.eq_false_iff.mpr c34
 subst c34
 have H1 : (spec_WorstMembers.l2 k4 l0 a1 a2 a3 x10_2 x12_3 (rd x10_2 x15_4) t192 (wrap64 (x15_4 + 1))) = some (r1, r2) := by rw [if_neg (show ¬ (false = true) by decide)] at H; exact H
 clear H
 have H := H1
 clear H1
 have H' := Aside0.mk H
 clear H
 obtain ⟨Ao37, co37, eo37⟩ := Kd.R_slice HO_10.out
 subst eo37
 have p191 : 0 ≤ (x15_4 : Int) := of_decide_eq_true (by first | (with_reducible assumption) | assumption)
 have q191 : x15_4 < (x10_2.length : Int) := of_decide_eq_true (by first | (with_reducible assumption) | assumption)
 obtain ⟨ad191, e191, hx191_0⟩ := Kd.at_int (Kd.R_reads' HO_10.out).2.2 x15_4 p191 q191
 cases e191
 replace p191 := eq_true p191
 replace q191 := eq_true q191
 go_wp2_with (first | ((with_reducible refine gate_callee (f := 93) rfl ?_); refine goesL_ (some 67) rfl rfl Try.func93 s2_ rfl #[.slice A0 l0.length c0, .int .i64 (rd x10_2 x15_4), .int .i64 a1, .int .i64 a2] rfl s3_ ?_; (with_reducible refine (spec_l06Points.calls k4 _ _ l0 (rd x10_2 x15_4) a1 a2 t192 _ ?side1 ?side2 A31.out).mono ?_); (case side1 => exact y2_ (Kd.C_below HR0.out HB.out)); (case side2 => exact HC0.out); rintro e w38 ⟨rfl, hb⟩; refine ⟨_, rfl, ?_⟩; replace HO_10 := r1_ HO_10 hb; replace HO_12 := r1_ HO_12 hb; replace HB := Aside0.mk (below_step (y1_ HB.out) hb); (try clear hb); (try clear hb2); (try clear hk); (try clear hi); have p193 : 0 ≤ (x15_4 : Int) := of_decide_eq_true (by first | (with_reducible assumption) | assumption); have q193 : x15_4 < (x10_2.length : Int) := of_decide_eq_true (by first | (with_reducible assumption) | assumption); obtain ⟨ad193, e193, hx193_0⟩ := Kd.at_int (Kd.R_reads' HO_10.out).2.2 x15_4 p193 q193; obtain rfl : ad191 = ad193 := (by injection e193); replace p193 := eq_true p193; replace q193 := eq_true q193) | (go_at_call 94; (with_reducible refine (spec_l00Has.calls k4 _ _ x12_3 (rd x10_2 x15_4) false _ ?side1 ?side2 A33.out).mono ?_); (case side1 => exact y2_ (Kd.R_reads' HO_12.out).2.2); (case side2 => exact (Kd.R_reads' HO_12.out).2.1); rintro e w' ⟨rfl, ⟨nd, rfl⟩⟩; have p195 : 0 ≤ (x15_4 : Int) := of_decide_eq_true (by first | (with_reducible assumption) | assumption); have q195 : x15_4 < (x10_2.length : Int) := of_decide_eq_true (by first | (with_reducible assumption) | assumption); obtain ⟨ad195, e195, hx195_0⟩ := Kd.at_int (Kd.R_reads' HO_10.out).2.2 x15_4 p195 q195; obtain rfl : ad191 = ad195 := (by injection e195); replace p195 := eq_true p195; replace q195 := eq_true q195))
 go_roundg k4
 case measure => have := HJ4.out; have := HK2.out; have := HK3.out; have := HK4.out; omega
 case rel => exact ⟨(rd x10_2 x15_4), (t192), (wrap64 (x15_4 + 1)), s1_, s1_, s1_, H', ⟨by have := HJ4.out; have := HK2.out; have := HK3.out; have := HK4.out; omega⟩, ⟨b2_ HO_10.out⟩, ⟨b2_ HO_12.out⟩, ⟨by repeat (first | (with_reducible first | exact HB.out | apply below_alloc | apply pw_below_drewN | apply below_drew1) | exact HB.out)⟩⟩}}
 {
 rw [if_neg c32] at H
 have c32b0 : decide (x14_4 < t192) = false := decide_eq_false c32
 clear c32
 have H' := Aside0.mk H
 clear H
 obtain ⟨Ao39, co39, eo39⟩ := Kd.R_slice HO_10.out
 subst eo39
 have p191 : 0 ≤ (x15_4 : Int) := of_decide_eq_true (by first | (with_reducible assumption) | assumption)
 have q191 : x15_4 < (x10_2.length : Int) := of_decide_eq_true (by first | (with_reducible assumption) | assumption)
 obtain ⟨ad191, e191, hx191_0⟩ := Kd.at_int (Kd.R_reads' HO_10.out).2.2 x15_4 p191 q191
 cases e191
 replace p191 := eq_true p191
 replace q191 := eq_true q191
 go_wp2_with (first | ((with_reducible refine gate_callee (f := 93) rfl ?_); refine goesL_ (some 67) rfl rfl Try.func93 s2_ rfl #[.slice A0 l0.length c0, .int .i64 (rd x10_2 x15_4), .int .i64 a1, .int .i64 a2] rfl s3_ ?_; (with_reducible refine (spec_l06Points.calls k4 _ _ l0 (rd x10_2 x15_4) a1 a2 t192 _ ?side1 ?side2 A31.out).mono ?_); (case side1 => exact y2_ (Kd.C_below HR0.out HB.out)); (case side2 => exact HC0.out); rintro e w40 ⟨rfl, hb⟩; refine ⟨_, rfl, ?_⟩; replace HO_10 := r1_ HO_10 hb; replace HO_12 := r1_ HO_12 hb; replace HB := Aside0.mk (below_step (y1_ HB.out) hb); (try clear hb); (try clear hb2); (try clear hk); (try clear hi)))
 go_roundg k4
 case measure => have := HJ4.out; have := HK2.out; have := HK3.out; have := HK4.out; omega
 case rel => exact ⟨(x13_4), (x14_4), (wrap64 (x15_4 + 1)), s1_, s1_, s1_, H', ⟨by have := HJ4.out; have := HK2.out; have := HK3.out; have := HK4.out; omega⟩, ⟨b2_ HO_10.out⟩, ⟨b2_ HO_12.out⟩, ⟨by repeat (first | (with_reducible first | exact HB.out | apply below_alloc | apply pw_below_drewN | apply below_drew1) | exact HB.out)⟩⟩}}
 {
 rw [if_neg c30] at H
 exact absurd H (by simp)}}
 {
 rw [if_neg c29] at H
 have c29b0 : decide (x15_4 < (x10_2.length : Int)) = false := decide_eq_false c29
 clear c29
 by_cases c41 : x14_4 = 0
 {
 rw [if_pos c41] at H
 have c41b0 : (x14_4 == 0) = true := beq_iff_eq.mpr c41
 have c41b1 : (x14_4 != 0) = false := bne_eq_false_iff_eq.mpr c41
 clear c41
 simp only [Option.some.injEq, Prod.mk.injEq] at H
 obtain ⟨rfl, rfl⟩ := H
 obtain ⟨Ao42, co42, eo42⟩ := Kd.R_slice HO_10.out
 subst eo42
 go_wp2
 go_ret2
 exact ⟨_, by first | rfl | (simp [errW_none, errW_some] <;> rfl) | (simp [*, errW_none, errW_some] <;> rfl), by (with_reducible repeat (first | apply Kd.R_alloc | apply Kd.R_drewN | apply Kd.R_drew)); exact Kd.R_mono HO_12.out (fun _ hk => trivial), by repeat (first | (with_reducible first | exact HB.out | apply below_alloc | apply pw_below_drewN | apply below_drew1) | exact HB.out)⟩}
 {
 rw [if_neg c41] at H
 have c41b0 : (x14_4 == 0) = false := beq_eq_false_iff_ne.mpr c41
 have c41b1 : (x14_4 != 0) = true := bne_iff_ne.mpr c41
 by_cases c43 : x12_3.length < 17592186044416
 {
 rw [if_pos c43] at H
 have LMc43 := Aside0.mk c43
 clear c43
 obtain ⟨y188, hy188⟩ : ∃ y_ : List Int, y_ = (x12_3 ++ [x13_4]) := ⟨_, rfl⟩
 replace H : (spec_WorstMembers.l1 k4 l0 a1 a2 a3 x10_2 y188) = some (r1, r2) := by first | (rw [hy188]; with_reducible exact H) | (have H2_ := (Option.bind_some _ _).symm.trans H; rw [hy188]; with_reducible exact H2_) | (have H2_ := (Option.bind_some _ _).symm.trans H; with_reducible exact H2_) | with_reducible exact H | (rw [hy188]; exact H) | exact H
 have Ny188 := Aside0.mk hy188
 clear hy188
 have H' := Aside0.mk H
 clear H
 obtain ⟨Ao44, co44, eo44⟩ := Kd.R_slice HO_10.out
 subst eo44
 go_wp2_with (first | ((with_reducible refine gate_builtin (b := .append) (xs := #[.tmp 87, .tmp 89]) rfl ?_); at_builtin; refine Kd.R_append (Kd.int .i64) (w0 := w) w.heap.size rfl (.tmp 87) (.tmp 89) 27 2 (.int .i64 0) 8 rfl Try.underlying27 info2 rfl (by decide) (by omega) (.slice Ao28 x12_3.length co28) x12_3 x13_4 [.int .i64 x13_4] (fun k_ => some k_ ≠ (.slice Ao44 x10_2.length co44 : Value).ownBlock) (fun _ => False) rfl rfl ?aP (fun _ hk => hk.elim) ?aF ?aO ?aB ?aS ?aL ?_; (case aP => exact rfl); (case aB => exact (y1_ HB.out)); (case aF => exact (fun k_ hk => Kd.fresh' (Kd.R_lt (b2_ HO_10.out)) k_ hk)); (case aO => exact (b2_ HO_12.out)); (case aS => exact (below_size (y1_ HB.out))); (case aL => have := LMc43.out; omega); intro v189 w45 ho hb hg hat; rw [← Ny188.out] at ho; replace HO_10 := Aside0.mk (Kd.R_after (ok := (fun _ => True)) (by (with_reducible repeat (first | apply Kd.R_alloc | apply Kd.R_drewN | apply Kd.R_drew)); exact Kd.R_mono HO_10.out (fun _ hk => ⟨trivial, hk⟩)) hg hat); replace HB := Aside0.mk (hb); have HO190 := Aside0.mk (ho); clear HO_12; clear ho hb hg hat))
 go_roundg k4
 case measure => have := HJ4.out; have := HK2.out; have := HK3.out; have := HK4.out; omega
 case rel => exact ⟨(y188), H', ⟨by have := HJ4.out; have := HK2.out; have := HK3.out; have := HK4.out; omega⟩, ⟨by (with_reducible repeat (first | apply Kd.R_alloc | apply Kd.R_drewN | apply Kd.R_drew)); exact Kd.R_mono HO_10.out (fun _ hk => hk.2)⟩, ⟨b2_ HO190.out⟩, ⟨by repeat (first | (with_reducible first | exact HB.out | apply below_alloc | apply pw_below_drewN | apply below_drew1) | exact HB.out)⟩⟩}
 {
 rw [if_neg c43] at H
 exact absurd H (by simp)}}}}}}
 {
 rw [if_neg c27] at H
 have c27b0 : decide ((x12_3.length : Int) < a3) = false := decide_eq_false c27
 clear c27
 simp only [Option.some.injEq, Prod.mk.injEq] at H
 obtain ⟨rfl, rfl⟩ := H
 obtain ⟨Ao46, co46, eo46⟩ := Kd.R_slice HO_12.out
 subst eo46
 go_wp2
 go_ret2
 exact ⟨_, by first | rfl | (simp [errW_none, errW_some] <;> rfl) | (simp [*, errW_none, errW_some] <;> rfl), by (with_reducible repeat (first | apply Kd.R_alloc | apply Kd.R_drewN | apply Kd.R_drew)); exact Kd.R_mono HO_12.out (fun _ hk => trivial), by repeat (first | (with_reducible first | exact HB.out | apply below_alloc | apply pw_below_drewN | apply below_drew1) | exact HB.out)⟩}}}}}}}}}

/-! ### laws_heldInt64S: function 52 -/
def laws_heldInt64S.l0 : Nat → List Int → Int → Int → Option (Int)
  | 0, _, _, _ => none
  | k + 1, x0, x1, x5 => if x5 < (x0.length : Int) then (if 0 ≤ x5 then (if (rd x0 x5) = x1 then (laws_heldInt64S.l0 k x0 (wrap64 (x1 + 1)) (wrap64 (x5 + 1))) else (some (-1))) else (none)) else (some x1)
def laws_heldInt64S.f (k : Nat) (l0 : List Int) (a1 : Int) : Option (Int) := laws_heldInt64S.l0 k l0 a1 0
theorem laws_heldInt64S.mono_l : ∀ k, (∀ y0 y1 y2, LeO (laws_heldInt64S.l0 k y0 y1 y2) (laws_heldInt64S.l0 (k + 1) y0 y1 y2))
  | 0 => fun _ _ _ r h => by simp [laws_heldInt64S.l0] at h
  | k + 1 => by
    have ih0 := laws_heldInt64S.mono_l k
    · intro y0 y1 y2
      unfold laws_heldInt64S.l0
      repeat' first
      | (with_reducible exact ih0 _ _ _)
      | (with_reducible exact LeO.refl _)
      | (with_reducible exact LeO.none _)
      | (with_reducible refine LeO.ite ?_ ?_)
      | (with_reducible refine LeO.bind ?_ (fun _ => ?_))
      | exact ih0 _ _ _
      | exact LeO.none _
      | refine LeO.ite ?_ ?_
      | refine LeO.bind ?_ (fun _ => ?_)
theorem laws_heldInt64S.mono : ∀ a0 a1 k, LeO (laws_heldInt64S.f k a0 a1) (laws_heldInt64S.f (k + 1) a0 a1) := by
  intro a0 a1 k
  have ih0 := laws_heldInt64S.mono_l k
  unfold laws_heldInt64S.f
  repeat' first
      | (with_reducible exact ih0 _ _ _)
      | (with_reducible exact LeO.refl _)
      | (with_reducible exact LeO.none _)
      | (with_reducible refine LeO.ite ?_ ?_)
      | (with_reducible refine LeO.bind ?_ (fun _ => ?_))
      | exact ih0 _ _ _
      | exact LeO.none _
      | refine LeO.ite ?_ ?_
      | refine LeO.bind ?_ (fun _ => ?_)
set_option maxHeartbeats 8000000 in
set_option maxRecDepth 100000 in
theorem laws_heldInt64S.calls (k : Nat) (A0 : Option Addr) (c0 : Nat) (l0 : List Int) (a1 : Int) (r : Int) (w : World) (hr0 : Kd.C (Kd.int .i64) w A0 l0.length l0) (hc0 : l0.length ≤ c0) (h : laws_heldInt64S.f k l0 a1 = some r) :
    Calls Try.prog 52 #[.slice A0 l0.length c0, .int .i64 a1] w fun e w' => e = .returned (.int .i64 r) ∧ Drawn0 w w' := by
  have HR0 := Aside0.mk hr0
  have HC0 := Aside0.mk hc0
  clear hr0 hc0
  have H : (laws_heldInt64S.l0 k l0 a1 0) = some r := h
  clear h
  have H' := Aside0.mk H
  clear H
  go_enter Try.func52, Try.ntmps52
  go_wp2
  go_loopg [1, 5] k (fun kq v1 v5 w' => ∃ (x1_1 : Int) (x5_1 : Int), v1 = .int .i64 x1_1 ∧ v5 = .int .i64 x5_1 ∧ Aside0 (laws_heldInt64S.l0 kq l0 x1_1 x5_1 = some r) ∧ Aside0 (kq ≤ k) ∧ Drawn0 w w')
  case atStart => exact ⟨(a1), (0), (by first | rfl | (simp; done) | (simp [*]; done)), (by first | rfl | (simp; done) | (simp [*]; done)), H', ⟨Nat.le_refl _⟩, by repeat (first | exact Drawn0.refl _ | apply Drawn0.step)⟩
  case round =>
    clear H'
    try clear p2
    obtain ⟨x1_1, x5_1, rfl, rfl, HA, HK1, ⟨m1, rfl⟩⟩ := hrel
    cases gk with
    | zero => exact absurd HA.out (by simp [laws_heldInt64S.l0])
    | succ k1 =>
      have H := HA.out
      clear HA
      simp only [laws_heldInt64S.l0] at H
      by_cases c3 : x5_1 < (l0.length : Int)
      · rw [if_pos c3] at H
        have c3b0 : decide (x5_1 < (l0.length : Int)) = true := decide_eq_true c3
        clear c3
        by_cases c4 : 0 ≤ x5_1
        · rw [if_pos c4] at H
          have c4b0 : decide (0 ≤ x5_1) = true := decide_eq_true c4
          clear c4
          by_cases c5 : (rd l0 x5_1) = x1_1
          · rw [if_pos c5] at H
            have c5b0 : ((rd l0 x5_1) == x1_1) = true := beq_iff_eq.mpr c5
            have c5b1 : ((rd l0 x5_1) != x1_1) = false := bne_eq_false_iff_eq.mpr c5
            clear c5
            have H' := Aside0.mk H
            clear H
            have p196 : 0 ≤ (x5_1 : Int) := of_decide_eq_true (by first | (with_reducible assumption) | assumption)
            have q196 : x5_1 < (l0.length : Int) := of_decide_eq_true (by first | (with_reducible assumption) | assumption)
            obtain ⟨ad196, e196, hx196_0⟩ := Kd.at_int HR0.out x5_1 p196 q196
            cases e196
            replace p196 := eq_true p196
            replace q196 := eq_true q196
            go_wp2
            go_roundg k1
            case measure => have := HK1.out; omega
            case rel => exact ⟨(wrap64 (x1_1 + 1)), (wrap64 (x5_1 + 1)), (by first | rfl | (simp; done) | (simp [*]; done)), (by first | rfl | (simp; done) | (simp [*]; done)), H', ⟨by have := HK1.out; omega⟩, by repeat (first | exact Drawn0.refl _ | apply Drawn0.step)⟩
          · rw [if_neg c5] at H
            have c5b0 : ((rd l0 x5_1) == x1_1) = false := beq_eq_false_iff_ne.mpr c5
            have c5b1 : ((rd l0 x5_1) != x1_1) = true := bne_iff_ne.mpr c5
            obtain rfl := Option.some.inj H
            have p196 : 0 ≤ (x5_1 : Int) := of_decide_eq_true (by first | (with_reducible assumption) | assumption)
            have q196 : x5_1 < (l0.length : Int) := of_decide_eq_true (by first | (with_reducible assumption) | assumption)
            obtain ⟨ad196, e196, hx196_0⟩ := Kd.at_int HR0.out x5_1 p196 q196
            cases e196
            replace p196 := eq_true p196
            replace q196 := eq_true q196
            go_wp2
            go_ret
            exact ⟨by first | rfl | (simp; done) | (simp [*]; done), by repeat (first | exact Drawn0.refl _ | apply Drawn0.step)⟩
        · rw [if_neg c4] at H
          exact absurd H (by simp)
      · rw [if_neg c3] at H
        have c3b0 : decide (x5_1 < (l0.length : Int)) = false := decide_eq_false c3
        clear c3
        obtain rfl := Option.some.inj H
        go_wp2
        go_ret
        exact ⟨by first | rfl | (simp; done) | (simp [*]; done), by repeat (first | exact Drawn0.refl _ | apply Drawn0.step)⟩

end Go.Proofs.Ytjfaepolmllejaa.QFnExactWorstMembers
