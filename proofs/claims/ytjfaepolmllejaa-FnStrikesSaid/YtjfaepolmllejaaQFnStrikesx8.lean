-- written by a program of this session, on the lines of the kit's print
import Derived.Test.YtjfaepolmllejaaQFnStrikesx0
import Derived.Test.YtjfaepolmllejaaQFnStrikesx2
import Derived.Test.YtjfaepolmllejaaQFnStrikesx3
import Derived.Test.YtjfaepolmllejaaQFnStrikesx4
import Derived.Test.YtjfaepolmllejaaQFnStrikesx5
import Derived.Test.YtjfaepolmllejaaQFnStrikesx6
import Derived.Test.YtjfaepolmllejaaQFnStrikesx7
namespace Go.Proofs.Ytjfaepolmllejaa.QFnStrikes
open Go.RowKit Go.Proofs.YtjfaepolmllejaaW.PrintWords Go.Proofs.YtjfaepolmllejaaW.PrintLast Go.Proofs.YtjfaepolmllejaaW.PrintMore
attribute [local go_sem] max2_int min2_int max_two min_two max_three min_three max_four min_four   -- for this text's walks alone
set_option linter.unusedVariables false
set_option linter.unusedSimpArgs false

/-! ### laws_FnStrikes: function 8 -/
abbrev laws_FnStrikes.T : Bool := true
abbrev laws_FnStrikes.F : Bool := false
theorem laws_FnStrikes.s1_ {P : Prop} (h : P := by first | rfl | (simp; done) | (simp [*]; done)) : P := h
theorem laws_FnStrikes.s2_ {P : Prop} (h : P := by kernel_rfl) : P := h
theorem laws_FnStrikes.s3_ {P : Prop} (h : P := by (try simp only [List.map_toArray, List.map_cons, List.map_nil]); first | done | rfl | (simp only [List.length_drop, List.length_take]; rfl)) : P := h
theorem laws_FnStrikes.b2_ {P Q : Prop} (q : Q) (h : Q → P := by intro q_; (with_reducible repeat (first | apply Kd.R_alloc | apply Kd.R_drewN | apply Kd.R_drew)); exact q_) : P := h q
theorem laws_FnStrikes.y1_ {P Q : Prop} (q : Q) (h : Q → P := by intro q_; repeat (first | (with_reducible first | exact q_ | apply below_alloc | apply pw_below_drewN | apply below_drew1) | exact q_)) : P := h q
theorem laws_FnStrikes.y2_ {P Q : Prop} (q : Q) (h : Q → P := by intro q_; repeat (first | exact q_ | (with_reducible refine Kd.C_alloc ?_ _) | (with_reducible refine Kd.C_drewN ?_ _) | (with_reducible refine Kd.C_drew ?_))) : P := h q
theorem laws_FnStrikes.r1_ {α : Type} {d : Kd α} {e base : Nat} {ok : Nat → Prop} {v : Value} {xs : List α} {w W w1 : World} (q : Aside0 (d.R e w base ok v xs)) (hb : Below W.heap.size W w1) (h : d.R e w base ok v xs → d.R e W base ok v xs := by intro q_; (with_reducible repeat (first | apply Kd.R_alloc | apply Kd.R_drewN | apply Kd.R_drew)); exact q_) : Aside0 (d.R e w1 base ok v xs) := ⟨Kd.R_below (h q.out) hb⟩
mutual
def laws_FnStrikes.j0 : Nat → List (S45) → Int → Int → List Int → Bool → Option (Bool)
  | 0, _, _, _, _, _ => none
  | k + 1, x5, x6, x7, x8, x82 => if x82 = true then (some false) else (laws_FnStrikes.l0 k x5 x6 x7 x8 1000 0)
def laws_FnStrikes.l0 : Nat → List (S45) → Int → Int → List Int → Int → Int → Option (Bool)
  | 0, _, _, _, _, _, _ => none
  | k + 1, x5, x6, x7, x8, x14, x15 => if x15 < (x8.length : Int) then (if 0 ≤ x15 then ((impl_PointsOf.f k x5 (rd x8 x15) x7 x6).bind fun bt207 => (if bt207.2 = true then (if bt207.1 < 1 then (some false) else (if bt207.1 > x14 then (some false) else (laws_FnStrikes.l0 k x5 x6 x7 x8 bt207.1 (wrap64 (x15 + 1))))) else (some false))) else (none)) else (laws_FnStrikes.l1 k x5 x6 x7 x8 0 1)
def laws_FnStrikes.l1 : Nat → List (S45) → Int → Int → List Int → Int → Int → Option (Bool)
  | 0, _, _, _, _, _, _ => none
  | k + 1, x5, x6, x7, x8, x18, x19 => if x19 ≤ 4 then ((impl_PointsOf.f k x5 x19 x7 x6).bind fun bt215 => ((impl_PointsOf.f k x5 x19 (wrap64 (x7 + 7)) x6).bind fun bt217 => (if bt215.2 = true then (if bt217.2 = true then (if bt217.1 > bt215.1 then (laws_FnStrikes.j3 k x5 x6 x7 x8 x18 x19 bt215.1 true) else ((impl_PenaltyOf.f bt217.1).bind fun t219 => ((impl_PenaltyOf.f bt215.1).bind fun t220 => (laws_FnStrikes.j3 k x5 x6 x7 x8 x18 x19 bt215.1 (decide (t219 > t220)))))) else (laws_FnStrikes.j3 k x5 x6 x7 x8 x18 x19 bt215.1 true)) else (laws_FnStrikes.j3 k x5 x6 x7 x8 x18 x19 bt215.1 true)))) else ((impl_AddStrike.f k x5 9 2 x7).bind fun bt209 => ((impl_PointsOf.f k bt209.1 9 x7 x6).bind fun bt213 => (if x18 = (x8.length : Int) then (if bt209.2 = true then (if bt213.2 = true then (if bt213.1 = 4 then (some ((bt209.1.length : Int) == (wrap64 ((x5.length : Int) + 1)))) else (some false)) else (some false)) else (some false)) else (some false))))
def laws_FnStrikes.j3 : Nat → List (S45) → Int → Int → List Int → Int → Int → Int → Bool → Option (Bool)
  | 0, _, _, _, _, _, _, _, _ => none
  | k + 1, x5, x6, x7, x8, x18, x19, x20, x150 => if x150 = true then (some false) else (if x20 > 0 then (laws_FnStrikes.l1 k x5 x6 x7 x8 (wrap64 (x18 + 1)) (wrap64 (x19 + 1))) else (laws_FnStrikes.l1 k x5 x6 x7 x8 x18 (wrap64 (x19 + 1))))
end
def laws_FnStrikes.f (k : Nat) (l0 : List Int) (l1 : List Int) : Option (Bool) := (laws_r8Long.f l0 l1).bind fun t187 => (if t187 = true then (some true) else ((spec_R8Strikes.f k l0).bind fun t188 => ((laws_r8At.f l1 0 30).bind fun t191 => ((laws_r8At.f l1 1 40).bind fun t192 => ((impl_WorstMembers.f k t188 (wrap64 (100 + t192)) (wrap64 (1 + t191)) 64).bind fun bt193 => ((impl_ForgiveOld.f k t188 0).bind fun bt197 => ((impl_ForgiveOld.f k t188 101).bind fun bt201 => (if bt193.2 = true then (if bt197.2 = true then (if bt201.2 = true then ((impl_AreStrikes.f k t188).bind fun t205 => (if t205 = true then (if (bt197.1.length : Int) = (t188.length : Int) then (laws_FnStrikes.j0 k t188 (wrap64 (1 + t191)) (wrap64 (100 + t192)) bt193.1 ((bt201.1.length : Int) != 0)) else (laws_FnStrikes.j0 k t188 (wrap64 (1 + t191)) (wrap64 (100 + t192)) bt193.1 true)) else (laws_FnStrikes.j0 k t188 (wrap64 (1 + t191)) (wrap64 (100 + t192)) bt193.1 true))) else (laws_FnStrikes.j0 k t188 (wrap64 (1 + t191)) (wrap64 (100 + t192)) bt193.1 true)) else (laws_FnStrikes.j0 k t188 (wrap64 (1 + t191)) (wrap64 (100 + t192)) bt193.1 true)) else (laws_FnStrikes.j0 k t188 (wrap64 (1 + t191)) (wrap64 (100 + t192)) bt193.1 true)))))))))
theorem laws_FnStrikes.mono_l : ∀ k, (∀ y0 y1 y2 y3 y4, LeO (laws_FnStrikes.j0 k y0 y1 y2 y3 y4) (laws_FnStrikes.j0 (k + 1) y0 y1 y2 y3 y4)) ∧ (∀ y0 y1 y2 y3 y4 y5, LeO (laws_FnStrikes.l0 k y0 y1 y2 y3 y4 y5) (laws_FnStrikes.l0 (k + 1) y0 y1 y2 y3 y4 y5)) ∧ (∀ y0 y1 y2 y3 y4 y5, LeO (laws_FnStrikes.l1 k y0 y1 y2 y3 y4 y5) (laws_FnStrikes.l1 (k + 1) y0 y1 y2 y3 y4 y5)) ∧ (∀ y0 y1 y2 y3 y4 y5 y6 y7, LeO (laws_FnStrikes.j3 k y0 y1 y2 y3 y4 y5 y6 y7) (laws_FnStrikes.j3 (k + 1) y0 y1 y2 y3 y4 y5 y6 y7))
  | 0 => ⟨fun _ _ _ _ _ r h => by simp [laws_FnStrikes.j0] at h, fun _ _ _ _ _ _ r h => by simp [laws_FnStrikes.l0] at h, fun _ _ _ _ _ _ r h => by simp [laws_FnStrikes.l1] at h, fun _ _ _ _ _ _ _ _ r h => by simp [laws_FnStrikes.j3] at h⟩
  | k + 1 => by
    obtain ⟨ih0, ih1, ih2, ih3⟩ := laws_FnStrikes.mono_l k
    refine ⟨?_, ?_, ?_, ?_⟩
    · intro y0 y1 y2 y3 y4
      unfold laws_FnStrikes.j0
      repeat' first
      | (with_reducible exact ih0 _ _ _ _ _)
      | (with_reducible exact ih1 _ _ _ _ _ _)
      | (with_reducible exact ih2 _ _ _ _ _ _)
      | (with_reducible exact ih3 _ _ _ _ _ _ _ _)
      | (with_reducible exact impl_AddStrike.mono _ _ _ _ _)
      | (with_reducible exact impl_AreStrikes.mono _ _)
      | (with_reducible exact impl_ForgiveOld.mono _ _ _)
      | (with_reducible exact impl_PointsOf.mono _ _ _ _ _)
      | (with_reducible exact impl_WorstMembers.mono _ _ _ _ _)
      | (with_reducible exact spec_R8Strikes.mono _ _)
      | (with_reducible exact LeO.refl _)
      | (with_reducible exact LeO.none _)
      | (with_reducible refine LeO.ite ?_ ?_)
      | (with_reducible refine LeO.bind ?_ (fun _ => ?_))
      | exact ih0 _ _ _ _ _
      | exact ih1 _ _ _ _ _ _
      | exact ih2 _ _ _ _ _ _
      | exact ih3 _ _ _ _ _ _ _ _
      | exact impl_AddStrike.mono _ _ _ _ _
      | exact impl_AreStrikes.mono _ _
      | exact impl_ForgiveOld.mono _ _ _
      | exact impl_PointsOf.mono _ _ _ _ _
      | exact impl_WorstMembers.mono _ _ _ _ _
      | exact spec_R8Strikes.mono _ _
      | exact LeO.none _
      | refine LeO.ite ?_ ?_
      | refine LeO.bind ?_ (fun _ => ?_)
    · intro y0 y1 y2 y3 y4 y5
      unfold laws_FnStrikes.l0
      repeat' first
      | (with_reducible exact ih0 _ _ _ _ _)
      | (with_reducible exact ih1 _ _ _ _ _ _)
      | (with_reducible exact ih2 _ _ _ _ _ _)
      | (with_reducible exact ih3 _ _ _ _ _ _ _ _)
      | (with_reducible exact impl_AddStrike.mono _ _ _ _ _)
      | (with_reducible exact impl_AreStrikes.mono _ _)
      | (with_reducible exact impl_ForgiveOld.mono _ _ _)
      | (with_reducible exact impl_PointsOf.mono _ _ _ _ _)
      | (with_reducible exact impl_WorstMembers.mono _ _ _ _ _)
      | (with_reducible exact spec_R8Strikes.mono _ _)
      | (with_reducible exact LeO.refl _)
      | (with_reducible exact LeO.none _)
      | (with_reducible refine LeO.ite ?_ ?_)
      | (with_reducible refine LeO.bind ?_ (fun _ => ?_))
      | exact ih0 _ _ _ _ _
      | exact ih1 _ _ _ _ _ _
      | exact ih2 _ _ _ _ _ _
      | exact ih3 _ _ _ _ _ _ _ _
      | exact impl_AddStrike.mono _ _ _ _ _
      | exact impl_AreStrikes.mono _ _
      | exact impl_ForgiveOld.mono _ _ _
      | exact impl_PointsOf.mono _ _ _ _ _
      | exact impl_WorstMembers.mono _ _ _ _ _
      | exact spec_R8Strikes.mono _ _
      | exact LeO.none _
      | refine LeO.ite ?_ ?_
      | refine LeO.bind ?_ (fun _ => ?_)
    · intro y0 y1 y2 y3 y4 y5
      unfold laws_FnStrikes.l1
      repeat' first
      | (with_reducible exact ih0 _ _ _ _ _)
      | (with_reducible exact ih1 _ _ _ _ _ _)
      | (with_reducible exact ih2 _ _ _ _ _ _)
      | (with_reducible exact ih3 _ _ _ _ _ _ _ _)
      | (with_reducible exact impl_AddStrike.mono _ _ _ _ _)
      | (with_reducible exact impl_AreStrikes.mono _ _)
      | (with_reducible exact impl_ForgiveOld.mono _ _ _)
      | (with_reducible exact impl_PointsOf.mono _ _ _ _ _)
      | (with_reducible exact impl_WorstMembers.mono _ _ _ _ _)
      | (with_reducible exact spec_R8Strikes.mono _ _)
      | (with_reducible exact LeO.refl _)
      | (with_reducible exact LeO.none _)
      | (with_reducible refine LeO.ite ?_ ?_)
      | (with_reducible refine LeO.bind ?_ (fun _ => ?_))
      | exact ih0 _ _ _ _ _
      | exact ih1 _ _ _ _ _ _
      | exact ih2 _ _ _ _ _ _
      | exact ih3 _ _ _ _ _ _ _ _
      | exact impl_AddStrike.mono _ _ _ _ _
      | exact impl_AreStrikes.mono _ _
      | exact impl_ForgiveOld.mono _ _ _
      | exact impl_PointsOf.mono _ _ _ _ _
      | exact impl_WorstMembers.mono _ _ _ _ _
      | exact spec_R8Strikes.mono _ _
      | exact LeO.none _
      | refine LeO.ite ?_ ?_
      | refine LeO.bind ?_ (fun _ => ?_)
    · intro y0 y1 y2 y3 y4 y5 y6 y7
      unfold laws_FnStrikes.j3
      repeat' first
      | (with_reducible exact ih0 _ _ _ _ _)
      | (with_reducible exact ih1 _ _ _ _ _ _)
      | (with_reducible exact ih2 _ _ _ _ _ _)
      | (with_reducible exact ih3 _ _ _ _ _ _ _ _)
      | (with_reducible exact impl_AddStrike.mono _ _ _ _ _)
      | (with_reducible exact impl_AreStrikes.mono _ _)
      | (with_reducible exact impl_ForgiveOld.mono _ _ _)
      | (with_reducible exact impl_PointsOf.mono _ _ _ _ _)
      | (with_reducible exact impl_WorstMembers.mono _ _ _ _ _)
      | (with_reducible exact spec_R8Strikes.mono _ _)
      | (with_reducible exact LeO.refl _)
      | (with_reducible exact LeO.none _)
      | (with_reducible refine LeO.ite ?_ ?_)
      | (with_reducible refine LeO.bind ?_ (fun _ => ?_))
      | exact ih0 _ _ _ _ _
      | exact ih1 _ _ _ _ _ _
      | exact ih2 _ _ _ _ _ _
      | exact ih3 _ _ _ _ _ _ _ _
      | exact impl_AddStrike.mono _ _ _ _ _
      | exact impl_AreStrikes.mono _ _
      | exact impl_ForgiveOld.mono _ _ _
      | exact impl_PointsOf.mono _ _ _ _ _
      | exact impl_WorstMembers.mono _ _ _ _ _
      | exact spec_R8Strikes.mono _ _
      | exact LeO.none _
      | refine LeO.ite ?_ ?_
      | refine LeO.bind ?_ (fun _ => ?_)
theorem laws_FnStrikes.mono : ∀ a0 a1 k, LeO (laws_FnStrikes.f k a0 a1) (laws_FnStrikes.f (k + 1) a0 a1) := by
  intro a0 a1 k
  obtain ⟨ih0, ih1, ih2, ih3⟩ := laws_FnStrikes.mono_l k
  unfold laws_FnStrikes.f
  repeat' first
      | (with_reducible exact ih0 _ _ _ _ _)
      | (with_reducible exact ih1 _ _ _ _ _ _)
      | (with_reducible exact ih2 _ _ _ _ _ _)
      | (with_reducible exact ih3 _ _ _ _ _ _ _ _)
      | (with_reducible exact impl_AddStrike.mono _ _ _ _ _)
      | (with_reducible exact impl_AreStrikes.mono _ _)
      | (with_reducible exact impl_ForgiveOld.mono _ _ _)
      | (with_reducible exact impl_PointsOf.mono _ _ _ _ _)
      | (with_reducible exact impl_WorstMembers.mono _ _ _ _ _)
      | (with_reducible exact spec_R8Strikes.mono _ _)
      | (with_reducible exact LeO.refl _)
      | (with_reducible exact LeO.none _)
      | (with_reducible refine LeO.ite ?_ ?_)
      | (with_reducible refine LeO.bind ?_ (fun _ => ?_))
      | exact ih0 _ _ _ _ _
      | exact ih1 _ _ _ _ _ _
      | exact ih2 _ _ _ _ _ _
      | exact ih3 _ _ _ _ _ _ _ _
      | exact impl_AddStrike.mono _ _ _ _ _
      | exact impl_AreStrikes.mono _ _
      | exact impl_ForgiveOld.mono _ _ _
      | exact impl_PointsOf.mono _ _ _ _ _
      | exact impl_WorstMembers.mono _ _ _ _ _
      | exact spec_R8Strikes.mono _ _
      | exact LeO.none _
      | refine LeO.ite ?_ ?_
      | refine LeO.bind ?_ (fun _ => ?_)
set_option maxHeartbeats 8000000 in
set_option maxRecDepth 100000 in
theorem laws_FnStrikes.calls (k : Nat) (A0 : Option Addr) (c0 : Nat) (l0 : List Int) (A1 : Option Addr) (c1 : Nat) (l1 : List Int) (r : Bool) (w : World) (hr0 : Kd.C (Kd.int .u8) w A0 l0.length l0) (hc0 : l0.length ≤ c0) (hr1 : Kd.C (Kd.int .u8) w A1 l1.length l1) (hc1 : l1.length ≤ c1) (h : laws_FnStrikes.f k l0 l1 = some r) :
    Calls Try.prog 8 #[.slice A0 l0.length c0, .slice A1 l1.length c1] w fun e w' => e = .returned (.bool r) ∧ Below w.heap.size w w' := by
 have hu45 := Try.underlying45
 have HR0 := Aside0.mk hr0
 have HC0 := Aside0.mk hc0
 clear hr0 hc0
 have HR1 := Aside0.mk hr1
 have HC1 := Aside0.mk hc1
 clear hr1 hc1
 have HB := Aside0.mk (Below.refl w.heap.size w)
 have H : ((laws_r8Long.f l0 l1).bind fun t187 => (if t187 = true then (some true) else ((spec_R8Strikes.f k l0).bind fun t188 => ((laws_r8At.f l1 0 30).bind fun t191 => ((laws_r8At.f l1 1 40).bind fun t192 => ((impl_WorstMembers.f k t188 (wrap64 (100 + t192)) (wrap64 (1 + t191)) 64).bind fun bt193 => ((impl_ForgiveOld.f k t188 0).bind fun bt197 => ((impl_ForgiveOld.f k t188 101).bind fun bt201 => (if bt193.2 = true then (if bt197.2 = true then (if bt201.2 = true then ((impl_AreStrikes.f k t188).bind fun t205 => (if t205 = true then (if (bt197.1.length : Int) = (t188.length : Int) then (laws_FnStrikes.j0 k t188 (wrap64 (1 + t191)) (wrap64 (100 + t192)) bt193.1 ((bt201.1.length : Int) != 0)) else (laws_FnStrikes.j0 k t188 (wrap64 (1 + t191)) (wrap64 (100 + t192)) bt193.1 true)) else (laws_FnStrikes.j0 k t188 (wrap64 (1 + t191)) (wrap64 (100 + t192)) bt193.1 true))) else (laws_FnStrikes.j0 k t188 (wrap64 (1 + t191)) (wrap64 (100 + t192)) bt193.1 true)) else (laws_FnStrikes.j0 k t188 (wrap64 (1 + t191)) (wrap64 (100 + t192)) bt193.1 true)) else (laws_FnStrikes.j0 k t188 (wrap64 (1 + t191)) (wrap64 (100 + t192)) bt193.1 true)))))))))) = some r := h
 clear h
 replace H := Option.bind_eq_some_iff.mp H
 obtain ⟨t187, A30, H⟩ := H
 replace H : (if t187 = true then (some true) else ((spec_R8Strikes.f k l0).bind fun t188 => ((laws_r8At.f l1 0 30).bind fun t191 => ((laws_r8At.f l1 1 40).bind fun t192 => ((impl_WorstMembers.f k t188 (wrap64 (100 + t192)) (wrap64 (1 + t191)) 64).bind fun bt193 => ((impl_ForgiveOld.f k t188 0).bind fun bt197 => ((impl_ForgiveOld.f k t188 101).bind fun bt201 => (if bt193.2 = true then (if bt197.2 = true then (if bt201.2 = true then ((impl_AreStrikes.f k t188).bind fun t205 => (if t205 = true then (if (bt197.1.length : Int) = (t188.length : Int) then (laws_FnStrikes.j0 k t188 (wrap64 (1 + t191)) (wrap64 (100 + t192)) bt193.1 ((bt201.1.length : Int) != 0)) else (laws_FnStrikes.j0 k t188 (wrap64 (1 + t191)) (wrap64 (100 + t192)) bt193.1 true)) else (laws_FnStrikes.j0 k t188 (wrap64 (1 + t191)) (wrap64 (100 + t192)) bt193.1 true))) else (laws_FnStrikes.j0 k t188 (wrap64 (1 + t191)) (wrap64 (100 + t192)) bt193.1 true)) else (laws_FnStrikes.j0 k t188 (wrap64 (1 + t191)) (wrap64 (100 + t192)) bt193.1 true)) else (laws_FnStrikes.j0 k t188 (wrap64 (1 + t191)) (wrap64 (100 + t192)) bt193.1 true))))))))) = some r := H
 have A3 := Aside0.mk A30
 clear A30
 by_cases c4 : t187 = true
 {
 subst c4
 have H1 : (some true) = some r := by rw [if_pos rfl] at H; exact H
 clear H
 have H := H1
 clear H1
 obtain rfl := Option.some.inj H
 go_enter Try.func8, Try.ntmps8
 go_wp2_with (first | ((with_reducible refine gate_callee (f := 38) rfl ?_); refine goesL_ (some 30) rfl rfl Try.func38 s2_ rfl #[.slice A0 l0.length c0, .slice A1 l1.length c1] rfl s3_ ?_; (with_reducible refine (laws_r8Long.calls _ _ l0 _ _ l1 true _ ?side1 ?side2 ?side3 ?side4 A3.out).mono ?_); (case side1 => repeat (first | exact HR0.out | (with_reducible refine Kd.C_alloc ?_ _) | (with_reducible refine Kd.C_drewN ?_ _) | (with_reducible refine Kd.C_drew ?_))); (case side2 => exact HC0.out); (case side3 => repeat (first | exact HR1.out | (with_reducible refine Kd.C_alloc ?_ _) | (with_reducible refine Kd.C_drewN ?_ _) | (with_reducible refine Kd.C_drew ?_))); (case side4 => exact HC1.out); rintro e w' ⟨rfl, ⟨nd, rfl⟩⟩; refine ⟨_, rfl, ?_⟩))
 go_ret
 exact ⟨by first | rfl | (simp [errW_none, errW_some] <;> rfl) | (simp [*, errW_none, errW_some] <;> rfl), by repeat (first | (with_reducible first | exact HB.out | apply below_alloc | apply pw_below_drewN | apply below_drew1) | exact HB.out)⟩}
 {
 replace c4 := Bool.eq_false_iff.mpr c4
 subst c4
 have H1 : ((spec_R8Strikes.f k l0).bind fun t188 => ((laws_r8At.f l1 0 30).bind fun t191 => ((laws_r8At.f l1 1 40).bind fun t192 => ((impl_WorstMembers.f k t188 (wrap64 (100 + t192)) (wrap64 (1 + t191)) 64).bind fun bt193 => ((impl_ForgiveOld.f k t188 0).bind fun bt197 => ((impl_ForgiveOld.f k t188 101).bind fun bt201 => (if bt193.2 = true then (if bt197.2 = true then (if bt201.2 = true then ((impl_AreStrikes.f k t188).bind fun t205 => (if t205 = true then (if (bt197.1.length : Int) = (t188.length : Int) then (laws_FnStrikes.j0 k t188 (wrap64 (1 + t191)) (wrap64 (100 + t192)) bt193.1 ((bt201.1.length : Int) != 0)) else (laws_FnStrikes.j0 k t188 (wrap64 (1 + t191)) (wrap64 (100 + t192)) bt193.1 true)) else (laws_FnStrikes.j0 k t188 (wrap64 (1 + t191)) (wrap64 (100 + t192)) bt193.1 true))) else (laws_FnStrikes.j0 k t188 (wrap64 (1 + t191)) (wrap64 (100 + t192)) bt193.1 true)) else (laws_FnStrikes.j0 k t188 (wrap64 (1 + t191)) (wrap64 (100 + t192)) bt193.1 true)) else (laws_FnStrikes.j0 k t188 (wrap64 (1 + t191)) (wrap64 (100 + t192)) bt193.1 true)))))))) = some r := by rw [if_neg (show ¬ (false = true) by decide)] at H; exact H
 clear H
 have H := H1
 clear H1
 replace H := Option.bind_eq_some_iff.mp H
 obtain ⟨t188, A50, H⟩ := H
 replace H : ((laws_r8At.f l1 0 30).bind fun t191 => ((laws_r8At.f l1 1 40).bind fun t192 => ((impl_WorstMembers.f k t188 (wrap64 (100 + t192)) (wrap64 (1 + t191)) 64).bind fun bt193 => ((impl_ForgiveOld.f k t188 0).bind fun bt197 => ((impl_ForgiveOld.f k t188 101).bind fun bt201 => (if bt193.2 = true then (if bt197.2 = true then (if bt201.2 = true then ((impl_AreStrikes.f k t188).bind fun t205 => (if t205 = true then (if (bt197.1.length : Int) = (t188.length : Int) then (laws_FnStrikes.j0 k t188 (wrap64 (1 + t191)) (wrap64 (100 + t192)) bt193.1 ((bt201.1.length : Int) != 0)) else (laws_FnStrikes.j0 k t188 (wrap64 (1 + t191)) (wrap64 (100 + t192)) bt193.1 true)) else (laws_FnStrikes.j0 k t188 (wrap64 (1 + t191)) (wrap64 (100 + t192)) bt193.1 true))) else (laws_FnStrikes.j0 k t188 (wrap64 (1 + t191)) (wrap64 (100 + t192)) bt193.1 true)) else (laws_FnStrikes.j0 k t188 (wrap64 (1 + t191)) (wrap64 (100 + t192)) bt193.1 true)) else (laws_FnStrikes.j0 k t188 (wrap64 (1 + t191)) (wrap64 (100 + t192)) bt193.1 true))))))) = some r := H
 have A5 := Aside0.mk A50
 clear A50
 replace H := Option.bind_eq_some_iff.mp H
 obtain ⟨t191, A60, H⟩ := H
 replace H : ((laws_r8At.f l1 1 40).bind fun t192 => ((impl_WorstMembers.f k t188 (wrap64 (100 + t192)) (wrap64 (1 + t191)) 64).bind fun bt193 => ((impl_ForgiveOld.f k t188 0).bind fun bt197 => ((impl_ForgiveOld.f k t188 101).bind fun bt201 => (if bt193.2 = true then (if bt197.2 = true then (if bt201.2 = true then ((impl_AreStrikes.f k t188).bind fun t205 => (if t205 = true then (if (bt197.1.length : Int) = (t188.length : Int) then (laws_FnStrikes.j0 k t188 (wrap64 (1 + t191)) (wrap64 (100 + t192)) bt193.1 ((bt201.1.length : Int) != 0)) else (laws_FnStrikes.j0 k t188 (wrap64 (1 + t191)) (wrap64 (100 + t192)) bt193.1 true)) else (laws_FnStrikes.j0 k t188 (wrap64 (1 + t191)) (wrap64 (100 + t192)) bt193.1 true))) else (laws_FnStrikes.j0 k t188 (wrap64 (1 + t191)) (wrap64 (100 + t192)) bt193.1 true)) else (laws_FnStrikes.j0 k t188 (wrap64 (1 + t191)) (wrap64 (100 + t192)) bt193.1 true)) else (laws_FnStrikes.j0 k t188 (wrap64 (1 + t191)) (wrap64 (100 + t192)) bt193.1 true)))))) = some r := H
 have A6 := Aside0.mk A60
 clear A60
 replace H := Option.bind_eq_some_iff.mp H
 obtain ⟨t192, A70, H⟩ := H
 replace H : ((impl_WorstMembers.f k t188 (wrap64 (100 + t192)) (wrap64 (1 + t191)) 64).bind fun bt193 => ((impl_ForgiveOld.f k t188 0).bind fun bt197 => ((impl_ForgiveOld.f k t188 101).bind fun bt201 => (if bt193.2 = true then (if bt197.2 = true then (if bt201.2 = true then ((impl_AreStrikes.f k t188).bind fun t205 => (if t205 = true then (if (bt197.1.length : Int) = (t188.length : Int) then (laws_FnStrikes.j0 k t188 (wrap64 (1 + t191)) (wrap64 (100 + t192)) bt193.1 ((bt201.1.length : Int) != 0)) else (laws_FnStrikes.j0 k t188 (wrap64 (1 + t191)) (wrap64 (100 + t192)) bt193.1 true)) else (laws_FnStrikes.j0 k t188 (wrap64 (1 + t191)) (wrap64 (100 + t192)) bt193.1 true))) else (laws_FnStrikes.j0 k t188 (wrap64 (1 + t191)) (wrap64 (100 + t192)) bt193.1 true)) else (laws_FnStrikes.j0 k t188 (wrap64 (1 + t191)) (wrap64 (100 + t192)) bt193.1 true)) else (laws_FnStrikes.j0 k t188 (wrap64 (1 + t191)) (wrap64 (100 + t192)) bt193.1 true))))) = some r := H
 have A7 := Aside0.mk A70
 clear A70
 replace H := Option.bind_eq_some_iff.mp H
 obtain ⟨⟨t193, t194⟩, A80, H⟩ := H
 replace H : ((impl_ForgiveOld.f k t188 0).bind fun bt197 => ((impl_ForgiveOld.f k t188 101).bind fun bt201 => (if t194 = true then (if bt197.2 = true then (if bt201.2 = true then ((impl_AreStrikes.f k t188).bind fun t205 => (if t205 = true then (if (bt197.1.length : Int) = (t188.length : Int) then (laws_FnStrikes.j0 k t188 (wrap64 (1 + t191)) (wrap64 (100 + t192)) t193 ((bt201.1.length : Int) != 0)) else (laws_FnStrikes.j0 k t188 (wrap64 (1 + t191)) (wrap64 (100 + t192)) t193 true)) else (laws_FnStrikes.j0 k t188 (wrap64 (1 + t191)) (wrap64 (100 + t192)) t193 true))) else (laws_FnStrikes.j0 k t188 (wrap64 (1 + t191)) (wrap64 (100 + t192)) t193 true)) else (laws_FnStrikes.j0 k t188 (wrap64 (1 + t191)) (wrap64 (100 + t192)) t193 true)) else (laws_FnStrikes.j0 k t188 (wrap64 (1 + t191)) (wrap64 (100 + t192)) t193 true)))) = some r := H
 have A8 := Aside0.mk A80
 clear A80
 replace H := Option.bind_eq_some_iff.mp H
 obtain ⟨⟨t197, t198⟩, A90, H⟩ := H
 replace H : ((impl_ForgiveOld.f k t188 101).bind fun bt201 => (if t194 = true then (if t198 = true then (if bt201.2 = true then ((impl_AreStrikes.f k t188).bind fun t205 => (if t205 = true then (if (t197.length : Int) = (t188.length : Int) then (laws_FnStrikes.j0 k t188 (wrap64 (1 + t191)) (wrap64 (100 + t192)) t193 ((bt201.1.length : Int) != 0)) else (laws_FnStrikes.j0 k t188 (wrap64 (1 + t191)) (wrap64 (100 + t192)) t193 true)) else (laws_FnStrikes.j0 k t188 (wrap64 (1 + t191)) (wrap64 (100 + t192)) t193 true))) else (laws_FnStrikes.j0 k t188 (wrap64 (1 + t191)) (wrap64 (100 + t192)) t193 true)) else (laws_FnStrikes.j0 k t188 (wrap64 (1 + t191)) (wrap64 (100 + t192)) t193 true)) else (laws_FnStrikes.j0 k t188 (wrap64 (1 + t191)) (wrap64 (100 + t192)) t193 true))) = some r := H
 have A9 := Aside0.mk A90
 clear A90
 replace H := Option.bind_eq_some_iff.mp H
 obtain ⟨⟨t201, t202⟩, A100, H⟩ := H
 replace H : (if t194 = true then (if t198 = true then (if t202 = true then ((impl_AreStrikes.f k t188).bind fun t205 => (if t205 = true then (if (t197.length : Int) = (t188.length : Int) then (laws_FnStrikes.j0 k t188 (wrap64 (1 + t191)) (wrap64 (100 + t192)) t193 ((t201.length : Int) != 0)) else (laws_FnStrikes.j0 k t188 (wrap64 (1 + t191)) (wrap64 (100 + t192)) t193 true)) else (laws_FnStrikes.j0 k t188 (wrap64 (1 + t191)) (wrap64 (100 + t192)) t193 true))) else (laws_FnStrikes.j0 k t188 (wrap64 (1 + t191)) (wrap64 (100 + t192)) t193 true)) else (laws_FnStrikes.j0 k t188 (wrap64 (1 + t191)) (wrap64 (100 + t192)) t193 true)) else (laws_FnStrikes.j0 k t188 (wrap64 (1 + t191)) (wrap64 (100 + t192)) t193 true)) = some r := H
 have A10 := Aside0.mk A100
 clear A100
 have HC11 := Aside0.mk H
 clear H
 go_enter Try.func8, Try.ntmps8
 go_upto_region 9 with (first | ((with_reducible refine gate_callee (f := 38) rfl ?_); refine goesL_ (some 30) rfl rfl Try.func38 s2_ rfl #[.slice A0 l0.length c0, .slice A1 l1.length c1] rfl s3_ ?_; (with_reducible refine (laws_r8Long.calls _ _ l0 _ _ l1 false _ ?side1 ?side2 ?side3 ?side4 A3.out).mono ?_); (case side1 => repeat (first | exact HR0.out | (with_reducible refine Kd.C_alloc ?_ _) | (with_reducible refine Kd.C_drewN ?_ _) | (with_reducible refine Kd.C_drew ?_))); (case side2 => exact HC0.out); (case side3 => repeat (first | exact HR1.out | (with_reducible refine Kd.C_alloc ?_ _) | (with_reducible refine Kd.C_drewN ?_ _) | (with_reducible refine Kd.C_drew ?_))); (case side4 => exact HC1.out); rintro e w' ⟨rfl, ⟨nd, rfl⟩⟩; refine ⟨_, rfl, ?_⟩) | ((with_reducible refine gate_callee (f := 39) rfl ?_); refine goesL_ (some 32) rfl rfl Try.func39 s2_ rfl #[.slice A0 l0.length c0] rfl s3_ ?_; (with_reducible refine (spec_R8Strikes.calls k _ _ l0 t188 _ ?side1 ?side2 A5.out).mono ?_); (case side1 => repeat (first | exact HR0.out | (with_reducible refine Kd.C_alloc ?_ _) | (with_reducible refine Kd.C_drewN ?_ _) | (with_reducible refine Kd.C_drew ?_))); (case side2 => exact HC0.out); rintro e w12 ⟨v189, rfl, ho0, hb⟩; refine ⟨_, rfl, ?_⟩; have HO190 := Aside0.mk (Kd.R_lower ho0 (below_size (y1_ HB.out))); replace HB := Aside0.mk (below_step (y1_ HB.out) hb); (try clear hb); (try clear hb2); (try clear hk); (try clear hi); (try clear ho0)) | ((with_reducible refine gate_callee (f := 40) rfl ?_); refine goesL_ (some 34) rfl rfl Try.func40 s2_ rfl #[.slice A1 l1.length c1, .int .i64 0, .int .i64 30] rfl s3_ ?_; (with_reducible refine (laws_r8At.calls _ _ l1 0 30 t191 _ ?side1 ?side2 A6.out).mono ?_); (case side1 => exact y2_ (Kd.C_below HR1.out HB.out)); (case side2 => exact HC1.out); rintro e w' ⟨rfl, ⟨nd, rfl⟩⟩; refine ⟨_, rfl, ?_⟩) | ((with_reducible refine gate_callee (f := 40) rfl ?_); refine goesL_ (some 37) rfl rfl Try.func40 s2_ rfl #[.slice A1 l1.length c1, .int .i64 1, .int .i64 40] rfl s3_ ?_; (with_reducible refine (laws_r8At.calls _ _ l1 1 40 t192 _ ?side1 ?side2 A7.out).mono ?_); (case side1 => exact y2_ (Kd.C_below HR1.out (y1_ HB.out))); (case side2 => exact HC1.out); rintro e w' ⟨rfl, ⟨nd, rfl⟩⟩; refine ⟨_, rfl, ?_⟩; obtain ⟨Ao13, co13, eo13⟩ := Kd.R_slice HO190.out; subst eo13) | ((with_reducible refine gate_callee (f := 41) rfl ?_); refine goesL_ (some 43) rfl rfl Try.func41 s2_ rfl #[.slice Ao13 t188.length co13, .int .i64 (wrap64 (100 + t192)), .int .i64 (wrap64 (1 + t191)), .int .i64 64] rfl s3_ ?_; (with_reducible refine (impl_WorstMembers.calls k _ _ t188 (wrap64 (100 + t192)) (wrap64 (1 + t191)) 64 t193 t194 _ ?side1 ?side2 A8.out).mono ?_); (case side1 => exact y2_ (Kd.R_reads' HO190.out).2.2); (case side2 => exact (Kd.R_reads' HO190.out).2.1); rintro e w14 ⟨v195, rfl, ho0, hb⟩; refine ⟨_, rfl, ?_⟩; replace HO190 := r1_ HO190 hb; have HO196 := Aside0.mk (Kd.R_lower ho0 (below_size (y1_ HB.out))); replace HB := Aside0.mk (below_step (y1_ HB.out) hb); (try clear hb); (try clear hb2); (try clear hk); (try clear hi); (try clear ho0)) | ((with_reducible refine gate_callee (f := 35) rfl ?_); refine goesL_ (some 48) rfl rfl Try.func35 s2_ rfl #[.slice Ao13 t188.length co13, .int .i64 0] rfl s3_ ?_; (with_reducible refine (impl_ForgiveOld.calls k _ _ t188 0 t197 t198 _ ?side1 ?side2 A9.out).mono ?_); (case side1 => exact y2_ (Kd.R_reads' HO190.out).2.2); (case side2 => exact (Kd.R_reads' HO190.out).2.1); rintro e w15 ⟨v199, rfl, ho0, hb⟩; refine ⟨_, rfl, ?_⟩; have n0_ := Aside0.mk (Kd.R_elder' (b2_ HO190.out) (Kd.R_base ho0) hb); have n1_ := r1_ HO196 hb; have n2_ := Aside0.mk (Kd.R_lower (Kd.R_new' ho0 (Kd.R_lt (b2_ HO190.out))) (below_size (y1_ HB.out))); have n3_ := Aside0.mk (below_step (y1_ HB.out) hb); clear HO190; clear HO196; clear HB; have HO190 := n0_; have HO196 := n1_; have HO200 := n2_; have HB := n3_; clear n0_ n1_ n2_ n3_; (try clear hb); (try clear hb2); (try clear hk); (try clear hi); (try clear ho0)) | ((with_reducible refine gate_callee (f := 35) rfl ?_); refine goesL_ (some 53) rfl rfl Try.func35 s2_ rfl #[.slice Ao13 t188.length co13, .int .i64 101] rfl s3_ ?_; (with_reducible refine (impl_ForgiveOld.calls k _ _ t188 101 t201 t202 _ ?side1 ?side2 A10.out).mono ?_); (case side1 => exact y2_ (Kd.R_reads' HO190.out).2.2); (case side2 => exact (Kd.R_reads' HO190.out).2.1); rintro e w16 ⟨v203, rfl, ho0, hb⟩; refine ⟨_, rfl, ?_⟩; have n0_ := Aside0.mk (Kd.R_elder' (b2_ HO190.out) (Kd.R_base ho0) hb); have n1_ := r1_ HO196 hb; have n2_ := Aside0.mk (Kd.R_elder' (b2_ HO200.out) (Kd.R_base ho0) hb); have n3_ := Aside0.mk (Kd.R_lower (Kd.R_new' (Kd.R_new' ho0 (Kd.R_lt (b2_ HO190.out))) (Kd.R_lt (b2_ HO200.out))) (below_size (y1_ HB.out))); have n4_ := Aside0.mk (below_step (y1_ HB.out) hb); clear HO190; clear HO196; clear HO200; clear HB; have HO190 := n0_; have HO196 := n1_; have HO200 := n2_; have HO204 := n3_; have HB := n4_; clear n0_ n1_ n2_ n3_ n4_; (try clear hb); (try clear hb2); (try clear hk); (try clear hi); (try clear ho0)))
 (try simp only [Act.put, List.setIfInBounds_toArray, List.set_cons_zero, List.set_cons_succ])
 go_cut [82] (fun v82 wc => ∃ (kq : Nat) (x82_10 : Bool), v82 = .bool x82_10 ∧ Aside0 (laws_FnStrikes.j0 kq t188 (wrap64 (1 + t191)) (wrap64 (100 + t192)) t193 x82_10 = some r) ∧ Aside0 (kq ≤ k) ∧ Aside0 (Kd.R k45 45 wc w.heap.size (fun _ => True) (.slice Ao13 t188.length co13) t188) ∧ Aside0 (Kd.R (Kd.int .i64) 2 wc w.heap.size (fun _ => True) v195 t193) ∧ Aside0 (Below w.heap.size w wc))
 case first =>
  skip
  {
 have H := HC11.out
 clear HC11
 by_cases c17 : t194 = true
 {
 subst c17
 have H1 : (if t198 = true then (if t202 = true then ((impl_AreStrikes.f k t188).bind fun t205 => (if t205 = true then (if (t197.length : Int) = (t188.length : Int) then (laws_FnStrikes.j0 k t188 (wrap64 (1 + t191)) (wrap64 (100 + t192)) t193 ((t201.length : Int) != 0)) else (laws_FnStrikes.j0 k t188 (wrap64 (1 + t191)) (wrap64 (100 + t192)) t193 true)) else (laws_FnStrikes.j0 k t188 (wrap64 (1 + t191)) (wrap64 (100 + t192)) t193 true))) else (laws_FnStrikes.j0 k t188 (wrap64 (1 + t191)) (wrap64 (100 + t192)) t193 true)) else (laws_FnStrikes.j0 k t188 (wrap64 (1 + t191)) (wrap64 (100 + t192)) t193 true)) = some r := by rw [if_pos rfl] at H; exact H
 clear H
 have H := H1
 clear H1
 by_cases c18 : t198 = true
 {
 subst c18
 have H1 : (if t202 = true then ((impl_AreStrikes.f k t188).bind fun t205 => (if t205 = true then (if (t197.length : Int) = (t188.length : Int) then (laws_FnStrikes.j0 k t188 (wrap64 (1 + t191)) (wrap64 (100 + t192)) t193 ((t201.length : Int) != 0)) else (laws_FnStrikes.j0 k t188 (wrap64 (1 + t191)) (wrap64 (100 + t192)) t193 true)) else (laws_FnStrikes.j0 k t188 (wrap64 (1 + t191)) (wrap64 (100 + t192)) t193 true))) else (laws_FnStrikes.j0 k t188 (wrap64 (1 + t191)) (wrap64 (100 + t192)) t193 true)) = some r := by rw [if_pos rfl] at H; exact H
 clear H
 have H := H1
 clear H1
 by_cases c19 : t202 = true
 {
 subst c19
 have H1 : ((impl_AreStrikes.f k t188).bind fun t205 => (if t205 = true then (if (t197.length : Int) = (t188.length : Int) then (laws_FnStrikes.j0 k t188 (wrap64 (1 + t191)) (wrap64 (100 + t192)) t193 ((t201.length : Int) != 0)) else (laws_FnStrikes.j0 k t188 (wrap64 (1 + t191)) (wrap64 (100 + t192)) t193 true)) else (laws_FnStrikes.j0 k t188 (wrap64 (1 + t191)) (wrap64 (100 + t192)) t193 true))) = some r := by rw [if_pos rfl] at H; exact H
 clear H
 have H := H1
 clear H1
 replace H := Option.bind_eq_some_iff.mp H
 obtain ⟨t205, A200, H⟩ := H
 replace H : (if t205 = true then (if (t197.length : Int) = (t188.length : Int) then (laws_FnStrikes.j0 k t188 (wrap64 (1 + t191)) (wrap64 (100 + t192)) t193 ((t201.length : Int) != 0)) else (laws_FnStrikes.j0 k t188 (wrap64 (1 + t191)) (wrap64 (100 + t192)) t193 true)) else (laws_FnStrikes.j0 k t188 (wrap64 (1 + t191)) (wrap64 (100 + t192)) t193 true)) = some r := H
 have A20 := Aside0.mk A200
 clear A200
 by_cases c21 : t205 = true
 {
 subst c21
 have H1 : (if (t197.length : Int) = (t188.length : Int) then (laws_FnStrikes.j0 k t188 (wrap64 (1 + t191)) (wrap64 (100 + t192)) t193 ((t201.length : Int) != 0)) else (laws_FnStrikes.j0 k t188 (wrap64 (1 + t191)) (wrap64 (100 + t192)) t193 true)) = some r := by rw [if_pos rfl] at H; exact H
 clear H
 have H := H1
 clear H1
 by_cases c22 : (t197.length : Int) = (t188.length : Int)
 {
 rw [if_pos c22] at H
 have c22b0 : ((t197.length : Int) == (t188.length : Int)) = true := beq_iff_eq.mpr c22
 have c22b1 : ((t197.length : Int) != (t188.length : Int)) = false := bne_eq_false_iff_eq.mpr c22
 have c22b2 : (t197.length == t188.length) = true := by first | simpa using c22 | (simp at c22 ⊢; omega)
 clear c22
 (first | rw [c22b0] | (simp only [i64_w, i32_w]; rw [c22b0]) | skip)
 have H' := Aside0.mk H
 clear H
 go_wp2_with (first | (go_at_call 42; (with_reducible refine (impl_AreStrikes.calls k _ _ t188 true _ ?side1 ?side2 A20.out).mono ?_); (case side1 => exact y2_ (Kd.R_reads' HO190.out).2.2); (case side2 => exact (Kd.R_reads' HO190.out).2.1); rintro e w23 ⟨rfl, hb⟩; replace HO190 := r1_ HO190 hb; replace HO196 := r1_ HO196 hb; replace HO200 := r1_ HO200 hb; replace HO204 := r1_ HO204 hb; replace HB := Aside0.mk (below_step (y1_ HB.out) hb); (try clear hb); (try clear hb2); (try clear hk); (try clear hi); obtain ⟨Ao24, co24, eo24⟩ := Kd.R_slice HO200.out; subst eo24; obtain ⟨Ao25, co25, eo25⟩ := Kd.R_slice HO204.out; subst eo25))
 go_meet
 case rel => exact ⟨_, (((t201.length : Int) != 0)), s1_, H', ⟨by first | omega | exact Nat.le_refl _⟩, ⟨by (with_reducible repeat (first | apply Kd.R_alloc | apply Kd.R_drewN | apply Kd.R_drew)); exact Kd.R_mono HO190.out (fun _ hk => trivial)⟩, ⟨b2_ HO196.out⟩, ⟨by repeat (first | (with_reducible first | exact HB.out | apply below_alloc | apply pw_below_drewN | apply below_drew1) | exact HB.out)⟩⟩}
 {
 rw [if_neg c22] at H
 have c22b0 : ((t197.length : Int) == (t188.length : Int)) = false := beq_eq_false_iff_ne.mpr c22
 have c22b1 : ((t197.length : Int) != (t188.length : Int)) = true := bne_iff_ne.mpr c22
 have c22b2 : (t197.length == t188.length) = false := by first | simpa using c22 | (simp at c22 ⊢; omega)
 (first | rw [c22b0] | (simp only [i64_w, i32_w]; rw [c22b0]) | skip)
 have H' := Aside0.mk H
 clear H
 go_wp2_with (first | (go_at_call 42; (with_reducible refine (impl_AreStrikes.calls k _ _ t188 true _ ?side1 ?side2 A20.out).mono ?_); (case side1 => exact y2_ (Kd.R_reads' HO190.out).2.2); (case side2 => exact (Kd.R_reads' HO190.out).2.1); rintro e w26 ⟨rfl, hb⟩; replace HO190 := r1_ HO190 hb; replace HO196 := r1_ HO196 hb; replace HO200 := r1_ HO200 hb; replace HO204 := r1_ HO204 hb; replace HB := Aside0.mk (below_step (y1_ HB.out) hb); (try clear hb); (try clear hb2); (try clear hk); (try clear hi); obtain ⟨Ao27, co27, eo27⟩ := Kd.R_slice HO200.out; subst eo27))
 go_meet
 case rel => exact ⟨_, (true), s1_, H', ⟨by first | omega | exact Nat.le_refl _⟩, ⟨by (with_reducible repeat (first | apply Kd.R_alloc | apply Kd.R_drewN | apply Kd.R_drew)); exact Kd.R_mono HO190.out (fun _ hk => trivial)⟩, ⟨b2_ HO196.out⟩, ⟨by repeat (first | (with_reducible first | exact HB.out | apply below_alloc | apply pw_below_drewN | apply below_drew1) | exact HB.out)⟩⟩}}
 {
 replace c21 := Bool.eq_false_iff.mpr c21
 subst c21
 have H1 : (laws_FnStrikes.j0 k t188 (wrap64 (1 + t191)) (wrap64 (100 + t192)) t193 true) = some r := by rw [if_neg (show ¬ (false = true) by decide)] at H; exact H
 clear H
 have H := H1
 clear H1
 have H' := Aside0.mk H
 clear H
 go_wp2_with (first | (go_at_call 42; (with_reducible refine (impl_AreStrikes.calls k _ _ t188 false _ ?side1 ?side2 A20.out).mono ?_); (case side1 => exact y2_ (Kd.R_reads' HO190.out).2.2); (case side2 => exact (Kd.R_reads' HO190.out).2.1); rintro e w28 ⟨rfl, hb⟩; replace HO190 := r1_ HO190 hb; replace HO196 := r1_ HO196 hb; replace HO200 := r1_ HO200 hb; replace HO204 := r1_ HO204 hb; replace HB := Aside0.mk (below_step (y1_ HB.out) hb); (try clear hb); (try clear hb2); (try clear hk); (try clear hi)))
 go_meet
 case rel => exact ⟨_, (true), s1_, H', ⟨by first | omega | exact Nat.le_refl _⟩, ⟨by (with_reducible repeat (first | apply Kd.R_alloc | apply Kd.R_drewN | apply Kd.R_drew)); exact Kd.R_mono HO190.out (fun _ hk => trivial)⟩, ⟨b2_ HO196.out⟩, ⟨by repeat (first | (with_reducible first | exact HB.out | apply below_alloc | apply pw_below_drewN | apply below_drew1) | exact HB.out)⟩⟩}}
 {
 replace c19 := Bool.eq_false_iff.mpr c19
 subst c19
 have H1 : (laws_FnStrikes.j0 k t188 (wrap64 (1 + t191)) (wrap64 (100 + t192)) t193 true) = some r := by rw [if_neg (show ¬ (false = true) by decide)] at H; exact H
 clear H
 have H := H1
 clear H1
 have H' := Aside0.mk H
 clear H
 go_wp2
 go_meet
 case rel => exact ⟨_, (true), s1_, H', ⟨by first | omega | exact Nat.le_refl _⟩, ⟨by (with_reducible repeat (first | apply Kd.R_alloc | apply Kd.R_drewN | apply Kd.R_drew)); exact Kd.R_mono HO190.out (fun _ hk => trivial)⟩, ⟨b2_ HO196.out⟩, ⟨by repeat (first | (with_reducible first | exact HB.out | apply below_alloc | apply pw_below_drewN | apply below_drew1) | exact HB.out)⟩⟩}}
 {
 replace c18 := Bool.eq_false_iff.mpr c18
 subst c18
 have H1 : (laws_FnStrikes.j0 k t188 (wrap64 (1 + t191)) (wrap64 (100 + t192)) t193 true) = some r := by rw [if_neg (show ¬ (false = true) by decide)] at H; exact H
 clear H
 have H := H1
 clear H1
 have H' := Aside0.mk H
 clear H
 go_wp2
 go_meet
 case rel => exact ⟨_, (true), s1_, H', ⟨by first | omega | exact Nat.le_refl _⟩, ⟨by (with_reducible repeat (first | apply Kd.R_alloc | apply Kd.R_drewN | apply Kd.R_drew)); exact Kd.R_mono HO190.out (fun _ hk => trivial)⟩, ⟨b2_ HO196.out⟩, ⟨by repeat (first | (with_reducible first | exact HB.out | apply below_alloc | apply pw_below_drewN | apply below_drew1) | exact HB.out)⟩⟩}}
 {
 replace c17 := Bool.eq_false_iff.mpr c17
 subst c17
 have H1 : (laws_FnStrikes.j0 k t188 (wrap64 (1 + t191)) (wrap64 (100 + t192)) t193 true) = some r := by rw [if_neg (show ¬ (false = true) by decide)] at H; exact H
 clear H
 have H := H1
 clear H1
 have H' := Aside0.mk H
 clear H
 go_wp2
 go_meet
 case rel => exact ⟨_, (true), s1_, H', ⟨by first | omega | exact Nat.le_refl _⟩, ⟨by (with_reducible repeat (first | apply Kd.R_alloc | apply Kd.R_drewN | apply Kd.R_drew)); exact Kd.R_mono HO190.out (fun _ hk => trivial)⟩, ⟨b2_ HO196.out⟩, ⟨by repeat (first | (with_reducible first | exact HB.out | apply below_alloc | apply pw_below_drewN | apply below_drew1) | exact HB.out)⟩⟩}}
 case rest =>
  skip
  {
 clear HC11
 try clear c1
 try clear c2
 try clear p2
 try clear c3
 try clear c4
 try clear p6
 try clear c8
 try clear c17
 try clear c18
 try clear c19
 try clear c21
 try clear c22
 try clear c22b0
 try clear c22b1
 try clear c22b2
 obtain ⟨kq, x82_10, rfl, HA, HJ10, HO_5, HO_8, HB⟩ := hcut
 cases kq with
 | zero => exact absurd HA.out (by simp [laws_FnStrikes.j0])
 | succ kj10 =>
  skip
  {
 have H := HA.out
 clear HA
 simp only [laws_FnStrikes.j0] at H
 by_cases c29 : x82_10 = true
 {
 subst c29
 have H1 : (some false) = some r := by rw [if_pos rfl] at H; exact H
 clear H
 have H := H1
 clear H1
 obtain rfl := Option.some.inj H
 go_wp2
 go_ret
 exact ⟨by first | rfl | (simp [errW_none, errW_some] <;> rfl) | (simp [*, errW_none, errW_some] <;> rfl), by repeat (first | (with_reducible first | exact HB.out | apply below_alloc | apply pw_below_drewN | apply below_drew1) | exact HB.out)⟩}
 {
 replace c29 := Bool.eq_false_iff.mpr c29
 subst c29
 have H1 : (laws_FnStrikes.l0 kj10 t188 (wrap64 (1 + t191)) (wrap64 (100 + t192)) t193 1000 0) = some r := by rw [if_neg (show ¬ (false = true) by decide)] at H; exact H
 clear H
 have H := H1
 clear H1
 have H' := Aside0.mk H
 clear H
 go_wp2
 go_loopg [14, 15] kj10 (fun kq v14 v15 w' => ∃ (x14_2 : Int) (x15_2 : Int), v14 = .int .i64 x14_2 ∧ v15 = .int .i64 x15_2 ∧ Aside0 (laws_FnStrikes.l0 kq t188 (wrap64 (1 + t191)) (wrap64 (100 + t192)) t193 x14_2 x15_2 = some r) ∧ Aside0 (kq ≤ kj10) ∧ Aside0 (Kd.R k45 45 w' w.heap.size (fun _ => True) (.slice Ao13 t188.length co13) t188) ∧ Aside0 (Kd.R (Kd.int .i64) 2 w' w.heap.size (fun _ => True) v195 t193) ∧ Aside0 (Below w.heap.size w w'))
 case atStart => exact ⟨(1000), (0), s1_, s1_, H', ⟨Nat.le_refl _⟩, ⟨b2_ HO_5.out⟩, ⟨b2_ HO_8.out⟩, ⟨by repeat (first | (with_reducible first | exact HB.out | apply below_alloc | apply pw_below_drewN | apply below_drew1) | exact HB.out)⟩⟩
 case round =>
  skip
  {
 clear H'
 try clear c1
 try clear c2
 try clear p2
 try clear c3
 try clear c4
 try clear p6
 try clear c8
 try clear c17
 try clear c18
 try clear c19
 try clear c21
 try clear c22
 try clear c22b0
 try clear c22b1
 try clear c22b2
 try clear c29
 try clear p2
 try clear p6
 obtain ⟨x14_2, x15_2, rfl, rfl, HA, HK2, HO_5, HO_8, HB⟩ := hrel
 cases gk with
 | zero => exact absurd HA.out (by simp [laws_FnStrikes.l0])
 | succ k2 =>
  skip
  {
 have H := HA.out
 clear HA
 simp only [laws_FnStrikes.l0] at H
 by_cases c30 : x15_2 < (t193.length : Int)
 {
 rw [if_pos c30] at H
 have c30b0 : decide (x15_2 < (t193.length : Int)) = true := decide_eq_true c30
 clear c30
 by_cases c31 : 0 ≤ x15_2
 {
 rw [if_pos c31] at H
 have c31b0 : decide (0 ≤ x15_2) = true := decide_eq_true c31
 clear c31
 replace H := Option.bind_eq_some_iff.mp H
 obtain ⟨⟨t207, t208⟩, A320, H⟩ := H
 replace H : (if t208 = true then (if t207 < 1 then (some false) else (if t207 > x14_2 then (some false) else (laws_FnStrikes.l0 k2 t188 (wrap64 (1 + t191)) (wrap64 (100 + t192)) t193 t207 (wrap64 (x15_2 + 1))))) else (some false)) = some r := H
 have A32 := Aside0.mk A320
 clear A320
 by_cases c33 : t208 = true
 {
 subst c33
 have H1 : (if t207 < 1 then (some false) else (if t207 > x14_2 then (some false) else (laws_FnStrikes.l0 k2 t188 (wrap64 (1 + t191)) (wrap64 (100 + t192)) t193 t207 (wrap64 (x15_2 + 1))))) = some r := by rw [if_pos rfl] at H; exact H
 clear H
 have H := H1
 clear H1
 by_cases c34 : t207 < 1
 {
 rw [if_pos c34] at H
 have c34b0 : decide (t207 < 1) = true := decide_eq_true c34
 clear c34
 obtain rfl := Option.some.inj H
 obtain ⟨Ao35, co35, eo35⟩ := Kd.R_slice HO_8.out
 subst eo35
 have p206 : 0 ≤ (x15_2 : Int) := of_decide_eq_true (by first | (with_reducible assumption) | assumption)
 have q206 : x15_2 < (t193.length : Int) := of_decide_eq_true (by first | (with_reducible assumption) | assumption)
 obtain ⟨ad206, e206, hx206_0⟩ := Kd.at_int (Kd.R_reads' HO_8.out).2.2 x15_2 p206 q206
 cases e206
 replace p206 := eq_true p206
 replace q206 := eq_true q206
 go_wp2_with (first | ((with_reducible refine gate_callee (f := 43) rfl ?_); refine goesL_ (some 97) rfl rfl Try.func43 s2_ rfl #[.slice Ao13 t188.length co13, .int .i64 (rd t193 x15_2), .int .i64 (wrap64 (100 + t192)), .int .i64 (wrap64 (1 + t191))] rfl s3_ ?_; (with_reducible refine (impl_PointsOf.calls k2 _ _ t188 (rd t193 x15_2) (wrap64 (100 + t192)) (wrap64 (1 + t191)) t207 true _ ?side1 ?side2 A32.out).mono ?_); (case side1 => exact y2_ (Kd.R_reads' HO_5.out).2.2); (case side2 => exact (Kd.R_reads' HO_5.out).2.1); rintro e w36 ⟨rfl, hb⟩; refine ⟨_, rfl, ?_⟩; replace HO_5 := r1_ HO_5 hb; replace HO_8 := r1_ HO_8 hb; replace HB := Aside0.mk (below_step (y1_ HB.out) hb); (try clear hb); (try clear hb2); (try clear hk); (try clear hi)))
 go_ret
 exact ⟨by first | rfl | (simp [errW_none, errW_some] <;> rfl) | (simp [*, errW_none, errW_some] <;> rfl), by repeat (first | (with_reducible first | exact HB.out | apply below_alloc | apply pw_below_drewN | apply below_drew1) | exact HB.out)⟩}
 {
 rw [if_neg c34] at H
 have c34b0 : decide (t207 < 1) = false := decide_eq_false c34
 clear c34
 by_cases c37 : t207 > x14_2
 {
 rw [if_pos c37] at H
 have c37b0 : decide (x14_2 < t207) = true := decide_eq_true c37
 clear c37
 obtain rfl := Option.some.inj H
 obtain ⟨Ao38, co38, eo38⟩ := Kd.R_slice HO_8.out
 subst eo38
 have p206 : 0 ≤ (x15_2 : Int) := of_decide_eq_true (by first | (with_reducible assumption) | assumption)
 have q206 : x15_2 < (t193.length : Int) := of_decide_eq_true (by first | (with_reducible assumption) | assumption)
 obtain ⟨ad206, e206, hx206_0⟩ := Kd.at_int (Kd.R_reads' HO_8.out).2.2 x15_2 p206 q206
 cases e206
 replace p206 := eq_true p206
 replace q206 := eq_true q206
 go_wp2_with (first | ((with_reducible refine gate_callee (f := 43) rfl ?_); refine goesL_ (some 97) rfl rfl Try.func43 s2_ rfl #[.slice Ao13 t188.length co13, .int .i64 (rd t193 x15_2), .int .i64 (wrap64 (100 + t192)), .int .i64 (wrap64 (1 + t191))] rfl s3_ ?_; (with_reducible refine (impl_PointsOf.calls k2 _ _ t188 (rd t193 x15_2) (wrap64 (100 + t192)) (wrap64 (1 + t191)) t207 true _ ?side1 ?side2 A32.out).mono ?_); (case side1 => exact y2_ (Kd.R_reads' HO_5.out).2.2); (case side2 => exact (Kd.R_reads' HO_5.out).2.1); rintro e w39 ⟨rfl, hb⟩; refine ⟨_, rfl, ?_⟩; replace HO_5 := r1_ HO_5 hb; replace HO_8 := r1_ HO_8 hb; replace HB := Aside0.mk (below_step (y1_ HB.out) hb); (try clear hb); (try clear hb2); (try clear hk); (try clear hi)))
 go_ret
 exact ⟨by first | rfl | (simp [errW_none, errW_some] <;> rfl) | (simp [*, errW_none, errW_some] <;> rfl), by repeat (first | (with_reducible first | exact HB.out | apply below_alloc | apply pw_below_drewN | apply below_drew1) | exact HB.out)⟩}
 {
 rw [if_neg c37] at H
 have c37b0 : decide (x14_2 < t207) = false := decide_eq_false c37
 clear c37
 have H' := Aside0.mk H
 clear H
 obtain ⟨Ao40, co40, eo40⟩ := Kd.R_slice HO_8.out
 subst eo40
 have p206 : 0 ≤ (x15_2 : Int) := of_decide_eq_true (by first | (with_reducible assumption) | assumption)
 have q206 : x15_2 < (t193.length : Int) := of_decide_eq_true (by first | (with_reducible assumption) | assumption)
 obtain ⟨ad206, e206, hx206_0⟩ := Kd.at_int (Kd.R_reads' HO_8.out).2.2 x15_2 p206 q206
 cases e206
 replace p206 := eq_true p206
 replace q206 := eq_true q206
 go_wp2_with (first | ((with_reducible refine gate_callee (f := 43) rfl ?_); refine goesL_ (some 97) rfl rfl Try.func43 s2_ rfl #[.slice Ao13 t188.length co13, .int .i64 (rd t193 x15_2), .int .i64 (wrap64 (100 + t192)), .int .i64 (wrap64 (1 + t191))] rfl s3_ ?_; (with_reducible refine (impl_PointsOf.calls k2 _ _ t188 (rd t193 x15_2) (wrap64 (100 + t192)) (wrap64 (1 + t191)) t207 true _ ?side1 ?side2 A32.out).mono ?_); (case side1 => exact y2_ (Kd.R_reads' HO_5.out).2.2); (case side2 => exact (Kd.R_reads' HO_5.out).2.1); rintro e w41 ⟨rfl, hb⟩; refine ⟨_, rfl, ?_⟩; replace HO_5 := r1_ HO_5 hb; replace HO_8 := r1_ HO_8 hb; replace HB := Aside0.mk (below_step (y1_ HB.out) hb); (try clear hb); (try clear hb2); (try clear hk); (try clear hi)))
 go_roundg k2
 case measure => have := HJ10.out; have := HK2.out; omega
 case rel => exact ⟨(t207), (wrap64 (x15_2 + 1)), s1_, s1_, H', ⟨by have := HJ10.out; have := HK2.out; omega⟩, ⟨b2_ HO_5.out⟩, ⟨b2_ HO_8.out⟩, ⟨by repeat (first | (with_reducible first | exact HB.out | apply below_alloc | apply pw_below_drewN | apply below_drew1) | exact HB.out)⟩⟩}}}
 {
 replace c33 := Bool.eq_false_iff.mpr c33
 subst c33
 have H1 : (some false) = some r := by rw [if_neg (show ¬ (false = true) by decide)] at H; exact H
 clear H
 have H := H1
 clear H1
 obtain rfl := Option.some.inj H
 obtain ⟨Ao42, co42, eo42⟩ := Kd.R_slice HO_8.out
 subst eo42
 have p206 : 0 ≤ (x15_2 : Int) := of_decide_eq_true (by first | (with_reducible assumption) | assumption)
 have q206 : x15_2 < (t193.length : Int) := of_decide_eq_true (by first | (with_reducible assumption) | assumption)
 obtain ⟨ad206, e206, hx206_0⟩ := Kd.at_int (Kd.R_reads' HO_8.out).2.2 x15_2 p206 q206
 cases e206
 replace p206 := eq_true p206
 replace q206 := eq_true q206
 go_wp2_with (first | ((with_reducible refine gate_callee (f := 43) rfl ?_); refine goesL_ (some 97) rfl rfl Try.func43 s2_ rfl #[.slice Ao13 t188.length co13, .int .i64 (rd t193 x15_2), .int .i64 (wrap64 (100 + t192)), .int .i64 (wrap64 (1 + t191))] rfl s3_ ?_; (with_reducible refine (impl_PointsOf.calls k2 _ _ t188 (rd t193 x15_2) (wrap64 (100 + t192)) (wrap64 (1 + t191)) t207 false _ ?side1 ?side2 A32.out).mono ?_); (case side1 => exact y2_ (Kd.R_reads' HO_5.out).2.2); (case side2 => exact (Kd.R_reads' HO_5.out).2.1); rintro e w43 ⟨rfl, hb⟩; refine ⟨_, rfl, ?_⟩; replace HO_5 := r1_ HO_5 hb; replace HO_8 := r1_ HO_8 hb; replace HB := Aside0.mk (below_step (y1_ HB.out) hb); (try clear hb); (try clear hb2); (try clear hk); (try clear hi)))
 go_ret
 exact ⟨by first | rfl | (simp [errW_none, errW_some] <;> rfl) | (simp [*, errW_none, errW_some] <;> rfl), by repeat (first | (with_reducible first | exact HB.out | apply below_alloc | apply pw_below_drewN | apply below_drew1) | exact HB.out)⟩}}
 {
 rw [if_neg c31] at H
 exact absurd H (by simp)}}
 {
 rw [if_neg c30] at H
 have c30b0 : decide (x15_2 < (t193.length : Int)) = false := decide_eq_false c30
 clear c30
 have H' := Aside0.mk H
 clear H
 obtain ⟨Ao44, co44, eo44⟩ := Kd.R_slice HO_8.out
 subst eo44
 go_wp2
 go_loopg [18, 19] k2 (fun kq v18 v19 w' => ∃ (x18_3 : Int) (x19_3 : Int), v18 = .int .i64 x18_3 ∧ v19 = .int .i64 x19_3 ∧ Aside0 (laws_FnStrikes.l1 kq t188 (wrap64 (1 + t191)) (wrap64 (100 + t192)) t193 x18_3 x19_3 = some r) ∧ Aside0 (kq ≤ k2) ∧ Aside0 (Kd.R k45 45 w' w.heap.size (fun _ => True) (.slice Ao13 t188.length co13) t188) ∧ Aside0 (Kd.R (Kd.int .i64) 2 w' w.heap.size (fun _ => True) (.slice Ao44 t193.length co44) t193) ∧ Aside0 (Below w.heap.size w w'))
 case atStart => exact ⟨(0), (1), s1_, s1_, H', ⟨Nat.le_refl _⟩, ⟨b2_ HO_5.out⟩, ⟨b2_ HO_8.out⟩, ⟨by repeat (first | (with_reducible first | exact HB.out | apply below_alloc | apply pw_below_drewN | apply below_drew1) | exact HB.out)⟩⟩
 case round =>
  skip
  {
 clear H'
 try clear c1
 try clear c2
 try clear p2
 try clear q2
 try clear hx2
 try clear c3
 try clear c4
 try clear p6
 try clear c8
 try clear c17
 try clear c18
 try clear c19
 try clear p20
 try clear q20
 try clear hx20
 try clear c21
 try clear c22
 try clear c22b0
 try clear c22b1
 try clear c22b2
 try clear c29
 try clear c30
 try clear c30b0
 try clear c31
 try clear c31b0
 try clear c33
 try clear c34
 try clear c34b0
 try clear c35
 try clear c37
 try clear c37b0
 try clear c38
 try clear c39
 try clear c40
 try clear c41
 try clear c43
 try clear hx206_0
 try clear p2
 try clear p206
 try clear p6
 try clear q206
 obtain ⟨x18_3, x19_3, rfl, rfl, HA, HK3, HO_5, HO_8, HB⟩ := hrel
 cases gk with
 | zero => exact absurd HA.out (by simp [laws_FnStrikes.l1])
 | succ k3 =>
  skip
  {
 have H := HA.out
 clear HA
 simp only [laws_FnStrikes.l1] at H
 by_cases c45 : x19_3 ≤ 4
 {
 rw [if_pos c45] at H
 have c45b0 : decide (x19_3 ≤ 4) = true := decide_eq_true c45
 clear c45
 replace H := Option.bind_eq_some_iff.mp H
 obtain ⟨⟨t215, t216⟩, A460, H⟩ := H
 replace H : ((impl_PointsOf.f k3 t188 x19_3 (wrap64 ((wrap64 (100 + t192)) + 7)) (wrap64 (1 + t191))).bind fun bt217 => (if t216 = true then (if bt217.2 = true then (if bt217.1 > t215 then (laws_FnStrikes.j3 k3 t188 (wrap64 (1 + t191)) (wrap64 (100 + t192)) t193 x18_3 x19_3 t215 true) else ((impl_PenaltyOf.f bt217.1).bind fun t219 => ((impl_PenaltyOf.f t215).bind fun t220 => (laws_FnStrikes.j3 k3 t188 (wrap64 (1 + t191)) (wrap64 (100 + t192)) t193 x18_3 x19_3 t215 (decide (t219 > t220)))))) else (laws_FnStrikes.j3 k3 t188 (wrap64 (1 + t191)) (wrap64 (100 + t192)) t193 x18_3 x19_3 t215 true)) else (laws_FnStrikes.j3 k3 t188 (wrap64 (1 + t191)) (wrap64 (100 + t192)) t193 x18_3 x19_3 t215 true))) = some r := H
 have A46 := Aside0.mk A460
 clear A460
 replace H := Option.bind_eq_some_iff.mp H
 obtain ⟨⟨t217, t218⟩, A470, H⟩ := H
 replace H : (if t216 = true then (if t218 = true then (if t217 > t215 then (laws_FnStrikes.j3 k3 t188 (wrap64 (1 + t191)) (wrap64 (100 + t192)) t193 x18_3 x19_3 t215 true) else ((impl_PenaltyOf.f t217).bind fun t219 => ((impl_PenaltyOf.f t215).bind fun t220 => (laws_FnStrikes.j3 k3 t188 (wrap64 (1 + t191)) (wrap64 (100 + t192)) t193 x18_3 x19_3 t215 (decide (t219 > t220)))))) else (laws_FnStrikes.j3 k3 t188 (wrap64 (1 + t191)) (wrap64 (100 + t192)) t193 x18_3 x19_3 t215 true)) else (laws_FnStrikes.j3 k3 t188 (wrap64 (1 + t191)) (wrap64 (100 + t192)) t193 x18_3 x19_3 t215 true)) = some r := H
 have A47 := Aside0.mk A470
 clear A470
 have HC48 := Aside0.mk H
 clear H
 go_upto_region 25 with (first | ((with_reducible refine gate_callee (f := 43) rfl ?_); refine goesL_ (some 121) rfl rfl Try.func43 s2_ rfl #[.slice Ao13 t188.length co13, .int .i64 x19_3, .int .i64 (wrap64 (100 + t192)), .int .i64 (wrap64 (1 + t191))] rfl s3_ ?_; (with_reducible refine (impl_PointsOf.calls k3 _ _ t188 x19_3 (wrap64 (100 + t192)) (wrap64 (1 + t191)) t215 t216 _ ?side1 ?side2 A46.out).mono ?_); (case side1 => exact y2_ (Kd.R_reads' HO_5.out).2.2); (case side2 => exact (Kd.R_reads' HO_5.out).2.1); rintro e w49 ⟨rfl, hb⟩; refine ⟨_, rfl, ?_⟩; replace HO_5 := r1_ HO_5 hb; replace HO_8 := r1_ HO_8 hb; replace HB := Aside0.mk (below_step (y1_ HB.out) hb); (try clear hb); (try clear hb2); (try clear hk); (try clear hi)) | ((with_reducible refine gate_callee (f := 43) rfl ?_); refine goesL_ (some 130) rfl rfl Try.func43 s2_ rfl #[.slice Ao13 t188.length co13, .int .i64 x19_3, .int .i64 (wrap64 ((wrap64 (100 + t192)) + 7)), .int .i64 (wrap64 (1 + t191))] rfl s3_ ?_; (with_reducible refine (impl_PointsOf.calls k3 _ _ t188 x19_3 (wrap64 ((wrap64 (100 + t192)) + 7)) (wrap64 (1 + t191)) t217 t218 _ ?side1 ?side2 A47.out).mono ?_); (case side1 => exact y2_ (Kd.R_reads' HO_5.out).2.2); (case side2 => exact (Kd.R_reads' HO_5.out).2.1); rintro e w50 ⟨rfl, hb⟩; refine ⟨_, rfl, ?_⟩; replace HO_5 := r1_ HO_5 hb; replace HO_8 := r1_ HO_8 hb; replace HB := Aside0.mk (below_step (y1_ HB.out) hb); (try clear hb); (try clear hb2); (try clear hk); (try clear hi)))
 (try simp only [Act.put, List.setIfInBounds_toArray, List.set_cons_zero, List.set_cons_succ])
 go_cut [150] (fun v150 wc => ∃ (kq : Nat) (x150_47 : Bool), v150 = .bool x150_47 ∧ Aside0 (laws_FnStrikes.j3 kq t188 (wrap64 (1 + t191)) (wrap64 (100 + t192)) t193 x18_3 x19_3 t215 x150_47 = some r) ∧ Aside0 (kq ≤ k3) ∧ Aside0 (Kd.R k45 45 wc w.heap.size (fun _ => True) (.slice Ao13 t188.length co13) t188) ∧ Aside0 (Kd.R (Kd.int .i64) 2 wc w.heap.size (fun _ => True) (.slice Ao44 t193.length co44) t193) ∧ Aside0 (Below w.heap.size w wc))
 case first =>
  skip
  {
 have H := HC48.out
 clear HC48
 by_cases c51 : t216 = true
 {
 subst c51
 have H1 : (if t218 = true then (if t217 > t215 then (laws_FnStrikes.j3 k3 t188 (wrap64 (1 + t191)) (wrap64 (100 + t192)) t193 x18_3 x19_3 t215 true) else ((impl_PenaltyOf.f t217).bind fun t219 => ((impl_PenaltyOf.f t215).bind fun t220 => (laws_FnStrikes.j3 k3 t188 (wrap64 (1 + t191)) (wrap64 (100 + t192)) t193 x18_3 x19_3 t215 (decide (t219 > t220)))))) else (laws_FnStrikes.j3 k3 t188 (wrap64 (1 + t191)) (wrap64 (100 + t192)) t193 x18_3 x19_3 t215 true)) = some r := by rw [if_pos rfl] at H; exact H
 clear H
 have H := H1
 clear H1
 by_cases c52 : t218 = true
 {
 subst c52
 have H1 : (if t217 > t215 then (laws_FnStrikes.j3 k3 t188 (wrap64 (1 + t191)) (wrap64 (100 + t192)) t193 x18_3 x19_3 t215 true) else ((impl_PenaltyOf.f t217).bind fun t219 => ((impl_PenaltyOf.f t215).bind fun t220 => (laws_FnStrikes.j3 k3 t188 (wrap64 (1 + t191)) (wrap64 (100 + t192)) t193 x18_3 x19_3 t215 (decide (t219 > t220)))))) = some r := by rw [if_pos rfl] at H; exact H
 clear H
 have H := H1
 clear H1
 by_cases c53 : t217 > t215
 {
 rw [if_pos c53] at H
 have c53b0 : decide (t215 < t217) = true := decide_eq_true c53
 clear c53
 (first | rw [c53b0] | (simp only [i64_w, i32_w]; rw [c53b0]) | skip)
 have H' := Aside0.mk H
 clear H
 go_wp2
 go_meet
 case rel => exact ⟨_, (true), s1_, H', ⟨by have := HJ10.out; have := HK2.out; have := HK3.out; first | omega | exact Nat.le_refl _⟩, ⟨b2_ HO_5.out⟩, ⟨b2_ HO_8.out⟩, ⟨by repeat (first | (with_reducible first | exact HB.out | apply below_alloc | apply pw_below_drewN | apply below_drew1) | exact HB.out)⟩⟩}
 {
 rw [if_neg c53] at H
 have c53b0 : decide (t215 < t217) = false := decide_eq_false c53
 clear c53
 (first | rw [c53b0] | (simp only [i64_w, i32_w]; rw [c53b0]) | skip)
 replace H := Option.bind_eq_some_iff.mp H
 obtain ⟨t219, A540, H⟩ := H
 replace H : ((impl_PenaltyOf.f t215).bind fun t220 => (laws_FnStrikes.j3 k3 t188 (wrap64 (1 + t191)) (wrap64 (100 + t192)) t193 x18_3 x19_3 t215 (decide (t219 > t220)))) = some r := H
 have A54 := Aside0.mk A540
 clear A540
 replace H := Option.bind_eq_some_iff.mp H
 obtain ⟨t220, A550, H⟩ := H
 replace H : (laws_FnStrikes.j3 k3 t188 (wrap64 (1 + t191)) (wrap64 (100 + t192)) t193 x18_3 x19_3 t215 (decide (t219 > t220))) = some r := H
 have A55 := Aside0.mk A550
 clear A550
 have H' := Aside0.mk H
 clear H
 go_wp2_with (first | (go_at_call 44; (with_reducible refine (impl_PenaltyOf.calls t217 t219 _ A54.out).mono ?_); rintro e w' ⟨rfl, ⟨nd, rfl⟩⟩) | (go_at_call 44; (with_reducible refine (impl_PenaltyOf.calls t215 t220 _ A55.out).mono ?_); rintro e w' ⟨rfl, ⟨nd, rfl⟩⟩))
 go_meet
 case rel => exact ⟨_, (decide (t219 > t220)), s1_, H', ⟨by have := HJ10.out; have := HK2.out; have := HK3.out; first | omega | exact Nat.le_refl _⟩, ⟨b2_ HO_5.out⟩, ⟨b2_ HO_8.out⟩, ⟨by repeat (first | (with_reducible first | exact HB.out | apply below_alloc | apply pw_below_drewN | apply below_drew1) | exact HB.out)⟩⟩}}
 {
 replace c52 := Bool.eq_false_iff.mpr c52
 subst c52
 have H1 : (laws_FnStrikes.j3 k3 t188 (wrap64 (1 + t191)) (wrap64 (100 + t192)) t193 x18_3 x19_3 t215 true) = some r := by rw [if_neg (show ¬ (false = true) by decide)] at H; exact H
 clear H
 have H := H1
 clear H1
 have H' := Aside0.mk H
 clear H
 go_wp2
 go_meet
 case rel => exact ⟨_, (true), s1_, H', ⟨by have := HJ10.out; have := HK2.out; have := HK3.out; first | omega | exact Nat.le_refl _⟩, ⟨b2_ HO_5.out⟩, ⟨b2_ HO_8.out⟩, ⟨by repeat (first | (with_reducible first | exact HB.out | apply below_alloc | apply pw_below_drewN | apply below_drew1) | exact HB.out)⟩⟩}}
 {
 replace c51 := Bool.eq_false_iff.mpr c51
 subst c51
 have H1 : (laws_FnStrikes.j3 k3 t188 (wrap64 (1 + t191)) (wrap64 (100 + t192)) t193 x18_3 x19_3 t215 true) = some r := by rw [if_neg (show ¬ (false = true) by decide)] at H; exact H
 clear H
 have H := H1
 clear H1
 have H' := Aside0.mk H
 clear H
 go_wp2
 go_meet
 case rel => exact ⟨_, (true), s1_, H', ⟨by have := HJ10.out; have := HK2.out; have := HK3.out; first | omega | exact Nat.le_refl _⟩, ⟨b2_ HO_5.out⟩, ⟨b2_ HO_8.out⟩, ⟨by repeat (first | (with_reducible first | exact HB.out | apply below_alloc | apply pw_below_drewN | apply below_drew1) | exact HB.out)⟩⟩}}
 case rest =>
  skip
  {
 clear HC48
 try clear c1
 try clear c2
 try clear p2
 try clear q2
 try clear hx2
 try clear c3
 try clear c4
 try clear c5
 try clear p6
 try clear c8
 try clear c17
 try clear c18
 try clear c19
 try clear p20
 try clear q20
 try clear hx20
 try clear c21
 try clear c22
 try clear c22b0
 try clear c22b1
 try clear c22b2
 try clear c29
 try clear c30
 try clear c30b0
 try clear c31
 try clear c31b0
 try clear c33
 try clear c34
 try clear c34b0
 try clear c35
 try clear c37
 try clear c37b0
 try clear c38
 try clear c39
 try clear c40
 try clear c41
 try clear c43
 try clear c45
 try clear c45b0
 try clear c51
 try clear c52
 try clear c53
 try clear c53b0
 try clear hx206_0
 try clear p2
 try clear p20
 try clear p206
 try clear p6
 try clear q2
 try clear q20
 try clear q206
 obtain ⟨kq, x150_47, rfl, HA, HJ47, HO_5, HO_8, HB⟩ := hcut
 cases kq with
 | zero => exact absurd HA.out (by simp [laws_FnStrikes.j3])
 | succ kj47 =>
  skip
  {
 have H := HA.out
 clear HA
 simp only [laws_FnStrikes.j3] at H
 by_cases c56 : x150_47 = true
 {
 subst c56
 have H1 : (some false) = some r := by rw [if_pos rfl] at H; exact H
 clear H
 have H := H1
 clear H1
 obtain rfl := Option.some.inj H
 go_wp2
 go_ret
 exact ⟨by first | rfl | (simp [errW_none, errW_some] <;> rfl) | (simp [*, errW_none, errW_some] <;> rfl), by repeat (first | (with_reducible first | exact HB.out | apply below_alloc | apply pw_below_drewN | apply below_drew1) | exact HB.out)⟩}
 {
 replace c56 := Bool.eq_false_iff.mpr c56
 subst c56
 have H1 : (if t215 > 0 then (laws_FnStrikes.l1 kj47 t188 (wrap64 (1 + t191)) (wrap64 (100 + t192)) t193 (wrap64 (x18_3 + 1)) (wrap64 (x19_3 + 1))) else (laws_FnStrikes.l1 kj47 t188 (wrap64 (1 + t191)) (wrap64 (100 + t192)) t193 x18_3 (wrap64 (x19_3 + 1)))) = some r := by rw [if_neg (show ¬ (false = true) by decide)] at H; exact H
 clear H
 have H := H1
 clear H1
 by_cases c57 : t215 > 0
 {
 rw [if_pos c57] at H
 have c57b0 : decide (0 < t215) = true := decide_eq_true c57
 clear c57
 have H' := Aside0.mk H
 clear H
 go_wp2
 go_roundg kj47
 case measure => have := HJ10.out; have := HK2.out; have := HK3.out; have := HJ47.out; omega
 case rel => exact ⟨(wrap64 (x18_3 + 1)), (wrap64 (x19_3 + 1)), s1_, s1_, H', ⟨by have := HJ10.out; have := HK2.out; have := HK3.out; have := HJ47.out; omega⟩, ⟨b2_ HO_5.out⟩, ⟨b2_ HO_8.out⟩, ⟨by repeat (first | (with_reducible first | exact HB.out | apply below_alloc | apply pw_below_drewN | apply below_drew1) | exact HB.out)⟩⟩}
 {
 rw [if_neg c57] at H
 have c57b0 : decide (0 < t215) = false := decide_eq_false c57
 clear c57
 have H' := Aside0.mk H
 clear H
 go_wp2
 go_roundg kj47
 case measure => have := HJ10.out; have := HK2.out; have := HK3.out; have := HJ47.out; omega
 case rel => exact ⟨(x18_3), (wrap64 (x19_3 + 1)), s1_, s1_, H', ⟨by have := HJ10.out; have := HK2.out; have := HK3.out; have := HJ47.out; omega⟩, ⟨b2_ HO_5.out⟩, ⟨b2_ HO_8.out⟩, ⟨by repeat (first | (with_reducible first | exact HB.out | apply below_alloc | apply pw_below_drewN | apply below_drew1) | exact HB.out)⟩⟩}}}}}
 {
 rw [if_neg c45] at H
 have c45b0 : decide (x19_3 ≤ 4) = false := decide_eq_false c45
 clear c45
 replace H := Option.bind_eq_some_iff.mp H
 obtain ⟨⟨t209, t212⟩, A580, H⟩ := H
 replace H : ((impl_PointsOf.f k3 t209 9 (wrap64 (100 + t192)) (wrap64 (1 + t191))).bind fun bt213 => (if x18_3 = (t193.length : Int) then (if t212 = true then (if bt213.2 = true then (if bt213.1 = 4 then (some ((t209.length : Int) == (wrap64 ((t188.length : Int) + 1)))) else (some false)) else (some false)) else (some false)) else (some false))) = some r := H
 have A58 := Aside0.mk A580
 clear A580
 replace H := Option.bind_eq_some_iff.mp H
 obtain ⟨⟨t213, t214⟩, A590, H⟩ := H
 replace H : (if x18_3 = (t193.length : Int) then (if t212 = true then (if t214 = true then (if t213 = 4 then (some ((t209.length : Int) == (wrap64 ((t188.length : Int) + 1)))) else (some false)) else (some false)) else (some false)) else (some false)) = some r := H
 have A59 := Aside0.mk A590
 clear A590
 by_cases c60 : x18_3 = (t193.length : Int)
 {
 rw [if_pos c60] at H
 have c60b0 : (x18_3 == (t193.length : Int)) = true := beq_iff_eq.mpr c60
 have c60b1 : (x18_3 != (t193.length : Int)) = false := bne_eq_false_iff_eq.mpr c60
 clear c60
 by_cases c61 : t212 = true
 {
 subst c61
 have H1 : (if t214 = true then (if t213 = 4 then (some ((t209.length : Int) == (wrap64 ((t188.length : Int) + 1)))) else (some false)) else (some false)) = some r := by rw [if_pos rfl] at H; exact H
 clear H
 have H := H1
 clear H1
 by_cases c62 : t214 = true
 {
 subst c62
 have H1 : (if t213 = 4 then (some ((t209.length : Int) == (wrap64 ((t188.length : Int) + 1)))) else (some false)) = some r := by rw [if_pos rfl] at H; exact H
 clear H
 have H := H1
 clear H1
 by_cases c63 : t213 = 4
 {
 rw [if_pos c63] at H
 have c63b0 : (t213 == 4) = true := beq_iff_eq.mpr c63
 have c63b1 : (t213 != 4) = false := bne_eq_false_iff_eq.mpr c63
 clear c63
 obtain rfl := Option.some.inj H
 go_wp2_with (first | ((with_reducible refine gate_callee (f := 30) rfl ?_); refine goesL_ (some 159) rfl rfl Try.func30 s2_ rfl #[.slice Ao13 t188.length co13, .agg #[.int .i64 9, .int .i64 2, .int .i64 (wrap64 (100 + t192))]] rfl s3_ ?_; (with_reducible refine (impl_AddStrike.calls k3 _ _ t188 9 2 (wrap64 (100 + t192)) t209 true _ ?side1 ?side2 A58.out).mono ?_); (case side1 => exact y2_ (Kd.R_reads' HO_5.out).2.2); (case side2 => exact (Kd.R_reads' HO_5.out).2.1); rintro e w64 ⟨v210, rfl, ho0, hb⟩; refine ⟨_, rfl, ?_⟩; have n0_ := Aside0.mk (Kd.R_elder' (b2_ HO_5.out) (Kd.R_base ho0) hb); have n1_ := r1_ HO_8 hb; have n2_ := Aside0.mk (Kd.R_lower (Kd.R_new' ho0 (Kd.R_lt (b2_ HO_5.out))) (below_size (y1_ HB.out))); have n3_ := Aside0.mk (below_step (y1_ HB.out) hb); clear HO_5; clear HO_8; clear HB; have HO_5 := n0_; have HO_8 := n1_; have HO211 := n2_; have HB := n3_; clear n0_ n1_ n2_ n3_; (try clear hb); (try clear hb2); (try clear hk); (try clear hi); (try clear ho0); obtain ⟨Ao65, co65, eo65⟩ := Kd.R_slice HO211.out; subst eo65) | ((with_reducible refine gate_callee (f := 43) rfl ?_); refine goesL_ (some 166) rfl rfl Try.func43 s2_ rfl #[.slice Ao65 t209.length co65, .int .i64 9, .int .i64 (wrap64 (100 + t192)), .int .i64 (wrap64 (1 + t191))] rfl s3_ ?_; (with_reducible refine (impl_PointsOf.calls k3 _ _ t209 9 (wrap64 (100 + t192)) (wrap64 (1 + t191)) t213 true _ ?side1 ?side2 A59.out).mono ?_); (case side1 => exact y2_ (Kd.R_reads' HO211.out).2.2); (case side2 => exact (Kd.R_reads' HO211.out).2.1); rintro e w66 ⟨rfl, hb⟩; refine ⟨_, rfl, ?_⟩; replace HO_5 := r1_ HO_5 hb; replace HO_8 := r1_ HO_8 hb; replace HO211 := r1_ HO211 hb; replace HB := Aside0.mk (below_step (y1_ HB.out) hb); (try clear hb); (try clear hb2); (try clear hk); (try clear hi)))
 go_ret
 exact ⟨by first | rfl | (simp [errW_none, errW_some] <;> rfl) | (simp [*, errW_none, errW_some] <;> rfl), by repeat (first | (with_reducible first | exact HB.out | apply below_alloc | apply pw_below_drewN | apply below_drew1) | exact HB.out)⟩}
 {
 rw [if_neg c63] at H
 have c63b0 : (t213 == 4) = false := beq_eq_false_iff_ne.mpr c63
 have c63b1 : (t213 != 4) = true := bne_iff_ne.mpr c63
 obtain rfl := Option.some.inj H
 go_wp2_with (first | ((with_reducible refine gate_callee (f := 30) rfl ?_); refine goesL_ (some 159) rfl rfl Try.func30 s2_ rfl #[.slice Ao13 t188.length co13, .agg #[.int .i64 9, .int .i64 2, .int .i64 (wrap64 (100 + t192))]] rfl s3_ ?_; (with_reducible refine (impl_AddStrike.calls k3 _ _ t188 9 2 (wrap64 (100 + t192)) t209 true _ ?side1 ?side2 A58.out).mono ?_); (case side1 => exact y2_ (Kd.R_reads' HO_5.out).2.2); (case side2 => exact (Kd.R_reads' HO_5.out).2.1); rintro e w67 ⟨v210, rfl, ho0, hb⟩; refine ⟨_, rfl, ?_⟩; have n0_ := Aside0.mk (Kd.R_elder' (b2_ HO_5.out) (Kd.R_base ho0) hb); have n1_ := r1_ HO_8 hb; have n2_ := Aside0.mk (Kd.R_lower (Kd.R_new' ho0 (Kd.R_lt (b2_ HO_5.out))) (below_size (y1_ HB.out))); have n3_ := Aside0.mk (below_step (y1_ HB.out) hb); clear HO_5; clear HO_8; clear HB; have HO_5 := n0_; have HO_8 := n1_; have HO211 := n2_; have HB := n3_; clear n0_ n1_ n2_ n3_; (try clear hb); (try clear hb2); (try clear hk); (try clear hi); (try clear ho0); obtain ⟨Ao68, co68, eo68⟩ := Kd.R_slice HO211.out; subst eo68) | ((with_reducible refine gate_callee (f := 43) rfl ?_); refine goesL_ (some 166) rfl rfl Try.func43 s2_ rfl #[.slice Ao68 t209.length co68, .int .i64 9, .int .i64 (wrap64 (100 + t192)), .int .i64 (wrap64 (1 + t191))] rfl s3_ ?_; (with_reducible refine (impl_PointsOf.calls k3 _ _ t209 9 (wrap64 (100 + t192)) (wrap64 (1 + t191)) t213 true _ ?side1 ?side2 A59.out).mono ?_); (case side1 => exact y2_ (Kd.R_reads' HO211.out).2.2); (case side2 => exact (Kd.R_reads' HO211.out).2.1); rintro e w69 ⟨rfl, hb⟩; refine ⟨_, rfl, ?_⟩; replace HO_5 := r1_ HO_5 hb; replace HO_8 := r1_ HO_8 hb; replace HO211 := r1_ HO211 hb; replace HB := Aside0.mk (below_step (y1_ HB.out) hb); (try clear hb); (try clear hb2); (try clear hk); (try clear hi)))
 go_ret
 exact ⟨by first | rfl | (simp [errW_none, errW_some] <;> rfl) | (simp [*, errW_none, errW_some] <;> rfl), by repeat (first | (with_reducible first | exact HB.out | apply below_alloc | apply pw_below_drewN | apply below_drew1) | exact HB.out)⟩}}
 {
 replace c62 := Bool.eq_false_iff.mpr c62
 subst c62
 have H1 : (some false) = some r := by rw [if_neg (show ¬ (false = true) by decide)] at H; exact H
 clear H
 have H := H1
 clear H1
 obtain rfl := Option.some.inj H
 go_wp2_with (first | ((with_reducible refine gate_callee (f := 30) rfl ?_); refine goesL_ (some 159) rfl rfl Try.func30 s2_ rfl #[.slice Ao13 t188.length co13, .agg #[.int .i64 9, .int .i64 2, .int .i64 (wrap64 (100 + t192))]] rfl s3_ ?_; (with_reducible refine (impl_AddStrike.calls k3 _ _ t188 9 2 (wrap64 (100 + t192)) t209 true _ ?side1 ?side2 A58.out).mono ?_); (case side1 => exact y2_ (Kd.R_reads' HO_5.out).2.2); (case side2 => exact (Kd.R_reads' HO_5.out).2.1); rintro e w70 ⟨v210, rfl, ho0, hb⟩; refine ⟨_, rfl, ?_⟩; have n0_ := Aside0.mk (Kd.R_elder' (b2_ HO_5.out) (Kd.R_base ho0) hb); have n1_ := r1_ HO_8 hb; have n2_ := Aside0.mk (Kd.R_lower (Kd.R_new' ho0 (Kd.R_lt (b2_ HO_5.out))) (below_size (y1_ HB.out))); have n3_ := Aside0.mk (below_step (y1_ HB.out) hb); clear HO_5; clear HO_8; clear HB; have HO_5 := n0_; have HO_8 := n1_; have HO211 := n2_; have HB := n3_; clear n0_ n1_ n2_ n3_; (try clear hb); (try clear hb2); (try clear hk); (try clear hi); (try clear ho0); obtain ⟨Ao71, co71, eo71⟩ := Kd.R_slice HO211.out; subst eo71) | ((with_reducible refine gate_callee (f := 43) rfl ?_); refine goesL_ (some 166) rfl rfl Try.func43 s2_ rfl #[.slice Ao71 t209.length co71, .int .i64 9, .int .i64 (wrap64 (100 + t192)), .int .i64 (wrap64 (1 + t191))] rfl s3_ ?_; (with_reducible refine (impl_PointsOf.calls k3 _ _ t209 9 (wrap64 (100 + t192)) (wrap64 (1 + t191)) t213 false _ ?side1 ?side2 A59.out).mono ?_); (case side1 => exact y2_ (Kd.R_reads' HO211.out).2.2); (case side2 => exact (Kd.R_reads' HO211.out).2.1); rintro e w72 ⟨rfl, hb⟩; refine ⟨_, rfl, ?_⟩; replace HO_5 := r1_ HO_5 hb; replace HO_8 := r1_ HO_8 hb; replace HO211 := r1_ HO211 hb; replace HB := Aside0.mk (below_step (y1_ HB.out) hb); (try clear hb); (try clear hb2); (try clear hk); (try clear hi)))
 go_ret
 exact ⟨by first | rfl | (simp [errW_none, errW_some] <;> rfl) | (simp [*, errW_none, errW_some] <;> rfl), by repeat (first | (with_reducible first | exact HB.out | apply below_alloc | apply pw_below_drewN | apply below_drew1) | exact HB.out)⟩}}
 {
 replace c61 := Bool.eq_false_iff.mpr c61
 subst c61
 have H1 : (some false) = some r := by rw [if_neg (show ¬ (false = true) by decide)] at H; exact H
 clear H
 have H := H1
 clear H1
 obtain rfl := Option.some.inj H
 go_wp2_with (first | ((with_reducible refine gate_callee (f := 30) rfl ?_); refine goesL_ (some 159) rfl rfl Try.func30 s2_ rfl #[.slice Ao13 t188.length co13, .agg #[.int .i64 9, .int .i64 2, .int .i64 (wrap64 (100 + t192))]] rfl s3_ ?_; (with_reducible refine (impl_AddStrike.calls k3 _ _ t188 9 2 (wrap64 (100 + t192)) t209 false _ ?side1 ?side2 A58.out).mono ?_); (case side1 => exact y2_ (Kd.R_reads' HO_5.out).2.2); (case side2 => exact (Kd.R_reads' HO_5.out).2.1); rintro e w73 ⟨v210, rfl, ho0, hb⟩; refine ⟨_, rfl, ?_⟩; have n0_ := Aside0.mk (Kd.R_elder' (b2_ HO_5.out) (Kd.R_base ho0) hb); have n1_ := r1_ HO_8 hb; have n2_ := Aside0.mk (Kd.R_lower (Kd.R_new' ho0 (Kd.R_lt (b2_ HO_5.out))) (below_size (y1_ HB.out))); have n3_ := Aside0.mk (below_step (y1_ HB.out) hb); clear HO_5; clear HO_8; clear HB; have HO_5 := n0_; have HO_8 := n1_; have HO211 := n2_; have HB := n3_; clear n0_ n1_ n2_ n3_; (try clear hb); (try clear hb2); (try clear hk); (try clear hi); (try clear ho0); obtain ⟨Ao74, co74, eo74⟩ := Kd.R_slice HO211.out; subst eo74) | ((with_reducible refine gate_callee (f := 43) rfl ?_); refine goesL_ (some 166) rfl rfl Try.func43 s2_ rfl #[.slice Ao74 t209.length co74, .int .i64 9, .int .i64 (wrap64 (100 + t192)), .int .i64 (wrap64 (1 + t191))] rfl s3_ ?_; (with_reducible refine (impl_PointsOf.calls k3 _ _ t209 9 (wrap64 (100 + t192)) (wrap64 (1 + t191)) t213 t214 _ ?side1 ?side2 A59.out).mono ?_); (case side1 => exact y2_ (Kd.R_reads' HO211.out).2.2); (case side2 => exact (Kd.R_reads' HO211.out).2.1); rintro e w75 ⟨rfl, hb⟩; refine ⟨_, rfl, ?_⟩; replace HO_5 := r1_ HO_5 hb; replace HO_8 := r1_ HO_8 hb; replace HO211 := r1_ HO211 hb; replace HB := Aside0.mk (below_step (y1_ HB.out) hb); (try clear hb); (try clear hb2); (try clear hk); (try clear hi)))
 go_ret
 exact ⟨by first | rfl | (simp [errW_none, errW_some] <;> rfl) | (simp [*, errW_none, errW_some] <;> rfl), by repeat (first | (with_reducible first | exact HB.out | apply below_alloc | apply pw_below_drewN | apply below_drew1) | exact HB.out)⟩}}
 {
 rw [if_neg c60] at H
 have c60b0 : (x18_3 == (t193.length : Int)) = false := beq_eq_false_iff_ne.mpr c60
 have c60b1 : (x18_3 != (t193.length : Int)) = true := bne_iff_ne.mpr c60
 obtain rfl := Option.some.inj H
 go_wp2_with (first | ((with_reducible refine gate_callee (f := 30) rfl ?_); refine goesL_ (some 159) rfl rfl Try.func30 s2_ rfl #[.slice Ao13 t188.length co13, .agg #[.int .i64 9, .int .i64 2, .int .i64 (wrap64 (100 + t192))]] rfl s3_ ?_; (with_reducible refine (impl_AddStrike.calls k3 _ _ t188 9 2 (wrap64 (100 + t192)) t209 t212 _ ?side1 ?side2 A58.out).mono ?_); (case side1 => exact y2_ (Kd.R_reads' HO_5.out).2.2); (case side2 => exact (Kd.R_reads' HO_5.out).2.1); rintro e w76 ⟨v210, rfl, ho0, hb⟩; refine ⟨_, rfl, ?_⟩; have n0_ := Aside0.mk (Kd.R_elder' (b2_ HO_5.out) (Kd.R_base ho0) hb); have n1_ := r1_ HO_8 hb; have n2_ := Aside0.mk (Kd.R_lower (Kd.R_new' ho0 (Kd.R_lt (b2_ HO_5.out))) (below_size (y1_ HB.out))); have n3_ := Aside0.mk (below_step (y1_ HB.out) hb); clear HO_5; clear HO_8; clear HB; have HO_5 := n0_; have HO_8 := n1_; have HO211 := n2_; have HB := n3_; clear n0_ n1_ n2_ n3_; (try clear hb); (try clear hb2); (try clear hk); (try clear hi); (try clear ho0); obtain ⟨Ao77, co77, eo77⟩ := Kd.R_slice HO211.out; subst eo77) | ((with_reducible refine gate_callee (f := 43) rfl ?_); refine goesL_ (some 166) rfl rfl Try.func43 s2_ rfl #[.slice Ao77 t209.length co77, .int .i64 9, .int .i64 (wrap64 (100 + t192)), .int .i64 (wrap64 (1 + t191))] rfl s3_ ?_; (with_reducible refine (impl_PointsOf.calls k3 _ _ t209 9 (wrap64 (100 + t192)) (wrap64 (1 + t191)) t213 t214 _ ?side1 ?side2 A59.out).mono ?_); (case side1 => exact y2_ (Kd.R_reads' HO211.out).2.2); (case side2 => exact (Kd.R_reads' HO211.out).2.1); rintro e w78 ⟨rfl, hb⟩; refine ⟨_, rfl, ?_⟩; replace HO_5 := r1_ HO_5 hb; replace HO_8 := r1_ HO_8 hb; replace HO211 := r1_ HO211 hb; replace HB := Aside0.mk (below_step (y1_ HB.out) hb); (try clear hb); (try clear hb2); (try clear hk); (try clear hi)))
 go_ret
 exact ⟨by first | rfl | (simp [errW_none, errW_some] <;> rfl) | (simp [*, errW_none, errW_some] <;> rfl), by repeat (first | (with_reducible first | exact HB.out | apply below_alloc | apply pw_below_drewN | apply below_drew1) | exact HB.out)⟩}}}}}}}}}}}

/-- THE ONE PURE STATEMENT of laws_FnStrikes: yours. -/
def laws_FnStrikes.Pure : Prop := ∀ (l0 : List Int) (l1 : List Int), l0.length ≤ maxLen → l0.length * 1 ≤ 140737488351232 → (∀ x ∈ l0, (Lit.int .u8 x).wf = true) → l1.length ≤ maxLen → l1.length * 1 ≤ 140737488351232 → (∀ x ∈ l1, (Lit.int .u8 x).wf = true) → ∃ k, laws_FnStrikes.f k l0 l1 = some true
theorem laws_FnStrikes.walk (P : laws_FnStrikes.Pure) (a0 : Option Addr) (len0 cap0 : Nat) (z0 : List Int) (a1 : Option Addr) (len1 cap1 : Nat) (z1 : List Int) (w : World) (w0 : (a0 = none ∧ len0 = 0 ∧ cap0 = 0 ∧ z0 = []) ∨ ∃ x, a0 = some x ∧ len0 ≤ cap0 ∧ cap0 ≤ maxLen ∧ z0.length = cap0 ∧ (∀ i, i < z0.length → w.cell? (x.add i) = some (.int .u8 (z0.getD i 0))) ∧ ∀ n ∈ z0, (Lit.int .u8 n).wf = true) (y0 : len0 * 1 ≤ 140737488351232) (w1 : (a1 = none ∧ len1 = 0 ∧ cap1 = 0 ∧ z1 = []) ∨ ∃ x, a1 = some x ∧ len1 ≤ cap1 ∧ cap1 ≤ maxLen ∧ z1.length = cap1 ∧ (∀ i, i < z1.length → w.cell? (x.add i) = some (.int .u8 (z1.getD i 0))) ∧ ∀ n ∈ z1, (Lit.int .u8 n).wf = true) (y1 : len1 * 1 ≤ 140737488351232) :
    Calls Try.prog 8 #[.slice a0 len0 cap0, .slice a1 len1 cap1] w fun e w' => e = .returned (.bool true) ∧ Below w.heap.size w w' := by
  obtain ⟨l0, rfl, hr0, hm0, hw0, hc0⟩ := ReadsInt.ofRowC w0
  obtain ⟨l1, rfl, hr1, hm1, hw1, hc1⟩ := ReadsInt.ofRowC w1
  obtain ⟨k, h⟩ := P l0 l1 hm0 y0 hw0 hm1 y1 hw1
  refine (laws_FnStrikes.calls k _ _ l0 _ _ l1 true w (Kd.C_of_reads (d := (0 : Int)) (h1 := fun _ => rfl) hr0) hc0 (Kd.C_of_reads (d := (0 : Int)) (h1 := fun _ => rfl) hr1) hc1 h).mono ?_
  rintro e w' ⟨rfl, hd⟩
  exact ⟨rfl, hd⟩

end Go.Proofs.Ytjfaepolmllejaa.QFnStrikes
