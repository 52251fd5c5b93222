-- written by a program of this session, on the lines of the kit's print
import Derived.Test.YtdanachjdfiegaaQFnAllowedx0
import Derived.Test.YtdanachjdfiegaaQFnAllowedx1
import Derived.Test.YtdanachjdfiegaaQFnAllowedx2
import Derived.Test.YtdanachjdfiegaaQFnAllowedx4
import Derived.Test.YtdanachjdfiegaaQFnAllowedx5
namespace Go.Proofs.Ytdanachjdfiegaa.QFnAllowed
open Go.RowKit Go.Proofs.YtdanachjdfiegaaW.PrintWords Go.Proofs.YtdanachjdfiegaaW.PrintLast Go.Proofs.YtdanachjdfiegaaW.PrintMore
attribute [local go_sem] max2_int min2_int max_two min_two max_three min_three max_four min_four   -- for this text's walks alone
set_option linter.unusedVariables false
set_option linter.unusedSimpArgs false

/-! ### laws_FnAllowed: function 3 -/
abbrev laws_FnAllowed.T : Bool := true
abbrev laws_FnAllowed.F : Bool := false
theorem laws_FnAllowed.s1_ {P : Prop} (h : P := by first | rfl | (simp; done) | (simp [*]; done)) : P := h
theorem laws_FnAllowed.s2_ {P : Prop} (h : P := by kernel_rfl) : P := h
theorem laws_FnAllowed.s3_ {P : Prop} (h : P := by (try simp only [List.map_toArray, List.map_cons, List.map_nil]); first | done | rfl | (simp only [List.length_drop, List.length_take]; rfl)) : P := h
theorem laws_FnAllowed.b1_ {P Q : Prop} (q : Q) (h : Q → P := by intro q_; (with_reducible repeat (first | refine blk_drewN ?_ _ | refine blk_drew ?_ | refine blk_alloc ?_ _)); exact q_) : P := h q
theorem laws_FnAllowed.b2_ {P Q : Prop} (q : Q) (h : Q → P := by intro q_; (with_reducible repeat (first | apply Kd.R_alloc | apply Kd.R_drewN | apply Kd.R_drew)); exact q_) : P := h q
mutual
def laws_FnAllowed.j0 : Nat → Int → Int → Bool → Bool → List (S36) → List (S71) → List (S73) → Option (Bool)
  | 0, _, _, _, _, _, _, _ => none
  | k + 1, x6, x7, x38, x252000, x252001, x252002, x252003 => if x38 = true then (some false) else (laws_FnAllowed.l0 k x6 x7 1 x252000 x252001 x252002 x252003)
def laws_FnAllowed.l0 : Nat → Int → Int → Int → Bool → List (S36) → List (S71) → List (S73) → Option (Bool)
  | 0, _, _, _, _, _, _, _ => none
  | k + 1, x6, x7, x8, x252000, x252001, x252002, x252003 => if x8 ≤ 3 then ((impl_RoleMay.f k (wrap64 (x8 - 1)) x6).bind fun t258 => (if t258 = true then ((impl_RoleMay.f k x8 x6).bind fun t259 => (laws_FnAllowed.j2 k x6 x7 x8 (!t259) x252000 x252001 x252002 x252003)) else (laws_FnAllowed.j2 k x6 x7 x8 false x252000 x252001 x252002 x252003))) else (laws_FnAllowed.l1 k x6 x7 1 x252000 x252001 x252002 x252003)
def laws_FnAllowed.j2 : Nat → Int → Int → Int → Bool → Bool → List (S36) → List (S71) → List (S73) → Option (Bool)
  | 0, _, _, _, _, _, _, _, _ => none
  | k + 1, x6, x7, x8, x52, x252000, x252001, x252002, x252003 => if x52 = true then (some false) else (laws_FnAllowed.l0 k x6 x7 (wrap64 (x8 + 1)) x252000 x252001 x252002 x252003)
def laws_FnAllowed.l1 : Nat → Int → Int → Int → Bool → List (S36) → List (S71) → List (S73) → Option (Bool)
  | 0, _, _, _, _, _, _, _ => none
  | k + 1, x6, x7, x9, x252000, x252001, x252002, x252003 => if x9 ≤ 7 then ((impl_RoleOf.f k x252000 x252001 x252002 x252003 x9).bind fun bt260 => (laws_FnAllowed.l2 k x6 x7 x9 bt260.1 bt260.2 0 0 x252000 x252001 x252002 x252003)) else (some true)
def laws_FnAllowed.l2 : Nat → Int → Int → Int → Int → Bool → Int → Int → Bool → List (S36) → List (S71) → List (S73) → Option (Bool)
  | 0, _, _, _, _, _, _, _, _, _, _, _ => none
  | k + 1, x6, x7, x9, x10, x11, x12, x13, x252000, x252001, x252002, x252003 => if x13 < (x252001.length : Int) then (if 0 ≤ x13 then (if ((rd_T36 x252001 x13).f0) = x9 then (laws_FnAllowed.l2 k x6 x7 x9 x10 x11 ((rd_T36 x252001 x13).f3) (wrap64 (x13 + 1)) x252000 x252001 x252002 x252003) else (laws_FnAllowed.l2 k x6 x7 x9 x10 x11 x12 (wrap64 (x13 + 1)) x252000 x252001 x252002 x252003)) else (none)) else (if x11 = true then ((impl_RoleMay.f k x10 x6).bind fun t264 => (if t264 = true then (if x6 = 0 then (laws_FnAllowed.j5 k x6 x7 x9 true x252000 x252001 x252002 x252003) else (laws_FnAllowed.j5 k x6 x7 x9 (decide (x12 ≤ x7)) x252000 x252001 x252002 x252003)) else (laws_FnAllowed.j5 k x6 x7 x9 false x252000 x252001 x252002 x252003))) else (laws_FnAllowed.j5 k x6 x7 x9 false x252000 x252001 x252002 x252003))
def laws_FnAllowed.j5 : Nat → Int → Int → Int → Bool → Bool → List (S36) → List (S71) → List (S73) → Option (Bool)
  | 0, _, _, _, _, _, _, _, _ => none
  | k + 1, x6, x7, x9, x14, x252000, x252001, x252002, x252003 => (impl_IsAllowed.f k x252000 x252001 x252002 x252003 x9 x6 x7).bind fun t265 => (if (t265 != x14) = true then (some false) else (laws_FnAllowed.l1 k x6 x7 (wrap64 (x9 + 1)) x252000 x252001 x252002 x252003))
end
def laws_FnAllowed.f (k : Nat) (l0 : List Int) (l1 : List Int) : Option (Bool) := (laws_r8Long.f l0 l1).bind fun t240 => (if t240 = true then (some true) else ((spec_R8Room.f k l0).bind fun bt241 => ((laws_r8At.f l1 0 9).bind fun t252 => ((laws_r8At.f l1 1 40).bind fun t253 => ((impl_ValidRoom.f k bt241.1 bt241.2.1 bt241.2.2.1 bt241.2.2.2).bind fun t254 => (if t254 = true then ((impl_RoleMay.f k 4 t252).bind fun t255 => (if t255 = true then (laws_FnAllowed.j0 k t252 t253 true bt241.1 bt241.2.1 bt241.2.2.1 bt241.2.2.2) else ((impl_RoleMay.f k 3 9).bind fun t256 => (if t256 = true then (laws_FnAllowed.j0 k t252 t253 true bt241.1 bt241.2.1 bt241.2.2.1 bt241.2.2.2) else ((impl_RoleMay.f k 3 t252).bind fun t257 => (laws_FnAllowed.j0 k t252 t253 (!t257) bt241.1 bt241.2.1 bt241.2.2.1 bt241.2.2.2)))))) else (laws_FnAllowed.j0 k t252 t253 true bt241.1 bt241.2.1 bt241.2.2.1 bt241.2.2.2)))))))
theorem laws_FnAllowed.mono_l : ∀ k, (∀ y0 y1 y2 y3 y4 y5 y6, LeO (laws_FnAllowed.j0 k y0 y1 y2 y3 y4 y5 y6) (laws_FnAllowed.j0 (k + 1) y0 y1 y2 y3 y4 y5 y6)) ∧ (∀ y0 y1 y2 y3 y4 y5 y6, LeO (laws_FnAllowed.l0 k y0 y1 y2 y3 y4 y5 y6) (laws_FnAllowed.l0 (k + 1) y0 y1 y2 y3 y4 y5 y6)) ∧ (∀ y0 y1 y2 y3 y4 y5 y6 y7, LeO (laws_FnAllowed.j2 k y0 y1 y2 y3 y4 y5 y6 y7) (laws_FnAllowed.j2 (k + 1) y0 y1 y2 y3 y4 y5 y6 y7)) ∧ (∀ y0 y1 y2 y3 y4 y5 y6, LeO (laws_FnAllowed.l1 k y0 y1 y2 y3 y4 y5 y6) (laws_FnAllowed.l1 (k + 1) y0 y1 y2 y3 y4 y5 y6)) ∧ (∀ y0 y1 y2 y3 y4 y5 y6 y7 y8 y9 y10, LeO (laws_FnAllowed.l2 k y0 y1 y2 y3 y4 y5 y6 y7 y8 y9 y10) (laws_FnAllowed.l2 (k + 1) y0 y1 y2 y3 y4 y5 y6 y7 y8 y9 y10)) ∧ (∀ y0 y1 y2 y3 y4 y5 y6 y7, LeO (laws_FnAllowed.j5 k y0 y1 y2 y3 y4 y5 y6 y7) (laws_FnAllowed.j5 (k + 1) y0 y1 y2 y3 y4 y5 y6 y7))
  | 0 => ⟨fun _ _ _ _ _ _ _ r h => by simp [laws_FnAllowed.j0] at h, fun _ _ _ _ _ _ _ r h => by simp [laws_FnAllowed.l0] at h, fun _ _ _ _ _ _ _ _ r h => by simp [laws_FnAllowed.j2] at h, fun _ _ _ _ _ _ _ r h => by simp [laws_FnAllowed.l1] at h, fun _ _ _ _ _ _ _ _ _ _ _ r h => by simp [laws_FnAllowed.l2] at h, fun _ _ _ _ _ _ _ _ r h => by simp [laws_FnAllowed.j5] at h⟩
  | k + 1 => by
    obtain ⟨ih0, ih1, ih2, ih3, ih4, ih5⟩ := laws_FnAllowed.mono_l k
    refine ⟨?_, ?_, ?_, ?_, ?_, ?_⟩
    · intro y0 y1 y2 y3 y4 y5 y6
      unfold laws_FnAllowed.j0
      repeat' first
      | (with_reducible exact ih0 _ _ _ _ _ _ _)
      | (with_reducible exact ih1 _ _ _ _ _ _ _)
      | (with_reducible exact ih2 _ _ _ _ _ _ _ _)
      | (with_reducible exact ih3 _ _ _ _ _ _ _)
      | (with_reducible exact ih4 _ _ _ _ _ _ _ _ _ _ _)
      | (with_reducible exact ih5 _ _ _ _ _ _ _ _)
      | (with_reducible exact impl_IsAllowed.mono _ _ _ _ _ _ _ _)
      | (with_reducible exact impl_RoleMay.mono _ _ _)
      | (with_reducible exact impl_RoleOf.mono _ _ _ _ _ _)
      | (with_reducible exact impl_ValidRoom.mono _ _ _ _ _)
      | (with_reducible exact spec_R8Room.mono _ _)
      | (with_reducible exact LeO.refl _)
      | (with_reducible exact LeO.none _)
      | (with_reducible refine LeO.ite ?_ ?_)
      | (with_reducible refine LeO.bind ?_ (fun _ => ?_))
      | exact ih0 _ _ _ _ _ _ _
      | exact ih1 _ _ _ _ _ _ _
      | exact ih2 _ _ _ _ _ _ _ _
      | exact ih3 _ _ _ _ _ _ _
      | exact ih4 _ _ _ _ _ _ _ _ _ _ _
      | exact ih5 _ _ _ _ _ _ _ _
      | exact impl_IsAllowed.mono _ _ _ _ _ _ _ _
      | exact impl_RoleMay.mono _ _ _
      | exact impl_RoleOf.mono _ _ _ _ _ _
      | exact impl_ValidRoom.mono _ _ _ _ _
      | exact spec_R8Room.mono _ _
      | exact LeO.none _
      | refine LeO.ite ?_ ?_
      | refine LeO.bind ?_ (fun _ => ?_)
    · intro y0 y1 y2 y3 y4 y5 y6
      unfold laws_FnAllowed.l0
      repeat' first
      | (with_reducible exact ih0 _ _ _ _ _ _ _)
      | (with_reducible exact ih1 _ _ _ _ _ _ _)
      | (with_reducible exact ih2 _ _ _ _ _ _ _ _)
      | (with_reducible exact ih3 _ _ _ _ _ _ _)
      | (with_reducible exact ih4 _ _ _ _ _ _ _ _ _ _ _)
      | (with_reducible exact ih5 _ _ _ _ _ _ _ _)
      | (with_reducible exact impl_IsAllowed.mono _ _ _ _ _ _ _ _)
      | (with_reducible exact impl_RoleMay.mono _ _ _)
      | (with_reducible exact impl_RoleOf.mono _ _ _ _ _ _)
      | (with_reducible exact impl_ValidRoom.mono _ _ _ _ _)
      | (with_reducible exact spec_R8Room.mono _ _)
      | (with_reducible exact LeO.refl _)
      | (with_reducible exact LeO.none _)
      | (with_reducible refine LeO.ite ?_ ?_)
      | (with_reducible refine LeO.bind ?_ (fun _ => ?_))
      | exact ih0 _ _ _ _ _ _ _
      | exact ih1 _ _ _ _ _ _ _
      | exact ih2 _ _ _ _ _ _ _ _
      | exact ih3 _ _ _ _ _ _ _
      | exact ih4 _ _ _ _ _ _ _ _ _ _ _
      | exact ih5 _ _ _ _ _ _ _ _
      | exact impl_IsAllowed.mono _ _ _ _ _ _ _ _
      | exact impl_RoleMay.mono _ _ _
      | exact impl_RoleOf.mono _ _ _ _ _ _
      | exact impl_ValidRoom.mono _ _ _ _ _
      | exact spec_R8Room.mono _ _
      | exact LeO.none _
      | refine LeO.ite ?_ ?_
      | refine LeO.bind ?_ (fun _ => ?_)
    · intro y0 y1 y2 y3 y4 y5 y6 y7
      unfold laws_FnAllowed.j2
      repeat' first
      | (with_reducible exact ih0 _ _ _ _ _ _ _)
      | (with_reducible exact ih1 _ _ _ _ _ _ _)
      | (with_reducible exact ih2 _ _ _ _ _ _ _ _)
      | (with_reducible exact ih3 _ _ _ _ _ _ _)
      | (with_reducible exact ih4 _ _ _ _ _ _ _ _ _ _ _)
      | (with_reducible exact ih5 _ _ _ _ _ _ _ _)
      | (with_reducible exact impl_IsAllowed.mono _ _ _ _ _ _ _ _)
      | (with_reducible exact impl_RoleMay.mono _ _ _)
      | (with_reducible exact impl_RoleOf.mono _ _ _ _ _ _)
      | (with_reducible exact impl_ValidRoom.mono _ _ _ _ _)
      | (with_reducible exact spec_R8Room.mono _ _)
      | (with_reducible exact LeO.refl _)
      | (with_reducible exact LeO.none _)
      | (with_reducible refine LeO.ite ?_ ?_)
      | (with_reducible refine LeO.bind ?_ (fun _ => ?_))
      | exact ih0 _ _ _ _ _ _ _
      | exact ih1 _ _ _ _ _ _ _
      | exact ih2 _ _ _ _ _ _ _ _
      | exact ih3 _ _ _ _ _ _ _
      | exact ih4 _ _ _ _ _ _ _ _ _ _ _
      | exact ih5 _ _ _ _ _ _ _ _
      | exact impl_IsAllowed.mono _ _ _ _ _ _ _ _
      | exact impl_RoleMay.mono _ _ _
      | exact impl_RoleOf.mono _ _ _ _ _ _
      | exact impl_ValidRoom.mono _ _ _ _ _
      | exact spec_R8Room.mono _ _
      | exact LeO.none _
      | refine LeO.ite ?_ ?_
      | refine LeO.bind ?_ (fun _ => ?_)
    · intro y0 y1 y2 y3 y4 y5 y6
      unfold laws_FnAllowed.l1
      repeat' first
      | (with_reducible exact ih0 _ _ _ _ _ _ _)
      | (with_reducible exact ih1 _ _ _ _ _ _ _)
      | (with_reducible exact ih2 _ _ _ _ _ _ _ _)
      | (with_reducible exact ih3 _ _ _ _ _ _ _)
      | (with_reducible exact ih4 _ _ _ _ _ _ _ _ _ _ _)
      | (with_reducible exact ih5 _ _ _ _ _ _ _ _)
      | (with_reducible exact impl_IsAllowed.mono _ _ _ _ _ _ _ _)
      | (with_reducible exact impl_RoleMay.mono _ _ _)
      | (with_reducible exact impl_RoleOf.mono _ _ _ _ _ _)
      | (with_reducible exact impl_ValidRoom.mono _ _ _ _ _)
      | (with_reducible exact spec_R8Room.mono _ _)
      | (with_reducible exact LeO.refl _)
      | (with_reducible exact LeO.none _)
      | (with_reducible refine LeO.ite ?_ ?_)
      | (with_reducible refine LeO.bind ?_ (fun _ => ?_))
      | exact ih0 _ _ _ _ _ _ _
      | exact ih1 _ _ _ _ _ _ _
      | exact ih2 _ _ _ _ _ _ _ _
      | exact ih3 _ _ _ _ _ _ _
      | exact ih4 _ _ _ _ _ _ _ _ _ _ _
      | exact ih5 _ _ _ _ _ _ _ _
      | exact impl_IsAllowed.mono _ _ _ _ _ _ _ _
      | exact impl_RoleMay.mono _ _ _
      | exact impl_RoleOf.mono _ _ _ _ _ _
      | exact impl_ValidRoom.mono _ _ _ _ _
      | exact spec_R8Room.mono _ _
      | exact LeO.none _
      | refine LeO.ite ?_ ?_
      | refine LeO.bind ?_ (fun _ => ?_)
    · intro y0 y1 y2 y3 y4 y5 y6 y7 y8 y9 y10
      unfold laws_FnAllowed.l2
      repeat' first
      | (with_reducible exact ih0 _ _ _ _ _ _ _)
      | (with_reducible exact ih1 _ _ _ _ _ _ _)
      | (with_reducible exact ih2 _ _ _ _ _ _ _ _)
      | (with_reducible exact ih3 _ _ _ _ _ _ _)
      | (with_reducible exact ih4 _ _ _ _ _ _ _ _ _ _ _)
      | (with_reducible exact ih5 _ _ _ _ _ _ _ _)
      | (with_reducible exact impl_IsAllowed.mono _ _ _ _ _ _ _ _)
      | (with_reducible exact impl_RoleMay.mono _ _ _)
      | (with_reducible exact impl_RoleOf.mono _ _ _ _ _ _)
      | (with_reducible exact impl_ValidRoom.mono _ _ _ _ _)
      | (with_reducible exact spec_R8Room.mono _ _)
      | (with_reducible exact LeO.refl _)
      | (with_reducible exact LeO.none _)
      | (with_reducible refine LeO.ite ?_ ?_)
      | (with_reducible refine LeO.bind ?_ (fun _ => ?_))
      | exact ih0 _ _ _ _ _ _ _
      | exact ih1 _ _ _ _ _ _ _
      | exact ih2 _ _ _ _ _ _ _ _
      | exact ih3 _ _ _ _ _ _ _
      | exact ih4 _ _ _ _ _ _ _ _ _ _ _
      | exact ih5 _ _ _ _ _ _ _ _
      | exact impl_IsAllowed.mono _ _ _ _ _ _ _ _
      | exact impl_RoleMay.mono _ _ _
      | exact impl_RoleOf.mono _ _ _ _ _ _
      | exact impl_ValidRoom.mono _ _ _ _ _
      | exact spec_R8Room.mono _ _
      | exact LeO.none _
      | refine LeO.ite ?_ ?_
      | refine LeO.bind ?_ (fun _ => ?_)
    · intro y0 y1 y2 y3 y4 y5 y6 y7
      unfold laws_FnAllowed.j5
      repeat' first
      | (with_reducible exact ih0 _ _ _ _ _ _ _)
      | (with_reducible exact ih1 _ _ _ _ _ _ _)
      | (with_reducible exact ih2 _ _ _ _ _ _ _ _)
      | (with_reducible exact ih3 _ _ _ _ _ _ _)
      | (with_reducible exact ih4 _ _ _ _ _ _ _ _ _ _ _)
      | (with_reducible exact ih5 _ _ _ _ _ _ _ _)
      | (with_reducible exact impl_IsAllowed.mono _ _ _ _ _ _ _ _)
      | (with_reducible exact impl_RoleMay.mono _ _ _)
      | (with_reducible exact impl_RoleOf.mono _ _ _ _ _ _)
      | (with_reducible exact impl_ValidRoom.mono _ _ _ _ _)
      | (with_reducible exact spec_R8Room.mono _ _)
      | (with_reducible exact LeO.refl _)
      | (with_reducible exact LeO.none _)
      | (with_reducible refine LeO.ite ?_ ?_)
      | (with_reducible refine LeO.bind ?_ (fun _ => ?_))
      | exact ih0 _ _ _ _ _ _ _
      | exact ih1 _ _ _ _ _ _ _
      | exact ih2 _ _ _ _ _ _ _ _
      | exact ih3 _ _ _ _ _ _ _
      | exact ih4 _ _ _ _ _ _ _ _ _ _ _
      | exact ih5 _ _ _ _ _ _ _ _
      | exact impl_IsAllowed.mono _ _ _ _ _ _ _ _
      | exact impl_RoleMay.mono _ _ _
      | exact impl_RoleOf.mono _ _ _ _ _ _
      | exact impl_ValidRoom.mono _ _ _ _ _
      | exact spec_R8Room.mono _ _
      | exact LeO.none _
      | refine LeO.ite ?_ ?_
      | refine LeO.bind ?_ (fun _ => ?_)
theorem laws_FnAllowed.mono : ∀ a0 a1 k, LeO (laws_FnAllowed.f k a0 a1) (laws_FnAllowed.f (k + 1) a0 a1) := by
  intro a0 a1 k
  obtain ⟨ih0, ih1, ih2, ih3, ih4, ih5⟩ := laws_FnAllowed.mono_l k
  unfold laws_FnAllowed.f
  repeat' first
      | (with_reducible exact ih0 _ _ _ _ _ _ _)
      | (with_reducible exact ih1 _ _ _ _ _ _ _)
      | (with_reducible exact ih2 _ _ _ _ _ _ _ _)
      | (with_reducible exact ih3 _ _ _ _ _ _ _)
      | (with_reducible exact ih4 _ _ _ _ _ _ _ _ _ _ _)
      | (with_reducible exact ih5 _ _ _ _ _ _ _ _)
      | (with_reducible exact impl_IsAllowed.mono _ _ _ _ _ _ _ _)
      | (with_reducible exact impl_RoleMay.mono _ _ _)
      | (with_reducible exact impl_RoleOf.mono _ _ _ _ _ _)
      | (with_reducible exact impl_ValidRoom.mono _ _ _ _ _)
      | (with_reducible exact spec_R8Room.mono _ _)
      | (with_reducible exact LeO.refl _)
      | (with_reducible exact LeO.none _)
      | (with_reducible refine LeO.ite ?_ ?_)
      | (with_reducible refine LeO.bind ?_ (fun _ => ?_))
      | exact ih0 _ _ _ _ _ _ _
      | exact ih1 _ _ _ _ _ _ _
      | exact ih2 _ _ _ _ _ _ _ _
      | exact ih3 _ _ _ _ _ _ _
      | exact ih4 _ _ _ _ _ _ _ _ _ _ _
      | exact ih5 _ _ _ _ _ _ _ _
      | exact impl_IsAllowed.mono _ _ _ _ _ _ _ _
      | exact impl_RoleMay.mono _ _ _
      | exact impl_RoleOf.mono _ _ _ _ _ _
      | exact impl_ValidRoom.mono _ _ _ _ _
      | exact spec_R8Room.mono _ _
      | exact LeO.none _
      | refine LeO.ite ?_ ?_
      | refine LeO.bind ?_ (fun _ => ?_)
set_option maxHeartbeats 8000000 in
set_option maxRecDepth 100000 in
theorem laws_FnAllowed.calls (k : Nat) (A0 : Option Addr) (c0 : Nat) (l0 : List Int) (A1 : Option Addr) (c1 : Nat) (l1 : List Int) (r : Bool) (w : World) (hr0 : Kd.C (Kd.int .u8) w A0 l0.length l0) (hc0 : l0.length ≤ c0) (hr1 : Kd.C (Kd.int .u8) w A1 l1.length l1) (hc1 : l1.length ≤ c1) (h : laws_FnAllowed.f k l0 l1 = some r) :
    Calls Try.prog 3 #[.slice A0 l0.length c0, .slice A1 l1.length c1] w fun e w' => e = .returned (.bool r) ∧ Below w.heap.size w w' := by
 have hu28 := Try.underlying28
 have HR0 := Aside0.mk hr0
 have HC0 := Aside0.mk hc0
 clear hr0 hc0
 have HR1 := Aside0.mk hr1
 have HC1 := Aside0.mk hc1
 clear hr1 hc1
 have HB := Aside0.mk (Below.refl w.heap.size w)
 have H : ((laws_r8Long.f l0 l1).bind fun t240 => (if t240 = true then (some true) else ((spec_R8Room.f k l0).bind fun bt241 => ((laws_r8At.f l1 0 9).bind fun t252 => ((laws_r8At.f l1 1 40).bind fun t253 => ((impl_ValidRoom.f k bt241.1 bt241.2.1 bt241.2.2.1 bt241.2.2.2).bind fun t254 => (if t254 = true then ((impl_RoleMay.f k 4 t252).bind fun t255 => (if t255 = true then (laws_FnAllowed.j0 k t252 t253 true bt241.1 bt241.2.1 bt241.2.2.1 bt241.2.2.2) else ((impl_RoleMay.f k 3 9).bind fun t256 => (if t256 = true then (laws_FnAllowed.j0 k t252 t253 true bt241.1 bt241.2.1 bt241.2.2.1 bt241.2.2.2) else ((impl_RoleMay.f k 3 t252).bind fun t257 => (laws_FnAllowed.j0 k t252 t253 (!t257) bt241.1 bt241.2.1 bt241.2.2.1 bt241.2.2.2)))))) else (laws_FnAllowed.j0 k t252 t253 true bt241.1 bt241.2.1 bt241.2.2.1 bt241.2.2.2)))))))) = some r := h
 clear h
 replace H := Option.bind_eq_some_iff.mp H
 obtain ⟨t240, A30, H⟩ := H
 replace H : (if t240 = true then (some true) else ((spec_R8Room.f k l0).bind fun bt241 => ((laws_r8At.f l1 0 9).bind fun t252 => ((laws_r8At.f l1 1 40).bind fun t253 => ((impl_ValidRoom.f k bt241.1 bt241.2.1 bt241.2.2.1 bt241.2.2.2).bind fun t254 => (if t254 = true then ((impl_RoleMay.f k 4 t252).bind fun t255 => (if t255 = true then (laws_FnAllowed.j0 k t252 t253 true bt241.1 bt241.2.1 bt241.2.2.1 bt241.2.2.2) else ((impl_RoleMay.f k 3 9).bind fun t256 => (if t256 = true then (laws_FnAllowed.j0 k t252 t253 true bt241.1 bt241.2.1 bt241.2.2.1 bt241.2.2.2) else ((impl_RoleMay.f k 3 t252).bind fun t257 => (laws_FnAllowed.j0 k t252 t253 (!t257) bt241.1 bt241.2.1 bt241.2.2.1 bt241.2.2.2)))))) else (laws_FnAllowed.j0 k t252 t253 true bt241.1 bt241.2.1 bt241.2.2.1 bt241.2.2.2))))))) = some r := H
 have A3 := Aside0.mk A30
 clear A30
 by_cases c4 : t240 = true
 {
 subst c4
 have H1 : (some true) = some r := by rw [if_pos rfl] at H; exact H
 clear H
 have H := H1
 clear H1
 obtain rfl := Option.some.inj H
 go_enter Try.func3, Try.ntmps3
 go_wp2_with (first | ((with_reducible refine gate_callee (f := 8) rfl ?_); refine goesL_ (some 17) rfl rfl Try.func8 s2_ rfl #[.slice A0 l0.length c0, .slice A1 l1.length c1] rfl s3_ ?_; (with_reducible refine (laws_r8Long.calls _ _ l0 _ _ l1 true _ ?side1 ?side2 ?side3 ?side4 A3.out).mono ?_); (case side1 => repeat (first | exact HR0.out | (with_reducible refine Kd.C_alloc ?_ _) | (with_reducible refine Kd.C_drewN ?_ _) | (with_reducible refine Kd.C_drew ?_))); (case side2 => exact HC0.out); (case side3 => repeat (first | exact HR1.out | (with_reducible refine Kd.C_alloc ?_ _) | (with_reducible refine Kd.C_drewN ?_ _) | (with_reducible refine Kd.C_drew ?_))); (case side4 => exact HC1.out); rintro e w' ⟨rfl, ⟨nd, rfl⟩⟩; refine ⟨_, rfl, ?_⟩))
 go_ret
 exact ⟨by first | rfl | (simp [errW_none, errW_some] <;> rfl) | (simp [*, errW_none, errW_some] <;> rfl), by repeat (first | (with_reducible first | exact HB.out | apply below_alloc | apply pw_below_drewN | apply below_drew1) | exact HB.out)⟩}
 {
 replace c4 := Bool.eq_false_iff.mpr c4
 subst c4
 have H1 : ((spec_R8Room.f k l0).bind fun bt241 => ((laws_r8At.f l1 0 9).bind fun t252 => ((laws_r8At.f l1 1 40).bind fun t253 => ((impl_ValidRoom.f k bt241.1 bt241.2.1 bt241.2.2.1 bt241.2.2.2).bind fun t254 => (if t254 = true then ((impl_RoleMay.f k 4 t252).bind fun t255 => (if t255 = true then (laws_FnAllowed.j0 k t252 t253 true bt241.1 bt241.2.1 bt241.2.2.1 bt241.2.2.2) else ((impl_RoleMay.f k 3 9).bind fun t256 => (if t256 = true then (laws_FnAllowed.j0 k t252 t253 true bt241.1 bt241.2.1 bt241.2.2.1 bt241.2.2.2) else ((impl_RoleMay.f k 3 t252).bind fun t257 => (laws_FnAllowed.j0 k t252 t253 (!t257) bt241.1 bt241.2.1 bt241.2.2.1 bt241.2.2.2)))))) else (laws_FnAllowed.j0 k t252 t253 true bt241.1 bt241.2.1 bt241.2.2.1 bt241.2.2.2)))))) = some r := by rw [if_neg (show ¬ (false = true) by decide)] at H; exact H
 clear H
 have H := H1
 clear H1
 replace H := Option.bind_eq_some_iff.mp H
 obtain ⟨⟨t241, t242, t245, t248⟩, A50, H⟩ := H
 replace H : ((laws_r8At.f l1 0 9).bind fun t252 => ((laws_r8At.f l1 1 40).bind fun t253 => ((impl_ValidRoom.f k t241 t242 t245 t248).bind fun t254 => (if t254 = true then ((impl_RoleMay.f k 4 t252).bind fun t255 => (if t255 = true then (laws_FnAllowed.j0 k t252 t253 true t241 t242 t245 t248) else ((impl_RoleMay.f k 3 9).bind fun t256 => (if t256 = true then (laws_FnAllowed.j0 k t252 t253 true t241 t242 t245 t248) else ((impl_RoleMay.f k 3 t252).bind fun t257 => (laws_FnAllowed.j0 k t252 t253 (!t257) t241 t242 t245 t248)))))) else (laws_FnAllowed.j0 k t252 t253 true t241 t242 t245 t248))))) = some r := H
 have A5 := Aside0.mk A50
 clear A50
 replace H := Option.bind_eq_some_iff.mp H
 obtain ⟨t252, A60, H⟩ := H
 replace H : ((laws_r8At.f l1 1 40).bind fun t253 => ((impl_ValidRoom.f k t241 t242 t245 t248).bind fun t254 => (if t254 = true then ((impl_RoleMay.f k 4 t252).bind fun t255 => (if t255 = true then (laws_FnAllowed.j0 k t252 t253 true t241 t242 t245 t248) else ((impl_RoleMay.f k 3 9).bind fun t256 => (if t256 = true then (laws_FnAllowed.j0 k t252 t253 true t241 t242 t245 t248) else ((impl_RoleMay.f k 3 t252).bind fun t257 => (laws_FnAllowed.j0 k t252 t253 (!t257) t241 t242 t245 t248)))))) else (laws_FnAllowed.j0 k t252 t253 true t241 t242 t245 t248)))) = some r := H
 have A6 := Aside0.mk A60
 clear A60
 replace H := Option.bind_eq_some_iff.mp H
 obtain ⟨t253, A70, H⟩ := H
 replace H : ((impl_ValidRoom.f k t241 t242 t245 t248).bind fun t254 => (if t254 = true then ((impl_RoleMay.f k 4 t252).bind fun t255 => (if t255 = true then (laws_FnAllowed.j0 k t252 t253 true t241 t242 t245 t248) else ((impl_RoleMay.f k 3 9).bind fun t256 => (if t256 = true then (laws_FnAllowed.j0 k t252 t253 true t241 t242 t245 t248) else ((impl_RoleMay.f k 3 t252).bind fun t257 => (laws_FnAllowed.j0 k t252 t253 (!t257) t241 t242 t245 t248)))))) else (laws_FnAllowed.j0 k t252 t253 true t241 t242 t245 t248))) = some r := H
 have A7 := Aside0.mk A70
 clear A70
 have HC8 := Aside0.mk H
 clear H
 go_enter Try.func3, Try.ntmps3
 go_upto_region 6 with (first | ((with_reducible refine gate_callee (f := 8) rfl ?_); refine goesL_ (some 17) rfl rfl Try.func8 s2_ rfl #[.slice A0 l0.length c0, .slice A1 l1.length c1] rfl s3_ ?_; (with_reducible refine (laws_r8Long.calls _ _ l0 _ _ l1 false _ ?side1 ?side2 ?side3 ?side4 A3.out).mono ?_); (case side1 => repeat (first | exact HR0.out | (with_reducible refine Kd.C_alloc ?_ _) | (with_reducible refine Kd.C_drewN ?_ _) | (with_reducible refine Kd.C_drew ?_))); (case side2 => exact HC0.out); (case side3 => repeat (first | exact HR1.out | (with_reducible refine Kd.C_alloc ?_ _) | (with_reducible refine Kd.C_drewN ?_ _) | (with_reducible refine Kd.C_drew ?_))); (case side4 => exact HC1.out); rintro e w' ⟨rfl, ⟨nd, rfl⟩⟩; refine ⟨_, rfl, ?_⟩) | ((with_reducible refine gate_callee (f := 9) rfl ?_); refine goesL_ (some 19) rfl rfl Try.func9 s2_ rfl #[.slice A0 l0.length c0] rfl s3_ ?_; (with_reducible refine (spec_R8Room.calls k _ _ l0 t241 t242 t245 t248 _ ?side1 ?side2 A5.out).mono ?_); (case side1 => repeat (first | exact HR0.out | (with_reducible refine Kd.C_alloc ?_ _) | (with_reducible refine Kd.C_drewN ?_ _) | (with_reducible refine Kd.C_drew ?_))); (case side2 => exact HC0.out); rintro e w9 ⟨v243, v246, v249, rfl, ho0, ho1, ho2, hb⟩; refine ⟨_, rfl, ?_⟩; have n0_ := Aside0.mk (Kd.R_lower ho0 (below_size (by repeat (first | (with_reducible first | exact HB.out | apply below_alloc | apply pw_below_drewN | apply below_drew1) | exact HB.out)))); have n1_ := Aside0.mk (Kd.R_lower ho1 (below_size (by repeat (first | (with_reducible first | exact HB.out | apply below_alloc | apply pw_below_drewN | apply below_drew1) | exact HB.out)))); have n2_ := Aside0.mk (Kd.R_lower ho2 (below_size (by repeat (first | (with_reducible first | exact HB.out | apply below_alloc | apply pw_below_drewN | apply below_drew1) | exact HB.out)))); have n3_ := Aside0.mk (below_step (by repeat (first | (with_reducible first | exact HB.out | apply below_alloc | apply pw_below_drewN | apply below_drew1) | exact HB.out)) hb); clear HB; have HO244 := n0_; have HO247 := n1_; have HO250 := n2_; have HB := n3_; clear n0_ n1_ n2_ n3_; (try clear hb); (try clear hb2); (try clear hk); (try clear hi); (try clear ho0); (try clear ho1); (try clear ho2)) | ((with_reducible refine gate_dst (N := 5) rfl ?_); refine box_event ?hg (N := 5) ?hd (cs := #[.bool false, .slice none 0 0, .slice none 0 0, .slice none 0 0]) (t := 28) ?hr ?_; (case hd => rfl); (case hg => rfl); (case hr => first | (go_simp; done) | (go_simp; rfl)); intro gb251 hg w10 hbox hb; have n0_ := Aside0.mk (Kd.R_below (b2_ HO244.out) hb); have n1_ := Aside0.mk (Kd.R_below (b2_ HO247.out) hb); have n2_ := Aside0.mk (Kd.R_below (b2_ HO250.out) hb); have n3_ := Aside0.mk (below_step (by repeat (first | (with_reducible first | exact HB.out | apply below_alloc | apply pw_below_drewN | apply below_drew1) | exact HB.out)) hb); have n4_ := Aside0.mk (hbox); have n5_ := Aside0.mk ((by rw [hg]; exact (below_size (by repeat (first | (with_reducible first | exact HB.out | apply below_alloc | apply pw_below_drewN | apply below_drew1) | exact HB.out))) : w.heap.size ≤ gb251)); have n6_ := Aside0.mk ((by rw [hg]; exact (below_size (by repeat (first | (with_reducible first | exact HB.out | apply below_alloc | apply pw_below_drewN | apply below_drew1) | exact HB.out))) : w.heap.size ≤ gb251)); clear HO244; clear HO247; clear HO250; clear HB; have HO244 := n0_; have HO247 := n1_; have HO250 := n2_; have HB := n3_; have BK251 := n4_; have GW251 := n5_; have GE251 := n6_; clear n0_ n1_ n2_ n3_ n4_ n5_ n6_; clear hb hbox hg; have hcz11_0 : w10.cell? ⟨gb251, 0, none⟩ = some (.bool false) := (blk_cell BK251.out 0).trans rfl; have hcz11_1 : w10.cell? ⟨gb251, 1, none⟩ = some (.slice none 0 0) := (blk_cell BK251.out 1).trans rfl; have hcz11_2 : w10.cell? ⟨gb251, 2, none⟩ = some (.slice none 0 0) := (blk_cell BK251.out 2).trans rfl; have hcz11_3 : w10.cell? ⟨gb251, 3, none⟩ = some (.slice none 0 0) := (blk_cell BK251.out 3).trans rfl; have hfz11_0 := blk_frozen BK251.out 0; have hfz11_1 := blk_frozen BK251.out 1; have hfz11_2 := blk_frozen BK251.out 2; have hfz11_3 := blk_frozen BK251.out 3; obtain ⟨Ao12, co12, eo12⟩ := Kd.R_slice HO244.out; subst eo12; obtain ⟨Ao13, co13, eo13⟩ := Kd.R_slice HO247.out; subst eo13; obtain ⟨Ao14, co14, eo14⟩ := Kd.R_slice HO250.out; subst eo14) | ((with_reducible refine gate_callee (f := 10) rfl ?_); refine goesL_ (some 21) rfl rfl Try.func10 s2_ rfl #[.slice A1 l1.length c1, .int .i64 0, .int .i64 9] rfl s3_ ?_; (with_reducible refine (laws_r8At.calls _ _ l1 0 9 t252 _ ?side1 ?side2 A6.out).mono ?_); (case side1 => exact Kd.C_below HR1.out (by repeat (first | (with_reducible first | exact HB.out | apply below_alloc | apply pw_below_drewN | apply below_drew1 | refine below_set ?_ GE251.out) | exact HB.out))); (case side2 => exact HC1.out); rintro e w' ⟨rfl, ⟨nd, rfl⟩⟩; refine ⟨_, rfl, ?_⟩) | ((with_reducible refine gate_callee (f := 10) rfl ?_); refine goesL_ (some 23) rfl rfl Try.func10 s2_ rfl #[.slice A1 l1.length c1, .int .i64 1, .int .i64 40] rfl s3_ ?_; (with_reducible refine (laws_r8At.calls _ _ l1 1 40 t253 _ ?side1 ?side2 A7.out).mono ?_); (case side1 => exact Kd.C_below HR1.out (by repeat (first | (with_reducible first | exact HB.out | apply below_alloc | apply pw_below_drewN | apply below_drew1 | refine below_set ?_ GE251.out) | exact HB.out))); (case side2 => exact HC1.out); rintro e w' ⟨rfl, ⟨nd, rfl⟩⟩; refine ⟨_, rfl, ?_⟩))
 (try simp only [Act.put, List.setIfInBounds_toArray, List.set_cons_zero, List.set_cons_succ])
 go_cut [38] (fun v38 wc => ∃ (kq : Nat) (x38_7 : Bool), v38 = .bool x38_7 ∧ Aside0 (laws_FnAllowed.j0 kq t252 t253 x38_7 t241 t242 t245 t248 = some r) ∧ Aside0 (kq ≤ k) ∧ Aside0 (Kd.R k36 36 wc w.heap.size (fun _ => True) (.slice Ao12 t242.length co12) t242) ∧ Aside0 (Kd.R k71 71 wc w.heap.size (fun _ => True) (.slice Ao13 t245.length co13) t245) ∧ Aside0 (Kd.R k73 73 wc w.heap.size (fun _ => True) (.slice Ao14 t248.length co14) t248) ∧ Aside0 (wc.heap[gb251]? = some (.cells #[.bool t241, (.slice Ao12 t242.length co12), (.slice Ao13 t245.length co13), (.slice Ao14 t248.length co14)] 28 (0, 0))) ∧ Aside0 (Below w.heap.size w wc))
 case first =>
  skip
  {
 have H := HC8.out
 clear HC8
 replace H := Option.bind_eq_some_iff.mp H
 obtain ⟨t254, A150, H⟩ := H
 replace H : (if t254 = true then ((impl_RoleMay.f k 4 t252).bind fun t255 => (if t255 = true then (laws_FnAllowed.j0 k t252 t253 true t241 t242 t245 t248) else ((impl_RoleMay.f k 3 9).bind fun t256 => (if t256 = true then (laws_FnAllowed.j0 k t252 t253 true t241 t242 t245 t248) else ((impl_RoleMay.f k 3 t252).bind fun t257 => (laws_FnAllowed.j0 k t252 t253 (!t257) t241 t242 t245 t248)))))) else (laws_FnAllowed.j0 k t252 t253 true t241 t242 t245 t248)) = some r := H
 have A15 := Aside0.mk A150
 clear A150
 by_cases c16 : t254 = true
 {
 subst c16
 have H1 : ((impl_RoleMay.f k 4 t252).bind fun t255 => (if t255 = true then (laws_FnAllowed.j0 k t252 t253 true t241 t242 t245 t248) else ((impl_RoleMay.f k 3 9).bind fun t256 => (if t256 = true then (laws_FnAllowed.j0 k t252 t253 true t241 t242 t245 t248) else ((impl_RoleMay.f k 3 t252).bind fun t257 => (laws_FnAllowed.j0 k t252 t253 (!t257) t241 t242 t245 t248)))))) = some r := by rw [if_pos rfl] at H; exact H
 clear H
 have H := H1
 clear H1
 replace H := Option.bind_eq_some_iff.mp H
 obtain ⟨t255, A170, H⟩ := H
 replace H : (if t255 = true then (laws_FnAllowed.j0 k t252 t253 true t241 t242 t245 t248) else ((impl_RoleMay.f k 3 9).bind fun t256 => (if t256 = true then (laws_FnAllowed.j0 k t252 t253 true t241 t242 t245 t248) else ((impl_RoleMay.f k 3 t252).bind fun t257 => (laws_FnAllowed.j0 k t252 t253 (!t257) t241 t242 t245 t248))))) = some r := H
 have A17 := Aside0.mk A170
 clear A170
 by_cases c18 : t255 = true
 {
 subst c18
 have H1 : (laws_FnAllowed.j0 k t252 t253 true t241 t242 t245 t248) = some r := by rw [if_pos rfl] at H; exact H
 clear H
 have H := H1
 clear H1
 have H' := Aside0.mk H
 clear H
 have hcz19_0 : w10.cell? ⟨gb251, 0, none⟩ = some (.bool false) := (blk_cell BK251.out 0).trans rfl
 have hcz19_1 : w10.cell? ⟨gb251, 1, none⟩ = some (.slice none 0 0) := (blk_cell BK251.out 1).trans rfl
 have hcz19_2 : w10.cell? ⟨gb251, 2, none⟩ = some (.slice none 0 0) := (blk_cell BK251.out 2).trans rfl
 have hcz19_3 : w10.cell? ⟨gb251, 3, none⟩ = some (.slice none 0 0) := (blk_cell BK251.out 3).trans rfl
 have hfz19_0 := blk_frozen BK251.out 0
 have hfz19_1 := blk_frozen BK251.out 1
 have hfz19_2 := blk_frozen BK251.out 2
 have hfz19_3 := blk_frozen BK251.out 3
 go_wp2_with (first | ((with_reducible refine gate_callee (f := 11) rfl ?_); refine goesL_ (some 25) rfl rfl Try.func11 s2_ rfl #[.agg #[.bool t241, .slice Ao12 t242.length co12, .slice Ao13 t245.length co13, .slice Ao14 t248.length co14]] rfl s3_ ?_; (with_reducible refine (impl_ValidRoom.calls k t241 _ _ t242 _ _ t245 _ _ t248 true _ ?side1 ?side2 ?side3 ?side4 ?side5 ?side6 A15.out).mono ?_); (case side1 => refine (Kd.R_reads' (e := 36) (base := w.heap.size) (ok := fun k_ => True) (n := t242.length) (c := co12) ?_).2.2; exact (by (with_reducible repeat (first | apply Kd.R_alloc | apply Kd.R_drewN | apply Kd.R_drew)); exact (Kd.R_mono (Kd.R_far (p := ⟨gb251, 3, none⟩) (Kd.R_far (p := ⟨gb251, 2, none⟩) (Kd.R_far (p := ⟨gb251, 1, none⟩) (Kd.R_far (p := ⟨gb251, 0, none⟩) (Kd.R_types HO244.out BK251.out (by decide)) (fun _ hk => hk.2) (.bool t241)) (fun _ hk => hk.2) (.slice Ao12 t242.length co12)) (fun _ hk => hk.2) (.slice Ao13 t245.length co13)) (fun _ hk => hk.2) (.slice Ao14 t248.length co14)) (fun _ h_ => h_.1)))); (case side2 => exact (Kd.R_reads' HO244.out).2.1); (case side3 => refine (Kd.R_reads' (e := 71) (base := w.heap.size) (ok := fun k_ => True) (n := t245.length) (c := co13) ?_).2.2; exact (by (with_reducible repeat (first | apply Kd.R_alloc | apply Kd.R_drewN | apply Kd.R_drew)); exact (Kd.R_mono (Kd.R_far (p := ⟨gb251, 3, none⟩) (Kd.R_far (p := ⟨gb251, 2, none⟩) (Kd.R_far (p := ⟨gb251, 1, none⟩) (Kd.R_far (p := ⟨gb251, 0, none⟩) (Kd.R_types HO247.out BK251.out (by decide)) (fun _ hk => hk.2) (.bool t241)) (fun _ hk => hk.2) (.slice Ao12 t242.length co12)) (fun _ hk => hk.2) (.slice Ao13 t245.length co13)) (fun _ hk => hk.2) (.slice Ao14 t248.length co14)) (fun _ h_ => h_.1)))); (case side4 => exact (Kd.R_reads' HO247.out).2.1); (case side5 => refine (Kd.R_reads' (e := 73) (base := w.heap.size) (ok := fun k_ => True) (n := t248.length) (c := co14) ?_).2.2; exact (by (with_reducible repeat (first | apply Kd.R_alloc | apply Kd.R_drewN | apply Kd.R_drew)); exact (Kd.R_mono (Kd.R_far (p := ⟨gb251, 3, none⟩) (Kd.R_far (p := ⟨gb251, 2, none⟩) (Kd.R_far (p := ⟨gb251, 1, none⟩) (Kd.R_far (p := ⟨gb251, 0, none⟩) (Kd.R_types HO250.out BK251.out (by decide)) (fun _ hk => hk.2) (.bool t241)) (fun _ hk => hk.2) (.slice Ao12 t242.length co12)) (fun _ hk => hk.2) (.slice Ao13 t245.length co13)) (fun _ hk => hk.2) (.slice Ao14 t248.length co14)) (fun _ h_ => h_.1)))); (case side6 => exact (Kd.R_reads' HO250.out).2.1); rintro e w20 ⟨rfl, hb⟩; refine ⟨_, rfl, ?_⟩; have n0_ := Aside0.mk (Kd.R_below (by (with_reducible repeat (first | apply Kd.R_alloc | apply Kd.R_drewN | apply Kd.R_drew)); exact (Kd.R_mono (Kd.R_far (p := ⟨gb251, 3, none⟩) (Kd.R_far (p := ⟨gb251, 2, none⟩) (Kd.R_far (p := ⟨gb251, 1, none⟩) (Kd.R_far (p := ⟨gb251, 0, none⟩) (Kd.R_types HO244.out BK251.out (by decide)) (fun _ hk => hk.2) (.bool t241)) (fun _ hk => hk.2) (.slice Ao12 t242.length co12)) (fun _ hk => hk.2) (.slice Ao13 t245.length co13)) (fun _ hk => hk.2) (.slice Ao14 t248.length co14)) (fun _ h_ => h_.1))) hb); have n1_ := Aside0.mk (Kd.R_below (by (with_reducible repeat (first | apply Kd.R_alloc | apply Kd.R_drewN | apply Kd.R_drew)); exact (Kd.R_mono (Kd.R_far (p := ⟨gb251, 3, none⟩) (Kd.R_far (p := ⟨gb251, 2, none⟩) (Kd.R_far (p := ⟨gb251, 1, none⟩) (Kd.R_far (p := ⟨gb251, 0, none⟩) (Kd.R_types HO247.out BK251.out (by decide)) (fun _ hk => hk.2) (.bool t241)) (fun _ hk => hk.2) (.slice Ao12 t242.length co12)) (fun _ hk => hk.2) (.slice Ao13 t245.length co13)) (fun _ hk => hk.2) (.slice Ao14 t248.length co14)) (fun _ h_ => h_.1))) hb); have n2_ := Aside0.mk (Kd.R_below (by (with_reducible repeat (first | apply Kd.R_alloc | apply Kd.R_drewN | apply Kd.R_drew)); exact (Kd.R_mono (Kd.R_far (p := ⟨gb251, 3, none⟩) (Kd.R_far (p := ⟨gb251, 2, none⟩) (Kd.R_far (p := ⟨gb251, 1, none⟩) (Kd.R_far (p := ⟨gb251, 0, none⟩) (Kd.R_types HO250.out BK251.out (by decide)) (fun _ hk => hk.2) (.bool t241)) (fun _ hk => hk.2) (.slice Ao12 t242.length co12)) (fun _ hk => hk.2) (.slice Ao13 t245.length co13)) (fun _ hk => hk.2) (.slice Ao14 t248.length co14)) (fun _ h_ => h_.1))) hb); have n3_ := Aside0.mk (blk_below (g := gb251) (o := .cells #[.bool t241, .slice Ao12 t242.length co12, .slice Ao13 t245.length co13, .slice Ao14 t248.length co14] 28 (0, 0)) (by (with_reducible repeat (first | refine blk_drewN ?_ _ | refine blk_drew ?_ | refine blk_alloc ?_ _)); refine blk_put (cs := #[.bool t241, .slice Ao12 t242.length co12, .slice Ao13 t245.length co13, .slice none 0 0]) ?_ 3 _ rfl; (with_reducible repeat (first | refine blk_drewN ?_ _ | refine blk_drew ?_ | refine blk_alloc ?_ _)); refine blk_put (cs := #[.bool t241, .slice Ao12 t242.length co12, .slice none 0 0, .slice none 0 0]) ?_ 2 _ rfl; (with_reducible repeat (first | refine blk_drewN ?_ _ | refine blk_drew ?_ | refine blk_alloc ?_ _)); refine blk_put (cs := #[.bool t241, .slice none 0 0, .slice none 0 0, .slice none 0 0]) ?_ 1 _ rfl; (with_reducible repeat (first | refine blk_drewN ?_ _ | refine blk_drew ?_ | refine blk_alloc ?_ _)); refine blk_put (cs := #[.bool false, .slice none 0 0, .slice none 0 0, .slice none 0 0]) ?_ 0 _ rfl; (with_reducible repeat (first | refine blk_drewN ?_ _ | refine blk_drew ?_ | refine blk_alloc ?_ _)); exact BK251.out) hb); have n4_ := Aside0.mk (below_step (by repeat (first | (with_reducible first | exact HB.out | apply below_alloc | apply pw_below_drewN | apply below_drew1 | refine below_set ?_ GE251.out) | exact HB.out)) hb); clear HO244; clear HO247; clear HO250; clear BK251; clear HB; have HO244 := n0_; have HO247 := n1_; have HO250 := n2_; have BK251 := n3_; have HB := n4_; clear n0_ n1_ n2_ n3_ n4_; (try clear hb); (try clear hb2); (try clear hk); (try clear hi)) | (go_at_call 12; (with_reducible refine (impl_RoleMay.calls k 4 t252 true _ A17.out).mono ?_); rintro e w21 ⟨rfl, hb⟩; have n0_ := Aside0.mk (Kd.R_below (b2_ HO244.out) hb); have n1_ := Aside0.mk (Kd.R_below (b2_ HO247.out) hb); have n2_ := Aside0.mk (Kd.R_below (b2_ HO250.out) hb); have n3_ := Aside0.mk (blk_below (g := gb251) (o := .cells #[.bool t241, .slice Ao12 t242.length co12, .slice Ao13 t245.length co13, .slice Ao14 t248.length co14] 28 (0, 0)) (b1_ BK251.out) hb); have n4_ := Aside0.mk (below_step (by repeat (first | (with_reducible first | exact HB.out | apply below_alloc | apply pw_below_drewN | apply below_drew1 | refine below_set ?_ GE251.out) | exact HB.out)) hb); clear HO244; clear HO247; clear HO250; clear BK251; clear HB; have HO244 := n0_; have HO247 := n1_; have HO250 := n2_; have BK251 := n3_; have HB := n4_; clear n0_ n1_ n2_ n3_ n4_; (try clear hb); (try clear hb2); (try clear hk); (try clear hi)))
 go_meet
 case rel => exact ⟨_, (true), s1_, H', ⟨by first | omega | exact Nat.le_refl _⟩, ⟨b2_ HO244.out⟩, ⟨b2_ HO247.out⟩, ⟨b2_ HO250.out⟩, ⟨b1_ BK251.out⟩, ⟨by repeat (first | (with_reducible first | exact HB.out | apply below_alloc | apply pw_below_drewN | apply below_drew1 | refine below_set ?_ GE251.out) | exact HB.out)⟩⟩}
 {
 replace c18 := Bool.eq_false_iff.mpr c18
 subst c18
 have H1 : ((impl_RoleMay.f k 3 9).bind fun t256 => (if t256 = true then (laws_FnAllowed.j0 k t252 t253 true t241 t242 t245 t248) else ((impl_RoleMay.f k 3 t252).bind fun t257 => (laws_FnAllowed.j0 k t252 t253 (!t257) t241 t242 t245 t248)))) = some r := by rw [if_neg (show ¬ (false = true) by decide)] at H; exact H
 clear H
 have H := H1
 clear H1
 replace H := Option.bind_eq_some_iff.mp H
 obtain ⟨t256, A220, H⟩ := H
 replace H : (if t256 = true then (laws_FnAllowed.j0 k t252 t253 true t241 t242 t245 t248) else ((impl_RoleMay.f k 3 t252).bind fun t257 => (laws_FnAllowed.j0 k t252 t253 (!t257) t241 t242 t245 t248))) = some r := H
 have A22 := Aside0.mk A220
 clear A220
 by_cases c23 : t256 = true
 {
 subst c23
 have H1 : (laws_FnAllowed.j0 k t252 t253 true t241 t242 t245 t248) = some r := by rw [if_pos rfl] at H; exact H
 clear H
 have H := H1
 clear H1
 have H' := Aside0.mk H
 clear H
 have hcz24_0 : w10.cell? ⟨gb251, 0, none⟩ = some (.bool false) := (blk_cell BK251.out 0).trans rfl
 have hcz24_1 : w10.cell? ⟨gb251, 1, none⟩ = some (.slice none 0 0) := (blk_cell BK251.out 1).trans rfl
 have hcz24_2 : w10.cell? ⟨gb251, 2, none⟩ = some (.slice none 0 0) := (blk_cell BK251.out 2).trans rfl
 have hcz24_3 : w10.cell? ⟨gb251, 3, none⟩ = some (.slice none 0 0) := (blk_cell BK251.out 3).trans rfl
 have hfz24_0 := blk_frozen BK251.out 0
 have hfz24_1 := blk_frozen BK251.out 1
 have hfz24_2 := blk_frozen BK251.out 2
 have hfz24_3 := blk_frozen BK251.out 3
 go_wp2_with (first | ((with_reducible refine gate_callee (f := 11) rfl ?_); refine goesL_ (some 25) rfl rfl Try.func11 s2_ rfl #[.agg #[.bool t241, .slice Ao12 t242.length co12, .slice Ao13 t245.length co13, .slice Ao14 t248.length co14]] rfl s3_ ?_; (with_reducible refine (impl_ValidRoom.calls k t241 _ _ t242 _ _ t245 _ _ t248 true _ ?side1 ?side2 ?side3 ?side4 ?side5 ?side6 A15.out).mono ?_); (case side1 => refine (Kd.R_reads' (e := 36) (base := w.heap.size) (ok := fun k_ => True) (n := t242.length) (c := co12) ?_).2.2; exact (by (with_reducible repeat (first | apply Kd.R_alloc | apply Kd.R_drewN | apply Kd.R_drew)); exact (Kd.R_mono (Kd.R_far (p := ⟨gb251, 3, none⟩) (Kd.R_far (p := ⟨gb251, 2, none⟩) (Kd.R_far (p := ⟨gb251, 1, none⟩) (Kd.R_far (p := ⟨gb251, 0, none⟩) (Kd.R_types HO244.out BK251.out (by decide)) (fun _ hk => hk.2) (.bool t241)) (fun _ hk => hk.2) (.slice Ao12 t242.length co12)) (fun _ hk => hk.2) (.slice Ao13 t245.length co13)) (fun _ hk => hk.2) (.slice Ao14 t248.length co14)) (fun _ h_ => h_.1)))); (case side2 => exact (Kd.R_reads' HO244.out).2.1); (case side3 => refine (Kd.R_reads' (e := 71) (base := w.heap.size) (ok := fun k_ => True) (n := t245.length) (c := co13) ?_).2.2; exact (by (with_reducible repeat (first | apply Kd.R_alloc | apply Kd.R_drewN | apply Kd.R_drew)); exact (Kd.R_mono (Kd.R_far (p := ⟨gb251, 3, none⟩) (Kd.R_far (p := ⟨gb251, 2, none⟩) (Kd.R_far (p := ⟨gb251, 1, none⟩) (Kd.R_far (p := ⟨gb251, 0, none⟩) (Kd.R_types HO247.out BK251.out (by decide)) (fun _ hk => hk.2) (.bool t241)) (fun _ hk => hk.2) (.slice Ao12 t242.length co12)) (fun _ hk => hk.2) (.slice Ao13 t245.length co13)) (fun _ hk => hk.2) (.slice Ao14 t248.length co14)) (fun _ h_ => h_.1)))); (case side4 => exact (Kd.R_reads' HO247.out).2.1); (case side5 => refine (Kd.R_reads' (e := 73) (base := w.heap.size) (ok := fun k_ => True) (n := t248.length) (c := co14) ?_).2.2; exact (by (with_reducible repeat (first | apply Kd.R_alloc | apply Kd.R_drewN | apply Kd.R_drew)); exact (Kd.R_mono (Kd.R_far (p := ⟨gb251, 3, none⟩) (Kd.R_far (p := ⟨gb251, 2, none⟩) (Kd.R_far (p := ⟨gb251, 1, none⟩) (Kd.R_far (p := ⟨gb251, 0, none⟩) (Kd.R_types HO250.out BK251.out (by decide)) (fun _ hk => hk.2) (.bool t241)) (fun _ hk => hk.2) (.slice Ao12 t242.length co12)) (fun _ hk => hk.2) (.slice Ao13 t245.length co13)) (fun _ hk => hk.2) (.slice Ao14 t248.length co14)) (fun _ h_ => h_.1)))); (case side6 => exact (Kd.R_reads' HO250.out).2.1); rintro e w25 ⟨rfl, hb⟩; refine ⟨_, rfl, ?_⟩; have n0_ := Aside0.mk (Kd.R_below (by (with_reducible repeat (first | apply Kd.R_alloc | apply Kd.R_drewN | apply Kd.R_drew)); exact (Kd.R_mono (Kd.R_far (p := ⟨gb251, 3, none⟩) (Kd.R_far (p := ⟨gb251, 2, none⟩) (Kd.R_far (p := ⟨gb251, 1, none⟩) (Kd.R_far (p := ⟨gb251, 0, none⟩) (Kd.R_types HO244.out BK251.out (by decide)) (fun _ hk => hk.2) (.bool t241)) (fun _ hk => hk.2) (.slice Ao12 t242.length co12)) (fun _ hk => hk.2) (.slice Ao13 t245.length co13)) (fun _ hk => hk.2) (.slice Ao14 t248.length co14)) (fun _ h_ => h_.1))) hb); have n1_ := Aside0.mk (Kd.R_below (by (with_reducible repeat (first | apply Kd.R_alloc | apply Kd.R_drewN | apply Kd.R_drew)); exact (Kd.R_mono (Kd.R_far (p := ⟨gb251, 3, none⟩) (Kd.R_far (p := ⟨gb251, 2, none⟩) (Kd.R_far (p := ⟨gb251, 1, none⟩) (Kd.R_far (p := ⟨gb251, 0, none⟩) (Kd.R_types HO247.out BK251.out (by decide)) (fun _ hk => hk.2) (.bool t241)) (fun _ hk => hk.2) (.slice Ao12 t242.length co12)) (fun _ hk => hk.2) (.slice Ao13 t245.length co13)) (fun _ hk => hk.2) (.slice Ao14 t248.length co14)) (fun _ h_ => h_.1))) hb); have n2_ := Aside0.mk (Kd.R_below (by (with_reducible repeat (first | apply Kd.R_alloc | apply Kd.R_drewN | apply Kd.R_drew)); exact (Kd.R_mono (Kd.R_far (p := ⟨gb251, 3, none⟩) (Kd.R_far (p := ⟨gb251, 2, none⟩) (Kd.R_far (p := ⟨gb251, 1, none⟩) (Kd.R_far (p := ⟨gb251, 0, none⟩) (Kd.R_types HO250.out BK251.out (by decide)) (fun _ hk => hk.2) (.bool t241)) (fun _ hk => hk.2) (.slice Ao12 t242.length co12)) (fun _ hk => hk.2) (.slice Ao13 t245.length co13)) (fun _ hk => hk.2) (.slice Ao14 t248.length co14)) (fun _ h_ => h_.1))) hb); have n3_ := Aside0.mk (blk_below (g := gb251) (o := .cells #[.bool t241, .slice Ao12 t242.length co12, .slice Ao13 t245.length co13, .slice Ao14 t248.length co14] 28 (0, 0)) (by (with_reducible repeat (first | refine blk_drewN ?_ _ | refine blk_drew ?_ | refine blk_alloc ?_ _)); refine blk_put (cs := #[.bool t241, .slice Ao12 t242.length co12, .slice Ao13 t245.length co13, .slice none 0 0]) ?_ 3 _ rfl; (with_reducible repeat (first | refine blk_drewN ?_ _ | refine blk_drew ?_ | refine blk_alloc ?_ _)); refine blk_put (cs := #[.bool t241, .slice Ao12 t242.length co12, .slice none 0 0, .slice none 0 0]) ?_ 2 _ rfl; (with_reducible repeat (first | refine blk_drewN ?_ _ | refine blk_drew ?_ | refine blk_alloc ?_ _)); refine blk_put (cs := #[.bool t241, .slice none 0 0, .slice none 0 0, .slice none 0 0]) ?_ 1 _ rfl; (with_reducible repeat (first | refine blk_drewN ?_ _ | refine blk_drew ?_ | refine blk_alloc ?_ _)); refine blk_put (cs := #[.bool false, .slice none 0 0, .slice none 0 0, .slice none 0 0]) ?_ 0 _ rfl; (with_reducible repeat (first | refine blk_drewN ?_ _ | refine blk_drew ?_ | refine blk_alloc ?_ _)); exact BK251.out) hb); have n4_ := Aside0.mk (below_step (by repeat (first | (with_reducible first | exact HB.out | apply below_alloc | apply pw_below_drewN | apply below_drew1 | refine below_set ?_ GE251.out) | exact HB.out)) hb); clear HO244; clear HO247; clear HO250; clear BK251; clear HB; have HO244 := n0_; have HO247 := n1_; have HO250 := n2_; have BK251 := n3_; have HB := n4_; clear n0_ n1_ n2_ n3_ n4_; (try clear hb); (try clear hb2); (try clear hk); (try clear hi)) | (go_at_call 12; (with_reducible refine (impl_RoleMay.calls k 4 t252 false _ A17.out).mono ?_); rintro e w26 ⟨rfl, hb⟩; have n0_ := Aside0.mk (Kd.R_below (b2_ HO244.out) hb); have n1_ := Aside0.mk (Kd.R_below (b2_ HO247.out) hb); have n2_ := Aside0.mk (Kd.R_below (b2_ HO250.out) hb); have n3_ := Aside0.mk (blk_below (g := gb251) (o := .cells #[.bool t241, .slice Ao12 t242.length co12, .slice Ao13 t245.length co13, .slice Ao14 t248.length co14] 28 (0, 0)) (b1_ BK251.out) hb); have n4_ := Aside0.mk (below_step (by repeat (first | (with_reducible first | exact HB.out | apply below_alloc | apply pw_below_drewN | apply below_drew1 | refine below_set ?_ GE251.out) | exact HB.out)) hb); clear HO244; clear HO247; clear HO250; clear BK251; clear HB; have HO244 := n0_; have HO247 := n1_; have HO250 := n2_; have BK251 := n3_; have HB := n4_; clear n0_ n1_ n2_ n3_ n4_; (try clear hb); (try clear hb2); (try clear hk); (try clear hi)) | (go_at_call 12; (with_reducible refine (impl_RoleMay.calls k 3 9 true _ A22.out).mono ?_); rintro e w27 ⟨rfl, hb⟩; have n0_ := Aside0.mk (Kd.R_below (b2_ HO244.out) hb); have n1_ := Aside0.mk (Kd.R_below (b2_ HO247.out) hb); have n2_ := Aside0.mk (Kd.R_below (b2_ HO250.out) hb); have n3_ := Aside0.mk (blk_below (g := gb251) (o := .cells #[.bool t241, .slice Ao12 t242.length co12, .slice Ao13 t245.length co13, .slice Ao14 t248.length co14] 28 (0, 0)) (b1_ BK251.out) hb); have n4_ := Aside0.mk (below_step (by repeat (first | (with_reducible first | exact HB.out | apply below_alloc | apply pw_below_drewN | apply below_drew1 | refine below_set ?_ GE251.out) | exact HB.out)) hb); clear HO244; clear HO247; clear HO250; clear BK251; clear HB; have HO244 := n0_; have HO247 := n1_; have HO250 := n2_; have BK251 := n3_; have HB := n4_; clear n0_ n1_ n2_ n3_ n4_; (try clear hb); (try clear hb2); (try clear hk); (try clear hi)))
 go_meet
 case rel => exact ⟨_, (true), s1_, H', ⟨by first | omega | exact Nat.le_refl _⟩, ⟨b2_ HO244.out⟩, ⟨b2_ HO247.out⟩, ⟨b2_ HO250.out⟩, ⟨b1_ BK251.out⟩, ⟨by repeat (first | (with_reducible first | exact HB.out | apply below_alloc | apply pw_below_drewN | apply below_drew1 | refine below_set ?_ GE251.out) | exact HB.out)⟩⟩}
 {
 replace c23 := Bool.eq_false_iff.mpr c23
 subst c23
 have H1 : ((impl_RoleMay.f k 3 t252).bind fun t257 => (laws_FnAllowed.j0 k t252 t253 (!t257) t241 t242 t245 t248)) = some r := by rw [if_neg (show ¬ (false = true) by decide)] at H; exact H
 clear H
 have H := H1
 clear H1
 replace H := Option.bind_eq_some_iff.mp H
 obtain ⟨t257, A280, H⟩ := H
 replace H : (laws_FnAllowed.j0 k t252 t253 (!t257) t241 t242 t245 t248) = some r := H
 have A28 := Aside0.mk A280
 clear A280
 have H' := Aside0.mk H
 clear H
 have hcz29_0 : w10.cell? ⟨gb251, 0, none⟩ = some (.bool false) := (blk_cell BK251.out 0).trans rfl
 have hcz29_1 : w10.cell? ⟨gb251, 1, none⟩ = some (.slice none 0 0) := (blk_cell BK251.out 1).trans rfl
 have hcz29_2 : w10.cell? ⟨gb251, 2, none⟩ = some (.slice none 0 0) := (blk_cell BK251.out 2).trans rfl
 have hcz29_3 : w10.cell? ⟨gb251, 3, none⟩ = some (.slice none 0 0) := (blk_cell BK251.out 3).trans rfl
 have hfz29_0 := blk_frozen BK251.out 0
 have hfz29_1 := blk_frozen BK251.out 1
 have hfz29_2 := blk_frozen BK251.out 2
 have hfz29_3 := blk_frozen BK251.out 3
 go_wp2_with (first | ((with_reducible refine gate_callee (f := 11) rfl ?_); refine goesL_ (some 25) rfl rfl Try.func11 s2_ rfl #[.agg #[.bool t241, .slice Ao12 t242.length co12, .slice Ao13 t245.length co13, .slice Ao14 t248.length co14]] rfl s3_ ?_; (with_reducible refine (impl_ValidRoom.calls k t241 _ _ t242 _ _ t245 _ _ t248 true _ ?side1 ?side2 ?side3 ?side4 ?side5 ?side6 A15.out).mono ?_); (case side1 => refine (Kd.R_reads' (e := 36) (base := w.heap.size) (ok := fun k_ => True) (n := t242.length) (c := co12) ?_).2.2; exact (by (with_reducible repeat (first | apply Kd.R_alloc | apply Kd.R_drewN | apply Kd.R_drew)); exact (Kd.R_mono (Kd.R_far (p := ⟨gb251, 3, none⟩) (Kd.R_far (p := ⟨gb251, 2, none⟩) (Kd.R_far (p := ⟨gb251, 1, none⟩) (Kd.R_far (p := ⟨gb251, 0, none⟩) (Kd.R_types HO244.out BK251.out (by decide)) (fun _ hk => hk.2) (.bool t241)) (fun _ hk => hk.2) (.slice Ao12 t242.length co12)) (fun _ hk => hk.2) (.slice Ao13 t245.length co13)) (fun _ hk => hk.2) (.slice Ao14 t248.length co14)) (fun _ h_ => h_.1)))); (case side2 => exact (Kd.R_reads' HO244.out).2.1); (case side3 => refine (Kd.R_reads' (e := 71) (base := w.heap.size) (ok := fun k_ => True) (n := t245.length) (c := co13) ?_).2.2; exact (by (with_reducible repeat (first | apply Kd.R_alloc | apply Kd.R_drewN | apply Kd.R_drew)); exact (Kd.R_mono (Kd.R_far (p := ⟨gb251, 3, none⟩) (Kd.R_far (p := ⟨gb251, 2, none⟩) (Kd.R_far (p := ⟨gb251, 1, none⟩) (Kd.R_far (p := ⟨gb251, 0, none⟩) (Kd.R_types HO247.out BK251.out (by decide)) (fun _ hk => hk.2) (.bool t241)) (fun _ hk => hk.2) (.slice Ao12 t242.length co12)) (fun _ hk => hk.2) (.slice Ao13 t245.length co13)) (fun _ hk => hk.2) (.slice Ao14 t248.length co14)) (fun _ h_ => h_.1)))); (case side4 => exact (Kd.R_reads' HO247.out).2.1); (case side5 => refine (Kd.R_reads' (e := 73) (base := w.heap.size) (ok := fun k_ => True) (n := t248.length) (c := co14) ?_).2.2; exact (by (with_reducible repeat (first | apply Kd.R_alloc | apply Kd.R_drewN | apply Kd.R_drew)); exact (Kd.R_mono (Kd.R_far (p := ⟨gb251, 3, none⟩) (Kd.R_far (p := ⟨gb251, 2, none⟩) (Kd.R_far (p := ⟨gb251, 1, none⟩) (Kd.R_far (p := ⟨gb251, 0, none⟩) (Kd.R_types HO250.out BK251.out (by decide)) (fun _ hk => hk.2) (.bool t241)) (fun _ hk => hk.2) (.slice Ao12 t242.length co12)) (fun _ hk => hk.2) (.slice Ao13 t245.length co13)) (fun _ hk => hk.2) (.slice Ao14 t248.length co14)) (fun _ h_ => h_.1)))); (case side6 => exact (Kd.R_reads' HO250.out).2.1); rintro e w30 ⟨rfl, hb⟩; refine ⟨_, rfl, ?_⟩; have n0_ := Aside0.mk (Kd.R_below (by (with_reducible repeat (first | apply Kd.R_alloc | apply Kd.R_drewN | apply Kd.R_drew)); exact (Kd.R_mono (Kd.R_far (p := ⟨gb251, 3, none⟩) (Kd.R_far (p := ⟨gb251, 2, none⟩) (Kd.R_far (p := ⟨gb251, 1, none⟩) (Kd.R_far (p := ⟨gb251, 0, none⟩) (Kd.R_types HO244.out BK251.out (by decide)) (fun _ hk => hk.2) (.bool t241)) (fun _ hk => hk.2) (.slice Ao12 t242.length co12)) (fun _ hk => hk.2) (.slice Ao13 t245.length co13)) (fun _ hk => hk.2) (.slice Ao14 t248.length co14)) (fun _ h_ => h_.1))) hb); have n1_ := Aside0.mk (Kd.R_below (by (with_reducible repeat (first | apply Kd.R_alloc | apply Kd.R_drewN | apply Kd.R_drew)); exact (Kd.R_mono (Kd.R_far (p := ⟨gb251, 3, none⟩) (Kd.R_far (p := ⟨gb251, 2, none⟩) (Kd.R_far (p := ⟨gb251, 1, none⟩) (Kd.R_far (p := ⟨gb251, 0, none⟩) (Kd.R_types HO247.out BK251.out (by decide)) (fun _ hk => hk.2) (.bool t241)) (fun _ hk => hk.2) (.slice Ao12 t242.length co12)) (fun _ hk => hk.2) (.slice Ao13 t245.length co13)) (fun _ hk => hk.2) (.slice Ao14 t248.length co14)) (fun _ h_ => h_.1))) hb); have n2_ := Aside0.mk (Kd.R_below (by (with_reducible repeat (first | apply Kd.R_alloc | apply Kd.R_drewN | apply Kd.R_drew)); exact (Kd.R_mono (Kd.R_far (p := ⟨gb251, 3, none⟩) (Kd.R_far (p := ⟨gb251, 2, none⟩) (Kd.R_far (p := ⟨gb251, 1, none⟩) (Kd.R_far (p := ⟨gb251, 0, none⟩) (Kd.R_types HO250.out BK251.out (by decide)) (fun _ hk => hk.2) (.bool t241)) (fun _ hk => hk.2) (.slice Ao12 t242.length co12)) (fun _ hk => hk.2) (.slice Ao13 t245.length co13)) (fun _ hk => hk.2) (.slice Ao14 t248.length co14)) (fun _ h_ => h_.1))) hb); have n3_ := Aside0.mk (blk_below (g := gb251) (o := .cells #[.bool t241, .slice Ao12 t242.length co12, .slice Ao13 t245.length co13, .slice Ao14 t248.length co14] 28 (0, 0)) (by (with_reducible repeat (first | refine blk_drewN ?_ _ | refine blk_drew ?_ | refine blk_alloc ?_ _)); refine blk_put (cs := #[.bool t241, .slice Ao12 t242.length co12, .slice Ao13 t245.length co13, .slice none 0 0]) ?_ 3 _ rfl; (with_reducible repeat (first | refine blk_drewN ?_ _ | refine blk_drew ?_ | refine blk_alloc ?_ _)); refine blk_put (cs := #[.bool t241, .slice Ao12 t242.length co12, .slice none 0 0, .slice none 0 0]) ?_ 2 _ rfl; (with_reducible repeat (first | refine blk_drewN ?_ _ | refine blk_drew ?_ | refine blk_alloc ?_ _)); refine blk_put (cs := #[.bool t241, .slice none 0 0, .slice none 0 0, .slice none 0 0]) ?_ 1 _ rfl; (with_reducible repeat (first | refine blk_drewN ?_ _ | refine blk_drew ?_ | refine blk_alloc ?_ _)); refine blk_put (cs := #[.bool false, .slice none 0 0, .slice none 0 0, .slice none 0 0]) ?_ 0 _ rfl; (with_reducible repeat (first | refine blk_drewN ?_ _ | refine blk_drew ?_ | refine blk_alloc ?_ _)); exact BK251.out) hb); have n4_ := Aside0.mk (below_step (by repeat (first | (with_reducible first | exact HB.out | apply below_alloc | apply pw_below_drewN | apply below_drew1 | refine below_set ?_ GE251.out) | exact HB.out)) hb); clear HO244; clear HO247; clear HO250; clear BK251; clear HB; have HO244 := n0_; have HO247 := n1_; have HO250 := n2_; have BK251 := n3_; have HB := n4_; clear n0_ n1_ n2_ n3_ n4_; (try clear hb); (try clear hb2); (try clear hk); (try clear hi)) | (go_at_call 12; (with_reducible refine (impl_RoleMay.calls k 4 t252 false _ A17.out).mono ?_); rintro e w31 ⟨rfl, hb⟩; have n0_ := Aside0.mk (Kd.R_below (b2_ HO244.out) hb); have n1_ := Aside0.mk (Kd.R_below (b2_ HO247.out) hb); have n2_ := Aside0.mk (Kd.R_below (b2_ HO250.out) hb); have n3_ := Aside0.mk (blk_below (g := gb251) (o := .cells #[.bool t241, .slice Ao12 t242.length co12, .slice Ao13 t245.length co13, .slice Ao14 t248.length co14] 28 (0, 0)) (b1_ BK251.out) hb); have n4_ := Aside0.mk (below_step (by repeat (first | (with_reducible first | exact HB.out | apply below_alloc | apply pw_below_drewN | apply below_drew1 | refine below_set ?_ GE251.out) | exact HB.out)) hb); clear HO244; clear HO247; clear HO250; clear BK251; clear HB; have HO244 := n0_; have HO247 := n1_; have HO250 := n2_; have BK251 := n3_; have HB := n4_; clear n0_ n1_ n2_ n3_ n4_; (try clear hb); (try clear hb2); (try clear hk); (try clear hi)) | (go_at_call 12; (with_reducible refine (impl_RoleMay.calls k 3 9 false _ A22.out).mono ?_); rintro e w32 ⟨rfl, hb⟩; have n0_ := Aside0.mk (Kd.R_below (b2_ HO244.out) hb); have n1_ := Aside0.mk (Kd.R_below (b2_ HO247.out) hb); have n2_ := Aside0.mk (Kd.R_below (b2_ HO250.out) hb); have n3_ := Aside0.mk (blk_below (g := gb251) (o := .cells #[.bool t241, .slice Ao12 t242.length co12, .slice Ao13 t245.length co13, .slice Ao14 t248.length co14] 28 (0, 0)) (b1_ BK251.out) hb); have n4_ := Aside0.mk (below_step (by repeat (first | (with_reducible first | exact HB.out | apply below_alloc | apply pw_below_drewN | apply below_drew1 | refine below_set ?_ GE251.out) | exact HB.out)) hb); clear HO244; clear HO247; clear HO250; clear BK251; clear HB; have HO244 := n0_; have HO247 := n1_; have HO250 := n2_; have BK251 := n3_; have HB := n4_; clear n0_ n1_ n2_ n3_ n4_; (try clear hb); (try clear hb2); (try clear hk); (try clear hi)) | (go_at_call 12; (with_reducible refine (impl_RoleMay.calls k 3 t252 t257 _ A28.out).mono ?_); rintro e w33 ⟨rfl, hb⟩; have n0_ := Aside0.mk (Kd.R_below (b2_ HO244.out) hb); have n1_ := Aside0.mk (Kd.R_below (b2_ HO247.out) hb); have n2_ := Aside0.mk (Kd.R_below (b2_ HO250.out) hb); have n3_ := Aside0.mk (blk_below (g := gb251) (o := .cells #[.bool t241, .slice Ao12 t242.length co12, .slice Ao13 t245.length co13, .slice Ao14 t248.length co14] 28 (0, 0)) (b1_ BK251.out) hb); have n4_ := Aside0.mk (below_step (by repeat (first | (with_reducible first | exact HB.out | apply below_alloc | apply pw_below_drewN | apply below_drew1 | refine below_set ?_ GE251.out) | exact HB.out)) hb); clear HO244; clear HO247; clear HO250; clear BK251; clear HB; have HO244 := n0_; have HO247 := n1_; have HO250 := n2_; have BK251 := n3_; have HB := n4_; clear n0_ n1_ n2_ n3_ n4_; (try clear hb); (try clear hb2); (try clear hk); (try clear hi)))
 go_meet
 case rel => exact ⟨_, (!t257), s1_, H', ⟨by first | omega | exact Nat.le_refl _⟩, ⟨b2_ HO244.out⟩, ⟨b2_ HO247.out⟩, ⟨b2_ HO250.out⟩, ⟨b1_ BK251.out⟩, ⟨by repeat (first | (with_reducible first | exact HB.out | apply below_alloc | apply pw_below_drewN | apply below_drew1 | refine below_set ?_ GE251.out) | exact HB.out)⟩⟩}}}
 {
 replace c16 := Bool.eq_false_iff.mpr c16
 subst c16
 have H1 : (laws_FnAllowed.j0 k t252 t253 true t241 t242 t245 t248) = some r := by rw [if_neg (show ¬ (false = true) by decide)] at H; exact H
 clear H
 have H := H1
 clear H1
 have H' := Aside0.mk H
 clear H
 have hcz34_0 : w10.cell? ⟨gb251, 0, none⟩ = some (.bool false) := (blk_cell BK251.out 0).trans rfl
 have hcz34_1 : w10.cell? ⟨gb251, 1, none⟩ = some (.slice none 0 0) := (blk_cell BK251.out 1).trans rfl
 have hcz34_2 : w10.cell? ⟨gb251, 2, none⟩ = some (.slice none 0 0) := (blk_cell BK251.out 2).trans rfl
 have hcz34_3 : w10.cell? ⟨gb251, 3, none⟩ = some (.slice none 0 0) := (blk_cell BK251.out 3).trans rfl
 have hfz34_0 := blk_frozen BK251.out 0
 have hfz34_1 := blk_frozen BK251.out 1
 have hfz34_2 := blk_frozen BK251.out 2
 have hfz34_3 := blk_frozen BK251.out 3
 go_wp2_with (first | ((with_reducible refine gate_callee (f := 11) rfl ?_); refine goesL_ (some 25) rfl rfl Try.func11 s2_ rfl #[.agg #[.bool t241, .slice Ao12 t242.length co12, .slice Ao13 t245.length co13, .slice Ao14 t248.length co14]] rfl s3_ ?_; (with_reducible refine (impl_ValidRoom.calls k t241 _ _ t242 _ _ t245 _ _ t248 false _ ?side1 ?side2 ?side3 ?side4 ?side5 ?side6 A15.out).mono ?_); (case side1 => refine (Kd.R_reads' (e := 36) (base := w.heap.size) (ok := fun k_ => True) (n := t242.length) (c := co12) ?_).2.2; exact (by (with_reducible repeat (first | apply Kd.R_alloc | apply Kd.R_drewN | apply Kd.R_drew)); exact (Kd.R_mono (Kd.R_far (p := ⟨gb251, 3, none⟩) (Kd.R_far (p := ⟨gb251, 2, none⟩) (Kd.R_far (p := ⟨gb251, 1, none⟩) (Kd.R_far (p := ⟨gb251, 0, none⟩) (Kd.R_types HO244.out BK251.out (by decide)) (fun _ hk => hk.2) (.bool t241)) (fun _ hk => hk.2) (.slice Ao12 t242.length co12)) (fun _ hk => hk.2) (.slice Ao13 t245.length co13)) (fun _ hk => hk.2) (.slice Ao14 t248.length co14)) (fun _ h_ => h_.1)))); (case side2 => exact (Kd.R_reads' HO244.out).2.1); (case side3 => refine (Kd.R_reads' (e := 71) (base := w.heap.size) (ok := fun k_ => True) (n := t245.length) (c := co13) ?_).2.2; exact (by (with_reducible repeat (first | apply Kd.R_alloc | apply Kd.R_drewN | apply Kd.R_drew)); exact (Kd.R_mono (Kd.R_far (p := ⟨gb251, 3, none⟩) (Kd.R_far (p := ⟨gb251, 2, none⟩) (Kd.R_far (p := ⟨gb251, 1, none⟩) (Kd.R_far (p := ⟨gb251, 0, none⟩) (Kd.R_types HO247.out BK251.out (by decide)) (fun _ hk => hk.2) (.bool t241)) (fun _ hk => hk.2) (.slice Ao12 t242.length co12)) (fun _ hk => hk.2) (.slice Ao13 t245.length co13)) (fun _ hk => hk.2) (.slice Ao14 t248.length co14)) (fun _ h_ => h_.1)))); (case side4 => exact (Kd.R_reads' HO247.out).2.1); (case side5 => refine (Kd.R_reads' (e := 73) (base := w.heap.size) (ok := fun k_ => True) (n := t248.length) (c := co14) ?_).2.2; exact (by (with_reducible repeat (first | apply Kd.R_alloc | apply Kd.R_drewN | apply Kd.R_drew)); exact (Kd.R_mono (Kd.R_far (p := ⟨gb251, 3, none⟩) (Kd.R_far (p := ⟨gb251, 2, none⟩) (Kd.R_far (p := ⟨gb251, 1, none⟩) (Kd.R_far (p := ⟨gb251, 0, none⟩) (Kd.R_types HO250.out BK251.out (by decide)) (fun _ hk => hk.2) (.bool t241)) (fun _ hk => hk.2) (.slice Ao12 t242.length co12)) (fun _ hk => hk.2) (.slice Ao13 t245.length co13)) (fun _ hk => hk.2) (.slice Ao14 t248.length co14)) (fun _ h_ => h_.1)))); (case side6 => exact (Kd.R_reads' HO250.out).2.1); rintro e w35 ⟨rfl, hb⟩; refine ⟨_, rfl, ?_⟩; have n0_ := Aside0.mk (Kd.R_below (by (with_reducible repeat (first | apply Kd.R_alloc | apply Kd.R_drewN | apply Kd.R_drew)); exact (Kd.R_mono (Kd.R_far (p := ⟨gb251, 3, none⟩) (Kd.R_far (p := ⟨gb251, 2, none⟩) (Kd.R_far (p := ⟨gb251, 1, none⟩) (Kd.R_far (p := ⟨gb251, 0, none⟩) (Kd.R_types HO244.out BK251.out (by decide)) (fun _ hk => hk.2) (.bool t241)) (fun _ hk => hk.2) (.slice Ao12 t242.length co12)) (fun _ hk => hk.2) (.slice Ao13 t245.length co13)) (fun _ hk => hk.2) (.slice Ao14 t248.length co14)) (fun _ h_ => h_.1))) hb); have n1_ := Aside0.mk (Kd.R_below (by (with_reducible repeat (first | apply Kd.R_alloc | apply Kd.R_drewN | apply Kd.R_drew)); exact (Kd.R_mono (Kd.R_far (p := ⟨gb251, 3, none⟩) (Kd.R_far (p := ⟨gb251, 2, none⟩) (Kd.R_far (p := ⟨gb251, 1, none⟩) (Kd.R_far (p := ⟨gb251, 0, none⟩) (Kd.R_types HO247.out BK251.out (by decide)) (fun _ hk => hk.2) (.bool t241)) (fun _ hk => hk.2) (.slice Ao12 t242.length co12)) (fun _ hk => hk.2) (.slice Ao13 t245.length co13)) (fun _ hk => hk.2) (.slice Ao14 t248.length co14)) (fun _ h_ => h_.1))) hb); have n2_ := Aside0.mk (Kd.R_below (by (with_reducible repeat (first | apply Kd.R_alloc | apply Kd.R_drewN | apply Kd.R_drew)); exact (Kd.R_mono (Kd.R_far (p := ⟨gb251, 3, none⟩) (Kd.R_far (p := ⟨gb251, 2, none⟩) (Kd.R_far (p := ⟨gb251, 1, none⟩) (Kd.R_far (p := ⟨gb251, 0, none⟩) (Kd.R_types HO250.out BK251.out (by decide)) (fun _ hk => hk.2) (.bool t241)) (fun _ hk => hk.2) (.slice Ao12 t242.length co12)) (fun _ hk => hk.2) (.slice Ao13 t245.length co13)) (fun _ hk => hk.2) (.slice Ao14 t248.length co14)) (fun _ h_ => h_.1))) hb); have n3_ := Aside0.mk (blk_below (g := gb251) (o := .cells #[.bool t241, .slice Ao12 t242.length co12, .slice Ao13 t245.length co13, .slice Ao14 t248.length co14] 28 (0, 0)) (by (with_reducible repeat (first | refine blk_drewN ?_ _ | refine blk_drew ?_ | refine blk_alloc ?_ _)); refine blk_put (cs := #[.bool t241, .slice Ao12 t242.length co12, .slice Ao13 t245.length co13, .slice none 0 0]) ?_ 3 _ rfl; (with_reducible repeat (first | refine blk_drewN ?_ _ | refine blk_drew ?_ | refine blk_alloc ?_ _)); refine blk_put (cs := #[.bool t241, .slice Ao12 t242.length co12, .slice none 0 0, .slice none 0 0]) ?_ 2 _ rfl; (with_reducible repeat (first | refine blk_drewN ?_ _ | refine blk_drew ?_ | refine blk_alloc ?_ _)); refine blk_put (cs := #[.bool t241, .slice none 0 0, .slice none 0 0, .slice none 0 0]) ?_ 1 _ rfl; (with_reducible repeat (first | refine blk_drewN ?_ _ | refine blk_drew ?_ | refine blk_alloc ?_ _)); refine blk_put (cs := #[.bool false, .slice none 0 0, .slice none 0 0, .slice none 0 0]) ?_ 0 _ rfl; (with_reducible repeat (first | refine blk_drewN ?_ _ | refine blk_drew ?_ | refine blk_alloc ?_ _)); exact BK251.out) hb); have n4_ := Aside0.mk (below_step (by repeat (first | (with_reducible first | exact HB.out | apply below_alloc | apply pw_below_drewN | apply below_drew1 | refine below_set ?_ GE251.out) | exact HB.out)) hb); clear HO244; clear HO247; clear HO250; clear BK251; clear HB; have HO244 := n0_; have HO247 := n1_; have HO250 := n2_; have BK251 := n3_; have HB := n4_; clear n0_ n1_ n2_ n3_ n4_; (try clear hb); (try clear hb2); (try clear hk); (try clear hi)))
 go_meet
 case rel => exact ⟨_, (true), s1_, H', ⟨by first | omega | exact Nat.le_refl _⟩, ⟨b2_ HO244.out⟩, ⟨b2_ HO247.out⟩, ⟨b2_ HO250.out⟩, ⟨b1_ BK251.out⟩, ⟨by repeat (first | (with_reducible first | exact HB.out | apply below_alloc | apply pw_below_drewN | apply below_drew1 | refine below_set ?_ GE251.out) | exact HB.out)⟩⟩}}
 case rest =>
  skip
  {
 clear HC8
 try clear c1
 try clear c2
 try clear p2
 try clear c3
 try clear c4
 try clear c8
 try clear c9
 try clear c10
 try clear c11
 try clear c16
 try clear c18
 try clear c23
 try clear hcz11_0
 try clear hcz11_1
 try clear hcz11_2
 try clear hcz11_3
 try clear hcz19_0
 try clear hcz19_1
 try clear hcz19_2
 try clear hcz19_3
 try clear hcz24_0
 try clear hcz24_1
 try clear hcz24_2
 try clear hcz24_3
 try clear hcz29_0
 try clear hcz29_1
 try clear hcz29_2
 try clear hcz29_3
 try clear hcz34_0
 try clear hcz34_1
 try clear hcz34_2
 try clear hcz34_3
 try clear hfz11_0
 try clear hfz11_1
 try clear hfz11_2
 try clear hfz11_3
 try clear hfz19_0
 try clear hfz19_1
 try clear hfz19_2
 try clear hfz19_3
 try clear hfz24_0
 try clear hfz24_1
 try clear hfz24_2
 try clear hfz24_3
 try clear hfz29_0
 try clear hfz29_1
 try clear hfz29_2
 try clear hfz29_3
 try clear hfz34_0
 try clear hfz34_1
 try clear hfz34_2
 try clear hfz34_3
 obtain ⟨kq, x38_7, rfl, HA, HJ7, HO_252001, HO_252002, HO_252003, BK251, HB⟩ := hcut
 cases kq with
 | zero => exact absurd HA.out (by simp [laws_FnAllowed.j0])
 | succ kj7 =>
  skip
  {
 have H := HA.out
 clear HA
 simp only [laws_FnAllowed.j0] at H
 by_cases c36 : x38_7 = true
 {
 subst c36
 have H1 : (some false) = some r := by rw [if_pos rfl] at H; exact H
 clear H
 have H := H1
 clear H1
 obtain rfl := Option.some.inj H
 go_wp2
 go_ret
 exact ⟨by first | rfl | (simp [errW_none, errW_some] <;> rfl) | (simp [*, errW_none, errW_some] <;> rfl), by repeat (first | (with_reducible first | exact HB.out | apply below_alloc | apply pw_below_drewN | apply below_drew1 | refine below_set ?_ GE251.out) | exact HB.out)⟩}
 {
 replace c36 := Bool.eq_false_iff.mpr c36
 subst c36
 have H1 : (laws_FnAllowed.l0 kj7 t252 t253 1 t241 t242 t245 t248) = some r := by rw [if_neg (show ¬ (false = true) by decide)] at H; exact H
 clear H
 have H := H1
 clear H1
 have H' := Aside0.mk H
 clear H
 go_wp2
 go_loopg [8] kj7 (fun kq v8 w' => ∃ (x8_2 : Int), v8 = .int .i64 x8_2 ∧ Aside0 (laws_FnAllowed.l0 kq t252 t253 x8_2 t241 t242 t245 t248 = some r) ∧ Aside0 (kq ≤ kj7) ∧ Aside0 (Kd.R k36 36 w' w.heap.size (fun _ => True) (.slice Ao12 t242.length co12) t242) ∧ Aside0 (Kd.R k71 71 w' w.heap.size (fun _ => True) (.slice Ao13 t245.length co13) t245) ∧ Aside0 (Kd.R k73 73 w' w.heap.size (fun _ => True) (.slice Ao14 t248.length co14) t248) ∧ Aside0 (w'.heap[gb251]? = some (.cells #[.bool t241, (.slice Ao12 t242.length co12), (.slice Ao13 t245.length co13), (.slice Ao14 t248.length co14)] 28 (0, 0))) ∧ Aside0 (Below w.heap.size w w'))
 case atStart => exact ⟨(1), s1_, H', ⟨Nat.le_refl _⟩, ⟨b2_ HO_252001.out⟩, ⟨b2_ HO_252002.out⟩, ⟨b2_ HO_252003.out⟩, ⟨b1_ BK251.out⟩, ⟨by repeat (first | (with_reducible first | exact HB.out | apply below_alloc | apply pw_below_drewN | apply below_drew1 | refine below_set ?_ GE251.out) | exact HB.out)⟩⟩
 case round =>
  skip
  {
 clear H'
 try clear c1
 try clear c2
 try clear p2
 try clear c3
 try clear c4
 try clear c8
 try clear c9
 try clear c10
 try clear c11
 try clear c16
 try clear c18
 try clear c23
 try clear c36
 try clear hcz11_0
 try clear hcz11_1
 try clear hcz11_2
 try clear hcz11_3
 try clear hcz19_0
 try clear hcz19_1
 try clear hcz19_2
 try clear hcz19_3
 try clear hcz24_0
 try clear hcz24_1
 try clear hcz24_2
 try clear hcz24_3
 try clear hcz29_0
 try clear hcz29_1
 try clear hcz29_2
 try clear hcz29_3
 try clear hcz34_0
 try clear hcz34_1
 try clear hcz34_2
 try clear hcz34_3
 try clear hfz11_0
 try clear hfz11_1
 try clear hfz11_2
 try clear hfz11_3
 try clear hfz19_0
 try clear hfz19_1
 try clear hfz19_2
 try clear hfz19_3
 try clear hfz24_0
 try clear hfz24_1
 try clear hfz24_2
 try clear hfz24_3
 try clear hfz29_0
 try clear hfz29_1
 try clear hfz29_2
 try clear hfz29_3
 try clear hfz34_0
 try clear hfz34_1
 try clear hfz34_2
 try clear hfz34_3
 try clear p2
 obtain ⟨x8_2, rfl, HA, HK2, HO_252001, HO_252002, HO_252003, BK251, HB⟩ := hrel
 cases gk with
 | zero => exact absurd HA.out (by simp [laws_FnAllowed.l0])
 | succ k2 =>
  skip
  {
 have H := HA.out
 clear HA
 simp only [laws_FnAllowed.l0] at H
 by_cases c37 : x8_2 ≤ 3
 {
 rw [if_pos c37] at H
 have c37b0 : decide (x8_2 ≤ 3) = true := decide_eq_true c37
 clear c37
 have HC38 := Aside0.mk H
 clear H
 go_upto_region 11 with (fail)
 go_cut [52] (fun v52 wc => ∃ (kq : Nat) (x52_37 : Bool), v52 = .bool x52_37 ∧ Aside0 (laws_FnAllowed.j2 kq t252 t253 x8_2 x52_37 t241 t242 t245 t248 = some r) ∧ Aside0 (kq ≤ k2) ∧ Aside0 (Kd.R k36 36 wc w.heap.size (fun _ => True) (.slice Ao12 t242.length co12) t242) ∧ Aside0 (Kd.R k71 71 wc w.heap.size (fun _ => True) (.slice Ao13 t245.length co13) t245) ∧ Aside0 (Kd.R k73 73 wc w.heap.size (fun _ => True) (.slice Ao14 t248.length co14) t248) ∧ Aside0 (wc.heap[gb251]? = some (.cells #[.bool t241, (.slice Ao12 t242.length co12), (.slice Ao13 t245.length co13), (.slice Ao14 t248.length co14)] 28 (0, 0))) ∧ Aside0 (Below w.heap.size w wc))
 case first =>
  skip
  {
 have H := HC38.out
 clear HC38
 replace H := Option.bind_eq_some_iff.mp H
 obtain ⟨t258, A390, H⟩ := H
 replace H : (if t258 = true then ((impl_RoleMay.f k2 x8_2 t252).bind fun t259 => (laws_FnAllowed.j2 k2 t252 t253 x8_2 (!t259) t241 t242 t245 t248)) else (laws_FnAllowed.j2 k2 t252 t253 x8_2 false t241 t242 t245 t248)) = some r := H
 have A39 := Aside0.mk A390
 clear A390
 by_cases c40 : t258 = true
 {
 subst c40
 have H1 : ((impl_RoleMay.f k2 x8_2 t252).bind fun t259 => (laws_FnAllowed.j2 k2 t252 t253 x8_2 (!t259) t241 t242 t245 t248)) = some r := by rw [if_pos rfl] at H; exact H
 clear H
 have H := H1
 clear H1
 replace H := Option.bind_eq_some_iff.mp H
 obtain ⟨t259, A410, H⟩ := H
 replace H : (laws_FnAllowed.j2 k2 t252 t253 x8_2 (!t259) t241 t242 t245 t248) = some r := H
 have A41 := Aside0.mk A410
 clear A410
 have H' := Aside0.mk H
 clear H
 go_wp2_with (first | ((with_reducible refine gate_callee (f := 12) rfl ?_); refine goesL_ (some 46) rfl rfl Try.func12 s2_ rfl #[.int .i64 (wrap64 (x8_2 - 1)), .int .i64 t252] rfl s3_ ?_; (with_reducible refine (impl_RoleMay.calls k2 (wrap64 (x8_2 - 1)) t252 true _ A39.out).mono ?_); rintro e w42 ⟨rfl, hb⟩; refine ⟨_, rfl, ?_⟩; have n0_ := Aside0.mk (Kd.R_below (b2_ HO_252001.out) hb); have n1_ := Aside0.mk (Kd.R_below (b2_ HO_252002.out) hb); have n2_ := Aside0.mk (Kd.R_below (b2_ HO_252003.out) hb); have n3_ := Aside0.mk (blk_below (g := gb251) (o := .cells #[.bool t241, .slice Ao12 t242.length co12, .slice Ao13 t245.length co13, .slice Ao14 t248.length co14] 28 (0, 0)) (b1_ BK251.out) hb); have n4_ := Aside0.mk (below_step (by repeat (first | (with_reducible first | exact HB.out | apply below_alloc | apply pw_below_drewN | apply below_drew1 | refine below_set ?_ GE251.out) | exact HB.out)) hb); clear HO_252001; clear HO_252002; clear HO_252003; clear BK251; clear HB; have HO_252001 := n0_; have HO_252002 := n1_; have HO_252003 := n2_; have BK251 := n3_; have HB := n4_; clear n0_ n1_ n2_ n3_ n4_; (try clear hb); (try clear hb2); (try clear hk); (try clear hi)) | (go_at_call 12; (with_reducible refine (impl_RoleMay.calls k2 x8_2 t252 t259 _ A41.out).mono ?_); rintro e w43 ⟨rfl, hb⟩; have n0_ := Aside0.mk (Kd.R_below (b2_ HO_252001.out) hb); have n1_ := Aside0.mk (Kd.R_below (b2_ HO_252002.out) hb); have n2_ := Aside0.mk (Kd.R_below (b2_ HO_252003.out) hb); have n3_ := Aside0.mk (blk_below (g := gb251) (o := .cells #[.bool t241, .slice Ao12 t242.length co12, .slice Ao13 t245.length co13, .slice Ao14 t248.length co14] 28 (0, 0)) (b1_ BK251.out) hb); have n4_ := Aside0.mk (below_step (by repeat (first | (with_reducible first | exact HB.out | apply below_alloc | apply pw_below_drewN | apply below_drew1 | refine below_set ?_ GE251.out) | exact HB.out)) hb); clear HO_252001; clear HO_252002; clear HO_252003; clear BK251; clear HB; have HO_252001 := n0_; have HO_252002 := n1_; have HO_252003 := n2_; have BK251 := n3_; have HB := n4_; clear n0_ n1_ n2_ n3_ n4_; (try clear hb); (try clear hb2); (try clear hk); (try clear hi)))
 go_meet
 case rel => exact ⟨_, (!t259), s1_, H', ⟨by have := HJ7.out; have := HK2.out; first | omega | exact Nat.le_refl _⟩, ⟨b2_ HO_252001.out⟩, ⟨b2_ HO_252002.out⟩, ⟨b2_ HO_252003.out⟩, ⟨b1_ BK251.out⟩, ⟨by repeat (first | (with_reducible first | exact HB.out | apply below_alloc | apply pw_below_drewN | apply below_drew1 | refine below_set ?_ GE251.out) | exact HB.out)⟩⟩}
 {
 replace c40 := Bool.eq_false_iff.mpr c40
 subst c40
 have H1 : (laws_FnAllowed.j2 k2 t252 t253 x8_2 false t241 t242 t245 t248) = some r := by rw [if_neg (show ¬ (false = true) by decide)] at H; exact H
 clear H
 have H := H1
 clear H1
 have H' := Aside0.mk H
 clear H
 go_wp2_with (first | ((with_reducible refine gate_callee (f := 12) rfl ?_); refine goesL_ (some 46) rfl rfl Try.func12 s2_ rfl #[.int .i64 (wrap64 (x8_2 - 1)), .int .i64 t252] rfl s3_ ?_; (with_reducible refine (impl_RoleMay.calls k2 (wrap64 (x8_2 - 1)) t252 false _ A39.out).mono ?_); rintro e w44 ⟨rfl, hb⟩; refine ⟨_, rfl, ?_⟩; have n0_ := Aside0.mk (Kd.R_below (b2_ HO_252001.out) hb); have n1_ := Aside0.mk (Kd.R_below (b2_ HO_252002.out) hb); have n2_ := Aside0.mk (Kd.R_below (b2_ HO_252003.out) hb); have n3_ := Aside0.mk (blk_below (g := gb251) (o := .cells #[.bool t241, .slice Ao12 t242.length co12, .slice Ao13 t245.length co13, .slice Ao14 t248.length co14] 28 (0, 0)) (b1_ BK251.out) hb); have n4_ := Aside0.mk (below_step (by repeat (first | (with_reducible first | exact HB.out | apply below_alloc | apply pw_below_drewN | apply below_drew1 | refine below_set ?_ GE251.out) | exact HB.out)) hb); clear HO_252001; clear HO_252002; clear HO_252003; clear BK251; clear HB; have HO_252001 := n0_; have HO_252002 := n1_; have HO_252003 := n2_; have BK251 := n3_; have HB := n4_; clear n0_ n1_ n2_ n3_ n4_; (try clear hb); (try clear hb2); (try clear hk); (try clear hi)))
 go_meet
 case rel => exact ⟨_, (false), s1_, H', ⟨by have := HJ7.out; have := HK2.out; first | omega | exact Nat.le_refl _⟩, ⟨b2_ HO_252001.out⟩, ⟨b2_ HO_252002.out⟩, ⟨b2_ HO_252003.out⟩, ⟨b1_ BK251.out⟩, ⟨by repeat (first | (with_reducible first | exact HB.out | apply below_alloc | apply pw_below_drewN | apply below_drew1 | refine below_set ?_ GE251.out) | exact HB.out)⟩⟩}}
 case rest =>
  skip
  {
 clear HC38
 try clear c1
 try clear c2
 try clear p2
 try clear c3
 try clear c4
 try clear p6
 try clear c8
 try clear c9
 try clear c10
 try clear c11
 try clear c12
 try clear c16
 try clear c18
 try clear c23
 try clear c36
 try clear c37
 try clear c37b0
 try clear c40
 try clear hcz11_0
 try clear hcz11_1
 try clear hcz11_2
 try clear hcz11_3
 try clear hcz19_0
 try clear hcz19_1
 try clear hcz19_2
 try clear hcz19_3
 try clear hcz24_0
 try clear hcz24_1
 try clear hcz24_2
 try clear hcz24_3
 try clear hcz29_0
 try clear hcz29_1
 try clear hcz29_2
 try clear hcz29_3
 try clear hcz34_0
 try clear hcz34_1
 try clear hcz34_2
 try clear hcz34_3
 try clear hfz11_0
 try clear hfz11_1
 try clear hfz11_2
 try clear hfz11_3
 try clear hfz19_0
 try clear hfz19_1
 try clear hfz19_2
 try clear hfz19_3
 try clear hfz24_0
 try clear hfz24_1
 try clear hfz24_2
 try clear hfz24_3
 try clear hfz29_0
 try clear hfz29_1
 try clear hfz29_2
 try clear hfz29_3
 try clear hfz34_0
 try clear hfz34_1
 try clear hfz34_2
 try clear hfz34_3
 try clear p2
 obtain ⟨kq, x52_37, rfl, HA, HJ37, HO_252001, HO_252002, HO_252003, BK251, HB⟩ := hcut
 cases kq with
 | zero => exact absurd HA.out (by simp [laws_FnAllowed.j2])
 | succ kj37 =>
  skip
  {
 have H := HA.out
 clear HA
 simp only [laws_FnAllowed.j2] at H
 by_cases c45 : x52_37 = true
 {
 subst c45
 have H1 : (some false) = some r := by rw [if_pos rfl] at H; exact H
 clear H
 have H := H1
 clear H1
 obtain rfl := Option.some.inj H
 go_wp2
 go_ret
 exact ⟨by first | rfl | (simp [errW_none, errW_some] <;> rfl) | (simp [*, errW_none, errW_some] <;> rfl), by repeat (first | (with_reducible first | exact HB.out | apply below_alloc | apply pw_below_drewN | apply below_drew1 | refine below_set ?_ GE251.out) | exact HB.out)⟩}
 {
 replace c45 := Bool.eq_false_iff.mpr c45
 subst c45
 have H1 : (laws_FnAllowed.l0 kj37 t252 t253 (wrap64 (x8_2 + 1)) t241 t242 t245 t248) = some r := by rw [if_neg (show ¬ (false = true) by decide)] at H; exact H
 clear H
 have H := H1
 clear H1
 have H' := Aside0.mk H
 clear H
 go_wp2
 go_roundg kj37
 case measure => have := HJ7.out; have := HK2.out; have := HJ37.out; omega
 case rel => exact ⟨(wrap64 (x8_2 + 1)), s1_, H', ⟨by have := HJ7.out; have := HK2.out; have := HJ37.out; omega⟩, ⟨b2_ HO_252001.out⟩, ⟨b2_ HO_252002.out⟩, ⟨b2_ HO_252003.out⟩, ⟨b1_ BK251.out⟩, ⟨by repeat (first | (with_reducible first | exact HB.out | apply below_alloc | apply pw_below_drewN | apply below_drew1 | refine below_set ?_ GE251.out) | exact HB.out)⟩⟩}}}}
 {
 rw [if_neg c37] at H
 have c37b0 : decide (x8_2 ≤ 3) = false := decide_eq_false c37
 clear c37
 have H' := Aside0.mk H
 clear H
 go_wp2
 go_loopg [9] k2 (fun kq v9 w' => ∃ (x9_3 : Int), v9 = .int .i64 x9_3 ∧ Aside0 (laws_FnAllowed.l1 kq t252 t253 x9_3 t241 t242 t245 t248 = some r) ∧ Aside0 (kq ≤ k2) ∧ Aside0 (Kd.R k36 36 w' w.heap.size (fun _ => True) (.slice Ao12 t242.length co12) t242) ∧ Aside0 (Kd.R k71 71 w' w.heap.size (fun _ => True) (.slice Ao13 t245.length co13) t245) ∧ Aside0 (Kd.R k73 73 w' w.heap.size (fun _ => True) (.slice Ao14 t248.length co14) t248) ∧ Aside0 (w'.heap[gb251]? = some (.cells #[.bool t241, (.slice Ao12 t242.length co12), (.slice Ao13 t245.length co13), (.slice Ao14 t248.length co14)] 28 (0, 0))) ∧ Aside0 (Below w.heap.size w w'))
 case atStart => exact ⟨(1), s1_, H', ⟨Nat.le_refl _⟩, ⟨b2_ HO_252001.out⟩, ⟨b2_ HO_252002.out⟩, ⟨b2_ HO_252003.out⟩, ⟨b1_ BK251.out⟩, ⟨by repeat (first | (with_reducible first | exact HB.out | apply below_alloc | apply pw_below_drewN | apply below_drew1 | refine below_set ?_ GE251.out) | exact HB.out)⟩⟩
 case round =>
  skip
  {
 clear H'
 try clear c1
 try clear c2
 try clear p2
 try clear c3
 try clear c4
 try clear p6
 try clear c8
 try clear c9
 try clear c10
 try clear c11
 try clear c12
 try clear c16
 try clear c18
 try clear c23
 try clear c36
 try clear c37
 try clear c37b0
 try clear c40
 try clear c45
 try clear hcz11_0
 try clear hcz11_1
 try clear hcz11_2
 try clear hcz11_3
 try clear hcz19_0
 try clear hcz19_1
 try clear hcz19_2
 try clear hcz19_3
 try clear hcz24_0
 try clear hcz24_1
 try clear hcz24_2
 try clear hcz24_3
 try clear hcz29_0
 try clear hcz29_1
 try clear hcz29_2
 try clear hcz29_3
 try clear hcz34_0
 try clear hcz34_1
 try clear hcz34_2
 try clear hcz34_3
 try clear hfz11_0
 try clear hfz11_1
 try clear hfz11_2
 try clear hfz11_3
 try clear hfz19_0
 try clear hfz19_1
 try clear hfz19_2
 try clear hfz19_3
 try clear hfz24_0
 try clear hfz24_1
 try clear hfz24_2
 try clear hfz24_3
 try clear hfz29_0
 try clear hfz29_1
 try clear hfz29_2
 try clear hfz29_3
 try clear hfz34_0
 try clear hfz34_1
 try clear hfz34_2
 try clear hfz34_3
 try clear p2
 try clear p6
 obtain ⟨x9_3, rfl, HA, HK3, HO_252001, HO_252002, HO_252003, BK251, HB⟩ := hrel
 cases gk with
 | zero => exact absurd HA.out (by simp [laws_FnAllowed.l1])
 | succ k3 =>
  skip
  {
 have H := HA.out
 clear HA
 simp only [laws_FnAllowed.l1] at H
 by_cases c46 : x9_3 ≤ 7
 {
 rw [if_pos c46] at H
 have c46b0 : decide (x9_3 ≤ 7) = true := decide_eq_true c46
 clear c46
 replace H := Option.bind_eq_some_iff.mp H
 obtain ⟨⟨t260, t261⟩, A470, H⟩ := H
 replace H : (laws_FnAllowed.l2 k3 t252 t253 x9_3 t260 t261 0 0 t241 t242 t245 t248) = some r := H
 have A47 := Aside0.mk A470
 clear A470
 have H' := Aside0.mk H
 clear H
 have hcz48_0 : wr.cell? ⟨gb251, 0, none⟩ = some (.bool t241) := (blk_cell BK251.out 0).trans rfl
 have hcz48_1 : wr.cell? ⟨gb251, 1, none⟩ = some (.slice Ao12 t242.length co12) := (blk_cell BK251.out 1).trans rfl
 have hcz48_2 : wr.cell? ⟨gb251, 2, none⟩ = some (.slice Ao13 t245.length co13) := (blk_cell BK251.out 2).trans rfl
 have hcz48_3 : wr.cell? ⟨gb251, 3, none⟩ = some (.slice Ao14 t248.length co14) := (blk_cell BK251.out 3).trans rfl
 have hfz48_0 := blk_frozen BK251.out 0
 have hfz48_1 := blk_frozen BK251.out 1
 have hfz48_2 := blk_frozen BK251.out 2
 have hfz48_3 := blk_frozen BK251.out 3
 go_wp2_with (first | ((with_reducible refine gate_callee (f := 13) rfl ?_); refine goesL_ (some 60) rfl rfl Try.func13 s2_ rfl #[.agg #[.bool t241, .slice Ao12 t242.length co12, .slice Ao13 t245.length co13, .slice Ao14 t248.length co14], .int .i64 x9_3] rfl s3_ ?_; (with_reducible refine (impl_RoleOf.calls k3 t241 _ _ t242 _ _ t245 _ _ t248 x9_3 t260 t261 _ ?side1 ?side2 ?side3 ?side4 ?side5 ?side6 A47.out).mono ?_); (case side1 => repeat (first | exact (Kd.R_reads' HO_252001.out).2.2 | (with_reducible refine Kd.C_alloc ?_ _) | (with_reducible refine Kd.C_drewN ?_ _) | (with_reducible refine Kd.C_drew ?_))); (case side2 => exact (Kd.R_reads' HO_252001.out).2.1); (case side3 => repeat (first | exact (Kd.R_reads' HO_252002.out).2.2 | (with_reducible refine Kd.C_alloc ?_ _) | (with_reducible refine Kd.C_drewN ?_ _) | (with_reducible refine Kd.C_drew ?_))); (case side4 => exact (Kd.R_reads' HO_252002.out).2.1); (case side5 => repeat (first | exact (Kd.R_reads' HO_252003.out).2.2 | (with_reducible refine Kd.C_alloc ?_ _) | (with_reducible refine Kd.C_drewN ?_ _) | (with_reducible refine Kd.C_drew ?_))); (case side6 => exact (Kd.R_reads' HO_252003.out).2.1); rintro e w49 ⟨rfl, hb⟩; refine ⟨_, rfl, ?_⟩; have n0_ := Aside0.mk (Kd.R_below (b2_ HO_252001.out) hb); have n1_ := Aside0.mk (Kd.R_below (b2_ HO_252002.out) hb); have n2_ := Aside0.mk (Kd.R_below (b2_ HO_252003.out) hb); have n3_ := Aside0.mk (blk_below (g := gb251) (o := .cells #[.bool t241, .slice Ao12 t242.length co12, .slice Ao13 t245.length co13, .slice Ao14 t248.length co14] 28 (0, 0)) (b1_ BK251.out) hb); have n4_ := Aside0.mk (below_step (by repeat (first | (with_reducible first | exact HB.out | apply below_alloc | apply pw_below_drewN | apply below_drew1 | refine below_set ?_ GE251.out) | exact HB.out)) hb); clear HO_252001; clear HO_252002; clear HO_252003; clear BK251; clear HB; have HO_252001 := n0_; have HO_252002 := n1_; have HO_252003 := n2_; have BK251 := n3_; have HB := n4_; clear n0_ n1_ n2_ n3_ n4_; (try clear hb); (try clear hb2); (try clear hk); (try clear hi)))
 go_loopg [12, 13] k3 (fun kq v12 v13 w' => ∃ (x12_4 : Int) (x13_4 : Int), v12 = .int .i64 x12_4 ∧ v13 = .int .i64 x13_4 ∧ Aside0 (laws_FnAllowed.l2 kq t252 t253 x9_3 t260 t261 x12_4 x13_4 t241 t242 t245 t248 = some r) ∧ Aside0 (kq ≤ k3) ∧ Aside0 (Kd.R k36 36 w' w.heap.size (fun _ => True) (.slice Ao12 t242.length co12) t242) ∧ Aside0 (Kd.R k71 71 w' w.heap.size (fun _ => True) (.slice Ao13 t245.length co13) t245) ∧ Aside0 (Kd.R k73 73 w' w.heap.size (fun _ => True) (.slice Ao14 t248.length co14) t248) ∧ Aside0 (w'.heap[gb251]? = some (.cells #[.bool t241, (.slice Ao12 t242.length co12), (.slice Ao13 t245.length co13), (.slice Ao14 t248.length co14)] 28 (0, 0))) ∧ Aside0 (Below w.heap.size w w'))
 case atStart => exact ⟨(0), (0), s1_, s1_, H', ⟨Nat.le_refl _⟩, ⟨b2_ HO_252001.out⟩, ⟨b2_ HO_252002.out⟩, ⟨b2_ HO_252003.out⟩, ⟨b1_ BK251.out⟩, ⟨by repeat (first | (with_reducible first | exact HB.out | apply below_alloc | apply pw_below_drewN | apply below_drew1 | refine below_set ?_ GE251.out) | exact HB.out)⟩⟩
 case round =>
  skip
  {
 clear H'
 try clear c1
 try clear c2
 try clear p2
 try clear c3
 try clear c4
 try clear p6
 try clear c8
 try clear c9
 try clear c10
 try clear c11
 try clear c12
 try clear c13
 try clear c16
 try clear c18
 try clear c23
 try clear c36
 try clear c37
 try clear c37b0
 try clear c40
 try clear c45
 try clear c46
 try clear c46b0
 try clear hcz11_0
 try clear hcz11_1
 try clear hcz11_2
 try clear hcz11_3
 try clear hcz19_0
 try clear hcz19_1
 try clear hcz19_2
 try clear hcz19_3
 try clear hcz24_0
 try clear hcz24_1
 try clear hcz24_2
 try clear hcz24_3
 try clear hcz29_0
 try clear hcz29_1
 try clear hcz29_2
 try clear hcz29_3
 try clear hcz34_0
 try clear hcz34_1
 try clear hcz34_2
 try clear hcz34_3
 try clear hcz48_0
 try clear hcz48_1
 try clear hcz48_2
 try clear hcz48_3
 try clear hfz11_0
 try clear hfz11_1
 try clear hfz11_2
 try clear hfz11_3
 try clear hfz19_0
 try clear hfz19_1
 try clear hfz19_2
 try clear hfz19_3
 try clear hfz24_0
 try clear hfz24_1
 try clear hfz24_2
 try clear hfz24_3
 try clear hfz29_0
 try clear hfz29_1
 try clear hfz29_2
 try clear hfz29_3
 try clear hfz34_0
 try clear hfz34_1
 try clear hfz34_2
 try clear hfz34_3
 try clear hfz48_0
 try clear hfz48_1
 try clear hfz48_2
 try clear hfz48_3
 try clear p2
 try clear p6
 obtain ⟨x12_4, x13_4, rfl, rfl, HA, HK4, HO_252001, HO_252002, HO_252003, BK251, HB⟩ := hrel
 cases gk with
 | zero => exact absurd HA.out (by simp [laws_FnAllowed.l2])
 | succ k4 =>
  skip
  {
 have H := HA.out
 clear HA
 simp only [laws_FnAllowed.l2] at H
 by_cases c50 : x13_4 < (t242.length : Int)
 {
 rw [if_pos c50] at H
 have c50b0 : decide (x13_4 < (t242.length : Int)) = true := decide_eq_true c50
 clear c50
 by_cases c51 : 0 ≤ x13_4
 {
 rw [if_pos c51] at H
 have c51b0 : decide (0 ≤ x13_4) = true := decide_eq_true c51
 clear c51
 by_cases c52 : ((rd_T36 t242 x13_4).f0) = x9_3
 {
 rw [if_pos c52] at H
 have c52b0 : (((rd_T36 t242 x13_4).f0) == x9_3) = true := beq_iff_eq.mpr c52
 have c52b1 : (((rd_T36 t242 x13_4).f0) != x9_3) = false := bne_eq_false_iff_eq.mpr c52
 clear c52
 have H' := Aside0.mk H
 clear H
 have hcz53_0 : wr.cell? ⟨gb251, 0, none⟩ = some (.bool t241) := (blk_cell BK251.out 0).trans rfl
 have hcz53_1 : wr.cell? ⟨gb251, 1, none⟩ = some (.slice Ao12 t242.length co12) := (blk_cell BK251.out 1).trans rfl
 have hcz53_2 : wr.cell? ⟨gb251, 2, none⟩ = some (.slice Ao13 t245.length co13) := (blk_cell BK251.out 2).trans rfl
 have hcz53_3 : wr.cell? ⟨gb251, 3, none⟩ = some (.slice Ao14 t248.length co14) := (blk_cell BK251.out 3).trans rfl
 have hfz53_0 := blk_frozen BK251.out 0
 have hfz53_1 := blk_frozen BK251.out 1
 have hfz53_2 := blk_frozen BK251.out 2
 have hfz53_3 := blk_frozen BK251.out 3
 have p262 : 0 ≤ (x13_4 : Int) := of_decide_eq_true (by first | (with_reducible assumption) | assumption)
 have q262 : x13_4 < (t242.length : Int) := of_decide_eq_true (by first | (with_reducible assumption) | assumption)
 obtain ⟨ad262, e262, hx262_0, hx262_1, hx262_2, hx262_3⟩ := at_T36 (Kd.R_reads' HO_252001.out).2.2 x13_4 p262 q262
 cases e262
 replace p262 := eq_true p262
 replace q262 := eq_true q262
 have p263 : 0 ≤ (x13_4 : Int) := of_decide_eq_true (by first | (with_reducible assumption) | assumption)
 have q263 : x13_4 < (t242.length : Int) := of_decide_eq_true (by first | (with_reducible assumption) | assumption)
 obtain ⟨ad263, e263, hx263_0, hx263_1, hx263_2, hx263_3⟩ := at_T36 (Kd.R_reads' HO_252001.out).2.2 x13_4 p263 q263
 obtain rfl : ad262 = ad263 := (by injection e263)
 replace p263 := eq_true p263
 replace q263 := eq_true q263
 go_wp2
 go_roundg k4
 case measure => have := HJ7.out; have := HK2.out; have := HK3.out; have := HK4.out; omega
 case rel => exact ⟨((rd_T36 t242 x13_4).f3), (wrap64 (x13_4 + 1)), s1_, s1_, H', ⟨by have := HJ7.out; have := HK2.out; have := HK3.out; have := HK4.out; omega⟩, ⟨b2_ HO_252001.out⟩, ⟨b2_ HO_252002.out⟩, ⟨b2_ HO_252003.out⟩, ⟨b1_ BK251.out⟩, ⟨by repeat (first | (with_reducible first | exact HB.out | apply below_alloc | apply pw_below_drewN | apply below_drew1 | refine below_set ?_ GE251.out) | exact HB.out)⟩⟩}
 {
 rw [if_neg c52] at H
 have c52b0 : (((rd_T36 t242 x13_4).f0) == x9_3) = false := beq_eq_false_iff_ne.mpr c52
 have c52b1 : (((rd_T36 t242 x13_4).f0) != x9_3) = true := bne_iff_ne.mpr c52
 have H' := Aside0.mk H
 clear H
 have hcz54_0 : wr.cell? ⟨gb251, 0, none⟩ = some (.bool t241) := (blk_cell BK251.out 0).trans rfl
 have hcz54_1 : wr.cell? ⟨gb251, 1, none⟩ = some (.slice Ao12 t242.length co12) := (blk_cell BK251.out 1).trans rfl
 have hcz54_2 : wr.cell? ⟨gb251, 2, none⟩ = some (.slice Ao13 t245.length co13) := (blk_cell BK251.out 2).trans rfl
 have hcz54_3 : wr.cell? ⟨gb251, 3, none⟩ = some (.slice Ao14 t248.length co14) := (blk_cell BK251.out 3).trans rfl
 have hfz54_0 := blk_frozen BK251.out 0
 have hfz54_1 := blk_frozen BK251.out 1
 have hfz54_2 := blk_frozen BK251.out 2
 have hfz54_3 := blk_frozen BK251.out 3
 have p262 : 0 ≤ (x13_4 : Int) := of_decide_eq_true (by first | (with_reducible assumption) | assumption)
 have q262 : x13_4 < (t242.length : Int) := of_decide_eq_true (by first | (with_reducible assumption) | assumption)
 obtain ⟨ad262, e262, hx262_0, hx262_1, hx262_2, hx262_3⟩ := at_T36 (Kd.R_reads' HO_252001.out).2.2 x13_4 p262 q262
 cases e262
 replace p262 := eq_true p262
 replace q262 := eq_true q262
 go_wp2
 go_roundg k4
 case measure => have := HJ7.out; have := HK2.out; have := HK3.out; have := HK4.out; omega
 case rel => exact ⟨(x12_4), (wrap64 (x13_4 + 1)), s1_, s1_, H', ⟨by have := HJ7.out; have := HK2.out; have := HK3.out; have := HK4.out; omega⟩, ⟨b2_ HO_252001.out⟩, ⟨b2_ HO_252002.out⟩, ⟨b2_ HO_252003.out⟩, ⟨b1_ BK251.out⟩, ⟨by repeat (first | (with_reducible first | exact HB.out | apply below_alloc | apply pw_below_drewN | apply below_drew1 | refine below_set ?_ GE251.out) | exact HB.out)⟩⟩}}
 {
 rw [if_neg c51] at H
 exact absurd H (by simp)}}
 {
 rw [if_neg c50] at H
 have c50b0 : decide (x13_4 < (t242.length : Int)) = false := decide_eq_false c50
 clear c50
 have HC55 := Aside0.mk H
 clear H
 have hcz56_0 : wr.cell? ⟨gb251, 0, none⟩ = some (.bool t241) := (blk_cell BK251.out 0).trans rfl
 have hcz56_1 : wr.cell? ⟨gb251, 1, none⟩ = some (.slice Ao12 t242.length co12) := (blk_cell BK251.out 1).trans rfl
 have hcz56_2 : wr.cell? ⟨gb251, 2, none⟩ = some (.slice Ao13 t245.length co13) := (blk_cell BK251.out 2).trans rfl
 have hcz56_3 : wr.cell? ⟨gb251, 3, none⟩ = some (.slice Ao14 t248.length co14) := (blk_cell BK251.out 3).trans rfl
 have hfz56_0 := blk_frozen BK251.out 0
 have hfz56_1 := blk_frozen BK251.out 1
 have hfz56_2 := blk_frozen BK251.out 2
 have hfz56_3 := blk_frozen BK251.out 3
 go_upto_region 23 with (fail)
 go_cut [14] (fun v14 wc => ∃ (kq : Nat) (x14_54 : Bool), v14 = .bool x14_54 ∧ Aside0 (laws_FnAllowed.j5 kq t252 t253 x9_3 x14_54 t241 t242 t245 t248 = some r) ∧ Aside0 (kq ≤ k4) ∧ Aside0 (Kd.R k36 36 wc w.heap.size (fun _ => True) (.slice Ao12 t242.length co12) t242) ∧ Aside0 (Kd.R k71 71 wc w.heap.size (fun _ => True) (.slice Ao13 t245.length co13) t245) ∧ Aside0 (Kd.R k73 73 wc w.heap.size (fun _ => True) (.slice Ao14 t248.length co14) t248) ∧ Aside0 (wc.heap[gb251]? = some (.cells #[.bool t241, (.slice Ao12 t242.length co12), (.slice Ao13 t245.length co13), (.slice Ao14 t248.length co14)] 28 (0, 0))) ∧ Aside0 (Below w.heap.size w wc))
 case first =>
  skip
  {
 have H := HC55.out
 clear HC55
 by_cases c57 : t261 = true
 {
 subst c57
 have H1 : ((impl_RoleMay.f k4 t260 t252).bind fun t264 => (if t264 = true then (if t252 = 0 then (laws_FnAllowed.j5 k4 t252 t253 x9_3 true t241 t242 t245 t248) else (laws_FnAllowed.j5 k4 t252 t253 x9_3 (decide (x12_4 ≤ t253)) t241 t242 t245 t248)) else (laws_FnAllowed.j5 k4 t252 t253 x9_3 false t241 t242 t245 t248))) = some r := by rw [if_pos rfl] at H; exact H
 clear H
 have H := H1
 clear H1
 replace H := Option.bind_eq_some_iff.mp H
 obtain ⟨t264, A580, H⟩ := H
 replace H : (if t264 = true then (if t252 = 0 then (laws_FnAllowed.j5 k4 t252 t253 x9_3 true t241 t242 t245 t248) else (laws_FnAllowed.j5 k4 t252 t253 x9_3 (decide (x12_4 ≤ t253)) t241 t242 t245 t248)) else (laws_FnAllowed.j5 k4 t252 t253 x9_3 false t241 t242 t245 t248)) = some r := H
 have A58 := Aside0.mk A580
 clear A580
 by_cases c59 : t264 = true
 {
 subst c59
 have H1 : (if t252 = 0 then (laws_FnAllowed.j5 k4 t252 t253 x9_3 true t241 t242 t245 t248) else (laws_FnAllowed.j5 k4 t252 t253 x9_3 (decide (x12_4 ≤ t253)) t241 t242 t245 t248)) = some r := by rw [if_pos rfl] at H; exact H
 clear H
 have H := H1
 clear H1
 by_cases c60 : t252 = 0
 {
 rw [if_pos c60] at H
 have c60b0 : (t252 == 0) = true := beq_iff_eq.mpr c60
 have c60b1 : (t252 != 0) = false := bne_eq_false_iff_eq.mpr c60
 clear c60
 (first | rw [c60b0] | (simp only [i64_w, i32_w]; rw [c60b0]) | skip)
 have H' := Aside0.mk H
 clear H
 go_wp2_with (first | (go_at_call 12; (with_reducible refine (impl_RoleMay.calls k4 t260 t252 true _ A58.out).mono ?_); rintro e w61 ⟨rfl, hb⟩; have n0_ := Aside0.mk (Kd.R_below (b2_ HO_252001.out) hb); have n1_ := Aside0.mk (Kd.R_below (b2_ HO_252002.out) hb); have n2_ := Aside0.mk (Kd.R_below (b2_ HO_252003.out) hb); have n3_ := Aside0.mk (blk_below (g := gb251) (o := .cells #[.bool t241, .slice Ao12 t242.length co12, .slice Ao13 t245.length co13, .slice Ao14 t248.length co14] 28 (0, 0)) (b1_ BK251.out) hb); have n4_ := Aside0.mk (below_step (by repeat (first | (with_reducible first | exact HB.out | apply below_alloc | apply pw_below_drewN | apply below_drew1 | refine below_set ?_ GE251.out) | exact HB.out)) hb); clear HO_252001; clear HO_252002; clear HO_252003; clear BK251; clear HB; have HO_252001 := n0_; have HO_252002 := n1_; have HO_252003 := n2_; have BK251 := n3_; have HB := n4_; clear n0_ n1_ n2_ n3_ n4_; (try clear hb); (try clear hb2); (try clear hk); (try clear hi)))
 go_meet
 case rel => exact ⟨_, (true), s1_, H', ⟨by have := HJ7.out; have := HK2.out; have := HK3.out; have := HK4.out; first | omega | exact Nat.le_refl _⟩, ⟨b2_ HO_252001.out⟩, ⟨b2_ HO_252002.out⟩, ⟨b2_ HO_252003.out⟩, ⟨b1_ BK251.out⟩, ⟨by repeat (first | (with_reducible first | exact HB.out | apply below_alloc | apply pw_below_drewN | apply below_drew1 | refine below_set ?_ GE251.out) | exact HB.out)⟩⟩}
 {
 rw [if_neg c60] at H
 have c60b0 : (t252 == 0) = false := beq_eq_false_iff_ne.mpr c60
 have c60b1 : (t252 != 0) = true := bne_iff_ne.mpr c60
 (first | rw [c60b0] | (simp only [i64_w, i32_w]; rw [c60b0]) | skip)
 have H' := Aside0.mk H
 clear H
 go_wp2_with (first | (go_at_call 12; (with_reducible refine (impl_RoleMay.calls k4 t260 t252 true _ A58.out).mono ?_); rintro e w62 ⟨rfl, hb⟩; have n0_ := Aside0.mk (Kd.R_below (b2_ HO_252001.out) hb); have n1_ := Aside0.mk (Kd.R_below (b2_ HO_252002.out) hb); have n2_ := Aside0.mk (Kd.R_below (b2_ HO_252003.out) hb); have n3_ := Aside0.mk (blk_below (g := gb251) (o := .cells #[.bool t241, .slice Ao12 t242.length co12, .slice Ao13 t245.length co13, .slice Ao14 t248.length co14] 28 (0, 0)) (b1_ BK251.out) hb); have n4_ := Aside0.mk (below_step (by repeat (first | (with_reducible first | exact HB.out | apply below_alloc | apply pw_below_drewN | apply below_drew1 | refine below_set ?_ GE251.out) | exact HB.out)) hb); clear HO_252001; clear HO_252002; clear HO_252003; clear BK251; clear HB; have HO_252001 := n0_; have HO_252002 := n1_; have HO_252003 := n2_; have BK251 := n3_; have HB := n4_; clear n0_ n1_ n2_ n3_ n4_; (try clear hb); (try clear hb2); (try clear hk); (try clear hi)))
 go_meet
 case rel => exact ⟨_, (decide (x12_4 ≤ t253)), s1_, H', ⟨by have := HJ7.out; have := HK2.out; have := HK3.out; have := HK4.out; first | omega | exact Nat.le_refl _⟩, ⟨b2_ HO_252001.out⟩, ⟨b2_ HO_252002.out⟩, ⟨b2_ HO_252003.out⟩, ⟨b1_ BK251.out⟩, ⟨by repeat (first | (with_reducible first | exact HB.out | apply below_alloc | apply pw_below_drewN | apply below_drew1 | refine below_set ?_ GE251.out) | exact HB.out)⟩⟩}}
 {
 replace c59 := Bool.eq_false_iff.mpr c59
 subst c59
 have H1 : (laws_FnAllowed.j5 k4 t252 t253 x9_3 false t241 t242 t245 t248) = some r := by rw [if_neg (show ¬ (false = true) by decide)] at H; exact H
 clear H
 have H := H1
 clear H1
 have H' := Aside0.mk H
 clear H
 go_wp2_with (first | (go_at_call 12; (with_reducible refine (impl_RoleMay.calls k4 t260 t252 false _ A58.out).mono ?_); rintro e w63 ⟨rfl, hb⟩; have n0_ := Aside0.mk (Kd.R_below (b2_ HO_252001.out) hb); have n1_ := Aside0.mk (Kd.R_below (b2_ HO_252002.out) hb); have n2_ := Aside0.mk (Kd.R_below (b2_ HO_252003.out) hb); have n3_ := Aside0.mk (blk_below (g := gb251) (o := .cells #[.bool t241, .slice Ao12 t242.length co12, .slice Ao13 t245.length co13, .slice Ao14 t248.length co14] 28 (0, 0)) (b1_ BK251.out) hb); have n4_ := Aside0.mk (below_step (by repeat (first | (with_reducible first | exact HB.out | apply below_alloc | apply pw_below_drewN | apply below_drew1 | refine below_set ?_ GE251.out) | exact HB.out)) hb); clear HO_252001; clear HO_252002; clear HO_252003; clear BK251; clear HB; have HO_252001 := n0_; have HO_252002 := n1_; have HO_252003 := n2_; have BK251 := n3_; have HB := n4_; clear n0_ n1_ n2_ n3_ n4_; (try clear hb); (try clear hb2); (try clear hk); (try clear hi)))
 go_meet
 case rel => exact ⟨_, (false), s1_, H', ⟨by have := HJ7.out; have := HK2.out; have := HK3.out; have := HK4.out; first | omega | exact Nat.le_refl _⟩, ⟨b2_ HO_252001.out⟩, ⟨b2_ HO_252002.out⟩, ⟨b2_ HO_252003.out⟩, ⟨b1_ BK251.out⟩, ⟨by repeat (first | (with_reducible first | exact HB.out | apply below_alloc | apply pw_below_drewN | apply below_drew1 | refine below_set ?_ GE251.out) | exact HB.out)⟩⟩}}
 {
 replace c57 := Bool.eq_false_iff.mpr c57
 subst c57
 have H1 : (laws_FnAllowed.j5 k4 t252 t253 x9_3 false t241 t242 t245 t248) = some r := by rw [if_neg (show ¬ (false = true) by decide)] at H; exact H
 clear H
 have H := H1
 clear H1
 have H' := Aside0.mk H
 clear H
 go_wp2
 go_meet
 case rel => exact ⟨_, (false), s1_, H', ⟨by have := HJ7.out; have := HK2.out; have := HK3.out; have := HK4.out; first | omega | exact Nat.le_refl _⟩, ⟨b2_ HO_252001.out⟩, ⟨b2_ HO_252002.out⟩, ⟨b2_ HO_252003.out⟩, ⟨b1_ BK251.out⟩, ⟨by repeat (first | (with_reducible first | exact HB.out | apply below_alloc | apply pw_below_drewN | apply below_drew1 | refine below_set ?_ GE251.out) | exact HB.out)⟩⟩}}
 case rest =>
  skip
  {
 clear HC55
 try clear c1
 try clear c2
 try clear p2
 try clear q2
 try clear hx2
 try clear c3
 try clear c4
 try clear c5
 try clear c6
 try clear p6
 try clear c8
 try clear c9
 try clear c10
 try clear c11
 try clear c12
 try clear c13
 try clear c16
 try clear c18
 try clear c23
 try clear p26
 try clear q26
 try clear hx26
 try clear c36
 try clear c37
 try clear c37b0
 try clear c40
 try clear c45
 try clear c46
 try clear c46b0
 try clear c50
 try clear c50b0
 try clear c51
 try clear c51b0
 try clear c52
 try clear c52b0
 try clear c52b1
 try clear c57
 try clear c59
 try clear c60
 try clear c60b0
 try clear c60b1
 try clear hcz11_0
 try clear hcz11_1
 try clear hcz11_2
 try clear hcz11_3
 try clear hcz19_0
 try clear hcz19_1
 try clear hcz19_2
 try clear hcz19_3
 try clear hcz24_0
 try clear hcz24_1
 try clear hcz24_2
 try clear hcz24_3
 try clear hcz29_0
 try clear hcz29_1
 try clear hcz29_2
 try clear hcz29_3
 try clear hcz34_0
 try clear hcz34_1
 try clear hcz34_2
 try clear hcz34_3
 try clear hcz48_0
 try clear hcz48_1
 try clear hcz48_2
 try clear hcz48_3
 try clear hcz53_0
 try clear hcz53_1
 try clear hcz53_2
 try clear hcz53_3
 try clear hcz54_0
 try clear hcz54_1
 try clear hcz54_2
 try clear hcz54_3
 try clear hcz56_0
 try clear hcz56_1
 try clear hcz56_2
 try clear hcz56_3
 try clear hfz11_0
 try clear hfz11_1
 try clear hfz11_2
 try clear hfz11_3
 try clear hfz19_0
 try clear hfz19_1
 try clear hfz19_2
 try clear hfz19_3
 try clear hfz24_0
 try clear hfz24_1
 try clear hfz24_2
 try clear hfz24_3
 try clear hfz29_0
 try clear hfz29_1
 try clear hfz29_2
 try clear hfz29_3
 try clear hfz34_0
 try clear hfz34_1
 try clear hfz34_2
 try clear hfz34_3
 try clear hfz48_0
 try clear hfz48_1
 try clear hfz48_2
 try clear hfz48_3
 try clear hfz53_0
 try clear hfz53_1
 try clear hfz53_2
 try clear hfz53_3
 try clear hfz54_0
 try clear hfz54_1
 try clear hfz54_2
 try clear hfz54_3
 try clear hfz56_0
 try clear hfz56_1
 try clear hfz56_2
 try clear hfz56_3
 try clear hx262_0
 try clear hx262_1
 try clear hx262_2
 try clear hx262_3
 try clear hx263_0
 try clear hx263_1
 try clear hx263_2
 try clear hx263_3
 try clear p2
 try clear p262
 try clear p263
 try clear p6
 try clear q262
 try clear q263
 obtain ⟨kq, x14_54, rfl, HA, HJ54, HO_252001, HO_252002, HO_252003, BK251, HB⟩ := hcut
 cases kq with
 | zero => exact absurd HA.out (by simp [laws_FnAllowed.j5])
 | succ kj54 =>
  skip
  {
 have H := HA.out
 clear HA
 simp only [laws_FnAllowed.j5] at H
 replace H := Option.bind_eq_some_iff.mp H
 obtain ⟨t265, A640, H⟩ := H
 replace H : (if (t265 != x14_54) = true then (some false) else (laws_FnAllowed.l1 kj54 t252 t253 (wrap64 (x9_3 + 1)) t241 t242 t245 t248)) = some r := H
 have A64 := Aside0.mk A640
 clear A640
 by_cases c65 : (t265 != x14_54) = true
 {
 rw [if_pos c65] at H
 have c65b0 : (t265 != x14_54) = true := c65
 (try (have c65b1 : decide (t265 = x14_54) = false := by simpa using c65))
 (try (have c65b2 : (t265 == x14_54) = false := by simpa using c65))
 (try (have c65b3 : ¬ (t265 = x14_54) := by simpa using c65))
 clear c65
 obtain rfl := Option.some.inj H
 have hcz66_0 : wc.cell? ⟨gb251, 0, none⟩ = some (.bool t241) := (blk_cell BK251.out 0).trans rfl
 have hcz66_1 : wc.cell? ⟨gb251, 1, none⟩ = some (.slice Ao12 t242.length co12) := (blk_cell BK251.out 1).trans rfl
 have hcz66_2 : wc.cell? ⟨gb251, 2, none⟩ = some (.slice Ao13 t245.length co13) := (blk_cell BK251.out 2).trans rfl
 have hcz66_3 : wc.cell? ⟨gb251, 3, none⟩ = some (.slice Ao14 t248.length co14) := (blk_cell BK251.out 3).trans rfl
 have hfz66_0 := blk_frozen BK251.out 0
 have hfz66_1 := blk_frozen BK251.out 1
 have hfz66_2 := blk_frozen BK251.out 2
 have hfz66_3 := blk_frozen BK251.out 3
 go_wp2_with (first | ((with_reducible refine gate_callee (f := 14) rfl ?_); refine goesL_ (some 103) rfl rfl Try.func14 s2_ rfl #[.agg #[.bool t241, .slice Ao12 t242.length co12, .slice Ao13 t245.length co13, .slice Ao14 t248.length co14], .int .i64 x9_3, .int .i64 t252, .int .i64 t253] rfl s3_ ?_; (with_reducible refine (impl_IsAllowed.calls kj54 t241 _ _ t242 _ _ t245 _ _ t248 x9_3 t252 t253 t265 _ ?side1 ?side2 ?side3 ?side4 ?side5 ?side6 A64.out).mono ?_); (case side1 => repeat (first | exact (Kd.R_reads' HO_252001.out).2.2 | (with_reducible refine Kd.C_alloc ?_ _) | (with_reducible refine Kd.C_drewN ?_ _) | (with_reducible refine Kd.C_drew ?_))); (case side2 => exact (Kd.R_reads' HO_252001.out).2.1); (case side3 => repeat (first | exact (Kd.R_reads' HO_252002.out).2.2 | (with_reducible refine Kd.C_alloc ?_ _) | (with_reducible refine Kd.C_drewN ?_ _) | (with_reducible refine Kd.C_drew ?_))); (case side4 => exact (Kd.R_reads' HO_252002.out).2.1); (case side5 => repeat (first | exact (Kd.R_reads' HO_252003.out).2.2 | (with_reducible refine Kd.C_alloc ?_ _) | (with_reducible refine Kd.C_drewN ?_ _) | (with_reducible refine Kd.C_drew ?_))); (case side6 => exact (Kd.R_reads' HO_252003.out).2.1); rintro e w67 ⟨rfl, hb⟩; refine ⟨_, rfl, ?_⟩; have n0_ := Aside0.mk (Kd.R_below (b2_ HO_252001.out) hb); have n1_ := Aside0.mk (Kd.R_below (b2_ HO_252002.out) hb); have n2_ := Aside0.mk (Kd.R_below (b2_ HO_252003.out) hb); have n3_ := Aside0.mk (blk_below (g := gb251) (o := .cells #[.bool t241, .slice Ao12 t242.length co12, .slice Ao13 t245.length co13, .slice Ao14 t248.length co14] 28 (0, 0)) (b1_ BK251.out) hb); have n4_ := Aside0.mk (below_step (by repeat (first | (with_reducible first | exact HB.out | apply below_alloc | apply pw_below_drewN | apply below_drew1 | refine below_set ?_ GE251.out) | exact HB.out)) hb); clear HO_252001; clear HO_252002; clear HO_252003; clear BK251; clear HB; have HO_252001 := n0_; have HO_252002 := n1_; have HO_252003 := n2_; have BK251 := n3_; have HB := n4_; clear n0_ n1_ n2_ n3_ n4_; (try clear hb); (try clear hb2); (try clear hk); (try clear hi)))
 go_ret
 exact ⟨by first | rfl | (simp [errW_none, errW_some] <;> rfl) | (simp [*, errW_none, errW_some] <;> rfl), by repeat (first | (with_reducible first | exact HB.out | apply below_alloc | apply pw_below_drewN | apply below_drew1 | refine below_set ?_ GE251.out) | exact HB.out)⟩}
 {
 rw [if_neg c65] at H
 have c65b0 : (t265 != x14_54) = false := by simpa using c65
 (try (have c65b1 : decide (t265 = x14_54) = true := by simpa using c65))
 (try (have c65b2 : (t265 == x14_54) = true := by simpa using c65))
 clear c65
 have H' := Aside0.mk H
 clear H
 have hcz68_0 : wc.cell? ⟨gb251, 0, none⟩ = some (.bool t241) := (blk_cell BK251.out 0).trans rfl
 have hcz68_1 : wc.cell? ⟨gb251, 1, none⟩ = some (.slice Ao12 t242.length co12) := (blk_cell BK251.out 1).trans rfl
 have hcz68_2 : wc.cell? ⟨gb251, 2, none⟩ = some (.slice Ao13 t245.length co13) := (blk_cell BK251.out 2).trans rfl
 have hcz68_3 : wc.cell? ⟨gb251, 3, none⟩ = some (.slice Ao14 t248.length co14) := (blk_cell BK251.out 3).trans rfl
 have hfz68_0 := blk_frozen BK251.out 0
 have hfz68_1 := blk_frozen BK251.out 1
 have hfz68_2 := blk_frozen BK251.out 2
 have hfz68_3 := blk_frozen BK251.out 3
 go_wp2_with (first | ((with_reducible refine gate_callee (f := 14) rfl ?_); refine goesL_ (some 103) rfl rfl Try.func14 s2_ rfl #[.agg #[.bool t241, .slice Ao12 t242.length co12, .slice Ao13 t245.length co13, .slice Ao14 t248.length co14], .int .i64 x9_3, .int .i64 t252, .int .i64 t253] rfl s3_ ?_; (with_reducible refine (impl_IsAllowed.calls kj54 t241 _ _ t242 _ _ t245 _ _ t248 x9_3 t252 t253 t265 _ ?side1 ?side2 ?side3 ?side4 ?side5 ?side6 A64.out).mono ?_); (case side1 => repeat (first | exact (Kd.R_reads' HO_252001.out).2.2 | (with_reducible refine Kd.C_alloc ?_ _) | (with_reducible refine Kd.C_drewN ?_ _) | (with_reducible refine Kd.C_drew ?_))); (case side2 => exact (Kd.R_reads' HO_252001.out).2.1); (case side3 => repeat (first | exact (Kd.R_reads' HO_252002.out).2.2 | (with_reducible refine Kd.C_alloc ?_ _) | (with_reducible refine Kd.C_drewN ?_ _) | (with_reducible refine Kd.C_drew ?_))); (case side4 => exact (Kd.R_reads' HO_252002.out).2.1); (case side5 => repeat (first | exact (Kd.R_reads' HO_252003.out).2.2 | (with_reducible refine Kd.C_alloc ?_ _) | (with_reducible refine Kd.C_drewN ?_ _) | (with_reducible refine Kd.C_drew ?_))); (case side6 => exact (Kd.R_reads' HO_252003.out).2.1); rintro e w69 ⟨rfl, hb⟩; refine ⟨_, rfl, ?_⟩; have n0_ := Aside0.mk (Kd.R_below (b2_ HO_252001.out) hb); have n1_ := Aside0.mk (Kd.R_below (b2_ HO_252002.out) hb); have n2_ := Aside0.mk (Kd.R_below (b2_ HO_252003.out) hb); have n3_ := Aside0.mk (blk_below (g := gb251) (o := .cells #[.bool t241, .slice Ao12 t242.length co12, .slice Ao13 t245.length co13, .slice Ao14 t248.length co14] 28 (0, 0)) (b1_ BK251.out) hb); have n4_ := Aside0.mk (below_step (by repeat (first | (with_reducible first | exact HB.out | apply below_alloc | apply pw_below_drewN | apply below_drew1 | refine below_set ?_ GE251.out) | exact HB.out)) hb); clear HO_252001; clear HO_252002; clear HO_252003; clear BK251; clear HB; have HO_252001 := n0_; have HO_252002 := n1_; have HO_252003 := n2_; have BK251 := n3_; have HB := n4_; clear n0_ n1_ n2_ n3_ n4_; (try clear hb); (try clear hb2); (try clear hk); (try clear hi)))
 go_roundg kj54
 case measure => have := HJ7.out; have := HK2.out; have := HK3.out; have := HK4.out; have := HJ54.out; omega
 case rel => exact ⟨(wrap64 (x9_3 + 1)), s1_, H', ⟨by have := HJ7.out; have := HK2.out; have := HK3.out; have := HK4.out; have := HJ54.out; omega⟩, ⟨b2_ HO_252001.out⟩, ⟨b2_ HO_252002.out⟩, ⟨b2_ HO_252003.out⟩, ⟨b1_ BK251.out⟩, ⟨by repeat (first | (with_reducible first | exact HB.out | apply below_alloc | apply pw_below_drewN | apply below_drew1 | refine below_set ?_ GE251.out) | exact HB.out)⟩⟩}}}}}}}
 {
 rw [if_neg c46] at H
 have c46b0 : decide (x9_3 ≤ 7) = false := decide_eq_false c46
 clear c46
 obtain rfl := Option.some.inj H
 go_wp2
 go_ret
 exact ⟨by first | rfl | (simp [errW_none, errW_some] <;> rfl) | (simp [*, errW_none, errW_some] <;> rfl), by repeat (first | (with_reducible first | exact HB.out | apply below_alloc | apply pw_below_drewN | apply below_drew1 | refine below_set ?_ GE251.out) | exact HB.out)⟩}}}}}}}}}}

/-- THE ONE PURE STATEMENT of laws_FnAllowed: yours. -/
def laws_FnAllowed.Pure : Prop := ∀ (l0 : List Int) (l1 : List Int), l0.length ≤ maxLen → l0.length * 1 ≤ 140737488351232 → (∀ x ∈ l0, (Lit.int .u8 x).wf = true) → l1.length ≤ maxLen → l1.length * 1 ≤ 140737488351232 → (∀ x ∈ l1, (Lit.int .u8 x).wf = true) → ∃ k, laws_FnAllowed.f k l0 l1 = some true
theorem laws_FnAllowed.walk (P : laws_FnAllowed.Pure) (a0 : Option Addr) (len0 cap0 : Nat) (z0 : List Int) (a1 : Option Addr) (len1 cap1 : Nat) (z1 : List Int) (w : World) (w0 : (a0 = none ∧ len0 = 0 ∧ cap0 = 0 ∧ z0 = []) ∨ ∃ x, a0 = some x ∧ len0 ≤ cap0 ∧ cap0 ≤ maxLen ∧ z0.length = cap0 ∧ (∀ i, i < z0.length → w.cell? (x.add i) = some (.int .u8 (z0.getD i 0))) ∧ ∀ n ∈ z0, (Lit.int .u8 n).wf = true) (y0 : len0 * 1 ≤ 140737488351232) (w1 : (a1 = none ∧ len1 = 0 ∧ cap1 = 0 ∧ z1 = []) ∨ ∃ x, a1 = some x ∧ len1 ≤ cap1 ∧ cap1 ≤ maxLen ∧ z1.length = cap1 ∧ (∀ i, i < z1.length → w.cell? (x.add i) = some (.int .u8 (z1.getD i 0))) ∧ ∀ n ∈ z1, (Lit.int .u8 n).wf = true) (y1 : len1 * 1 ≤ 140737488351232) :
    Calls Try.prog 3 #[.slice a0 len0 cap0, .slice a1 len1 cap1] w fun e w' => e = .returned (.bool true) ∧ Below w.heap.size w w' := by
  obtain ⟨l0, rfl, hr0, hm0, hw0, hc0⟩ := ReadsInt.ofRowC w0
  obtain ⟨l1, rfl, hr1, hm1, hw1, hc1⟩ := ReadsInt.ofRowC w1
  obtain ⟨k, h⟩ := P l0 l1 hm0 y0 hw0 hm1 y1 hw1
  refine (laws_FnAllowed.calls k _ _ l0 _ _ l1 true w (Kd.C_of_reads (d := (0 : Int)) (h1 := fun _ => rfl) hr0) hc0 (Kd.C_of_reads (d := (0 : Int)) (h1 := fun _ => rfl) hr1) hc1 h).mono ?_
  rintro e w' ⟨rfl, hd⟩
  exact ⟨rfl, hd⟩

end Go.Proofs.Ytdanachjdfiegaa.QFnAllowed
